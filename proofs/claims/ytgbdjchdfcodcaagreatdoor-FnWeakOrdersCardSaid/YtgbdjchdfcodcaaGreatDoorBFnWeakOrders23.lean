import Derived.Test.YtgbdjchdfcodcaaGreatDoorBFnWeakOrders21
import Derived.Test.YtgbdjchdfcodcaaGreatDoorBFnWeakOrders22
namespace Go.Proofs.YtgbdjchdfcodcaaGreatDoor.Q
open Go.RowKit Go.Proofs.YtgbdjchdfcodcaaGreatDoorW.PrintWords Go.Proofs.YtgbdjchdfcodcaaGreatDoorW.PrintLast Go.Proofs.YtgbdjchdfcodcaaGreatDoorW.PrintMore
attribute [local go_sem] max2_int min2_int max_two min_two max_three min_three max_four min_four neB_f
set_option linter.unusedVariables false
set_option maxHeartbeats 8000000
set_option maxRecDepth 100000
set_option linter.unusedSimpArgs false
theorem impl_isSemi.nilEql_ {P : Program} (W : World) {t e : TypeId} {A : Option Addr} {n c : Nat} {xs : List Int} {Z : Nat → Nat → Prop} (hu : P.underlying t = some (.slice e)) (h : xs = [] → Value.slice A n c = .slice none 0 0) (h2 : 0 < xs.length → ∃ g c', Value.slice A n c = .slice (some ⟨g, 0, none⟩) xs.length c' ∧ Z g c') :
  (binOp .eql t (.slice A n c) (.slice none 0 0)).run P W = .ok (.bool (xs == ([] : List Int))) W := by
 rw [Lib.run_eql_slice_nil W t e A n c 0 0 hu]
 cases xs with
 | nil => injection h rfl with h1 _ _; subst h1; rfl
 | cons x l => obtain ⟨g, c', h1, _⟩ := h2 (by simp); injection h1 with h1 _ _; subst h1; rfl
theorem impl_isSemi.nilNeq_ {P : Program} (W : World) {t e : TypeId} {A : Option Addr} {n c : Nat} {xs : List Int} {Z : Nat → Nat → Prop} (hu : P.underlying t = some (.slice e)) (h : xs = [] → Value.slice A n c = .slice none 0 0) (h2 : 0 < xs.length → ∃ g c', Value.slice A n c = .slice (some ⟨g, 0, none⟩) xs.length c' ∧ Z g c') :
  (binOp .neq t (.slice A n c) (.slice none 0 0)).run P W = .ok (.bool (xs != ([] : List Int))) W := by
 rw [run_neq_slice_nil_any W t e A n c 0 0 hu]
 cases xs with
 | nil => injection h rfl with h1 _ _; subst h1; rfl
 | cons x l => obtain ⟨g, c', h1, _⟩ := h2 (by simp); injection h1 with h1 _ _; subst h1; rfl
def impl_isSemi.f (k : Nat) (a0_0 : Int) (l0_1 : List Int) : Option (Bool) := (impl_isInterval.f k a0_0 l0_1).bind fun t704 => (if t704 = true then ((impl_Order_threeOne.f k a0_0 l0_1).bind fun t705 => (some (t705 == ([] : List Int)))) else (some false))
theorem impl_isSemi.mono : ∀ a0 a1 k, LeO (impl_isSemi.f k a0 a1) (impl_isSemi.f (k + 1) a0 a1) := by
 intro a0 a1 k
 unfold impl_isSemi.f
 repeat' (with_reducible first|apply impl_Order_threeOne.mono|apply impl_isInterval.mono|apply LeO.refl|apply LeO.none|apply LeO.ite|apply LeO.bind|intro)
theorem impl_isSemi.calls (k : Nat) (a0_0 : Int) (A0_1 : Option Addr) (c0_1 : Nat) (l0_1 : List Int) (r : Bool) (w : World) (hr0_1 : Kd.C (Kd.int .i64) w A0_1 l0_1.length l0_1) (hc0_1 : l0_1.length ≤ c0_1) (hTAB : Tab w) (h : impl_isSemi.f k a0_0 l0_1 = some r) :
  Calls Tryz.prog 34 #[.agg #[.int .i64 a0_0, .slice A0_1 l0_1.length c0_1]] w fun e w' => e = .returned (.bool r) ∧ Below w.heap.size w w' := by
 have HTAB := mkA hTAB
 clear hTAB
 have hu26 := Tryz.underlying26
 have HR0_1 := mkA hr0_1
 have HC0_1 := mkA hc0_1
 clear hr0_1 hc0_1
 have HB := mkA (Below.refl w.heap.size w)
 have H := h
 clear h
 unfold impl_isSemi.f at H
 obtain ⟨t704, A2, H⟩ := obE H
 by_cases c3 : t704 = true
 ·subst c3
  replace H := ifT H
  obtain ⟨t705, A4, H⟩ := obE H
  obtain rfl := Option.some.inj H
  go_enter Tryz.func34, Tryz.ntmps34
  go_wp2_with (first | ((with_reducible refine gate_dst (N := 1) rfl ?_); refine boxG HB #[.int .i64 a0_0, .slice A0_1 l0_1.length c0_1] 26 ?_; intro gb703 hg w5 BK703 GE703 hb; replace HB := bst HB hb; clear hb hg; obtain ⟨_, _, _, _⟩ := blk2 BK703) | ((with_reducible refine gate_callee (f := 56) rfl ?_); refine goesQ (some 4) Tryz.func56 #[.agg #[.int .i64 a0_0, .slice A0_1 l0_1.length c0_1]] ?_; (with_reducible refine (impl_isInterval.calls k a0_0 _ _ l0_1 true _ ?_ ?_ ?_ A2.out).mono ?_); exact C_g HR0_1 HB; exact HC0_1.out; exact Tab.below HTAB.out (bel_g HB.out); rintro e w7 ⟨rfl, hb⟩; refine ⟨_, rfl, ?_⟩; replace BK703 := blkB BK703 hb; replace HB := bst HB hb; clear hb; obtain ⟨_, _, _, _⟩ := blk2 BK703) | (go_at_call 57; (with_reducible refine (impl_Order_threeOne.calls k a0_0 _ _ l0_1 t705 _ ?_ ?_ ?_ A4.out).mono ?_); exact C_g HR0_1 HB; exact HC0_1.out; exact Tab.below HTAB.out (bel_g HB.out); rintro e w9 ⟨v706, rfl, ho0, hb, hnl0⟩; have HO707 := rLo ho0 HB; replace BK703 := blkB BK703 hb; replace HB := bst HB hb; clear hb ho0; have NL_HO707 := mkA hnl0; clear hnl0; obtain ⟨Ao10, co10, rfl⟩ := Kd.R_slice HO707.out; have nq11 := fun (W_ : World) => impl_isSemi.nilEql_ (P := Tryz.prog) W_ (t := 24) (e := 3) (c := co10) Tryz.underlying24 NL_HO707.out (fun h_ => Kd.R_form HO707.out h_)))
  go_ret
  exact ⟨eqE, bel_g HB.out⟩
 ·replace c3 := Bool.eq_false_iff.mpr c3
  subst c3
  replace H := ifF H
  obtain rfl := Option.some.inj H
  go_enter Tryz.func34, Tryz.ntmps34
  go_wp2_with (first | ((with_reducible refine gate_dst (N := 1) rfl ?_); refine boxG HB #[.int .i64 a0_0, .slice A0_1 l0_1.length c0_1] 26 ?_; intro gb703 hg w12 BK703 GE703 hb; replace HB := bst HB hb; clear hb hg; obtain ⟨_, _, _, _⟩ := blk2 BK703) | ((with_reducible refine gate_callee (f := 56) rfl ?_); refine goesQ (some 4) Tryz.func56 #[.agg #[.int .i64 a0_0, .slice A0_1 l0_1.length c0_1]] ?_; (with_reducible refine (impl_isInterval.calls k a0_0 _ _ l0_1 false _ ?_ ?_ ?_ A2.out).mono ?_); exact C_g HR0_1 HB; exact HC0_1.out; exact Tab.below HTAB.out (bel_g HB.out); rintro e w14 ⟨rfl, hb⟩; refine ⟨_, rfl, ?_⟩; replace BK703 := blkB BK703 hb; replace HB := bst HB hb; clear hb))
  go_ret
  exact ⟨eqE, bel_g HB.out⟩
def impl_IsSemiorder.f (k : Nat) (a0_0 : Int) (l0_1 : List Int) : Option (Bool × Bool) := (impl_IsOrder.f k a0_0 l0_1).bind fun t709 => (if t709 = true then ((impl_isSemi.f k a0_0 l0_1).bind fun t710 => (some (t710, true))) else (some (false, false)))
theorem impl_IsSemiorder.mono : ∀ a0 a1 k, LeO (impl_IsSemiorder.f k a0 a1) (impl_IsSemiorder.f (k + 1) a0 a1) := by
 intro a0 a1 k
 unfold impl_IsSemiorder.f
 repeat' (with_reducible first|apply impl_IsOrder.mono|apply impl_isSemi.mono|apply LeO.refl|apply LeO.none|apply LeO.ite|apply LeO.bind|intro)
theorem impl_IsSemiorder.calls (k : Nat) (a0_0 : Int) (A0_1 : Option Addr) (c0_1 : Nat) (l0_1 : List Int) (r1 : Bool) (r2 : Bool) (w : World) (hr0_1 : Kd.C (Kd.int .i64) w A0_1 l0_1.length l0_1) (hc0_1 : l0_1.length ≤ c0_1) (hTAB : Tab w) (h : impl_IsSemiorder.f k a0_0 l0_1 = some (r1, r2)) :
  Calls Tryz.prog 14 #[.agg #[.int .i64 a0_0, .slice A0_1 l0_1.length c0_1]] w fun e w' => e = .returned (.tuple #[.bool r1, .bool r2]) ∧ Below w.heap.size w w' := by
 have HTAB := mkA hTAB
 clear hTAB
 have hu26 := Tryz.underlying26
 have HR0_1 := mkA hr0_1
 have HC0_1 := mkA hc0_1
 clear hr0_1 hc0_1
 have HB := mkA (Below.refl w.heap.size w)
 have H := h
 clear h
 unfold impl_IsSemiorder.f at H
 obtain ⟨t709, A2, H⟩ := obE H
 by_cases c3 : t709 = true
 ·subst c3
  replace H := ifT H
  obtain ⟨t710, A4, H⟩ := obE H
  simp only [Option.some.injEq, Prod.mk.injEq] at H
  obtain ⟨rfl, rfl⟩ := H
  go_enter Tryz.func14, Tryz.ntmps14
  go_wp2_with (first | ((with_reducible refine gate_dst (N := 1) rfl ?_); refine boxG HB #[.int .i64 a0_0, .slice A0_1 l0_1.length c0_1] 26 ?_; intro gb708 hg w5 BK708 GE708 hb; replace HB := bst HB hb; clear hb hg; obtain ⟨_, _, _, _⟩ := blk2 BK708) | ((with_reducible refine gate_callee (f := 12) rfl ?_); refine goesQ (some 5) Tryz.func12 #[.agg #[.int .i64 a0_0, .slice A0_1 l0_1.length c0_1]] ?_; (with_reducible refine (impl_IsOrder.calls k a0_0 _ _ l0_1 true _ ?_ ?_ ?_ A2.out).mono ?_); exact C_g HR0_1 HB; exact HC0_1.out; exact Tab.below HTAB.out (bel_g HB.out); rintro e w7 ⟨rfl, hb⟩; refine ⟨_, rfl, ?_⟩; replace BK708 := blkB BK708 hb; replace HB := bst HB hb; clear hb; obtain ⟨_, _, _, _⟩ := blk2 BK708) | ((with_reducible refine gate_callee (f := 34) rfl ?_); refine goesQ (some 8) Tryz.func34 #[.agg #[.int .i64 a0_0, .slice A0_1 l0_1.length c0_1]] ?_; (with_reducible refine (impl_isSemi.calls k a0_0 _ _ l0_1 t710 _ ?_ ?_ ?_ A4.out).mono ?_); exact C_g HR0_1 HB; exact HC0_1.out; exact Tab.below HTAB.out (bel_g HB.out); rintro e w9 ⟨rfl, hb⟩; refine ⟨_, rfl, ?_⟩; replace BK708 := blkB BK708 hb; replace HB := bst HB hb; clear hb))
  go_ret2
  exact ⟨eqE, bel_g HB.out⟩
 ·replace c3 := Bool.eq_false_iff.mpr c3
  subst c3
  replace H := ifF H
  simp only [Option.some.injEq, Prod.mk.injEq] at H
  obtain ⟨rfl, rfl⟩ := H
  go_enter Tryz.func14, Tryz.ntmps14
  go_wp2_with (first | ((with_reducible refine gate_dst (N := 1) rfl ?_); refine boxG HB #[.int .i64 a0_0, .slice A0_1 l0_1.length c0_1] 26 ?_; intro gb708 hg w10 BK708 GE708 hb; replace HB := bst HB hb; clear hb hg; obtain ⟨_, _, _, _⟩ := blk2 BK708) | ((with_reducible refine gate_callee (f := 12) rfl ?_); refine goesQ (some 5) Tryz.func12 #[.agg #[.int .i64 a0_0, .slice A0_1 l0_1.length c0_1]] ?_; (with_reducible refine (impl_IsOrder.calls k a0_0 _ _ l0_1 false _ ?_ ?_ ?_ A2.out).mono ?_); exact C_g HR0_1 HB; exact HC0_1.out; exact Tab.below HTAB.out (bel_g HB.out); rintro e w12 ⟨rfl, hb⟩; refine ⟨_, rfl, ?_⟩; replace BK708 := blkB BK708 hb; replace HB := bst HB hb; clear hb))
  go_ret2
  exact ⟨eqE, bel_g HB.out⟩
def impl_TraceOf_1.f (a0 : Int) (a1 : Int) (a2_0 : Int) (l2_1 : List Int) (a3_0 : Int) (l3_1 : List Int) : Option (Bool) := if 0 ≤ a1 then (if a1 < (l2_1.length : Int) then (if 0 ≤ a0 then (if a0 < (l2_1.length : Int) then (if (Go.bits .andNot .i64 (rd l2_1 a1) (rd l2_1 a0)) = 0 then (if a0 < (l3_1.length : Int) then (if a1 < (l3_1.length : Int) then (some ((Go.bits .andNot .i64 (rd l3_1 a0) (rd l3_1 a1)) != 0)) else (none)) else (none)) else (some true)) else (none)) else (none)) else (none)) else (none)
theorem impl_TraceOf_1.calls (a0 : Int) (a1 : Int) (gB2 : Nat) (a2_0 : Int) (A2_1 : Option Addr) (c2_1 : Nat) (l2_1 : List Int) (gB3 : Nat) (a3_0 : Int) (A3_1 : Option Addr) (c3_1 : Nat) (l3_1 : List Int) (r : Bool) (w : World) (hb2 : w.heap[gB2]? = some (.cells #[.int .i64 a2_0, .slice A2_1 l2_1.length c2_1] 26 (0, 0))) (hr2_1 : Kd.C (Kd.int .i64) w A2_1 l2_1.length l2_1) (hc2_1 : l2_1.length ≤ c2_1) (hb3 : w.heap[gB3]? = some (.cells #[.int .i64 a3_0, .slice A3_1 l3_1.length c3_1] 26 (0, 0))) (hr3_1 : Kd.C (Kd.int .i64) w A3_1 l3_1.length l3_1) (hc3_1 : l3_1.length ≤ c3_1) (h : impl_TraceOf_1.f a0 a1 a2_0 l2_1 a3_0 l3_1 = some r) :
  Calls Tryz.prog 37 #[.int .i64 a0, .int .i64 a1, .pointer (some ⟨gB2, 0, none⟩), .pointer (some ⟨gB3, 0, none⟩)] w fun e w' => e = .returned (.bool r) ∧ Drawn0 w w' := by
 have BK711 := mkA hb2
 clear hb2
 have BK712 := mkA hb3
 clear hb3
 have HR2_1 := mkA hr2_1
 have HC2_1 := mkA hc2_1
 clear hr2_1 hc2_1
 have HR3_1 := mkA hr3_1
 have HC3_1 := mkA hc3_1
 clear hr3_1 hc3_1
 have H := h
 clear h
 unfold impl_TraceOf_1.f at H
 obtain ⟨c5b0, H⟩ := itND H
 obtain ⟨c6b0, H⟩ := itND H
 obtain ⟨c7b0, H⟩ := itND H
 obtain ⟨c8b0, H⟩ := itND H
 rcases iteP H with ⟨c9, H⟩ | ⟨c9, H⟩
 ·have c9b0 := beq_iff_eq.mpr c9
  have c9b1 := bne_eq_false_iff_eq.mpr c9
  clear c9
  obtain ⟨c10b0, H⟩ := itND H
  obtain ⟨c11b0, H⟩ := itND H
  obtain rfl := Option.some.inj H
  obtain ⟨_, _, _, _⟩ := blk2 BK711
  obtain ⟨p713, q713, ad713, e713, hx713_0⟩ := atI HR2_1.out a1
  cases e713
  obtain ⟨p714, q714, ad714, e714, hx714_0⟩ := atI HR2_1.out a0
  obtain rfl : ad713 = ad714 := (by injection e714)
  obtain ⟨_, _, _, _⟩ := blk2 BK712
  obtain ⟨p715, q715, ad715, e715, hx715_0⟩ := atI HR3_1.out a0
  cases e715
  obtain ⟨p716, q716, ad716, e716, hx716_0⟩ := atI HR3_1.out a1
  obtain rfl : ad715 = ad716 := (by injection e716)
  go_enter Tryz.func37, Tryz.ntmps37
  go_wp2
  repeat (go_quiet (fail); try go_wp2)
  go_ret
  exact ⟨eqS, drE⟩
 ·have c9b0 := beq_eq_false_iff_ne.mpr c9
  have c9b1 := bne_iff_ne.mpr c9
  obtain rfl := Option.some.inj H
  obtain ⟨_, _, _, _⟩ := blk2 BK711
  obtain ⟨p713, q713, ad713, e713, hx713_0⟩ := atI HR2_1.out a1
  cases e713
  obtain ⟨p714, q714, ad714, e714, hx714_0⟩ := atI HR2_1.out a0
  obtain rfl : ad713 = ad714 := (by injection e714)
  go_enter Tryz.func37, Tryz.ntmps37
  go_wp2
  repeat (go_quiet (fail); try go_wp2)
  go_ret
  exact ⟨eqS, drE⟩
def impl_TraceOf.f (k : Nat) (a0_0 : Int) (l0_1 : List Int) : Option (List Int × Bool) := (impl_isSemi.f k a0_0 l0_1).bind fun t718 => (if t718 = true then ((impl_Order_mirror.f k a0_0 l0_1).bind fun bt719 => ((impl_relation.f k a0_0 (fun u0_ u1_ => impl_TraceOf_1.f u0_ u1_ bt719.1 bt719.2 a0_0 l0_1)).bind fun bt724 => ((impl_Order_levels.f k bt724.1 bt724.2).bind fun t728 => (some (t728, true))))) else (some (([] : List Int), false)))
theorem impl_TraceOf.mono : ∀ a0 a1 k, LeO (impl_TraceOf.f k a0 a1) (impl_TraceOf.f (k + 1) a0 a1) := by
 intro a0 a1 k
 unfold impl_TraceOf.f
 repeat' first
   | (with_reducible exact impl_relation.mono _ _ _)
   | (refine impl_relation.monoF ?_ _ _; intros)
   | (with_reducible exact impl_Order_levels.mono _ _ _)
   | (with_reducible exact impl_Order_mirror.mono _ _ _)
   | (with_reducible exact impl_isSemi.mono _ _ _)
   | (with_reducible exact impl_relation.mono _ _ _)
   | (with_reducible exact LeO.refl _)
   | (with_reducible exact LeO.none _)
   | (with_reducible refine LeO.ite ?_ ?_)
   | (with_reducible refine LeO.bind ?_ (fun _ => ?_))
   | exact impl_Order_levels.mono _ _ _
   | exact impl_Order_mirror.mono _ _ _
   | exact impl_isSemi.mono _ _ _
   | exact impl_relation.mono _ _ _
   | exact LeO.none _
   | refine LeO.ite ?_ ?_
   | refine LeO.bind ?_ (fun _ => ?_)
theorem impl_TraceOf.calls (k : Nat) (a0_0 : Int) (A0_1 : Option Addr) (c0_1 : Nat) (l0_1 : List Int) (r1 : List Int) (r2 : Bool) (w : World) (hr0_1 : Kd.C (Kd.int .i64) w A0_1 l0_1.length l0_1) (hc0_1 : l0_1.length ≤ c0_1) (hTAB : Tab w) (h : impl_TraceOf.f k a0_0 l0_1 = some (r1, r2)) :
  Calls Tryz.prog 15 #[.agg #[.int .i64 a0_0, .slice A0_1 l0_1.length c0_1]] w fun e w' => ∃ v0_ : Value, e = .returned (.tuple #[v0_, .bool r2]) ∧ Kd.R (Kd.int .i64) 3 w' w.heap.size (fun _ => True) v0_ r1 ∧ Below w.heap.size w w' := by
 have HTAB := mkA hTAB
 clear hTAB
 have hu26 := Tryz.underlying26
 have HR0_1 := mkA hr0_1
 have HC0_1 := mkA hc0_1
 clear hr0_1 hc0_1
 have HB := mkA (Below.refl w.heap.size w)
 have H := h
 clear h
 unfold impl_TraceOf.f at H
 obtain ⟨t718, A2, H⟩ := obE H
 by_cases c3 : t718 = true
 ·subst c3
  replace H := ifT H
  obtain ⟨⟨t719, t720⟩, A4, H⟩ := obE H
  dsimp only at H
  obtain ⟨⟨t724, t725⟩, A5, H⟩ := obE H
  dsimp only at H
  obtain ⟨t728, A6, H⟩ := obE H
  simp only [Option.some.injEq, Prod.mk.injEq] at H
  obtain ⟨rfl, rfl⟩ := H
  go_enter Tryz.func15, Tryz.ntmps15
  go_wp2_with (first | ((with_reducible refine gate_dst (N := 1) rfl ?_); refine boxG HB #[.int .i64 a0_0, .slice A0_1 l0_1.length c0_1] 26 ?_; intro gb717 hg w7 BK717 GE717 hb; replace HB := bst HB hb; clear hb hg; obtain ⟨_, _, _, _⟩ := blk2 BK717) | ((with_reducible refine gate_callee (f := 34) rfl ?_); refine goesQ (some 6) Tryz.func34 #[.agg #[.int .i64 a0_0, .slice A0_1 l0_1.length c0_1]] ?_; (with_reducible refine (impl_isSemi.calls k a0_0 _ _ l0_1 true _ ?_ ?_ ?_ A2.out).mono ?_); exact C_g HR0_1 HB; exact HC0_1.out; exact Tab.below HTAB.out (bel_g HB.out); rintro e w9 ⟨rfl, hb⟩; refine ⟨_, rfl, ?_⟩; replace BK717 := blkB BK717 hb; replace HB := bst HB hb; clear hb; obtain ⟨_, _, _, _⟩ := blk2 BK717) | ((with_reducible refine gate_callee (f := 35) rfl ?_); refine goesQ (some 9) Tryz.func35 #[.agg #[.int .i64 a0_0, .slice A0_1 l0_1.length c0_1]] ?_; (with_reducible refine (impl_Order_mirror.calls k a0_0 _ _ l0_1 t719 t720 _ ?_ ?_ A4.out).mono ?_); exact C_g HR0_1 HB; exact HC0_1.out; rintro e w11 ⟨v721, rfl, ho0, hb⟩; refine ⟨_, rfl, ?_⟩; have HO722 := rLo ho0 HB; replace BK717 := blkB BK717 hb; replace HB := bst HB hb; clear hb ho0) | ((with_reducible refine gate_dst (N := 4) rfl ?_); refine boxG HB #[.int .i64 0, .slice none 0 0] 26 ?_; intro gb723 hg w12 BK723 GE723 hb; replace HO722 := rB HO722 hb; have NB717_723 := neL7 BK717 hg; have NB723_717 := neR7 BK717 hg; replace BK717 := blkB BK717 hb; replace HB := bst HB hb; clear hb hg; obtain ⟨_, _, _, _⟩ := blk2 BK723; obtain ⟨Ao15, co15, rfl⟩ := Kd.R_slice HO722.out; obtain ⟨_, _, _, _⟩ := blk2 BK717) | ((with_reducible refine gate_callee (f := 36) rfl ?_); refine goesQ (some 13) Tryz.func36 #[.int .i64 a0_0, .func (.func 37) #[] #[.pointer (some ⟨gb723, 0, none⟩), .pointer (some ⟨gb717, 0, none⟩)]] ?_; (with_reducible refine (impl_relation.calls k a0_0 (fun u0_ u1_ => impl_TraceOf_1.f u0_ u1_ t719 t720 a0_0 l0_1) 37 #[.pointer (some ⟨gb723, 0, none⟩), .pointer (some ⟨gb717, 0, none⟩)] (fun args_ W_ => enters_ Tryz.func37 (by kernel_rfl) rfl args_ W_) t724 t725 _ ?s1 A5.out).mono ?_); (case s1 => exact fun u0_ u1_ q_ W_ hb_ hq_ => (impl_TraceOf_1.calls u0_ u1_ gb723 t719 Ao15 co15 t720 gb717 a0_0 A0_1 c0_1 l0_1 q_ W_ (blk_below (show _ = some (Obj.cells #[.int .i64 t719, .slice Ao15 t720.length co15] 26 (0, 0)) from blkT BK723) hb_) (Kd.C_below (show Kd.C (Kd.int .i64) _ Ao15 t720.length t720 from by refine (Kd.R_reads' (e := 3) (base := w.heap.size) (ok := fun k_ => True) (n := t720.length) (c := co15) ?_).2.2; exact (rFg HO722 BK723)) hb_) (by exact rL HO722) (blk_below (show _ = some (Obj.cells #[.int .i64 a0_0, .slice A0_1 l0_1.length c0_1] 26 (0, 0)) from blkT BK717) hb_) (Kd.C_below (show Kd.C (Kd.int .i64) _ A0_1 l0_1.length l0_1 from by exact C_g HR0_1 HB) hb_) (by exact HC0_1.out) hq_).mono (fun _ _ h_ => ⟨h_.1, h_.2.below⟩)); rintro e w17 ⟨v726, rfl, ho0, hb⟩; refine ⟨_, rfl, ?_⟩; have HO727 := rLo (rNF ho0 HO722 BK723) HB; replace HO722 := rEF HO722 BK723 ho0 hb; replace BK717 := blkS BK717 hb; replace BK723 := blkS BK723 hb; replace HB := bst HB hb; clear hb ho0; obtain ⟨Ao18, co18, rfl⟩ := Kd.R_slice HO727.out) | ((with_reducible refine gate_callee (f := 24) rfl ?_); refine goesQ (some 14) Tryz.func24 #[.agg #[.int .i64 t724, .slice Ao18 t725.length co18]] ?_; (with_reducible refine (impl_Order_levels.calls k t724 _ _ t725 t728 _ ?_ ?_ A6.out).mono ?_); exact rC HO727; exact rL HO727; rintro e w19 ⟨v729, rfl, ho0, hb⟩; refine ⟨_, rfl, ?_⟩; have HO730 := rLo (rN (rN ho0 HO722) HO727) HB; replace HO722 := rE HO722 ho0 hb; replace HO727 := rE HO727 ho0 hb; replace BK717 := blkB BK717 hb; replace BK723 := blkB BK723 hb; replace HB := bst HB hb; clear hb ho0))
  go_ret2
  exact ⟨_, eqE, Kd.R_g (Kd.R_mono HO730.out (fun _ hk => trivial)), bel_g HB.out⟩
 ·replace c3 := Bool.eq_false_iff.mpr c3
  subst c3
  replace H := ifF H
  simp only [Option.some.injEq, Prod.mk.injEq] at H
  obtain ⟨rfl, rfl⟩ := H
  go_enter Tryz.func15, Tryz.ntmps15
  go_wp2_with (first | ((with_reducible refine gate_dst (N := 1) rfl ?_); refine boxG HB #[.int .i64 a0_0, .slice A0_1 l0_1.length c0_1] 26 ?_; intro gb717 hg w20 BK717 GE717 hb; replace HB := bst HB hb; clear hb hg; obtain ⟨_, _, _, _⟩ := blk2 BK717) | ((with_reducible refine gate_callee (f := 34) rfl ?_); refine goesQ (some 6) Tryz.func34 #[.agg #[.int .i64 a0_0, .slice A0_1 l0_1.length c0_1]] ?_; (with_reducible refine (impl_isSemi.calls k a0_0 _ _ l0_1 false _ ?_ ?_ ?_ A2.out).mono ?_); exact C_g HR0_1 HB; exact HC0_1.out; exact Tab.below HTAB.out (bel_g HB.out); rintro e w22 ⟨rfl, hb⟩; refine ⟨_, rfl, ?_⟩; replace BK717 := blkB BK717 hb; replace HB := bst HB hb; clear hb))
  go_ret2
  exact ⟨_, eqE, nilE, bel_g HB.out⟩
def laws_vOrder.f (k : Nat) (a0_0 : Int) (l0_1 : List Int) (a1_0 : Int) (l1_1 : List Int) : Option (Bool) := if a0_0 = a1_0 then ((laws_vSame.f k l0_1 l1_1).bind fun t733 => (some t733)) else (some false)
theorem laws_vOrder.mono : ∀ a0 a1 a2 a3 k, LeO (laws_vOrder.f k a0 a1 a2 a3) (laws_vOrder.f (k + 1) a0 a1 a2 a3) := by
 intro a0 a1 a2 a3 k
 unfold laws_vOrder.f
 repeat' (with_reducible first|apply laws_vSame.mono|apply LeO.refl|apply LeO.none|apply LeO.ite|apply LeO.bind|intro)
theorem laws_vOrder.calls (k : Nat) (a0_0 : Int) (A0_1 : Option Addr) (c0_1 : Nat) (l0_1 : List Int) (a1_0 : Int) (A1_1 : Option Addr) (c1_1 : Nat) (l1_1 : List Int) (r : Bool) (w : World) (hr0_1 : Kd.C (Kd.int .i64) w A0_1 l0_1.length l0_1) (hc0_1 : l0_1.length ≤ c0_1) (hr1_1 : Kd.C (Kd.int .i64) w A1_1 l1_1.length l1_1) (hc1_1 : l1_1.length ≤ c1_1) (h : laws_vOrder.f k a0_0 l0_1 a1_0 l1_1 = some r) :
  Calls Tryz.prog 16 #[.agg #[.int .i64 a0_0, .slice A0_1 l0_1.length c0_1], .agg #[.int .i64 a1_0, .slice A1_1 l1_1.length c1_1]] w fun e w' => e = .returned (.bool r) ∧ Below w.heap.size w w' := by
 have hu26 := Tryz.underlying26
 have HR0_1 := mkA hr0_1
 have HC0_1 := mkA hc0_1
 clear hr0_1 hc0_1
 have HR1_1 := mkA hr1_1
 have HC1_1 := mkA hc1_1
 clear hr1_1 hc1_1
 have HB := mkA (Below.refl w.heap.size w)
 have H := h
 clear h
 unfold laws_vOrder.f at H
 rcases iteP H with ⟨c3, H⟩ | ⟨c3, H⟩
 ·have c3b0 := beq_iff_eq.mpr c3
  have c3b1 := bne_eq_false_iff_eq.mpr c3
  clear c3
  obtain ⟨t733, A4, H⟩ := obE H
  obtain rfl := Option.some.inj H
  go_enter Tryz.func16, Tryz.ntmps16
  go_wp2_with (first | ((with_reducible refine gate_dst (N := 2) rfl ?_); refine boxG HB #[.int .i64 a0_0, .slice A0_1 l0_1.length c0_1] 26 ?_; intro gb731 hg w5 BK731 GE731 hb; replace HB := bst HB hb; clear hb hg) | ((with_reducible refine gate_dst (N := 3) rfl ?_); refine boxG HB #[.int .i64 a1_0, .slice A1_1 l1_1.length c1_1] 26 ?_; intro gb732 hg w6 BK732 GE732 hb; have NB731_732 := neL7 BK731 hg; have NB732_731 := neR7 BK731 hg; replace BK731 := blkB BK731 hb; replace HB := bst HB hb; clear hb hg; obtain ⟨_, _, _, _⟩ := blk2 BK731; obtain ⟨_, _, _, _⟩ := blk2 BK732) | (go_at_call 11; (with_reducible refine (laws_vSame.calls k _ _ l0_1 _ _ l1_1 t733 _ ?_ ?_ ?_ ?_ A4.out).mono ?_); exact C_g HR0_1 HB; exact HC0_1.out; exact C_g HR1_1 HB; exact HC1_1.out; rintro e w' ⟨rfl, ⟨nd, rfl⟩⟩))
  go_ret
  exact ⟨eqE, bel_g HB.out⟩
 ·have c3b0 := beq_eq_false_iff_ne.mpr c3
  have c3b1 := bne_iff_ne.mpr c3
  obtain rfl := Option.some.inj H
  go_enter Tryz.func16, Tryz.ntmps16
  go_wp2_with (first | ((with_reducible refine gate_dst (N := 2) rfl ?_); refine boxG HB #[.int .i64 a0_0, .slice A0_1 l0_1.length c0_1] 26 ?_; intro gb731 hg w10 BK731 GE731 hb; replace HB := bst HB hb; clear hb hg) | ((with_reducible refine gate_dst (N := 3) rfl ?_); refine boxG HB #[.int .i64 a1_0, .slice A1_1 l1_1.length c1_1] 26 ?_; intro gb732 hg w11 BK732 GE732 hb; have NB731_732 := neL7 BK731 hg; have NB732_731 := neR7 BK731 hg; replace BK731 := blkB BK731 hb; replace HB := bst HB hb; clear hb hg; obtain ⟨_, _, _, _⟩ := blk2 BK731; obtain ⟨_, _, _, _⟩ := blk2 BK732))
  go_ret
  exact ⟨eqE, bel_g HB.out⟩
end Go.Proofs.YtgbdjchdfcodcaaGreatDoor.Q
