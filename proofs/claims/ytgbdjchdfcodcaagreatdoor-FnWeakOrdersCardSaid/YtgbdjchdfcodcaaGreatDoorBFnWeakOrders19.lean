import Derived.Test.YtgbdjchdfcodcaaGreatDoorBFnWeakOrders18
namespace Go.Proofs.YtgbdjchdfcodcaaGreatDoor.Q
open Go.RowKit Go.Proofs.YtgbdjchdfcodcaaGreatDoorW.PrintWords Go.Proofs.YtgbdjchdfcodcaaGreatDoorW.PrintLast Go.Proofs.YtgbdjchdfcodcaaGreatDoorW.PrintMore
attribute [local go_sem] max2_int min2_int max_two min_two max_three min_three max_four min_four neB_f
set_option linter.unusedVariables false
set_option maxHeartbeats 8000000
set_option maxRecDepth 100000
set_option linter.unusedSimpArgs false
def spec_WeakLevels.l0 : Nat → List Int → Int → Int → List Int → Option (List Int × Bool)
 | 0, _, _, _, _ => none
 | k + 1, x4, x5, x630000, x630001 => if x5 < x630000 then ((spec_weHeight.f k x630000 x630001 x5).bind fun t631 => (if x4.length < 17592186044416 then (spec_WeakLevels.l0 k (x4 ++ [t631]) (wrap64 (x5 + 1)) x630000 x630001) else (none))) else (some (x4, true))
def spec_WeakLevels.f (k : Nat) (a0_0 : Int) (l0_1 : List Int) : Option (List Int × Bool) := (spec_weGood.f k a0_0 l0_1).bind fun t630 => (if t630 = true then (spec_WeakLevels.l0 k ([] : List Int) 0 a0_0 l0_1) else (some (([] : List Int), false)))
theorem spec_WeakLevels.mono_l : ∀ k, (∀ y0 y1 y2 y3, LeO (spec_WeakLevels.l0 k y0 y1 y2 y3) (spec_WeakLevels.l0 (k + 1) y0 y1 y2 y3))
 | 0 => fun _ _ _ _ r h => by simp [spec_WeakLevels.l0] at h
 | k + 1 => by
  have ih0 := spec_WeakLevels.mono_l k
  ·intro y0 y1 y2 y3
   unfold spec_WeakLevels.l0
   repeat' (with_reducible first|apply ih0|apply spec_weGood.mono|apply spec_weHeight.mono|apply LeO.refl|apply LeO.none|apply LeO.ite|apply LeO.bind|intro)
theorem spec_WeakLevels.mono : ∀ a0 a1 k, LeO (spec_WeakLevels.f k a0 a1) (spec_WeakLevels.f (k + 1) a0 a1) := by
 intro a0 a1 k
 have ih0 := spec_WeakLevels.mono_l k
 unfold spec_WeakLevels.f
 repeat' (with_reducible first|apply ih0|apply spec_weGood.mono|apply spec_weHeight.mono|apply LeO.refl|apply LeO.none|apply LeO.ite|apply LeO.bind|intro)
theorem spec_WeakLevels.calls (k : Nat) (a0_0 : Int) (A0_1 : Option Addr) (c0_1 : Nat) (l0_1 : List Int) (r1 : List Int) (r2 : Bool) (w : World) (hr0_1 : Kd.C (Kd.int .i64) w A0_1 l0_1.length l0_1) (hc0_1 : l0_1.length ≤ c0_1) (h : spec_WeakLevels.f k a0_0 l0_1 = some (r1, r2)) :
  Calls Tryz.prog 7 #[.agg #[.int .i64 a0_0, .slice A0_1 l0_1.length c0_1]] w fun e w' => ∃ v0_ : Value, e = .returned (.tuple #[v0_, .bool r2]) ∧ Kd.R (Kd.int .i64) 3 w' w.heap.size (fun _ => True) v0_ r1 ∧ Below w.heap.size w w' := by
 have hu26 := Tryz.underlying26
 have HR0_1 := mkA hr0_1
 have HC0_1 := mkA hc0_1
 clear hr0_1 hc0_1
 have HB := mkA (Below.refl w.heap.size w)
 have H := h
 clear h
 unfold spec_WeakLevels.f at H
 obtain ⟨t630, A2, H⟩ := obE H
 by_cases c3 : t630 = true
 ·subst c3
  replace H := ifT H
  have H' := mkA H
  clear H
  go_enter Tryz.func7, Tryz.ntmps7
  go_wp2_with (first | ((with_reducible refine gate_dst (N := 1) rfl ?_); refine boxG HB #[.int .i64 a0_0, .slice A0_1 l0_1.length c0_1] 26 ?_; intro gb629 hg w4 BK629 GE629 hb; replace HB := bst HB hb; clear hb hg; obtain ⟨_, _, _, _⟩ := blk2 BK629) | ((with_reducible refine gate_callee (f := 25) rfl ?_); refine goesQ (some 7) Tryz.func25 #[.agg #[.int .i64 a0_0, .slice A0_1 l0_1.length c0_1]] ?_; (with_reducible refine (spec_weGood.calls k a0_0 _ _ l0_1 true _ ?_ ?_ A2.out).mono ?_); exact C_g HR0_1 HB; exact HC0_1.out; rintro e w6 ⟨rfl, hb⟩; refine ⟨_, rfl, ?_⟩; replace BK629 := blkB BK629 hb; replace HB := bst HB hb; clear hb))
  go_loopg [4, 5] k (fun kq v4 v5 w' => ∃ (x4_1 : List Int) (x5_1 : Int), v5 = .int .i64 x5_1 ∧ Fc (spec_WeakLevels.l0 kq x4_1 x5_1 a0_0 l0_1 = some (r1, r2)) ∧ Fc (kq ≤ k) ∧ Fc (Kd.R (Kd.int .i64) 3 w' w.heap.size (fun _ => True) v4 x4_1) ∧ Fc (w'.heap[gb629]? = some (.cells #[.int .i64 a0_0, (.slice A0_1 l0_1.length c0_1)] 26 (0, 0))) ∧ Fc (Below w.heap.size w w'))
  case atStart => exact ⟨(([] : List Int)), (0), eqS, H', ⟨Nat.le_refl _⟩, ⟨nilE⟩, bg BK629, hbg HB⟩
  case round =>
   clear H'
   try clear c3
   obtain ⟨x4_1, x5_1, rfl, HA, HK1, HO_4, BK629, HB⟩ := hrel
   cases gk with
   | zero => exact absurd HA.out (by simp [spec_WeakLevels.l0])
   | succ k1 =>
    have H := HA.out
    clear HA
    simp only [spec_WeakLevels.l0] at H
    rcases iteE H with ⟨c7b0, H⟩ | ⟨c7b0, H⟩
    ·obtain ⟨t631, A8, H⟩ := obE H
     obtain ⟨c9, H⟩ := itNP H
     have LMc9 := mkA c9
     clear c9
     obtain ⟨y632, hy632⟩ : ∃ y_ : List Int, y_ = (x4_1 ++ [t631]) := ⟨_, rfl⟩
     rw [← hy632] at H
     have Ny632 := mkA hy632
     clear hy632
     have H' := mkA H
     clear H
     obtain ⟨_, _, _, _⟩ := blk2 BK629
     go_wp2_with (first | ((with_reducible refine gate_callee (f := 26) rfl ?_); refine goesQ (some 18) Tryz.func26 #[.agg #[.int .i64 a0_0, .slice A0_1 l0_1.length c0_1], .int .i64 x5_1] ?_; (with_reducible refine (spec_weHeight.calls k1 a0_0 _ _ l0_1 x5_1 t631 _ ?_ ?_ A8.out).mono ?_); exact C_g HR0_1 HB; exact HC0_1.out; rintro e w11 ⟨rfl, hb⟩; refine ⟨_, rfl, ?_⟩; replace HO_4 := rB HO_4 hb; replace BK629 := blkB BK629 hb; replace HB := bst HB hb; clear hb) | ((with_reducible refine gate_builtin (b := .append) (xs := #[.tmp 15, .tmp 19]) rfl ?_); at_builtin; refine Kd.R_append (Kd.int .i64) (w0 := w) w.heap.size rfl (.tmp 15) (.tmp 19) 24 3 (.int .i64 0) 8 rfl Tryz.underlying24 info3 rfl (by decide) (by omega) u4 x4_1 t631 [.int .i64 t631] (fun _ => True) (fun _ => False) rfl rfl ?aP (fun _ hk => hk.elim) ?aF ?aO ?aB ?aS ?aL ?_; (case aP => exact rfl); (case aB => exact (bel_g HB.out)); (case aF => exact (fun _ _ => trivial)); (case aO => exact (Kd.R_g HO_4.out)); (case aS => exact (below_size (bel_g HB.out))); (case aL => have := LMc9.out; omega); intro v633 w12 ho hb hg hat; rw [← Ny632.out] at ho; replace BK629 := mkA (blk_grown (g := gb629) (o := .cells #[.int .i64 a0_0, .slice A0_1 l0_1.length c0_1] 26 (0, 0)) (blk_g BK629.out) hg (Kd.R_ne HO_4.out BK629.out (by decide))); have HO634 := mkA (ho); replace HB := mkA (hb); clear HO_4; clear ho hb hg hat))
     go_roundg k1
     case measure => have := HK1.out; omega
     case rel => exact ⟨(y632), (wrap64 (x5_1 + 1)), eqS, H', ⟨by have := HK1.out; omega⟩, rg HO634, bg BK629, hbg HB⟩
    ·simp only [Option.some.injEq, Prod.mk.injEq] at H
     obtain ⟨rfl, rfl⟩ := H
     obtain ⟨_, _, _, _⟩ := blk2 BK629
     go_wp2
     go_ret2
     exact ⟨_, eqE, Kd.R_g HO_4.out, bel_g HB.out⟩
 ·replace c3 := Bool.eq_false_iff.mpr c3
  subst c3
  replace H := ifF H
  simp only [Option.some.injEq, Prod.mk.injEq] at H
  obtain ⟨rfl, rfl⟩ := H
  go_enter Tryz.func7, Tryz.ntmps7
  go_wp2_with (first | ((with_reducible refine gate_dst (N := 1) rfl ?_); refine boxG HB #[.int .i64 a0_0, .slice A0_1 l0_1.length c0_1] 26 ?_; intro gb629 hg w14 BK629 GE629 hb; replace HB := bst HB hb; clear hb hg; obtain ⟨_, _, _, _⟩ := blk2 BK629) | ((with_reducible refine gate_callee (f := 25) rfl ?_); refine goesQ (some 7) Tryz.func25 #[.agg #[.int .i64 a0_0, .slice A0_1 l0_1.length c0_1]] ?_; (with_reducible refine (spec_weGood.calls k a0_0 _ _ l0_1 false _ ?_ ?_ A2.out).mono ?_); exact C_g HR0_1 HB; exact HC0_1.out; rintro e w16 ⟨rfl, hb⟩; refine ⟨_, rfl, ?_⟩; replace BK629 := blkB BK629 hb; replace HB := bst HB hb; clear hb))
  go_ret2
  exact ⟨_, eqE, nilE, bel_g HB.out⟩
theorem impl_TwoOneOf.nilEql_ {P : Program} (W : World) {t e : TypeId} {A : Option Addr} {n c : Nat} {xs : List Int} {Z : Nat → Nat → Prop} (hu : P.underlying t = some (.slice e)) (h : xs = [] → Value.slice A n c = .slice none 0 0) (h2 : 0 < xs.length → ∃ g c', Value.slice A n c = .slice (some ⟨g, 0, none⟩) xs.length c' ∧ Z g c') :
  (binOp .eql t (.slice A n c) (.slice none 0 0)).run P W = .ok (.bool (xs == ([] : List Int))) W := by
 rw [Lib.run_eql_slice_nil W t e A n c 0 0 hu]
 cases xs with
 | nil => injection h rfl with h1 _ _; subst h1; rfl
 | cons x l => obtain ⟨g, c', h1, _⟩ := h2 (by simp); injection h1 with h1 _ _; subst h1; rfl
theorem impl_TwoOneOf.nilNeq_ {P : Program} (W : World) {t e : TypeId} {A : Option Addr} {n c : Nat} {xs : List Int} {Z : Nat → Nat → Prop} (hu : P.underlying t = some (.slice e)) (h : xs = [] → Value.slice A n c = .slice none 0 0) (h2 : 0 < xs.length → ∃ g c', Value.slice A n c = .slice (some ⟨g, 0, none⟩) xs.length c' ∧ Z g c') :
  (binOp .neq t (.slice A n c) (.slice none 0 0)).run P W = .ok (.bool (xs != ([] : List Int))) W := by
 rw [run_neq_slice_nil_any W t e A n c 0 0 hu]
 cases xs with
 | nil => injection h rfl with h1 _ _; subst h1; rfl
 | cons x l => obtain ⟨g, c', h1, _⟩ := h2 (by simp); injection h1 with h1 _ _; subst h1; rfl
def impl_TwoOneOf.f (k : Nat) (a0_0 : Int) (l0_1 : List Int) : Option (List Int × Bool) := (impl_IsOrder.f k a0_0 l0_1).bind fun t636 => (if t636 = true then ((impl_Order_twoOne.f k a0_0 l0_1).bind fun t637 => (some (t637, (t637 != ([] : List Int))))) else (some (([] : List Int), false)))
theorem impl_TwoOneOf.mono : ∀ a0 a1 k, LeO (impl_TwoOneOf.f k a0 a1) (impl_TwoOneOf.f (k + 1) a0 a1) := by
 intro a0 a1 k
 unfold impl_TwoOneOf.f
 repeat' (with_reducible first|apply impl_IsOrder.mono|apply impl_Order_twoOne.mono|apply LeO.refl|apply LeO.none|apply LeO.ite|apply LeO.bind|intro)
theorem impl_TwoOneOf.calls (k : Nat) (a0_0 : Int) (A0_1 : Option Addr) (c0_1 : Nat) (l0_1 : List Int) (r1 : List Int) (r2 : Bool) (w : World) (hr0_1 : Kd.C (Kd.int .i64) w A0_1 l0_1.length l0_1) (hc0_1 : l0_1.length ≤ c0_1) (hTAB : Tab w) (h : impl_TwoOneOf.f k a0_0 l0_1 = some (r1, r2)) :
  Calls Tryz.prog 8 #[.agg #[.int .i64 a0_0, .slice A0_1 l0_1.length c0_1]] w fun e w' => ∃ v0_ : Value, e = .returned (.tuple #[v0_, .bool r2]) ∧ Kd.R (Kd.int .i64) 3 w' w.heap.size (fun _ => True) v0_ r1 ∧ Below w.heap.size w w' := by
 have HTAB := mkA hTAB
 clear hTAB
 have hu26 := Tryz.underlying26
 have HR0_1 := mkA hr0_1
 have HC0_1 := mkA hc0_1
 clear hr0_1 hc0_1
 have HB := mkA (Below.refl w.heap.size w)
 have H := h
 clear h
 unfold impl_TwoOneOf.f at H
 obtain ⟨t636, A2, H⟩ := obE H
 by_cases c3 : t636 = true
 ·subst c3
  replace H := ifT H
  obtain ⟨t637, A4, H⟩ := obE H
  simp only [Option.some.injEq, Prod.mk.injEq] at H
  obtain ⟨rfl, rfl⟩ := H
  go_enter Tryz.func8, Tryz.ntmps8
  go_wp2_with (first | ((with_reducible refine gate_dst (N := 1) rfl ?_); refine boxG HB #[.int .i64 a0_0, .slice A0_1 l0_1.length c0_1] 26 ?_; intro gb635 hg w5 BK635 GE635 hb; replace HB := bst HB hb; clear hb hg; obtain ⟨_, _, _, _⟩ := blk2 BK635) | ((with_reducible refine gate_callee (f := 12) rfl ?_); refine goesQ (some 6) Tryz.func12 #[.agg #[.int .i64 a0_0, .slice A0_1 l0_1.length c0_1]] ?_; (with_reducible refine (impl_IsOrder.calls k a0_0 _ _ l0_1 true _ ?_ ?_ ?_ A2.out).mono ?_); exact C_g HR0_1 HB; exact HC0_1.out; exact Tab.below HTAB.out (bel_g HB.out); rintro e w7 ⟨rfl, hb⟩; refine ⟨_, rfl, ?_⟩; replace BK635 := blkB BK635 hb; replace HB := bst HB hb; clear hb; obtain ⟨_, _, _, _⟩ := blk2 BK635) | ((with_reducible refine gate_callee (f := 23) rfl ?_); refine goesQ (some 9) Tryz.func23 #[.agg #[.int .i64 a0_0, .slice A0_1 l0_1.length c0_1]] ?_; (with_reducible refine (impl_Order_twoOne.calls k a0_0 _ _ l0_1 t637 _ ?_ ?_ ?_ A4.out).mono ?_); exact C_g HR0_1 HB; exact HC0_1.out; exact Tab.below HTAB.out (bel_g HB.out); rintro e w9 ⟨v638, rfl, ho0, hb, hnl0⟩; refine ⟨_, rfl, ?_⟩; have HO639 := rLo ho0 HB; replace BK635 := blkB BK635 hb; replace HB := bst HB hb; clear hb ho0; have NL_HO639 := mkA hnl0; clear hnl0; obtain ⟨Ao10, co10, rfl⟩ := Kd.R_slice HO639.out; have nq11 := fun (W_ : World) => impl_TwoOneOf.nilNeq_ (P := Tryz.prog) W_ (t := 24) (e := 3) (c := co10) Tryz.underlying24 NL_HO639.out (fun h_ => Kd.R_form HO639.out h_)))
  go_ret2
  exact ⟨_, eqE, Kd.R_g HO639.out, bel_g HB.out⟩
 ·replace c3 := Bool.eq_false_iff.mpr c3
  subst c3
  replace H := ifF H
  simp only [Option.some.injEq, Prod.mk.injEq] at H
  obtain ⟨rfl, rfl⟩ := H
  go_enter Tryz.func8, Tryz.ntmps8
  go_wp2_with (first | ((with_reducible refine gate_dst (N := 1) rfl ?_); refine boxG HB #[.int .i64 a0_0, .slice A0_1 l0_1.length c0_1] 26 ?_; intro gb635 hg w12 BK635 GE635 hb; replace HB := bst HB hb; clear hb hg; obtain ⟨_, _, _, _⟩ := blk2 BK635) | ((with_reducible refine gate_callee (f := 12) rfl ?_); refine goesQ (some 6) Tryz.func12 #[.agg #[.int .i64 a0_0, .slice A0_1 l0_1.length c0_1]] ?_; (with_reducible refine (impl_IsOrder.calls k a0_0 _ _ l0_1 false _ ?_ ?_ ?_ A2.out).mono ?_); exact C_g HR0_1 HB; exact HC0_1.out; exact Tab.below HTAB.out (bel_g HB.out); rintro e w14 ⟨rfl, hb⟩; refine ⟨_, rfl, ?_⟩; replace BK635 := blkB BK635 hb; replace HB := bst HB hb; clear hb))
  go_ret2
  exact ⟨_, eqE, nilE, bel_g HB.out⟩
theorem impl_IsWeak.nilEql_ {P : Program} (W : World) {t e : TypeId} {A : Option Addr} {n c : Nat} {xs : List Int} {Z : Nat → Nat → Prop} (hu : P.underlying t = some (.slice e)) (h : xs = [] → Value.slice A n c = .slice none 0 0) (h2 : 0 < xs.length → ∃ g c', Value.slice A n c = .slice (some ⟨g, 0, none⟩) xs.length c' ∧ Z g c') :
  (binOp .eql t (.slice A n c) (.slice none 0 0)).run P W = .ok (.bool (xs == ([] : List Int))) W := by
 rw [Lib.run_eql_slice_nil W t e A n c 0 0 hu]
 cases xs with
 | nil => injection h rfl with h1 _ _; subst h1; rfl
 | cons x l => obtain ⟨g, c', h1, _⟩ := h2 (by simp); injection h1 with h1 _ _; subst h1; rfl
theorem impl_IsWeak.nilNeq_ {P : Program} (W : World) {t e : TypeId} {A : Option Addr} {n c : Nat} {xs : List Int} {Z : Nat → Nat → Prop} (hu : P.underlying t = some (.slice e)) (h : xs = [] → Value.slice A n c = .slice none 0 0) (h2 : 0 < xs.length → ∃ g c', Value.slice A n c = .slice (some ⟨g, 0, none⟩) xs.length c' ∧ Z g c') :
  (binOp .neq t (.slice A n c) (.slice none 0 0)).run P W = .ok (.bool (xs != ([] : List Int))) W := by
 rw [run_neq_slice_nil_any W t e A n c 0 0 hu]
 cases xs with
 | nil => injection h rfl with h1 _ _; subst h1; rfl
 | cons x l => obtain ⟨g, c', h1, _⟩ := h2 (by simp); injection h1 with h1 _ _; subst h1; rfl
def impl_IsWeak.f (k : Nat) (a0_0 : Int) (l0_1 : List Int) : Option (Bool × Bool) := (impl_IsOrder.f k a0_0 l0_1).bind fun t641 => (if t641 = true then ((impl_Order_twoOne.f k a0_0 l0_1).bind fun t642 => (some ((t642 == ([] : List Int)), true))) else (some (false, false)))
theorem impl_IsWeak.mono : ∀ a0 a1 k, LeO (impl_IsWeak.f k a0 a1) (impl_IsWeak.f (k + 1) a0 a1) := by
 intro a0 a1 k
 unfold impl_IsWeak.f
 repeat' (with_reducible first|apply impl_IsOrder.mono|apply impl_Order_twoOne.mono|apply LeO.refl|apply LeO.none|apply LeO.ite|apply LeO.bind|intro)
theorem impl_IsWeak.calls (k : Nat) (a0_0 : Int) (A0_1 : Option Addr) (c0_1 : Nat) (l0_1 : List Int) (r1 : Bool) (r2 : Bool) (w : World) (hr0_1 : Kd.C (Kd.int .i64) w A0_1 l0_1.length l0_1) (hc0_1 : l0_1.length ≤ c0_1) (hTAB : Tab w) (h : impl_IsWeak.f k a0_0 l0_1 = some (r1, r2)) :
  Calls Tryz.prog 10 #[.agg #[.int .i64 a0_0, .slice A0_1 l0_1.length c0_1]] w fun e w' => e = .returned (.tuple #[.bool r1, .bool r2]) ∧ Below w.heap.size w w' := by
 have HTAB := mkA hTAB
 clear hTAB
 have hu26 := Tryz.underlying26
 have HR0_1 := mkA hr0_1
 have HC0_1 := mkA hc0_1
 clear hr0_1 hc0_1
 have HB := mkA (Below.refl w.heap.size w)
 have H := h
 clear h
 unfold impl_IsWeak.f at H
 obtain ⟨t641, A2, H⟩ := obE H
 by_cases c3 : t641 = true
 ·subst c3
  replace H := ifT H
  obtain ⟨t642, A4, H⟩ := obE H
  simp only [Option.some.injEq, Prod.mk.injEq] at H
  obtain ⟨rfl, rfl⟩ := H
  go_enter Tryz.func10, Tryz.ntmps10
  go_wp2_with (first | ((with_reducible refine gate_dst (N := 1) rfl ?_); refine boxG HB #[.int .i64 a0_0, .slice A0_1 l0_1.length c0_1] 26 ?_; intro gb640 hg w5 BK640 GE640 hb; replace HB := bst HB hb; clear hb hg; obtain ⟨_, _, _, _⟩ := blk2 BK640) | ((with_reducible refine gate_callee (f := 12) rfl ?_); refine goesQ (some 5) Tryz.func12 #[.agg #[.int .i64 a0_0, .slice A0_1 l0_1.length c0_1]] ?_; (with_reducible refine (impl_IsOrder.calls k a0_0 _ _ l0_1 true _ ?_ ?_ ?_ A2.out).mono ?_); exact C_g HR0_1 HB; exact HC0_1.out; exact Tab.below HTAB.out (bel_g HB.out); rintro e w7 ⟨rfl, hb⟩; refine ⟨_, rfl, ?_⟩; replace BK640 := blkB BK640 hb; replace HB := bst HB hb; clear hb; obtain ⟨_, _, _, _⟩ := blk2 BK640) | ((with_reducible refine gate_callee (f := 23) rfl ?_); refine goesQ (some 8) Tryz.func23 #[.agg #[.int .i64 a0_0, .slice A0_1 l0_1.length c0_1]] ?_; (with_reducible refine (impl_Order_twoOne.calls k a0_0 _ _ l0_1 t642 _ ?_ ?_ ?_ A4.out).mono ?_); exact C_g HR0_1 HB; exact HC0_1.out; exact Tab.below HTAB.out (bel_g HB.out); rintro e w9 ⟨v643, rfl, ho0, hb, hnl0⟩; refine ⟨_, rfl, ?_⟩; have HO644 := rLo ho0 HB; replace BK640 := blkB BK640 hb; replace HB := bst HB hb; clear hb ho0; have NL_HO644 := mkA hnl0; clear hnl0; obtain ⟨Ao10, co10, rfl⟩ := Kd.R_slice HO644.out; have nq11 := fun (W_ : World) => impl_IsWeak.nilEql_ (P := Tryz.prog) W_ (t := 24) (e := 3) (c := co10) Tryz.underlying24 NL_HO644.out (fun h_ => Kd.R_form HO644.out h_)))
  go_ret2
  exact ⟨eqE, bel_g HB.out⟩
 ·replace c3 := Bool.eq_false_iff.mpr c3
  subst c3
  replace H := ifF H
  simp only [Option.some.injEq, Prod.mk.injEq] at H
  obtain ⟨rfl, rfl⟩ := H
  go_enter Tryz.func10, Tryz.ntmps10
  go_wp2_with (first | ((with_reducible refine gate_dst (N := 1) rfl ?_); refine boxG HB #[.int .i64 a0_0, .slice A0_1 l0_1.length c0_1] 26 ?_; intro gb640 hg w12 BK640 GE640 hb; replace HB := bst HB hb; clear hb hg; obtain ⟨_, _, _, _⟩ := blk2 BK640) | ((with_reducible refine gate_callee (f := 12) rfl ?_); refine goesQ (some 5) Tryz.func12 #[.agg #[.int .i64 a0_0, .slice A0_1 l0_1.length c0_1]] ?_; (with_reducible refine (impl_IsOrder.calls k a0_0 _ _ l0_1 false _ ?_ ?_ ?_ A2.out).mono ?_); exact C_g HR0_1 HB; exact HC0_1.out; exact Tab.below HTAB.out (bel_g HB.out); rintro e w14 ⟨rfl, hb⟩; refine ⟨_, rfl, ?_⟩; replace BK640 := blkB BK640 hb; replace HB := bst HB hb; clear hb))
  go_ret2
  exact ⟨eqE, bel_g HB.out⟩
def laws_vSame.l0 : Nat → List Int → List Int → Int → Int → Option (Bool)
 | 0, _, _, _, _ => none
 | k + 1, x0, x1, x12, x13 => if x13 < x12 then (if 0 ≤ x13 then (if x13 < (x0.length : Int) then (if x13 < (x1.length : Int) then (if (rd x0 x13) = (rd x1 x13) then (laws_vSame.l0 k x0 x1 x12 (wrap64 (x13 + 1))) else (some false)) else (none)) else (none)) else (none)) else (some true)
def laws_vSame.f (k : Nat) (l0 : List Int) (l1 : List Int) : Option (Bool) := if (l0.length : Int) = (l1.length : Int) then (laws_vSame.l0 k l0 l1 (l0.length : Int) 0) else (some false)
theorem laws_vSame.mono_l : ∀ k, (∀ y0 y1 y2 y3, LeO (laws_vSame.l0 k y0 y1 y2 y3) (laws_vSame.l0 (k + 1) y0 y1 y2 y3))
 | 0 => fun _ _ _ _ r h => by simp [laws_vSame.l0] at h
 | k + 1 => by
  have ih0 := laws_vSame.mono_l k
  ·intro y0 y1 y2 y3
   unfold laws_vSame.l0
   repeat' (with_reducible first|apply ih0|apply LeO.refl|apply LeO.none|apply LeO.ite|apply LeO.bind|intro)
theorem laws_vSame.mono : ∀ a0 a1 k, LeO (laws_vSame.f k a0 a1) (laws_vSame.f (k + 1) a0 a1) := by
 intro a0 a1 k
 have ih0 := laws_vSame.mono_l k
 unfold laws_vSame.f
 repeat' (with_reducible first|apply ih0|apply LeO.refl|apply LeO.none|apply LeO.ite|apply LeO.bind|intro)
theorem laws_vSame.calls (k : Nat) (A0 : Option Addr) (c0 : Nat) (l0 : List Int) (A1 : Option Addr) (c1 : Nat) (l1 : List Int) (r : Bool) (w : World) (hr0 : Kd.C (Kd.int .i64) w A0 l0.length l0) (hc0 : l0.length ≤ c0) (hr1 : Kd.C (Kd.int .i64) w A1 l1.length l1) (hc1 : l1.length ≤ c1) (h : laws_vSame.f k l0 l1 = some r) :
  Calls Tryz.prog 11 #[.slice A0 l0.length c0, .slice A1 l1.length c1] w fun e w' => e = .returned (.bool r) ∧ Drawn0 w w' := by
 have HR0 := mkA hr0
 have HC0 := mkA hc0
 clear hr0 hc0
 have HR1 := mkA hr1
 have HC1 := mkA hc1
 clear hr1 hc1
 have H := h
 clear h
 unfold laws_vSame.f at H
 rcases iteP H with ⟨c3, H⟩ | ⟨c3, H⟩
 ·have c3b0 := beq_iff_eq.mpr c3
  have c3b1 := bne_eq_false_iff_eq.mpr c3
  have c3b2 : (l0.length == l1.length) = true := by first | simpa using c3 | (simp at c3 ⊢; omega)
  clear c3
  have H' := mkA H
  clear H
  go_enter Tryz.func11, Tryz.ntmps11
  go_wp2
  repeat (go_quiet (fail); try go_wp2)
  go_loopg [13] k (fun kq v13 w' => ∃ (x13_1 : Int), v13 = .int .i64 x13_1 ∧ Fc (laws_vSame.l0 kq l0 l1 (l0.length : Int) x13_1 = some r) ∧ Fc (kq ≤ k) ∧ Drawn0 w w')
  case atStart => exact ⟨(0), eqS, H', ⟨Nat.le_refl _⟩, by repeat (first | exact Drawn0.refl _ | apply Drawn0.step)⟩
  case round =>
   clear H'
   try clear c1
   try clear c3
   try clear c3b0
   try clear c3b1
   try clear c3b2
   obtain ⟨x13_1, rfl, HA, HK1, ⟨m1, rfl⟩⟩ := hrel
   cases gk with
   | zero => exact absurd HA.out (by simp [laws_vSame.l0])
   | succ k1 =>
    have H := HA.out
    clear HA
    simp only [laws_vSame.l0] at H
    rcases iteE H with ⟨c4b0, H⟩ | ⟨c4b0, H⟩
    ·obtain ⟨c5b0, H⟩ := itND H
     obtain ⟨c6b0, H⟩ := itND H
     obtain ⟨c7b0, H⟩ := itND H
     rcases iteP H with ⟨c8, H⟩ | ⟨c8, H⟩
     ·have c8b0 := beq_iff_eq.mpr c8
      have c8b1 := bne_eq_false_iff_eq.mpr c8
      clear c8
      have H' := mkA H
      clear H
      obtain ⟨p645, q645, ad645, e645, hx645_0⟩ := atI HR0.out x13_1
      cases e645
      obtain ⟨p646, q646, ad646, e646, hx646_0⟩ := atI HR1.out x13_1
      cases e646
      go_wp2
      repeat (go_quiet (fail); try go_wp2)
      go_roundg k1
      case measure => have := HK1.out; omega
      case rel => exact ⟨(wrap64 (x13_1 + 1)), eqS, H', ⟨by have := HK1.out; omega⟩, by repeat (first | exact Drawn0.refl _ | apply Drawn0.step)⟩
     ·have c8b0 := beq_eq_false_iff_ne.mpr c8
      have c8b1 := bne_iff_ne.mpr c8
      obtain rfl := Option.some.inj H
      obtain ⟨p645, q645, ad645, e645, hx645_0⟩ := atI HR0.out x13_1
      cases e645
      obtain ⟨p646, q646, ad646, e646, hx646_0⟩ := atI HR1.out x13_1
      cases e646
      go_wp2
      repeat (go_quiet (fail); try go_wp2)
      go_ret
      exact ⟨eqS, drE⟩
    ·obtain rfl := Option.some.inj H
     go_wp2
     repeat (go_quiet (fail); try go_wp2)
     go_ret
     exact ⟨eqS, drE⟩
 ·have c3b0 := beq_eq_false_iff_ne.mpr c3
  have c3b1 := bne_iff_ne.mpr c3
  have c3b2 : (l0.length == l1.length) = false := by first | simpa using c3 | (simp at c3 ⊢; omega)
  obtain rfl := Option.some.inj H
  go_enter Tryz.func11, Tryz.ntmps11
  go_wp2
  repeat (go_quiet (fail); try go_wp2)
  go_ret
  exact ⟨eqS, drE⟩
def impl_AreLevels.l0 : Nat → List Int → List Int → Int → Int → Option (Bool)
 | 0, _, _, _, _ => none
 | k + 1, x0, x6, x7, x8 => if x8 < x7 then (if 0 ≤ x8 then (if x8 < (x6.length : Int) then (if (rd x6 x8) = x8 then (impl_AreLevels.l0 k x0 x6 x7 (wrap64 (x8 + 1))) else (some false)) else (none)) else (none)) else (some (decide ((x0.length : Int) ≤ 10)))
def impl_AreLevels.f (k : Nat) (l0 : List Int) : Option (Bool) := (impl_different.f l0).bind fun t647 => (impl_AreLevels.l0 k l0 t647 (t647.length : Int) 0)
theorem impl_AreLevels.mono_l : ∀ k, (∀ y0 y1 y2 y3, LeO (impl_AreLevels.l0 k y0 y1 y2 y3) (impl_AreLevels.l0 (k + 1) y0 y1 y2 y3))
 | 0 => fun _ _ _ _ r h => by simp [impl_AreLevels.l0] at h
 | k + 1 => by
  have ih0 := impl_AreLevels.mono_l k
  ·intro y0 y1 y2 y3
   unfold impl_AreLevels.l0
   repeat' (with_reducible first|apply ih0|apply LeO.refl|apply LeO.none|apply LeO.ite|apply LeO.bind|intro)
theorem impl_AreLevels.mono : ∀ a0 k, LeO (impl_AreLevels.f k a0) (impl_AreLevels.f (k + 1) a0) := by
 intro a0 k
 have ih0 := impl_AreLevels.mono_l k
 unfold impl_AreLevels.f
 repeat' (with_reducible first|apply ih0|apply LeO.refl|apply LeO.none|apply LeO.ite|apply LeO.bind|intro)
theorem impl_AreLevels.calls (k : Nat) (A0 : Option Addr) (c0 : Nat) (l0 : List Int) (r : Bool) (w : World) (hr0 : Kd.C (Kd.int .i64) w A0 l0.length l0) (hc0 : l0.length ≤ c0) (h : impl_AreLevels.f k l0 = some r) :
  Calls Tryz.prog 19 #[.slice A0 l0.length c0] w fun e w' => e = .returned (.bool r) ∧ Below w.heap.size w w' := by
 have HR0 := mkA hr0
 have HC0 := mkA hc0
 clear hr0 hc0
 have HB := mkA (Below.refl w.heap.size w)
 have H := h
 clear h
 unfold impl_AreLevels.f at H
 obtain ⟨t647, A2, H⟩ := obE H
 have H' := mkA H
 clear H
 go_enter Tryz.func19, Tryz.ntmps19
 go_wp2_with (first | ((with_reducible refine gate_callee (f := 41) rfl ?_); refine goesQ (some 6) Tryz.func41 #[.slice A0 l0.length c0] ?_; (with_reducible refine (impl_different.calls _ _ l0 t647 _ ?s1 ?s2 A2.out).mono ?_); (case s1 => repeat (first | exact HR0.out | (with_reducible refine Kd.C_alloc ?_ _) | (with_reducible refine Kd.C_drewN ?_ _) | (with_reducible refine Kd.C_drew ?_))); (case s2 => exact HC0.out); rintro e w3 ⟨v648, rfl, ho0, hb⟩; refine ⟨_, rfl, ?_⟩; have HO649 := rLo ho0 HB; replace HB := bst HB hb; clear hb ho0; obtain ⟨Ao4, co4, rfl⟩ := Kd.R_slice HO649.out))
 go_loopg [8] k (fun kq v8 w' => ∃ (x8_1 : Int), v8 = .int .i64 x8_1 ∧ Fc (impl_AreLevels.l0 kq l0 t647 (t647.length : Int) x8_1 = some r) ∧ Fc (kq ≤ k) ∧ Fc (Kd.R (Kd.int .i64) 3 w' w.heap.size (fun _ => True) (.slice Ao4 t647.length co4) t647) ∧ Fc (Below w.heap.size w w'))
 case atStart => exact ⟨(0), eqS, H', ⟨Nat.le_refl _⟩, rg HO649, hbg HB⟩
 case round =>
  clear H'
  obtain ⟨x8_1, rfl, HA, HK1, HO_6, HB⟩ := hrel
  cases gk with
  | zero => exact absurd HA.out (by simp [impl_AreLevels.l0])
  | succ k1 =>
   have H := HA.out
   clear HA
   simp only [impl_AreLevels.l0] at H
   rcases iteE H with ⟨c5b0, H⟩ | ⟨c5b0, H⟩
   ·obtain ⟨c6b0, H⟩ := itND H
    obtain ⟨c7b0, H⟩ := itND H
    rcases iteP H with ⟨c8, H⟩ | ⟨c8, H⟩
    ·have c8b0 := beq_iff_eq.mpr c8
     have c8b1 := bne_eq_false_iff_eq.mpr c8
     clear c8
     have H' := mkA H
     clear H
     obtain ⟨p650, q650, ad650, e650, hx650_0⟩ := atI (Kd.R_reads' HO_6.out).2.2 x8_1
     cases e650
     go_wp2
     go_roundg k1
     case measure => have := HK1.out; omega
     case rel => exact ⟨(wrap64 (x8_1 + 1)), eqS, H', ⟨by have := HK1.out; omega⟩, rg HO_6, hbg HB⟩
    ·have c8b0 := beq_eq_false_iff_ne.mpr c8
     have c8b1 := bne_iff_ne.mpr c8
     obtain rfl := Option.some.inj H
     obtain ⟨p650, q650, ad650, e650, hx650_0⟩ := atI (Kd.R_reads' HO_6.out).2.2 x8_1
     cases e650
     go_wp2
     go_ret
     exact ⟨eqE, bel_g HB.out⟩
   ·obtain rfl := Option.some.inj H
    go_wp2
    go_ret
    exact ⟨eqE, bel_g HB.out⟩
end Go.Proofs.YtgbdjchdfcodcaaGreatDoor.Q
