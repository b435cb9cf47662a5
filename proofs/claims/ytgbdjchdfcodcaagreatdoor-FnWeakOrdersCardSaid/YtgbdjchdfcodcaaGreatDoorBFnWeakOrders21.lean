import Derived.Test.YtgbdjchdfcodcaaGreatDoorBFnWeakOrders20
namespace Go.Proofs.YtgbdjchdfcodcaaGreatDoor.Q
open Go.RowKit Go.Proofs.YtgbdjchdfcodcaaGreatDoorW.PrintWords Go.Proofs.YtgbdjchdfcodcaaGreatDoorW.PrintLast Go.Proofs.YtgbdjchdfcodcaaGreatDoorW.PrintMore
attribute [local go_sem] max2_int min2_int max_two min_two max_three min_three max_four min_four neB_f
set_option linter.unusedVariables false
set_option maxHeartbeats 8000000
set_option maxRecDepth 100000
set_option linter.unusedSimpArgs false
theorem impl_isInterval.nilEql_ {P : Program} (W : World) {t e : TypeId} {A : Option Addr} {n c : Nat} {xs : List Int} {Z : Nat → Nat → Prop} (hu : P.underlying t = some (.slice e)) (h : xs = [] → Value.slice A n c = .slice none 0 0) (h2 : 0 < xs.length → ∃ g c', Value.slice A n c = .slice (some ⟨g, 0, none⟩) xs.length c' ∧ Z g c') :
  (binOp .eql t (.slice A n c) (.slice none 0 0)).run P W = .ok (.bool (xs == ([] : List Int))) W := by
 rw [Lib.run_eql_slice_nil W t e A n c 0 0 hu]
 cases xs with
 | nil => injection h rfl with h1 _ _; subst h1; rfl
 | cons x l => obtain ⟨g, c', h1, _⟩ := h2 (by simp); injection h1 with h1 _ _; subst h1; rfl
theorem impl_isInterval.nilNeq_ {P : Program} (W : World) {t e : TypeId} {A : Option Addr} {n c : Nat} {xs : List Int} {Z : Nat → Nat → Prop} (hu : P.underlying t = some (.slice e)) (h : xs = [] → Value.slice A n c = .slice none 0 0) (h2 : 0 < xs.length → ∃ g c', Value.slice A n c = .slice (some ⟨g, 0, none⟩) xs.length c' ∧ Z g c') :
  (binOp .neq t (.slice A n c) (.slice none 0 0)).run P W = .ok (.bool (xs != ([] : List Int))) W := by
 rw [run_neq_slice_nil_any W t e A n c 0 0 hu]
 cases xs with
 | nil => injection h rfl with h1 _ _; subst h1; rfl
 | cons x l => obtain ⟨g, c', h1, _⟩ := h2 (by simp); injection h1 with h1 _ _; subst h1; rfl
def impl_isInterval.f (k : Nat) (a0_0 : Int) (l0_1 : List Int) : Option (Bool) := (impl_IsOrder.f k a0_0 l0_1).bind fun t675 => (if t675 = true then ((impl_Order_twoTwo.f k a0_0 l0_1).bind fun t676 => (some (t676 == ([] : List Int)))) else (some false))
theorem impl_isInterval.mono : ∀ a0 a1 k, LeO (impl_isInterval.f k a0 a1) (impl_isInterval.f (k + 1) a0 a1) := by
 intro a0 a1 k
 unfold impl_isInterval.f
 repeat' (with_reducible first|apply impl_IsOrder.mono|apply impl_Order_twoTwo.mono|apply LeO.refl|apply LeO.none|apply LeO.ite|apply LeO.bind|intro)
theorem impl_isInterval.calls (k : Nat) (a0_0 : Int) (A0_1 : Option Addr) (c0_1 : Nat) (l0_1 : List Int) (r : Bool) (w : World) (hr0_1 : Kd.C (Kd.int .i64) w A0_1 l0_1.length l0_1) (hc0_1 : l0_1.length ≤ c0_1) (hTAB : Tab w) (h : impl_isInterval.f k a0_0 l0_1 = some r) :
  Calls Tryz.prog 56 #[.agg #[.int .i64 a0_0, .slice A0_1 l0_1.length c0_1]] w fun e w' => e = .returned (.bool r) ∧ Below w.heap.size w w' := by
 have HTAB := mkA hTAB
 clear hTAB
 have hu26 := Tryz.underlying26
 have HR0_1 := mkA hr0_1
 have HC0_1 := mkA hc0_1
 clear hr0_1 hc0_1
 have HB := mkA (Below.refl w.heap.size w)
 have H := h
 clear h
 unfold impl_isInterval.f at H
 obtain ⟨t675, A2, H⟩ := obE H
 by_cases c3 : t675 = true
 ·subst c3
  replace H := ifT H
  obtain ⟨t676, A4, H⟩ := obE H
  obtain rfl := Option.some.inj H
  go_enter Tryz.func56, Tryz.ntmps56
  go_wp2_with (first | ((with_reducible refine gate_dst (N := 1) rfl ?_); refine boxG HB #[.int .i64 a0_0, .slice A0_1 l0_1.length c0_1] 26 ?_; intro gb674 hg w5 BK674 GE674 hb; replace HB := bst HB hb; clear hb hg; obtain ⟨_, _, _, _⟩ := blk2 BK674) | ((with_reducible refine gate_callee (f := 12) rfl ?_); refine goesQ (some 4) Tryz.func12 #[.agg #[.int .i64 a0_0, .slice A0_1 l0_1.length c0_1]] ?_; (with_reducible refine (impl_IsOrder.calls k a0_0 _ _ l0_1 true _ ?_ ?_ ?_ A2.out).mono ?_); exact C_g HR0_1 HB; exact HC0_1.out; exact Tab.below HTAB.out (bel_g HB.out); rintro e w7 ⟨rfl, hb⟩; refine ⟨_, rfl, ?_⟩; replace BK674 := blkB BK674 hb; replace HB := bst HB hb; clear hb; obtain ⟨_, _, _, _⟩ := blk2 BK674) | (go_at_call 75; (with_reducible refine (impl_Order_twoTwo.calls k a0_0 _ _ l0_1 t676 _ ?_ ?_ A4.out).mono ?_); exact C_g HR0_1 HB; exact HC0_1.out; rintro e w9 ⟨v677, rfl, ho0, hb, hnl0⟩; have HO678 := rLo ho0 HB; replace BK674 := blkB BK674 hb; replace HB := bst HB hb; clear hb ho0; have NL_HO678 := mkA hnl0; clear hnl0; obtain ⟨Ao10, co10, rfl⟩ := Kd.R_slice HO678.out; have nq11 := fun (W_ : World) => impl_isInterval.nilEql_ (P := Tryz.prog) W_ (t := 24) (e := 3) (c := co10) Tryz.underlying24 NL_HO678.out (fun h_ => Kd.R_form HO678.out h_)))
  go_ret
  exact ⟨eqE, bel_g HB.out⟩
 ·replace c3 := Bool.eq_false_iff.mpr c3
  subst c3
  replace H := ifF H
  obtain rfl := Option.some.inj H
  go_enter Tryz.func56, Tryz.ntmps56
  go_wp2_with (first | ((with_reducible refine gate_dst (N := 1) rfl ?_); refine boxG HB #[.int .i64 a0_0, .slice A0_1 l0_1.length c0_1] 26 ?_; intro gb674 hg w12 BK674 GE674 hb; replace HB := bst HB hb; clear hb hg; obtain ⟨_, _, _, _⟩ := blk2 BK674) | ((with_reducible refine gate_callee (f := 12) rfl ?_); refine goesQ (some 4) Tryz.func12 #[.agg #[.int .i64 a0_0, .slice A0_1 l0_1.length c0_1]] ?_; (with_reducible refine (impl_IsOrder.calls k a0_0 _ _ l0_1 false _ ?_ ?_ ?_ A2.out).mono ?_); exact C_g HR0_1 HB; exact HC0_1.out; exact Tab.below HTAB.out (bel_g HB.out); rintro e w14 ⟨rfl, hb⟩; refine ⟨_, rfl, ?_⟩; replace BK674 := blkB BK674 hb; replace HB := bst HB hb; clear hb))
  go_ret
  exact ⟨eqE, bel_g HB.out⟩
end Go.Proofs.YtgbdjchdfcodcaaGreatDoor.Q
