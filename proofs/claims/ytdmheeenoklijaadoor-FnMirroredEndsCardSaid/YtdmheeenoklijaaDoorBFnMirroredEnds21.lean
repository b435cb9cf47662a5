import Derived.Test.YtdmheeenoklijaaDoorBFnMirroredEnds12
import Derived.Test.YtdmheeenoklijaaDoorBFnMirroredEnds15
namespace Go.Proofs.YtdmheeenoklijaaDoor.Q
open Go.RowKit Go.Proofs.YtdmheeenoklijaaDoorW.PrintWords Go.Proofs.YtdmheeenoklijaaDoorW.PrintLast Go.Proofs.YtdmheeenoklijaaDoorW.PrintMore
attribute [local go_sem] max2_int min2_int max_two min_two max_three min_three max_four min_four neB_f
set_option linter.unusedVariables false
set_option maxHeartbeats 8000000
set_option maxRecDepth 100000
set_option linter.unusedSimpArgs false
def impl_MirrorOf.f (k : Nat) (a0_0 : Int) (l0_1 : List Int) : Option (Int × List Int × Bool) := (impl_IsRelation.f k a0_0 l0_1).bind fun t649 => (if t649 = true then ((impl_Order_mirror.f k a0_0 l0_1).bind fun bt650 => (some (bt650.1, bt650.2, true))) else (some (0, ([] : List Int), false)))
theorem impl_MirrorOf.mono : ∀ a0 a1 k, LeO (impl_MirrorOf.f k a0 a1) (impl_MirrorOf.f (k + 1) a0 a1) := by
 intro a0 a1 k
 unfold impl_MirrorOf.f
 repeat' (with_reducible first|apply impl_IsRelation.mono|apply impl_Order_mirror.mono|apply LeO.refl|apply LeO.none|apply LeO.ite|apply LeO.bind|intro)
theorem impl_MirrorOf.calls (k : Nat) (a0_0 : Int) (A0_1 : Option Addr) (c0_1 : Nat) (l0_1 : List Int) (r1 : Int) (r2 : List Int) (r3 : Bool) (w : World) (hr0_1 : Kd.C (Kd.int .i64) w A0_1 l0_1.length l0_1) (hc0_1 : l0_1.length ≤ c0_1) (h : impl_MirrorOf.f k a0_0 l0_1 = some (r1, r2, r3)) :
  Calls Tryd.prog 11 #[.agg #[.int .i64 a0_0, .slice A0_1 l0_1.length c0_1]] w fun e w' => ∃ v1_ : Value, e = .returned (.tuple #[.agg #[.int .i64 r1, v1_], .bool r3]) ∧ Kd.R (Kd.int .i64) 3 w' w.heap.size (fun _ => True) v1_ r2 ∧ Below w.heap.size w w' := by
 have hu26 := Tryd.underlying26
 have HR0_1 := mkA hr0_1
 have HC0_1 := mkA hc0_1
 clear hr0_1 hc0_1
 have HB := mkA (Below.refl w.heap.size w)
 have H := h
 clear h
 unfold impl_MirrorOf.f at H
 obtain ⟨t649, A2, H⟩ := obE H
 by_cases c3 : t649 = true
 ·subst c3
  replace H := ifT H
  obtain ⟨⟨t650, t651⟩, A4, H⟩ := obE H
  dsimp only at H
  simp only [Option.some.injEq, Prod.mk.injEq] at H
  obtain ⟨rfl, rfl, rfl⟩ := H
  go_enter Tryd.func11, Tryd.ntmps11
  go_wp2_with (first | ((with_reducible refine gate_dst (N := 1) rfl ?_); refine boxG HB #[.int .i64 a0_0, .slice A0_1 l0_1.length c0_1] 26 ?_; intro gb647 hg w5 BK647 GE647 hb; replace HB := bst HB hb; clear hb hg) | ((with_reducible refine gate_dst (N := 2) rfl ?_); refine boxG HB #[.int .i64 0, .slice none 0 0] 26 ?_; intro gb648 hg w6 BK648 GE648 hb; have NB647_648 := neL7 BK647 hg; have NB648_647 := neR7 BK647 hg; replace BK647 := blkB BK647 hb; replace HB := bst HB hb; clear hb hg; obtain ⟨_, _, _, _⟩ := blk2 BK647) | ((with_reducible refine gate_callee (f := 35) rfl ?_); refine goesQ (some 5) Tryd.func35 #[.agg #[.int .i64 a0_0, .slice A0_1 l0_1.length c0_1]] ?_; (with_reducible refine (impl_IsRelation.calls k a0_0 _ _ l0_1 true _ ?_ ?_ A2.out).mono ?_); exact C_g HR0_1 HB; exact HC0_1.out; rintro e w9 ⟨rfl, hb⟩; refine ⟨_, rfl, ?_⟩; replace BK647 := blkB BK647 hb; replace BK648 := blkB BK648 hb; replace HB := bst HB hb; clear hb; obtain ⟨_, _, _, _⟩ := blk2 BK647) | ((with_reducible refine gate_callee (f := 36) rfl ?_); refine goesQ (some 9) Tryd.func36 #[.agg #[.int .i64 a0_0, .slice A0_1 l0_1.length c0_1]] ?_; (with_reducible refine (impl_Order_mirror.calls k a0_0 _ _ l0_1 t650 t651 _ ?_ ?_ A4.out).mono ?_); exact C_g HR0_1 HB; exact HC0_1.out; rintro e w11 ⟨v652, rfl, ho0, hb⟩; refine ⟨_, rfl, ?_⟩; have HO653 := rLo ho0 HB; replace BK647 := blkB BK647 hb; replace BK648 := blkB BK648 hb; replace HB := bst HB hb; clear hb ho0; obtain ⟨_, _, _, _⟩ := blk2 BK648; obtain ⟨Ao13, co13, rfl⟩ := Kd.R_slice HO653.out))
  refine bodyPost_ret (results_ct rfl _ _ gb648 26 #[.int .i64 t650, .slice Ao13 t651.length co13] (0, 0) _ rfl (blkT BK648) Tryd.underlying26 rfl (by kernel_rfl)) rfl ?_
  exact ⟨_, eqE, Kd.R_g (Kd.R_mono (rF HO653 BK648) (fun _ _ => trivial)), bel_g HB.out⟩
 ·replace c3 := Bool.eq_false_iff.mpr c3
  subst c3
  replace H := ifF H
  simp only [Option.some.injEq, Prod.mk.injEq] at H
  obtain ⟨rfl, rfl, rfl⟩ := H
  go_enter Tryd.func11, Tryd.ntmps11
  go_wp2_with (first | ((with_reducible refine gate_dst (N := 1) rfl ?_); refine boxG HB #[.int .i64 a0_0, .slice A0_1 l0_1.length c0_1] 26 ?_; intro gb647 hg w14 BK647 GE647 hb; replace HB := bst HB hb; clear hb hg) | ((with_reducible refine gate_dst (N := 2) rfl ?_); refine boxG HB #[.int .i64 0, .slice none 0 0] 26 ?_; intro gb648 hg w15 BK648 GE648 hb; have NB647_648 := neL7 BK647 hg; have NB648_647 := neR7 BK647 hg; replace BK647 := blkB BK647 hb; replace HB := bst HB hb; clear hb hg; obtain ⟨_, _, _, _⟩ := blk2 BK647) | ((with_reducible refine gate_callee (f := 35) rfl ?_); refine goesQ (some 5) Tryd.func35 #[.agg #[.int .i64 a0_0, .slice A0_1 l0_1.length c0_1]] ?_; (with_reducible refine (impl_IsRelation.calls k a0_0 _ _ l0_1 false _ ?_ ?_ A2.out).mono ?_); exact C_g HR0_1 HB; exact HC0_1.out; rintro e w18 ⟨rfl, hb⟩; refine ⟨_, rfl, ?_⟩; replace BK647 := blkB BK647 hb; replace BK648 := blkB BK648 hb; replace HB := bst HB hb; clear hb; obtain ⟨_, _, _, _⟩ := blk2 BK648))
  refine bodyPost_ret (results_ct rfl _ _ gb648 26 #[.int .i64 0, .slice none 0 0] (0, 0) _ rfl (blkT BK648) Tryd.underlying26 rfl (by kernel_rfl)) rfl ?_
  exact ⟨_, eqE, nilE, bel_g HB.out⟩
def impl_Order_magnitude.f (k : Nat) (a0_0 : Int) (l0_1 : List Int) : Option (Int) := (impl_Order_levels.f k a0_0 l0_1).bind fun t655 => ((impl_different.f t655).bind fun t658 => (some (t658.length : Int)))
theorem impl_Order_magnitude.mono : ∀ a0 a1 k, LeO (impl_Order_magnitude.f k a0 a1) (impl_Order_magnitude.f (k + 1) a0 a1) := by
 intro a0 a1 k
 unfold impl_Order_magnitude.f
 repeat' (with_reducible first|apply impl_Order_levels.mono|apply LeO.refl|apply LeO.none|apply LeO.ite|apply LeO.bind|intro)
theorem impl_Order_magnitude.calls (k : Nat) (a0_0 : Int) (A0_1 : Option Addr) (c0_1 : Nat) (l0_1 : List Int) (r : Int) (w : World) (hr0_1 : Kd.C (Kd.int .i64) w A0_1 l0_1.length l0_1) (hc0_1 : l0_1.length ≤ c0_1) (h : impl_Order_magnitude.f k a0_0 l0_1 = some r) :
  Calls Tryd.prog 37 #[.agg #[.int .i64 a0_0, .slice A0_1 l0_1.length c0_1]] w fun e w' => e = .returned (.int .i64 r) ∧ Below w.heap.size w w' := by
 have hu26 := Tryd.underlying26
 have HR0_1 := mkA hr0_1
 have HC0_1 := mkA hc0_1
 clear hr0_1 hc0_1
 have HB := mkA (Below.refl w.heap.size w)
 have H := h
 clear h
 unfold impl_Order_magnitude.f at H
 obtain ⟨t655, A2, H⟩ := obE H
 obtain ⟨t658, A3, H⟩ := obE H
 obtain rfl := Option.some.inj H
 go_enter Tryd.func37, Tryd.ntmps37
 go_wp2_with (first | ((with_reducible refine gate_dst (N := 1) rfl ?_); refine boxG HB #[.int .i64 a0_0, .slice A0_1 l0_1.length c0_1] 26 ?_; intro gb654 hg w4 BK654 GE654 hb; replace HB := bst HB hb; clear hb hg; obtain ⟨_, _, _, _⟩ := blk2 BK654) | ((with_reducible refine gate_callee (f := 38) rfl ?_); refine goesQ (some 4) Tryd.func38 #[.agg #[.int .i64 a0_0, .slice A0_1 l0_1.length c0_1]] ?_; (with_reducible refine (impl_Order_levels.calls k a0_0 _ _ l0_1 t655 _ ?_ ?_ A2.out).mono ?_); exact C_g HR0_1 HB; exact HC0_1.out; rintro e w6 ⟨v656, rfl, ho0, hb⟩; refine ⟨_, rfl, ?_⟩; have HO657 := rLo ho0 HB; replace BK654 := blkB BK654 hb; replace HB := bst HB hb; clear hb ho0; obtain ⟨Ao7, co7, rfl⟩ := Kd.R_slice HO657.out) | ((with_reducible refine gate_callee (f := 65) rfl ?_); refine goesQ (some 5) Tryd.func65 #[.slice Ao7 t655.length co7] ?_; (with_reducible refine (impl_different.calls _ _ t655 t658 _ ?_ ?_ A3.out).mono ?_); exact rC HO657; exact rL HO657; rintro e w8 ⟨v659, rfl, ho0, hb⟩; refine ⟨_, rfl, ?_⟩; have HO660 := rLo (rN ho0 HO657) HB; replace HO657 := rE HO657 ho0 hb; replace BK654 := blkB BK654 hb; replace HB := bst HB hb; clear hb ho0; obtain ⟨Ao9, co9, rfl⟩ := Kd.R_slice HO660.out))
 go_ret
 exact ⟨eqE, bel_g HB.out⟩
def impl_MagnitudeOf.f (k : Nat) (a0_0 : Int) (l0_1 : List Int) : Option (Int × Bool) := (impl_isInterval.f k a0_0 l0_1).bind fun t662 => (if t662 = true then ((impl_Order_magnitude.f k a0_0 l0_1).bind fun t663 => (some (t663, true))) else (some (0, false)))
theorem impl_MagnitudeOf.mono : ∀ a0 a1 k, LeO (impl_MagnitudeOf.f k a0 a1) (impl_MagnitudeOf.f (k + 1) a0 a1) := by
 intro a0 a1 k
 unfold impl_MagnitudeOf.f
 repeat' (with_reducible first|apply impl_Order_magnitude.mono|apply impl_isInterval.mono|apply LeO.refl|apply LeO.none|apply LeO.ite|apply LeO.bind|intro)
theorem impl_MagnitudeOf.calls (k : Nat) (a0_0 : Int) (A0_1 : Option Addr) (c0_1 : Nat) (l0_1 : List Int) (r1 : Int) (r2 : Bool) (w : World) (hr0_1 : Kd.C (Kd.int .i64) w A0_1 l0_1.length l0_1) (hc0_1 : l0_1.length ≤ c0_1) (hTAB : Tab w) (h : impl_MagnitudeOf.f k a0_0 l0_1 = some (r1, r2)) :
  Calls Tryd.prog 12 #[.agg #[.int .i64 a0_0, .slice A0_1 l0_1.length c0_1]] w fun e w' => e = .returned (.tuple #[.int .i64 r1, .bool r2]) ∧ Below w.heap.size w w' := by
 have HTAB := mkA hTAB
 clear hTAB
 have hu26 := Tryd.underlying26
 have HR0_1 := mkA hr0_1
 have HC0_1 := mkA hc0_1
 clear hr0_1 hc0_1
 have HB := mkA (Below.refl w.heap.size w)
 have H := h
 clear h
 unfold impl_MagnitudeOf.f at H
 obtain ⟨t662, A2, H⟩ := obE H
 by_cases c3 : t662 = true
 ·subst c3
  replace H := ifT H
  obtain ⟨t663, A4, H⟩ := obE H
  simp only [Option.some.injEq, Prod.mk.injEq] at H
  obtain ⟨rfl, rfl⟩ := H
  go_enter Tryd.func12, Tryd.ntmps12
  go_wp2_with (first | ((with_reducible refine gate_dst (N := 1) rfl ?_); refine boxG HB #[.int .i64 a0_0, .slice A0_1 l0_1.length c0_1] 26 ?_; intro gb661 hg w5 BK661 GE661 hb; replace HB := bst HB hb; clear hb hg; obtain ⟨_, _, _, _⟩ := blk2 BK661) | ((with_reducible refine gate_callee (f := 31) rfl ?_); refine goesQ (some 5) Tryd.func31 #[.agg #[.int .i64 a0_0, .slice A0_1 l0_1.length c0_1]] ?_; (with_reducible refine (impl_isInterval.calls k a0_0 _ _ l0_1 true _ ?_ ?_ ?_ A2.out).mono ?_); exact C_g HR0_1 HB; exact HC0_1.out; exact Tab.below HTAB.out (bel_g HB.out); rintro e w7 ⟨rfl, hb⟩; refine ⟨_, rfl, ?_⟩; replace BK661 := blkB BK661 hb; replace HB := bst HB hb; clear hb; obtain ⟨_, _, _, _⟩ := blk2 BK661) | ((with_reducible refine gate_callee (f := 37) rfl ?_); refine goesQ (some 8) Tryd.func37 #[.agg #[.int .i64 a0_0, .slice A0_1 l0_1.length c0_1]] ?_; (with_reducible refine (impl_Order_magnitude.calls k a0_0 _ _ l0_1 t663 _ ?_ ?_ A4.out).mono ?_); exact C_g HR0_1 HB; exact HC0_1.out; rintro e w9 ⟨rfl, hb⟩; refine ⟨_, rfl, ?_⟩; replace BK661 := blkB BK661 hb; replace HB := bst HB hb; clear hb))
  go_ret2
  exact ⟨eqE, bel_g HB.out⟩
 ·replace c3 := Bool.eq_false_iff.mpr c3
  subst c3
  replace H := ifF H
  simp only [Option.some.injEq, Prod.mk.injEq] at H
  obtain ⟨rfl, rfl⟩ := H
  go_enter Tryd.func12, Tryd.ntmps12
  go_wp2_with (first | ((with_reducible refine gate_dst (N := 1) rfl ?_); refine boxG HB #[.int .i64 a0_0, .slice A0_1 l0_1.length c0_1] 26 ?_; intro gb661 hg w10 BK661 GE661 hb; replace HB := bst HB hb; clear hb hg; obtain ⟨_, _, _, _⟩ := blk2 BK661) | ((with_reducible refine gate_callee (f := 31) rfl ?_); refine goesQ (some 5) Tryd.func31 #[.agg #[.int .i64 a0_0, .slice A0_1 l0_1.length c0_1]] ?_; (with_reducible refine (impl_isInterval.calls k a0_0 _ _ l0_1 false _ ?_ ?_ ?_ A2.out).mono ?_); exact C_g HR0_1 HB; exact HC0_1.out; exact Tab.below HTAB.out (bel_g HB.out); rintro e w12 ⟨rfl, hb⟩; refine ⟨_, rfl, ?_⟩; replace BK661 := blkB BK661 hb; replace HB := bst HB hb; clear hb))
  go_ret2
  exact ⟨eqE, bel_g HB.out⟩
def impl_LowerLevels.f (k : Nat) (a0_0 : Int) (l0_1 : List Int) : Option (List Int × Bool) := (impl_isInterval.f k a0_0 l0_1).bind fun t665 => (if t665 = true then ((impl_Order_levels.f k a0_0 l0_1).bind fun t666 => (some (t666, true))) else (some (([] : List Int), false)))
theorem impl_LowerLevels.mono : ∀ a0 a1 k, LeO (impl_LowerLevels.f k a0 a1) (impl_LowerLevels.f (k + 1) a0 a1) := by
 intro a0 a1 k
 unfold impl_LowerLevels.f
 repeat' (with_reducible first|apply impl_Order_levels.mono|apply impl_isInterval.mono|apply LeO.refl|apply LeO.none|apply LeO.ite|apply LeO.bind|intro)
theorem impl_LowerLevels.calls (k : Nat) (a0_0 : Int) (A0_1 : Option Addr) (c0_1 : Nat) (l0_1 : List Int) (r1 : List Int) (r2 : Bool) (w : World) (hr0_1 : Kd.C (Kd.int .i64) w A0_1 l0_1.length l0_1) (hc0_1 : l0_1.length ≤ c0_1) (hTAB : Tab w) (h : impl_LowerLevels.f k a0_0 l0_1 = some (r1, r2)) :
  Calls Tryd.prog 13 #[.agg #[.int .i64 a0_0, .slice A0_1 l0_1.length c0_1]] w fun e w' => ∃ v0_ : Value, e = .returned (.tuple #[v0_, .bool r2]) ∧ Kd.R (Kd.int .i64) 3 w' w.heap.size (fun _ => True) v0_ r1 ∧ Below w.heap.size w w' := by
 have HTAB := mkA hTAB
 clear hTAB
 have hu26 := Tryd.underlying26
 have HR0_1 := mkA hr0_1
 have HC0_1 := mkA hc0_1
 clear hr0_1 hc0_1
 have HB := mkA (Below.refl w.heap.size w)
 have H := h
 clear h
 unfold impl_LowerLevels.f at H
 obtain ⟨t665, A2, H⟩ := obE H
 by_cases c3 : t665 = true
 ·subst c3
  replace H := ifT H
  obtain ⟨t666, A4, H⟩ := obE H
  simp only [Option.some.injEq, Prod.mk.injEq] at H
  obtain ⟨rfl, rfl⟩ := H
  go_enter Tryd.func13, Tryd.ntmps13
  go_wp2_with (first | ((with_reducible refine gate_dst (N := 1) rfl ?_); refine boxG HB #[.int .i64 a0_0, .slice A0_1 l0_1.length c0_1] 26 ?_; intro gb664 hg w5 BK664 GE664 hb; replace HB := bst HB hb; clear hb hg; obtain ⟨_, _, _, _⟩ := blk2 BK664) | ((with_reducible refine gate_callee (f := 31) rfl ?_); refine goesQ (some 5) Tryd.func31 #[.agg #[.int .i64 a0_0, .slice A0_1 l0_1.length c0_1]] ?_; (with_reducible refine (impl_isInterval.calls k a0_0 _ _ l0_1 true _ ?_ ?_ ?_ A2.out).mono ?_); exact C_g HR0_1 HB; exact HC0_1.out; exact Tab.below HTAB.out (bel_g HB.out); rintro e w7 ⟨rfl, hb⟩; refine ⟨_, rfl, ?_⟩; replace BK664 := blkB BK664 hb; replace HB := bst HB hb; clear hb; obtain ⟨_, _, _, _⟩ := blk2 BK664) | ((with_reducible refine gate_callee (f := 38) rfl ?_); refine goesQ (some 8) Tryd.func38 #[.agg #[.int .i64 a0_0, .slice A0_1 l0_1.length c0_1]] ?_; (with_reducible refine (impl_Order_levels.calls k a0_0 _ _ l0_1 t666 _ ?_ ?_ A4.out).mono ?_); exact C_g HR0_1 HB; exact HC0_1.out; rintro e w9 ⟨v667, rfl, ho0, hb⟩; refine ⟨_, rfl, ?_⟩; have HO668 := rLo ho0 HB; replace BK664 := blkB BK664 hb; replace HB := bst HB hb; clear hb ho0))
  go_ret2
  exact ⟨_, eqE, Kd.R_g HO668.out, bel_g HB.out⟩
 ·replace c3 := Bool.eq_false_iff.mpr c3
  subst c3
  replace H := ifF H
  simp only [Option.some.injEq, Prod.mk.injEq] at H
  obtain ⟨rfl, rfl⟩ := H
  go_enter Tryd.func13, Tryd.ntmps13
  go_wp2_with (first | ((with_reducible refine gate_dst (N := 1) rfl ?_); refine boxG HB #[.int .i64 a0_0, .slice A0_1 l0_1.length c0_1] 26 ?_; intro gb664 hg w10 BK664 GE664 hb; replace HB := bst HB hb; clear hb hg; obtain ⟨_, _, _, _⟩ := blk2 BK664) | ((with_reducible refine gate_callee (f := 31) rfl ?_); refine goesQ (some 5) Tryd.func31 #[.agg #[.int .i64 a0_0, .slice A0_1 l0_1.length c0_1]] ?_; (with_reducible refine (impl_isInterval.calls k a0_0 _ _ l0_1 false _ ?_ ?_ ?_ A2.out).mono ?_); exact C_g HR0_1 HB; exact HC0_1.out; exact Tab.below HTAB.out (bel_g HB.out); rintro e w12 ⟨rfl, hb⟩; refine ⟨_, rfl, ?_⟩; replace BK664 := blkB BK664 hb; replace HB := bst HB hb; clear hb))
  go_ret2
  exact ⟨_, eqE, nilE, bel_g HB.out⟩
def impl_AreIntervals.l0 : Nat → List (S39) → List (S39) → Int → Int → Option (Bool)
 | 0, _, _, _, _ => none
 | k + 1, x0, x5, x6, x7 => if x7 < x6 then (if 0 ≤ x7 then (if x7 < (x5.length : Int) then ((impl_within.f ((rd_T39 x5 x7).f0) (-1000) 1000).bind fun t671 => (if t671 = true then ((impl_within.f ((rd_T39 x5 x7).f1) ((rd_T39 x5 x7).f0) 1000).bind fun t672 => (if t672 = true then (impl_AreIntervals.l0 k x0 x5 x6 (wrap64 (x7 + 1))) else (some false))) else (some false))) else (none)) else (none)) else (some (decide ((x0.length : Int) ≤ 10)))
def impl_AreIntervals.f (k : Nat) (l0 : List (S39)) : Option (Bool) := impl_AreIntervals.l0 k l0 l0 (l0.length : Int) 0
theorem impl_AreIntervals.mono_l : ∀ k, (∀ y0 y1 y2 y3, LeO (impl_AreIntervals.l0 k y0 y1 y2 y3) (impl_AreIntervals.l0 (k + 1) y0 y1 y2 y3))
 | 0 => fun _ _ _ _ r h => by simp [impl_AreIntervals.l0] at h
 | k + 1 => by
  have ih0 := impl_AreIntervals.mono_l k
  ·intro y0 y1 y2 y3
   unfold impl_AreIntervals.l0
   repeat' (with_reducible first|apply ih0|apply LeO.refl|apply LeO.none|apply LeO.ite|apply LeO.bind|intro)
theorem impl_AreIntervals.mono : ∀ a0 k, LeO (impl_AreIntervals.f k a0) (impl_AreIntervals.f (k + 1) a0) := by
 intro a0 k
 have ih0 := impl_AreIntervals.mono_l k
 unfold impl_AreIntervals.f
 repeat' (with_reducible first|apply ih0|apply LeO.refl|apply LeO.none|apply LeO.ite|apply LeO.bind|intro)
theorem impl_AreIntervals.calls (k : Nat) (A0 : Option Addr) (c0 : Nat) (l0 : List (S39)) (r : Bool) (w : World) (hr0 : Kd.C k39 w A0 l0.length l0) (hc0 : l0.length ≤ c0) (h : impl_AreIntervals.f k l0 = some r) :
  Calls Tryd.prog 20 #[.slice A0 l0.length c0] w fun e w' => e = .returned (.bool r) ∧ Below w.heap.size w w' := by
 have hu39 := Tryd.underlying39
 have HR0 := mkA hr0
 have HC0 := mkA hc0
 clear hr0 hc0
 have HB := mkA (Below.refl w.heap.size w)
 have H := h
 clear h
 unfold impl_AreIntervals.f at H
 have H' := mkA H
 clear H
 go_enter Tryd.func20, Tryd.ntmps20
 go_wp2
 go_loopg [7] k (fun kq v7 w' => ∃ (x7_1 : Int), v7 = .int .i64 x7_1 ∧ Fc (impl_AreIntervals.l0 kq l0 l0 (l0.length : Int) x7_1 = some r) ∧ Fc (kq ≤ k) ∧ Fc (Below w.heap.size w w'))
 case atStart => exact ⟨(0), eqS, H', ⟨Nat.le_refl _⟩, hbg HB⟩
 case round =>
  clear H'
  obtain ⟨x7_1, rfl, HA, HK1, HB⟩ := hrel
  cases gk with
  | zero => exact absurd HA.out (by simp [impl_AreIntervals.l0])
  | succ k1 =>
   have H := HA.out
   clear HA
   simp only [impl_AreIntervals.l0] at H
   rcases iteE H with ⟨c2b0, H⟩ | ⟨c2b0, H⟩
   ·obtain ⟨c3b0, H⟩ := itND H
    obtain ⟨c4b0, H⟩ := itND H
    obtain ⟨t671, A5, H⟩ := obE H
    by_cases c6 : t671 = true
    ·subst c6
     replace H := ifT H
     obtain ⟨t672, A7, H⟩ := obE H
     by_cases c8 : t672 = true
     ·subst c8
      replace H := ifT H
      have H' := mkA H
      clear H
      have p669 : 0 ≤ (x7_1 : Int) := ofd
      have q669 : x7_1 < (l0.length : Int) := ofd
      obtain ⟨ad669, e669, hx669_0, hx669_1⟩ := at_T39 HR0.out x7_1 p669 q669
      cases e669
      replace hx669_0 := (HB.out.cell (World.block_lt_of_cell? w _ hx669_0)).trans hx669_0
      replace hx669_1 := (HB.out.cell (World.block_lt_of_cell? w _ hx669_1)).trans hx669_1
      replace p669 := eq_true p669
      replace q669 := eq_true q669
      go_wp2_with (first | ((with_reducible refine gate_dst (N := 4) rfl ?_); refine boxG HB #[.int .i64 0, .int .i64 0] 39 ?_; intro gb670 hg w9 BK670 GE670 hb; replace HB := bst HB hb; clear hb hg; obtain ⟨_, _, _, _⟩ := blk2 BK670) | ((with_reducible refine gate_callee (f := 45) rfl ?_); refine goesQ (some 13) Tryd.func45 #[.int .i64 ((rd_T39 l0 x7_1).f0), .int .i64 (-1000), .int .i64 1000] ?_; (with_reducible refine (impl_within.calls ((rd_T39 l0 x7_1).f0) (-1000) 1000 true _ A5.out).mono ?_); rintro e w' ⟨rfl, ⟨nd, rfl⟩⟩; refine ⟨_, rfl, ?_⟩) | (go_at_call 45; (with_reducible refine (impl_within.calls ((rd_T39 l0 x7_1).f1) ((rd_T39 l0 x7_1).f0) 1000 true _ A7.out).mono ?_); rintro e w' ⟨rfl, ⟨nd, rfl⟩⟩))
      go_roundg k1
      case measure => have := HK1.out; omega
      case rel => exact ⟨(wrap64 (x7_1 + 1)), eqS, H', ⟨by have := HK1.out; omega⟩, hbg HB⟩
     ·replace c8 := Bool.eq_false_iff.mpr c8
      subst c8
      replace H := ifF H
      obtain rfl := Option.some.inj H
      have p669 : 0 ≤ (x7_1 : Int) := ofd
      have q669 : x7_1 < (l0.length : Int) := ofd
      obtain ⟨ad669, e669, hx669_0, hx669_1⟩ := at_T39 HR0.out x7_1 p669 q669
      cases e669
      replace hx669_0 := (HB.out.cell (World.block_lt_of_cell? w _ hx669_0)).trans hx669_0
      replace hx669_1 := (HB.out.cell (World.block_lt_of_cell? w _ hx669_1)).trans hx669_1
      replace p669 := eq_true p669
      replace q669 := eq_true q669
      go_wp2_with (first | ((with_reducible refine gate_dst (N := 4) rfl ?_); refine boxG HB #[.int .i64 0, .int .i64 0] 39 ?_; intro gb670 hg w11 BK670 GE670 hb; replace HB := bst HB hb; clear hb hg; obtain ⟨_, _, _, _⟩ := blk2 BK670) | ((with_reducible refine gate_callee (f := 45) rfl ?_); refine goesQ (some 13) Tryd.func45 #[.int .i64 ((rd_T39 l0 x7_1).f0), .int .i64 (-1000), .int .i64 1000] ?_; (with_reducible refine (impl_within.calls ((rd_T39 l0 x7_1).f0) (-1000) 1000 true _ A5.out).mono ?_); rintro e w' ⟨rfl, ⟨nd, rfl⟩⟩; refine ⟨_, rfl, ?_⟩) | (go_at_call 45; (with_reducible refine (impl_within.calls ((rd_T39 l0 x7_1).f1) ((rd_T39 l0 x7_1).f0) 1000 false _ A7.out).mono ?_); rintro e w' ⟨rfl, ⟨nd, rfl⟩⟩))
      go_ret
      exact ⟨eqE, bel_g HB.out⟩
    ·replace c6 := Bool.eq_false_iff.mpr c6
     subst c6
     replace H := ifF H
     obtain rfl := Option.some.inj H
     have p669 : 0 ≤ (x7_1 : Int) := ofd
     have q669 : x7_1 < (l0.length : Int) := ofd
     obtain ⟨ad669, e669, hx669_0, hx669_1⟩ := at_T39 HR0.out x7_1 p669 q669
     cases e669
     replace hx669_0 := (HB.out.cell (World.block_lt_of_cell? w _ hx669_0)).trans hx669_0
     replace hx669_1 := (HB.out.cell (World.block_lt_of_cell? w _ hx669_1)).trans hx669_1
     replace p669 := eq_true p669
     replace q669 := eq_true q669
     go_wp2_with (first | ((with_reducible refine gate_dst (N := 4) rfl ?_); refine boxG HB #[.int .i64 0, .int .i64 0] 39 ?_; intro gb670 hg w13 BK670 GE670 hb; replace HB := bst HB hb; clear hb hg; obtain ⟨_, _, _, _⟩ := blk2 BK670) | ((with_reducible refine gate_callee (f := 45) rfl ?_); refine goesQ (some 13) Tryd.func45 #[.int .i64 ((rd_T39 l0 x7_1).f0), .int .i64 (-1000), .int .i64 1000] ?_; (with_reducible refine (impl_within.calls ((rd_T39 l0 x7_1).f0) (-1000) 1000 false _ A5.out).mono ?_); rintro e w' ⟨rfl, ⟨nd, rfl⟩⟩; refine ⟨_, rfl, ?_⟩))
     go_ret
     exact ⟨eqE, bel_g HB.out⟩
   ·obtain rfl := Option.some.inj H
    go_wp2
    go_ret
    exact ⟨eqE, bel_g HB.out⟩
end Go.Proofs.YtdmheeenoklijaaDoor.Q
