import Derived.Test.YtmoemabbmjdhgaaDoorBFnThresholds20
import Derived.Test.YtmoemabbmjdhgaaDoorBFnThresholds21
import Derived.Test.YtmoemabbmjdhgaaDoorBFnThresholds23
namespace Go.Proofs.YtmoemabbmjdhgaaDoor.Q
open Go.RowKit Go.Proofs.YtmoemabbmjdhgaaDoorW.PrintWords Go.Proofs.YtmoemabbmjdhgaaDoorW.PrintLast Go.Proofs.YtmoemabbmjdhgaaDoorW.PrintMore
attribute [local go_sem] max2_int min2_int max_two min_two max_three min_three max_four min_four neB_f
set_option linter.unusedVariables false
set_option maxHeartbeats 8000000
set_option maxRecDepth 100000
set_option linter.unusedSimpArgs false
mutual
def laws_FnThresholds.j0 : Nat → Int → Bool → List Int → Bool → Bool → Int → List Int → Option (Bool)
 | 0, _, _, _, _, _, _, _ => none
 | k + 1, x6, x7, x14, x15, x109, x576000, x576001 => if x109 = true then (none) else (if x15 = true then (if 0 < (x14.length : Int) then (if 1 < (x14.length : Int) then ((impl_IsBetter.f k x576000 x576001 (rd x14 0) (rd x14 1)).bind fun bt596 => (if 2 < (x14.length : Int) then ((impl_IsBetter.f k x576000 x576001 (rd x14 1) (rd x14 2)).bind fun bt600 => (if bt596.2 = true then (if bt600.2 = true then (if bt596.1 = true then (if bt600.1 = true then (if 3 ≤ (x14.length : Int) then ((some (x14.take 3 : List Int)).bind fun y602 => (laws_FnThresholds.l0 k x6 x7 x14 y602 (y602.length : Int) 0 x576000 x576001)) else (none)) else (none)) else (none)) else (none)) else (none))) else (none))) else (none)) else (none)) else (laws_FnThresholds.j2 k x6 x7 x576000 x576001))
def laws_FnThresholds.j2 : Nat → Int → Bool → Int → List Int → Option (Bool)
 | 0, _, _, _, _ => none
 | k + 1, x6, x7, x576000, x576001 => if x7 = true then (laws_FnThresholds.l1 k x6 1 x576000 x576001) else (some true)
def laws_FnThresholds.l1 : Nat → Int → Int → Int → List Int → Option (Bool)
 | 0, _, _, _, _ => none
 | k + 1, x6, x26, x576000, x576001 => if x26 ≤ 10 then ((impl_LeastPlaces.f k x576000 x576001 x26).bind fun bt610 => (if (bt610.2 != (decide (x26 ≥ x6))) = true then (none) else (if bt610.2 = true then ((impl_IsPlaces.f k x576000 x576001 x26 bt610.1).bind fun bt614 => (if bt614.2 = true then (if bt614.1 = true then (laws_FnThresholds.l1 k x6 (wrap64 (x26 + 1)) x576000 x576001) else (none)) else (none))) else (laws_FnThresholds.l1 k x6 (wrap64 (x26 + 1)) x576000 x576001)))) else (some true)
def laws_FnThresholds.l0 : Nat → Int → Bool → List Int → List Int → Int → Int → Int → List Int → Option (Bool)
 | 0, _, _, _, _, _, _, _, _ => none
 | k + 1, x6, x7, x14, x148, x149, x150, x576000, x576001 => if x150 < x149 then (if 0 ≤ x150 then (if x150 < (x148.length : Int) then ((impl_IndifferentTo.f k x576000 x576001 (rd x148 x150)).bind fun bt607 => (if bt607.2 = true then (if 3 < (x14.length : Int) then (if 0 ≤ (rd x14 3) then (if (Int.tmod (shr .i64 bt607.1 (rd x14 3)) 2) = 1 then (laws_FnThresholds.l0 k x6 x7 x14 x148 x149 (wrap64 (x150 + 1)) x576000 x576001) else (none)) else (none)) else (none)) else (none))) else (none)) else (none)) else (laws_FnThresholds.j2 k x6 x7 x576000 x576001)
end
def laws_FnThresholds.f (k : Nat) (l0 : List Int) (l1 : List Int) : Option (Bool) := (laws_big.f l0 l1).bind fun t570 => (if t570 = true then (some true) else ((spec_DrawLeastThreshold.f k l0).bind fun bt571 => ((impl_LeastThreshold.f k bt571.1 bt571.2).bind fun bt576 => ((spec_LeastThreshold.f k bt571.1 bt571.2).bind fun bt578 => ((impl_IsSemiorder.f k bt571.1 bt571.2).bind fun bt580 => ((spec_IsSemiorder.f k bt571.1 bt571.2).bind fun bt582 => (if (bt576.2 != bt578.2) = true then (none) else (if bt576.1 = bt578.1 then (if (bt580.2 != bt582.2) = true then (none) else (if (bt580.1 != bt582.1) = true then (none) else (if (bt576.2 != bt580.1) = true then (none) else ((impl_IsOrder.f k bt571.1 bt571.2).bind fun t584 => (if (bt580.2 != t584) = true then (none) else ((impl_ThreeOneOf.f k bt571.1 bt571.2).bind fun bt585 => ((spec_ThreeOneOf.f k bt571.1 bt571.2).bind fun bt589 => (if (bt585.2 != bt589.2) = true then (none) else ((laws_vSame.f k bt585.1 bt589.1).bind fun t593 => (if t593 = true then (if bt585.2 = true then (laws_FnThresholds.j0 k bt576.1 bt576.2 bt585.1 bt585.2 bt580.1 bt571.1 bt571.2) else (laws_FnThresholds.j0 k bt576.1 bt576.2 bt585.1 bt585.2 false bt571.1 bt571.2)) else (none))))))))))) else (none)))))))))
theorem laws_FnThresholds.mono_l : ∀ k, (∀ y0 y1 y2 y3 y4 y5 y6, LeO (laws_FnThresholds.j0 k y0 y1 y2 y3 y4 y5 y6) (laws_FnThresholds.j0 (k + 1) y0 y1 y2 y3 y4 y5 y6)) ∧ (∀ y0 y1 y2 y3, LeO (laws_FnThresholds.j2 k y0 y1 y2 y3) (laws_FnThresholds.j2 (k + 1) y0 y1 y2 y3)) ∧ (∀ y0 y1 y2 y3, LeO (laws_FnThresholds.l1 k y0 y1 y2 y3) (laws_FnThresholds.l1 (k + 1) y0 y1 y2 y3)) ∧ (∀ y0 y1 y2 y3 y4 y5 y6 y7, LeO (laws_FnThresholds.l0 k y0 y1 y2 y3 y4 y5 y6 y7) (laws_FnThresholds.l0 (k + 1) y0 y1 y2 y3 y4 y5 y6 y7))
 | 0 => ⟨fun _ _ _ _ _ _ _ r h => by simp [laws_FnThresholds.j0] at h, fun _ _ _ _ r h => by simp [laws_FnThresholds.j2] at h, fun _ _ _ _ r h => by simp [laws_FnThresholds.l1] at h, fun _ _ _ _ _ _ _ _ r h => by simp [laws_FnThresholds.l0] at h⟩
 | k + 1 => by
  obtain ⟨ih0, ih1, ih2, ih3⟩ := laws_FnThresholds.mono_l k
  refine ⟨?_, ?_, ?_, ?_⟩ <;> intros
  unfold laws_FnThresholds.j0
  rotate_left
  unfold laws_FnThresholds.j2
  rotate_left
  unfold laws_FnThresholds.l1
  rotate_left
  unfold laws_FnThresholds.l0
  rotate_left
  all_goals repeat' (with_reducible first|apply ih0|apply ih1|apply ih2|apply ih3|apply impl_IndifferentTo.mono|apply impl_IsBetter.mono|apply impl_IsOrder.mono|apply impl_IsPlaces.mono|apply impl_IsSemiorder.mono|apply impl_LeastPlaces.mono|apply impl_LeastThreshold.mono|apply impl_ThreeOneOf.mono|apply laws_vSame.mono|apply spec_DrawLeastThreshold.mono|apply spec_IsSemiorder.mono|apply spec_LeastThreshold.mono|apply spec_ThreeOneOf.mono|apply LeO.refl|apply LeO.none|apply LeO.ite|apply LeO.bind|intro)
theorem laws_FnThresholds.mono : ∀ a0 a1 k, LeO (laws_FnThresholds.f k a0 a1) (laws_FnThresholds.f (k + 1) a0 a1) := by
 intro a0 a1 k
 obtain ⟨ih0, ih1, ih2, ih3⟩ := laws_FnThresholds.mono_l k
 unfold laws_FnThresholds.f
 repeat' (with_reducible first|apply ih0|apply ih1|apply ih2|apply ih3|apply impl_IndifferentTo.mono|apply impl_IsBetter.mono|apply impl_IsOrder.mono|apply impl_IsPlaces.mono|apply impl_IsSemiorder.mono|apply impl_LeastPlaces.mono|apply impl_LeastThreshold.mono|apply impl_ThreeOneOf.mono|apply laws_vSame.mono|apply spec_DrawLeastThreshold.mono|apply spec_IsSemiorder.mono|apply spec_LeastThreshold.mono|apply spec_ThreeOneOf.mono|apply LeO.refl|apply LeO.none|apply LeO.ite|apply LeO.bind|intro)
def laws_FnThresholds.T15 : Bool × List (List Nat × List Nat) := (true, [([], []), ([], []), ([1], [1]), ([2], [2]), ([], []), ([4], [4]), ([5], [5]), ([0, 3, 6], [0, 3, 6]), ([7], [7]), ([8], [8]), ([8], [8]), ([9, 7, 0, 1, 2, 3, 4, 5, 6, 7, 8, 9], [9]), ([10, 11, 0, 1, 2, 3, 4, 5, 6, 7, 8, 9, 10, 11], [10])])
def laws_FnThresholds.B15 : List Nat := [0, 0, 2, 6, 0, 16, 48, 127, 255, 511, 511, 1023, 4095]
theorem laws_FnThresholds.tab15 : rtab .any (opsOf Tryd.f3 15) = laws_FnThresholds.T15 := by kernel_rfl
theorem laws_FnThresholds.bits15 : waitsOk laws_FnThresholds.T15.2 laws_FnThresholds.B15 = true := by kernel_rfl
def laws_FnThresholds.T16 : Bool × List (List Nat × List Nat) := (true, [([], []), ([], []), ([1], [1]), ([2], [2]), ([], []), ([4], [4]), ([5], [5]), ([0, 3, 6], [0, 3, 6]), ([7], [7]), ([8], [8]), ([8], [8]), ([9, 7, 0, 1, 2, 3, 4, 5, 6, 7, 8, 9], [9]), ([10, 11, 0, 1, 2, 3, 4, 5, 6, 7, 8, 9, 10, 11], [10])])
def laws_FnThresholds.B16 : List Nat := [0, 0, 2, 6, 0, 16, 48, 127, 255, 511, 511, 1023, 4095]
theorem laws_FnThresholds.tab16 : rtab .any (opsOf Tryd.f3 16) = laws_FnThresholds.T16 := by kernel_rfl
theorem laws_FnThresholds.bits16 : waitsOk laws_FnThresholds.T16.2 laws_FnThresholds.B16 = true := by kernel_rfl
theorem laws_FnThresholds.calls (k : Nat) (A0 : Option Addr) (c0 : Nat) (l0 : List Int) (A1 : Option Addr) (c1 : Nat) (l1 : List Int) (r : Bool) (w : World) (hr0 : Kd.C (Kd.int .u8) w A0 l0.length l0) (hc0 : l0.length ≤ c0) (hr1 : Kd.C (Kd.int .u8) w A1 l1.length l1) (hc1 : l1.length ≤ c1) (hTAB : Tab w) (h : laws_FnThresholds.f k l0 l1 = some r) :
  Calls Tryd.prog 3 #[.slice A0 l0.length c0, .slice A1 l1.length c1] w fun e w' => e = .returned (.bool r) ∧ Below w.heap.size w w' := by
 have HTAB := mkA hTAB
 clear hTAB
 have hu26 := Tryd.underlying26
 have HR0 := mkA hr0
 have HC0 := mkA hc0
 clear hr0 hc0
 have HR1 := mkA hr1
 have HC1 := mkA hc1
 clear hr1 hc1
 have HB := mkA (Below.refl w.heap.size w)
 have H := h
 clear h
 unfold laws_FnThresholds.f at H
 obtain ⟨t570, A3, H⟩ := obE H
 by_cases c4 : t570 = true
 ·subst c4
  replace H := ifT H
  obtain rfl := Option.some.inj H
  go_enter Tryd.func3, Tryd.ntmps3
  go_wp2_with (first | ((with_reducible refine gate_callee (f := 4) rfl ?_); refine goesQ (some 33) Tryd.func4 #[.slice A0 l0.length c0, .slice A1 l1.length c1] ?_; (with_reducible refine (laws_big.calls _ _ l0 _ _ l1 true _ ?s1 ?s2 ?s3 ?s4 A3.out).mono ?_); (case s1 => repeat (first | exact HR0.out | (with_reducible refine Kd.C_alloc ?_ _) | (with_reducible refine Kd.C_drewN ?_ _) | (with_reducible refine Kd.C_drew ?_))); (case s2 => exact HC0.out); (case s3 => repeat (first | exact HR1.out | (with_reducible refine Kd.C_alloc ?_ _) | (with_reducible refine Kd.C_drewN ?_ _) | (with_reducible refine Kd.C_drew ?_))); (case s4 => exact HC1.out); rintro e w' ⟨rfl, ⟨nd, rfl⟩⟩; refine ⟨_, rfl, ?_⟩))
  go_ret
  exact ⟨eqE, bel_g HB.out⟩
 ·replace c4 := Bool.eq_false_iff.mpr c4
  subst c4
  replace H := ifF H
  obtain ⟨⟨t571, t572⟩, A5, H⟩ := obE H
  dsimp only at H
  obtain ⟨⟨t576, t577⟩, A6, H⟩ := obE H
  dsimp only at H
  obtain ⟨⟨t578, t579⟩, A7, H⟩ := obE H
  dsimp only at H
  obtain ⟨⟨t580, t581⟩, A8, H⟩ := obE H
  dsimp only at H
  obtain ⟨⟨t582, t583⟩, A9, H⟩ := obE H
  dsimp only at H
  obtain ⟨c10, H⟩ := itMP H
  have c10b0 : (t577 != t579) = false := by simpa using c10
  (try (have c10b1 : decide (t577 = t579) = true := by simpa using c10))
  (try (have c10b2 : (t577 == t579) = true := by simpa using c10))
  clear c10
  obtain ⟨c11, H⟩ := itNP H
  have c11b0 := beq_iff_eq.mpr c11
  have c11b1 := bne_eq_false_iff_eq.mpr c11
  clear c11
  obtain ⟨c12, H⟩ := itMP H
  have c12b0 : (t581 != t583) = false := by simpa using c12
  (try (have c12b1 : decide (t581 = t583) = true := by simpa using c12))
  (try (have c12b2 : (t581 == t583) = true := by simpa using c12))
  clear c12
  obtain ⟨c13, H⟩ := itMP H
  have c13b0 : (t580 != t582) = false := by simpa using c13
  (try (have c13b1 : decide (t580 = t582) = true := by simpa using c13))
  (try (have c13b2 : (t580 == t582) = true := by simpa using c13))
  clear c13
  obtain ⟨c14, H⟩ := itMP H
  have c14b0 : (t577 != t580) = false := by simpa using c14
  (try (have c14b1 : decide (t577 = t580) = true := by simpa using c14))
  (try (have c14b2 : (t577 == t580) = true := by simpa using c14))
  clear c14
  obtain ⟨t584, A15, H⟩ := obE H
  obtain ⟨c16, H⟩ := itMP H
  have c16b0 : (t581 != t584) = false := by simpa using c16
  (try (have c16b1 : decide (t581 = t584) = true := by simpa using c16))
  (try (have c16b2 : (t581 == t584) = true := by simpa using c16))
  clear c16
  obtain ⟨⟨t585, t588⟩, A17, H⟩ := obE H
  dsimp only at H
  obtain ⟨⟨t589, t592⟩, A18, H⟩ := obE H
  dsimp only at H
  have HC19 := mkA H
  clear H
  go_enter Tryd.func3, Tryd.ntmps3
  go_upto_region 12 with (first | ((with_reducible refine gate_callee (f := 4) rfl ?_); refine goesQ (some 33) Tryd.func4 #[.slice A0 l0.length c0, .slice A1 l1.length c1] ?_; (with_reducible refine (laws_big.calls _ _ l0 _ _ l1 false _ ?s1 ?s2 ?s3 ?s4 A3.out).mono ?_); (case s1 => repeat (first | exact HR0.out | (with_reducible refine Kd.C_alloc ?_ _) | (with_reducible refine Kd.C_drewN ?_ _) | (with_reducible refine Kd.C_drew ?_))); (case s2 => exact HC0.out); (case s3 => repeat (first | exact HR1.out | (with_reducible refine Kd.C_alloc ?_ _) | (with_reducible refine Kd.C_drewN ?_ _) | (with_reducible refine Kd.C_drew ?_))); (case s4 => exact HC1.out); rintro e w' ⟨rfl, ⟨nd, rfl⟩⟩; refine ⟨_, rfl, ?_⟩) | ((with_reducible refine gate_callee (f := 5) rfl ?_); refine goesQ (some 35) Tryd.func5 #[.slice A0 l0.length c0] ?_; (with_reducible refine (spec_DrawLeastThreshold.calls k _ _ l0 t571 t572 _ ?s1 ?s2 A5.out).mono ?_); (case s1 => repeat (first | exact HR0.out | (with_reducible refine Kd.C_alloc ?_ _) | (with_reducible refine Kd.C_drewN ?_ _) | (with_reducible refine Kd.C_drew ?_))); (case s2 => exact HC0.out); rintro e w20 ⟨v573, rfl, ho0, hb⟩; refine ⟨_, rfl, ?_⟩; have HO574 := rLo ho0 HB; replace HB := bst HB hb; clear hb ho0) | ((with_reducible refine gate_dst (N := 5) rfl ?_); refine boxG HB #[.int .i64 0, .slice none 0 0] 26 ?_; intro gb575 hg w21 BK575 GE575 hb; replace HO574 := rB HO574 hb; replace HB := bst HB hb; clear hb hg; obtain ⟨_, _, _, _⟩ := blk2 BK575; obtain ⟨Ao23, co23, rfl⟩ := Kd.R_slice HO574.out) | ((with_reducible refine gate_callee (f := 6) rfl ?_); refine goesQ (some 38) Tryd.func6 #[.agg #[.int .i64 t571, .slice Ao23 t572.length co23]] ?_; (with_reducible refine (impl_LeastThreshold.calls k t571 _ _ t572 t576 t577 _ ?_ ?_ ?_ A6.out).mono ?_); exact rCF HO574 BK575; exact rL HO574; exact Tab.below HTAB.out (bel_g HB.out); rintro e w24 ⟨rfl, hb⟩; refine ⟨_, rfl, ?_⟩; replace HO574 := mkA (Kd.R_below (rFg HO574 BK575) hb); replace BK575 := blkS BK575 hb; replace HB := bst HB hb; clear hb; obtain ⟨_, _, _, _⟩ := blk2 BK575) | ((with_reducible refine gate_callee (f := 7) rfl ?_); refine goesQ (some 43) Tryd.func7 #[.agg #[.int .i64 t571, .slice Ao23 t572.length co23]] ?_; (with_reducible refine (spec_LeastThreshold.calls k t571 _ _ t572 t578 t579 _ ?_ ?_ A7.out).mono ?_); exact rC HO574; exact rL HO574; rintro e w26 ⟨rfl, hb⟩; refine ⟨_, rfl, ?_⟩; replace HO574 := rB HO574 hb; replace BK575 := blkB BK575 hb; replace HB := bst HB hb; clear hb; obtain ⟨_, _, _, _⟩ := blk2 BK575) | ((with_reducible refine gate_callee (f := 8) rfl ?_); refine goesQ (some 48) Tryd.func8 #[.agg #[.int .i64 t571, .slice Ao23 t572.length co23]] ?_; (with_reducible refine (impl_IsSemiorder.calls k t571 _ _ t572 t580 t581 _ ?_ ?_ ?_ A8.out).mono ?_); exact rC HO574; exact rL HO574; exact Tab.below HTAB.out (bel_g HB.out); rintro e w28 ⟨rfl, hb⟩; refine ⟨_, rfl, ?_⟩; replace HO574 := rB HO574 hb; replace BK575 := blkB BK575 hb; replace HB := bst HB hb; clear hb; obtain ⟨_, _, _, _⟩ := blk2 BK575) | ((with_reducible refine gate_callee (f := 9) rfl ?_); refine goesQ (some 53) Tryd.func9 #[.agg #[.int .i64 t571, .slice Ao23 t572.length co23]] ?_; (with_reducible refine (spec_IsSemiorder.calls k t571 _ _ t572 t582 t583 _ ?_ ?_ A9.out).mono ?_); exact rC HO574; exact rL HO574; rintro e w30 ⟨rfl, hb⟩; refine ⟨_, rfl, ?_⟩; replace HO574 := rB HO574 hb; replace BK575 := blkB BK575 hb; replace HB := bst HB hb; clear hb; obtain ⟨_, _, _, _⟩ := blk2 BK575) | (go_at_call 10; (with_reducible refine (impl_IsOrder.calls k t571 _ _ t572 t584 _ ?_ ?_ ?_ A15.out).mono ?_); exact rC HO574; exact rL HO574; exact Tab.below HTAB.out (bel_g HB.out); rintro e w32 ⟨rfl, hb⟩; replace HO574 := rB HO574 hb; replace BK575 := blkB BK575 hb; replace HB := bst HB hb; clear hb; obtain ⟨_, _, _, _⟩ := blk2 BK575) | ((with_reducible refine gate_callee (f := 11) rfl ?_); refine goesQ (some 87) Tryd.func11 #[.agg #[.int .i64 t571, .slice Ao23 t572.length co23]] ?_; (with_reducible refine (impl_ThreeOneOf.calls k t571 _ _ t572 t585 t588 _ ?_ ?_ ?_ A17.out).mono ?_); exact rC HO574; exact rL HO574; exact Tab.below HTAB.out (bel_g HB.out); rintro e w34 ⟨v586, rfl, ho0, hb⟩; refine ⟨_, rfl, ?_⟩; have HO587 := rLo (rN ho0 HO574) HB; replace HO574 := rE HO574 ho0 hb; replace BK575 := blkB BK575 hb; replace HB := bst HB hb; clear hb ho0; obtain ⟨_, _, _, _⟩ := blk2 BK575) | ((with_reducible refine gate_callee (f := 12) rfl ?_); refine goesQ (some 92) Tryd.func12 #[.agg #[.int .i64 t571, .slice Ao23 t572.length co23]] ?_; (with_reducible refine (spec_ThreeOneOf.calls k t571 _ _ t572 t589 t592 _ ?_ ?_ A18.out).mono ?_); exact rC HO574; exact rL HO574; rintro e w36 ⟨v590, rfl, ho0, hb⟩; refine ⟨_, rfl, ?_⟩; have HO591 := rLo (rN (rN ho0 HO574) HO587) HB; replace HO574 := rE HO574 ho0 hb; replace HO587 := rE HO587 ho0 hb; replace BK575 := blkB BK575 hb; replace HB := bst HB hb; clear hb ho0))
  (try simp only [Act.put, List.setIfInBounds_toArray, List.set_cons_zero, List.set_cons_succ])
  go_cut [109] (fun v109 wc => ∃ (kq : Nat) (x109_18 : Bool), v109 = .bool x109_18 ∧ Fc (laws_FnThresholds.j0 kq t576 t577 t585 t588 x109_18 t571 t572 = some r) ∧ Fc (kq ≤ k) ∧ Fc (Kd.R (Kd.int .i64) 3 wc w.heap.size (fun k_ => some k_ ≠ ((.slice Ao23 t572.length co23) : Value).ownBlock) v586 t585) ∧ Fc (Kd.R (Kd.int .i64) 3 wc w.heap.size (fun k_ => some k_ ≠ (v586 : Value).ownBlock) (.slice Ao23 t572.length co23) t572) ∧ Fc (wc.heap[gb575]? = some (.cells #[.int .i64 t571, (.slice Ao23 t572.length co23)] 26 (0, 0))) ∧ Fc (Below w.heap.size w wc))
  case first =>
   have H := HC19.out
   clear HC19
   obtain ⟨c37, H⟩ := itMP H
   have c37b0 : (t588 != t592) = false := by simpa using c37
   (try (have c37b1 : decide (t588 = t592) = true := by simpa using c37))
   (try (have c37b2 : (t588 == t592) = true := by simpa using c37))
   clear c37
   (first | rw [c37b0] | (simp only [i64_w, i32_w]; rw [c37b0]) | skip)
   obtain ⟨t593, A38, H⟩ := obE H
   by_cases c39 : t593 = true
   ·subst c39
    replace H := ifT H
    by_cases c40 : t588 = true
    ·subst c40
     replace H := ifT H
     have H' := mkA H
     clear H
     obtain ⟨Ao41, co41, rfl⟩ := Kd.R_slice HO587.out
     obtain ⟨Ao42, co42, rfl⟩ := Kd.R_slice HO591.out
     go_wp2_with (first | (go_at_call 13; (with_reducible refine (laws_vSame.calls k _ _ t585 _ _ t589 true _ ?_ ?_ ?_ ?_ A38.out).mono ?_); exact rC HO587; exact rL HO587; exact rC HO591; exact rL HO591; rintro e w' ⟨rfl, ⟨nd, rfl⟩⟩))
     go_meet
     case rel => exact ⟨_, (t580), eqS, H', ⟨by first | omega | exact Nat.le_refl _⟩, ⟨Kd.R_g (Kd.R_mono HO587.out (fun _ hk => hk.1.2))⟩, ⟨Kd.R_g (Kd.R_mono HO574.out (fun _ hk => hk.1.2))⟩, bg BK575, hbg HB⟩
    ·replace c40 := Bool.eq_false_iff.mpr c40
     subst c40
     replace H := ifF H
     have H' := mkA H
     clear H
     obtain ⟨Ao43, co43, rfl⟩ := Kd.R_slice HO587.out
     obtain ⟨Ao44, co44, rfl⟩ := Kd.R_slice HO591.out
     go_wp2_with (first | (go_at_call 13; (with_reducible refine (laws_vSame.calls k _ _ t585 _ _ t589 true _ ?_ ?_ ?_ ?_ A38.out).mono ?_); exact rC HO587; exact rL HO587; exact rC HO591; exact rL HO591; rintro e w' ⟨rfl, ⟨nd, rfl⟩⟩))
     go_meet
     case rel => exact ⟨_, (false), eqS, H', ⟨by first | omega | exact Nat.le_refl _⟩, ⟨Kd.R_g (Kd.R_mono HO587.out (fun _ hk => hk.1.2))⟩, ⟨Kd.R_g (Kd.R_mono HO574.out (fun _ hk => hk.1.2))⟩, bg BK575, hbg HB⟩
   ·replace c39 := Bool.eq_false_iff.mpr c39
    subst c39
    replace H := ifF H
    exact absurd H (by simp)
  case rest =>
   clear HC19
   try clear c1
   try clear c4
   try clear c10
   try clear c10b0
   try clear c10b1
   try clear c10b2
   try clear c11
   try clear c11b0
   try clear c11b1
   try clear c12
   try clear c12b0
   try clear c12b1
   try clear c12b2
   try clear c13
   try clear c13b0
   try clear c13b1
   try clear c13b2
   try clear c14
   try clear c14b0
   try clear c14b1
   try clear c14b2
   try clear c16
   try clear c16b0
   try clear c16b1
   try clear c16b2
   try clear c37
   try clear c37b0
   try clear c37b1
   try clear c37b2
   try clear c39
   try clear c40
   obtain ⟨kq, x109_18, rfl, HA, HJ18, HO_14, HO_576001, BK575, HB⟩ := hcut
   cases kq with
   | zero => exact absurd HA.out (by simp [laws_FnThresholds.j0])
   | succ kj18 =>
    have H := HA.out
    clear HA
    simp only [laws_FnThresholds.j0] at H
    by_cases c45 : x109_18 = true
    ·subst c45
     replace H := ifT H
     exact absurd H (by simp)
    ·replace c45 := Bool.eq_false_iff.mpr c45
     subst c45
     replace H := ifF H
     have HC46 := mkA H
     clear H
     go_upto_if 110 with (fail)
     go_cut [] (fun wc => ∃ (kq : Nat), Fc (laws_FnThresholds.j2 kq t576 t577 t571 t572 = some r) ∧ Fc (kq ≤ kj18) ∧ Fc (Kd.R (Kd.int .i64) 3 wc w.heap.size (fun _ => True) (.slice Ao23 t572.length co23) t572) ∧ Fc (wc.heap[gb575]? = some (.cells #[.int .i64 t571, (.slice Ao23 t572.length co23)] 26 (0, 0))) ∧ Fc (Below w.heap.size w wc))
     case first =>
      have H := HC46.out
      clear HC46
      by_cases c47 : t588 = true
      ·subst c47
       replace H := ifT H
       obtain ⟨c48, H⟩ := itNP H
       have c48b0 := decide_eq_true c48
       have c48b1 : decide (0 < t585.length) = true := decide_eq_true (by omega)
       clear c48
       (first | rw [c48b0] | (simp only [i64_w, i32_w]; rw [c48b0]) | skip)
       obtain ⟨c49, H⟩ := itNP H
       have c49b0 := decide_eq_true c49
       have c49b1 : decide (1 < t585.length) = true := decide_eq_true (by omega)
       clear c49
       obtain ⟨⟨t596, t597⟩, A50, H⟩ := obE H
       dsimp only at H
       obtain ⟨c51, H⟩ := itNP H
       have c51b0 := decide_eq_true c51
       have c51b1 : decide (2 < t585.length) = true := decide_eq_true (by omega)
       clear c51
       obtain ⟨⟨t600, t601⟩, A52, H⟩ := obE H
       dsimp only at H
       by_cases c53 : t597 = true
       ·subst c53
        replace H := ifT H
        by_cases c54 : t601 = true
        ·subst c54
         replace H := ifT H
         by_cases c55 : t596 = true
         ·subst c55
          replace H := ifT H
          by_cases c56 : t600 = true
          ·subst c56
           replace H := ifT H
           obtain ⟨c57b0, c57b1, H⟩ := itNQ H
           obtain ⟨y602, Ny602, H⟩ := nmE H
           have H' := mkA H
           clear H
           try go_wp2
           replace HO_14 := mkA (Kd.R_drew HO_14.out)
           replace HO_576001 := mkA (Kd.R_drew HO_576001.out)
           replace BK575 := mkA (blk_drew BK575.out)
           replace HB := mkA (below_drew1 HB.out)
           obtain ⟨Ao59, co59, eo59⟩ := Kd.R_slice HO_14.out
           (first | subst eo59 | (injection eo59 with f1_ f2_ f3_; have f4_ := f1_.symm; have f5_ := f3_.symm; clear f1_ f2_ f3_; subst f4_; subst f5_))
           have p594 : 0 ≤ (0 : Int) := (by omega)
           have q594 : 0 < (t585.length : Int) := ofd
           obtain ⟨ad594, e594, hx594_0⟩ := Kd.at_int (Kd.R_reads' HO_14.out).2.2 0 p594 q594
           cases e594
           have qi594 : (0 < t585.length) = True := eq_true (by omega)
           (try rw [show ((0 : Int)).toNat = 0 from rfl] at hx594_0)
           (try rw [Addr.add_zero'] at hx594_0)
           replace p594 := eq_true p594
           replace q594 := eq_true q594
           have p595 : 0 ≤ (1 : Int) := (by omega)
           have q595 : 1 < (t585.length : Int) := ofd
           obtain ⟨ad595, e595, hx595_0⟩ := Kd.at_int (Kd.R_reads' HO_14.out).2.2 1 p595 q595
           obtain rfl : ad594 = ad595 := (by injection e595)
           (try simp only [show (1 : Int).toNat = 1 from rfl, Nat.reduceMul, Nat.reduceEqDiff, Go.Addr.add, ↓reduceIte] at hx595_0)
           have qi595 : (1 < t585.length) = True := eq_true (by omega)
           (try rw [show ((1 : Int)).toNat = 1 from rfl] at hx595_0)
           replace p595 := eq_true p595
           replace q595 := eq_true q595
           refine start_ (n := 13) (S := fun w' => w'.cell? ⟨gb575, 0, none⟩ = some (.int .i64 t571) ∧ w'.cell? ⟨gb575, 1, none⟩ = some (.slice Ao23 t572.length co23) ∧ w'.cell? ad594 = some (.int .i64 (rd t585 0)) ∧ w'.cell? ⟨ad594.block, ad594.off + 1, none⟩ = some (.int .i64 (rd t585 1))) (ds := []) (bm 13 0) (by kernel_rfl) rfl (by kernel_rfl) ⟨(blk_cell BK575.out 0).trans rfl, (blk_cell BK575.out 1).trans rfl, hx594_0, hx595_0⟩ (fun hHeld => ?_); refine with_tabW laws_FnThresholds.tab15 laws_FnThresholds.bits15 (fun HT_ HW_ => ?_)
           generalize wc.drew = w58 at HO_14 HO_576001 BK575 HB hx594_0 hx595_0 hHeld ⊢
           refine purW 1 113 13 2 HT_ ?_
           refine purW 2 114 13 6 HT_ ?_
           refine purW 4 116 13 22 HT_ ?_
           refine purW 5 117 13 54 HT_ ?_
           refine takeW 0 (some 112) (bm 13 55) HT_ HW_ hHeld ?_
           refine takeW 3 (some 115) (bm 13 63) HT_ HW_ hHeld ?_
           refine takeW 6 (some 118) (bm 13 127) HT_ HW_ hHeld ?_
           refine oneW 7 (some 119) (bm 13 255) HT_ (fun K hK => ?_)
           refine goesR Tryd.func14 #[.agg #[.int .i64 t571, .slice Ao23 t572.length co23], .int .i64 (rd t585 0), .int .i64 (rd t585 1)] ?_
           with_reducible refine (impl_IsBetter.calls kj18 t571 _ _ t572 (rd t585 0) (rd t585 1) true true _ ?s1 ?s2 A50.out).mono ?_
           (case s1 => exact rC HO_576001)
           (case s2 => exact rL HO_576001)
           rintro e w60 ⟨rfl, hb⟩
           have HS2_ := (hb.cell (World.block_lt_of_cell? _ _ (hHeld.2.2.1))).trans (hHeld.2.2.1)
           have HS3_ := (hb.cell (World.block_lt_of_cell? _ _ (hHeld.2.2.2))).trans (hHeld.2.2.2)
           refine ⟨_, rfl, ?_⟩
           replace HO_14 := rB HO_14 hb
           replace HO_576001 := rB HO_576001 hb
           replace BK575 := blkB BK575 hb
           replace HB := bst HB hb
           (try clear hb)
           (try clear hb2)
           (try clear hk)
           (try clear hi)
           refine hK.out _ _ ⟨(blk_cell BK575.out 0).trans rfl, (blk_cell BK575.out 1).trans rfl, HS2_, HS3_⟩ (fun hHeld => ?_)
           clear hK K
           refine normW 119 ?_
           refine purW 8 111 13 511 HT_ ?_
           refine purW 9 120 13 1023 HT_ ?_
           refine purW 10 121 13 2047 HT_ ?_
           refine purW 11 18 13 4095 HT_ ?_
           refine purW 12 19 13 8191 HT_ ?_
           refine doneW HT_ ?_
           try go_wp2
           replace HO_14 := mkA (Kd.R_drew HO_14.out)
           replace HO_576001 := mkA (Kd.R_drew HO_576001.out)
           replace BK575 := mkA (blk_drew BK575.out)
           replace HB := mkA (below_drew1 HB.out)
           have p598 : 0 ≤ (1 : Int) := (by omega)
           have q598 : 1 < (t585.length : Int) := ofd
           obtain ⟨ad598, e598, hx598_0⟩ := Kd.at_int (Kd.R_reads' HO_14.out).2.2 1 p598 q598
           obtain rfl : ad594 = ad598 := (by injection e598)
           (try simp only [show (1 : Int).toNat = 1 from rfl, Nat.reduceMul, Nat.reduceEqDiff, Go.Addr.add, ↓reduceIte] at hx598_0)
           have qi598 : (1 < t585.length) = True := eq_true (by omega)
           (try rw [show ((1 : Int)).toNat = 1 from rfl] at hx598_0)
           replace p598 := eq_true p598
           replace q598 := eq_true q598
           have p599 : 0 ≤ (2 : Int) := (by omega)
           have q599 : 2 < (t585.length : Int) := ofd
           obtain ⟨ad599, e599, hx599_0⟩ := Kd.at_int (Kd.R_reads' HO_14.out).2.2 2 p599 q599
           obtain rfl : ad594 = ad599 := (by injection e599)
           (try simp only [show (2 : Int).toNat = 2 from rfl, Nat.reduceMul, Nat.reduceEqDiff, Go.Addr.add, ↓reduceIte] at hx599_0)
           have qi599 : (2 < t585.length) = True := eq_true (by omega)
           (try rw [show ((2 : Int)).toNat = 2 from rfl] at hx599_0)
           replace p599 := eq_true p599
           replace q599 := eq_true q599
           refine start_ (n := 13) (S := fun w' => w'.cell? ⟨gb575, 0, none⟩ = some (.int .i64 t571) ∧ w'.cell? ⟨gb575, 1, none⟩ = some (.slice Ao23 t572.length co23) ∧ w'.cell? ⟨ad594.block, ad594.off + 1, none⟩ = some (.int .i64 (rd t585 1)) ∧ w'.cell? ⟨ad594.block, ad594.off + 2, none⟩ = some (.int .i64 (rd t585 2))) (ds := []) (bm 13 0) (by kernel_rfl) rfl (by kernel_rfl) ⟨(blk_cell BK575.out 0).trans rfl, (blk_cell BK575.out 1).trans rfl, hx598_0, hx599_0⟩ (fun hHeld => ?_); refine with_tabW laws_FnThresholds.tab16 laws_FnThresholds.bits16 (fun HT_ HW_ => ?_)
           generalize w60.drew = w61 at HO_14 HO_576001 BK575 HB hx598_0 hx599_0 hHeld ⊢
           refine purW 1 124 13 2 HT_ ?_
           refine purW 2 125 13 6 HT_ ?_
           refine purW 4 127 13 22 HT_ ?_
           refine purW 5 128 13 54 HT_ ?_
           refine takeW 0 (some 123) (bm 13 55) HT_ HW_ hHeld ?_
           refine takeW 3 (some 126) (bm 13 63) HT_ HW_ hHeld ?_
           refine takeW 6 (some 129) (bm 13 127) HT_ HW_ hHeld ?_
           refine oneW 7 (some 130) (bm 13 255) HT_ (fun K hK => ?_)
           refine goesR Tryd.func14 #[.agg #[.int .i64 t571, .slice Ao23 t572.length co23], .int .i64 (rd t585 1), .int .i64 (rd t585 2)] ?_
           with_reducible refine (impl_IsBetter.calls kj18 t571 _ _ t572 (rd t585 1) (rd t585 2) true true _ ?s1 ?s2 A52.out).mono ?_
           (case s1 => exact rC HO_576001)
           (case s2 => exact rL HO_576001)
           rintro e w62 ⟨rfl, hb⟩
           have HS2_ := (hb.cell (World.block_lt_of_cell? _ _ (hHeld.2.2.1))).trans (hHeld.2.2.1)
           have HS3_ := (hb.cell (World.block_lt_of_cell? _ _ (hHeld.2.2.2))).trans (hHeld.2.2.2)
           refine ⟨_, rfl, ?_⟩
           replace HO_14 := rB HO_14 hb
           replace HO_576001 := rB HO_576001 hb
           replace BK575 := blkB BK575 hb
           replace HB := bst HB hb
           (try clear hb)
           (try clear hb2)
           (try clear hk)
           (try clear hi)
           refine hK.out _ _ ⟨(blk_cell BK575.out 0).trans rfl, (blk_cell BK575.out 1).trans rfl, HS2_, HS3_⟩ (fun hHeld => ?_)
           clear hK K
           refine normW 130 ?_
           refine purW 8 122 13 511 HT_ ?_
           refine purW 9 131 13 1023 HT_ ?_
           refine purW 10 132 13 2047 HT_ ?_
           refine purW 11 20 13 4095 HT_ ?_
           refine purW 12 21 13 8191 HT_ ?_
           refine doneW HT_ ?_
           have q63 : (3 : Int) ≤ ((t585.length : Int) : Int) := ofd
           obtain ⟨i063, hi063, _, hsz63, _⟩ := info_parts info3
           have hroom63 : t585.length ≤ co59 := (Kd.R_reads' HO_14.out).2.1
           have hC63 : Kd.C (Kd.int .i64) _ (some ad594) t585.length t585 := (Kd.R_reads' HO_14.out).2.2
           have hcut63 := cut_to (P := Tryd.prog) 24 3 .i64 Tryd.underlying24 hi063 (some ad594) t585.length co59 3 (by omega) q63 hroom63
           have hr63 := Kd.C_take (m := 3) hC63 (by omega)
           have hy63 : y602.length = (3 : Int).toNat := (by rw [Ny602.out, List.length_take]; omega)
           rw [← Ny602.out] at hr63
           rw [← hy63] at hcut63
           have HR605 := mkA hr63
           have HC605 := mkA (show y602.length ≤ co59 from by omega)
           clear hr63 hC63 hroom63 hi063 hsz63
           have KY63 := mkA hy63
           clear hy63
           have KL63 := mkA (show 3 ≤ t585.length from by omega)
           replace q63 := eq_true q63
           try go_wp2
           go_loopg [150] kj18 (fun kq v150 w' => ∃ (x150_2 : Int), v150 = .int .i64 x150_2 ∧ Fc (laws_FnThresholds.l0 kq t576 t577 t585 y602 (y602.length : Int) x150_2 t571 t572 = some r) ∧ Fc (kq ≤ kj18) ∧ Fc (Kd.R (Kd.int .i64) 3 w' w.heap.size (fun k_ => some k_ ≠ ((.slice Ao23 t572.length co23) : Value).ownBlock) (.slice (some ad594) t585.length co59) t585) ∧ Fc (Kd.R (Kd.int .i64) 3 w' w.heap.size (fun k_ => some k_ ≠ ((.slice (some ad594) t585.length co59) : Value).ownBlock) (.slice Ao23 t572.length co23) t572) ∧ Fc (w'.heap[gb575]? = some (.cells #[.int .i64 t571, (.slice Ao23 t572.length co23)] 26 (0, 0))) ∧ Fc (Kd.C (Kd.int .i64) w' (some ad594) y602.length y602) ∧ Fc (Below w.heap.size w w'))
           case atStart => exact ⟨(0), eqS, H', ⟨Nat.le_refl _⟩, rg HO_14, rg HO_576001, bg BK575, ⟨C_h HR605⟩, hbg HB⟩
           case round =>
            clear H'
            try clear c1
            try clear c4
            try clear c10
            try clear c10b0
            try clear c10b1
            try clear c10b2
            try clear c11
            try clear c11b0
            try clear c11b1
            try clear c12
            try clear c12b0
            try clear c12b1
            try clear c12b2
            try clear c13
            try clear c13b0
            try clear c13b1
            try clear c13b2
            try clear c14
            try clear c14b0
            try clear c14b1
            try clear c14b2
            try clear c16
            try clear c16b0
            try clear c16b1
            try clear c16b2
            try clear c37
            try clear c37b0
            try clear c37b1
            try clear c37b2
            try clear c39
            try clear c40
            try clear c45
            try clear c47
            try clear c48
            try clear c48b0
            try clear c48b1
            try clear c49
            try clear c49b0
            try clear c49b1
            try clear c51
            try clear c51b0
            try clear c51b1
            try clear c53
            try clear c54
            try clear c55
            try clear c56
            try clear c57
            try clear c57b0
            try clear c57b1
            try clear q63
            try clear hx594_0
            try clear hx595_0
            try clear hx598_0
            try clear hx599_0
            try clear p594
            try clear p595
            try clear p598
            try clear p599
            try clear q594
            try clear q595
            try clear q598
            try clear q599
            try clear q63
            obtain ⟨x150_2, rfl, HA, HK2, HO_14, HO_576001, BK575, HR605, HB⟩ := hrel
            cases gk with
            | zero => exact absurd HA.out (by simp [laws_FnThresholds.l0])
            | succ k2 =>
             have H := HA.out
             clear HA
             simp only [laws_FnThresholds.l0] at H
             rcases iteE H with ⟨c64b0, H⟩ | ⟨c64b0, H⟩
             ·obtain ⟨c65b0, H⟩ := itND H
              obtain ⟨c66b0, H⟩ := itND H
              obtain ⟨⟨t607, t608⟩, A67, H⟩ := obE H
              dsimp only at H
              by_cases c68 : t608 = true
              ·subst c68
               replace H := ifT H
               obtain ⟨c69, H⟩ := itNP H
               have c69b0 := decide_eq_true c69
               have c69b1 : decide (3 < t585.length) = true := decide_eq_true (by omega)
               clear c69
               obtain ⟨c70b0, c70b1, H⟩ := itNQ H
               obtain ⟨ji71, hji71⟩ : ∃ j_ : Int, (shr .i64 t607 (rd t585 3)) = j_ := ⟨_, rfl⟩
               first | rw [hji71] at H | simp only [hji71] at H
               (try rw [hji71] at A67)
               have hji71_ : (t607 / 2 ^ min (rd t585 3).toNat 64) = ji71 := hji71
               have hji71z : (rd t585 3) ≤ 64 → (t607 / 2 ^ (rd t585 3).toNat) = ji71 := shr_small hji71
               obtain ⟨c72, H⟩ := itNP H
               have c72b0 := beq_iff_eq.mpr c72
               have c72b1 := bne_eq_false_iff_eq.mpr c72
               clear c72
               have H' := mkA H
               clear H
               obtain ⟨p606, q606, ad606, e606, hx606_0⟩ := atI HR605.out x150_2
               obtain rfl : ad594 = ad606 := (by injection e606)
               try replace hx606_0 := (HB.out.cell (World.block_lt_of_cell? w _ hx606_0)).trans hx606_0
               obtain ⟨_, _, _, _⟩ := blk2 BK575
               go_wp2_with (first | ((with_reducible refine gate_callee (f := 15) rfl ?_); refine goesQ (some 157) Tryd.func15 #[.agg #[.int .i64 t571, .slice Ao23 t572.length co23], .int .i64 (rd y602 x150_2)] ?_; (with_reducible refine (impl_IndifferentTo.calls k2 t571 _ _ t572 (rd y602 x150_2) t607 true _ ?_ ?_ A67.out).mono ?_); exact rC HO_576001; exact rL HO_576001; rintro e w74 ⟨rfl, hb⟩; refine ⟨_, rfl, ?_⟩; replace HO_14 := rB HO_14 hb; replace HO_576001 := rB HO_576001 hb; replace BK575 := blkB BK575 hb; replace HR605 := mkA (Kd.C_below (C_h HR605) hb); replace HB := bst HB hb; clear hb; have p609 : 0 ≤ (3 : Int) := (by omega); have q609 : 3 < (t585.length : Int) := ofd; obtain ⟨ad609, e609, hx609_0⟩ := Kd.at_int (Kd.R_reads' HO_14.out).2.2 3 p609 q609; obtain rfl : ad594 = ad609 := (by injection e609); (try simp only [show (3 : Int).toNat = 3 from rfl, Nat.reduceMul, Nat.reduceEqDiff, Go.Addr.add, ↓reduceIte] at hx609_0); have qi609 : (3 < t585.length) = True := eq_true (by omega); (try rw [show ((3 : Int)).toNat = 3 from rfl] at hx609_0); replace p609 := eq_true p609; replace q609 := eq_true q609))
               go_roundg k2
               case measure => have := HJ18.out; have := HK2.out; omega
               case rel => exact ⟨(wrap64 (x150_2 + 1)), eqS, H', ⟨by have := HJ18.out; have := HK2.out; omega⟩, rg HO_14, rg HO_576001, bg BK575, ⟨C_h HR605⟩, hbg HB⟩
              ·replace c68 := Bool.eq_false_iff.mpr c68
               subst c68
               replace H := ifF H
               exact absurd H (by simp)
             ·have H' := mkA H
              clear H
              go_wp2
              go_meet
              case rel => exact ⟨_, H', ⟨by have := HJ18.out; have := HK2.out; first | omega | exact Nat.le_refl _⟩, ⟨Kd.R_g (Kd.R_mono HO_576001.out (fun _ hk => trivial))⟩, bg BK575, hbg HB⟩
          ·replace c56 := Bool.eq_false_iff.mpr c56
           subst c56
           replace H := ifF H
           exact absurd H (by simp)
         ·replace c55 := Bool.eq_false_iff.mpr c55
          subst c55
          replace H := ifF H
          exact absurd H (by simp)
        ·replace c54 := Bool.eq_false_iff.mpr c54
         subst c54
         replace H := ifF H
         exact absurd H (by simp)
       ·replace c53 := Bool.eq_false_iff.mpr c53
        subst c53
        replace H := ifF H
        exact absurd H (by simp)
      ·replace c47 := Bool.eq_false_iff.mpr c47
       subst c47
       replace H := ifF H
       have H' := mkA H
       clear H
       go_wp2
       go_meet
       case rel => exact ⟨_, H', ⟨by have := HJ18.out; first | omega | exact Nat.le_refl _⟩, ⟨Kd.R_g (Kd.R_mono HO_576001.out (fun _ hk => trivial))⟩, bg BK575, hbg HB⟩
     case rest =>
      clear HC46
      try clear c1
      try clear c4
      try clear c10
      try clear c10b0
      try clear c10b1
      try clear c10b2
      try clear c11
      try clear c11b0
      try clear c11b1
      try clear c12
      try clear c12b0
      try clear c12b1
      try clear c12b2
      try clear c13
      try clear c13b0
      try clear c13b1
      try clear c13b2
      try clear c14
      try clear c14b0
      try clear c14b1
      try clear c14b2
      try clear c16
      try clear c16b0
      try clear c16b1
      try clear c16b2
      try clear c37
      try clear c37b0
      try clear c37b1
      try clear c37b2
      try clear c39
      try clear c40
      try clear c45
      try clear c47
      try clear c48
      try clear c48b0
      try clear c48b1
      try clear c49
      try clear c49b0
      try clear c49b1
      try clear c51
      try clear c51b0
      try clear c51b1
      try clear c53
      try clear c54
      try clear c55
      try clear c56
      try clear c57
      try clear c57b0
      try clear c57b1
      try clear q63
      try clear c64b0
      try clear c65
      try clear c65b0
      try clear c66
      try clear c66b0
      try clear c68
      try clear c69
      try clear c69b0
      try clear c69b1
      try clear c70
      try clear c70b0
      try clear c70b1
      try clear c72
      try clear c72b0
      try clear c72b1
      try clear hx594_0
      try clear hx595_0
      try clear hx598_0
      try clear hx599_0
      try clear hx606_0
      try clear hx609_0
      try clear p594
      try clear p595
      try clear p598
      try clear p599
      try clear p606
      try clear p609
      try clear q594
      try clear q595
      try clear q598
      try clear q599
      try clear q606
      try clear q609
      try clear q63
      obtain ⟨kq, HA, HJ45, HO_576001, BK575, HB⟩ := hcut
      cases kq with
      | zero => exact absurd HA.out (by simp [laws_FnThresholds.j2])
      | succ kj45 =>
       have H := HA.out
       clear HA
       simp only [laws_FnThresholds.j2] at H
       by_cases c75 : t577 = true
       ·subst c75
        replace H := ifT H
        have H' := mkA H
        clear H
        go_wp2
        go_loopg [26] kj45 (fun kq v26 w' => ∃ (x26_3 : Int), v26 = .int .i64 x26_3 ∧ Fc (laws_FnThresholds.l1 kq t576 x26_3 t571 t572 = some r) ∧ Fc (kq ≤ kj45) ∧ Fc (Kd.R (Kd.int .i64) 3 w' w.heap.size (fun _ => True) (.slice Ao23 t572.length co23) t572) ∧ Fc (w'.heap[gb575]? = some (.cells #[.int .i64 t571, (.slice Ao23 t572.length co23)] 26 (0, 0))) ∧ Fc (Below w.heap.size w w'))
        case atStart => exact ⟨(1), eqS, H', ⟨Nat.le_refl _⟩, rg HO_576001, bg BK575, hbg HB⟩
        case round =>
         clear H'
         try clear c1
         try clear c4
         try clear c10
         try clear c10b0
         try clear c10b1
         try clear c10b2
         try clear c11
         try clear c11b0
         try clear c11b1
         try clear c12
         try clear c12b0
         try clear c12b1
         try clear c12b2
         try clear c13
         try clear c13b0
         try clear c13b1
         try clear c13b2
         try clear c14
         try clear c14b0
         try clear c14b1
         try clear c14b2
         try clear c16
         try clear c16b0
         try clear c16b1
         try clear c16b2
         try clear c37
         try clear c37b0
         try clear c37b1
         try clear c37b2
         try clear c39
         try clear c40
         try clear c45
         try clear c47
         try clear c48
         try clear c48b0
         try clear c48b1
         try clear c49
         try clear c49b0
         try clear c49b1
         try clear c51
         try clear c51b0
         try clear c51b1
         try clear c53
         try clear c54
         try clear c55
         try clear c56
         try clear c57
         try clear c57b0
         try clear c57b1
         try clear q63
         try clear c64b0
         try clear c65
         try clear c65b0
         try clear c66
         try clear c66b0
         try clear c68
         try clear c69
         try clear c69b0
         try clear c69b1
         try clear c70
         try clear c70b0
         try clear c70b1
         try clear c72
         try clear c72b0
         try clear c72b1
         try clear c75
         try clear hx594_0
         try clear hx595_0
         try clear hx598_0
         try clear hx599_0
         try clear hx606_0
         try clear hx609_0
         try clear p594
         try clear p595
         try clear p598
         try clear p599
         try clear p606
         try clear p609
         try clear q594
         try clear q595
         try clear q598
         try clear q599
         try clear q606
         try clear q609
         try clear q63
         obtain ⟨x26_3, rfl, HA, HK3, HO_576001, BK575, HB⟩ := hrel
         cases gk with
         | zero => exact absurd HA.out (by simp [laws_FnThresholds.l1])
         | succ k3 =>
          have H := HA.out
          clear HA
          simp only [laws_FnThresholds.l1] at H
          rcases iteE H with ⟨c76b0, H⟩ | ⟨c76b0, H⟩
          ·obtain ⟨⟨t610, t613⟩, A77, H⟩ := obE H
           dsimp only at H
           obtain ⟨c78, H⟩ := itMP H
           have c78b0 : (t613 != (decide (x26_3 ≥ t576))) = false := by simpa using c78
           (try (have c78b1 : decide (t613 = (decide (x26_3 ≥ t576))) = true := by simpa using c78))
           (try (have c78b2 : (t613 == (decide (x26_3 ≥ t576))) = true := by simpa using c78))
           clear c78
           by_cases c79 : t613 = true
           ·subst c79
            replace H := ifT H
            obtain ⟨⟨t614, t615⟩, A80, H⟩ := obE H
            dsimp only at H
            by_cases c81 : t615 = true
            ·subst c81
             replace H := ifT H
             by_cases c82 : t614 = true
             ·subst c82
              replace H := ifT H
              have H' := mkA H
              clear H
              obtain ⟨_, _, _, _⟩ := blk2 BK575
              go_wp2_with (first | ((with_reducible refine gate_callee (f := 16) rfl ?_); refine goesQ (some 181) Tryd.func16 #[.agg #[.int .i64 t571, .slice Ao23 t572.length co23], .int .i64 x26_3] ?_; (with_reducible refine (impl_LeastPlaces.calls k3 t571 _ _ t572 x26_3 t610 true _ ?_ ?_ ?_ A77.out).mono ?_); exact rC HO_576001; exact rL HO_576001; exact Tab.below HTAB.out (bel_g HB.out); rintro e w84 ⟨v611, rfl, ho0, hb⟩; refine ⟨_, rfl, ?_⟩; have HO612 := rLo (rN ho0 HO_576001) HB; replace HO_576001 := rE HO_576001 ho0 hb; replace BK575 := blkB BK575 hb; replace HB := bst HB hb; clear hb ho0; obtain ⟨_, _, _, _⟩ := blk2 BK575; obtain ⟨Ao86, co86, rfl⟩ := Kd.R_slice HO612.out) | ((with_reducible refine gate_callee (f := 17) rfl ?_); refine goesQ (some 194) Tryd.func17 #[.agg #[.int .i64 t571, .slice Ao23 t572.length co23], .int .i64 x26_3, .slice Ao86 t610.length co86] ?_; (with_reducible refine (impl_IsPlaces.calls k3 t571 _ _ t572 x26_3 _ _ t610 true true _ ?_ ?_ ?_ ?_ ?_ A80.out).mono ?_); exact rC HO_576001; exact rL HO_576001; exact rC HO612; exact rL HO612; exact Tab.below HTAB.out (bel_g HB.out); rintro e w87 ⟨rfl, hb⟩; refine ⟨_, rfl, ?_⟩; replace HO_576001 := rB HO_576001 hb; replace HO612 := rB HO612 hb; replace BK575 := blkB BK575 hb; replace HB := bst HB hb; clear hb))
              go_roundg k3
              case measure => have := HJ18.out; have := HJ45.out; have := HK3.out; omega
              case rel => exact ⟨(wrap64 (x26_3 + 1)), eqS, H', ⟨by have := HJ18.out; have := HJ45.out; have := HK3.out; omega⟩, ⟨Kd.R_g (Kd.R_mono HO_576001.out (fun _ hk => trivial))⟩, bg BK575, hbg HB⟩
             ·replace c82 := Bool.eq_false_iff.mpr c82
              subst c82
              replace H := ifF H
              exact absurd H (by simp)
            ·replace c81 := Bool.eq_false_iff.mpr c81
             subst c81
             replace H := ifF H
             exact absurd H (by simp)
           ·replace c79 := Bool.eq_false_iff.mpr c79
            subst c79
            replace H := ifF H
            have H' := mkA H
            clear H
            obtain ⟨_, _, _, _⟩ := blk2 BK575
            go_wp2_with (first | ((with_reducible refine gate_callee (f := 16) rfl ?_); refine goesQ (some 181) Tryd.func16 #[.agg #[.int .i64 t571, .slice Ao23 t572.length co23], .int .i64 x26_3] ?_; (with_reducible refine (impl_LeastPlaces.calls k3 t571 _ _ t572 x26_3 t610 false _ ?_ ?_ ?_ A77.out).mono ?_); exact rC HO_576001; exact rL HO_576001; exact Tab.below HTAB.out (bel_g HB.out); rintro e w89 ⟨v611, rfl, ho0, hb⟩; refine ⟨_, rfl, ?_⟩; have HO612 := rLo (rN ho0 HO_576001) HB; replace HO_576001 := rE HO_576001 ho0 hb; replace BK575 := blkB BK575 hb; replace HB := bst HB hb; clear hb ho0))
            go_roundg k3
            case measure => have := HJ18.out; have := HJ45.out; have := HK3.out; omega
            case rel => exact ⟨(wrap64 (x26_3 + 1)), eqS, H', ⟨by have := HJ18.out; have := HJ45.out; have := HK3.out; omega⟩, ⟨Kd.R_g (Kd.R_mono HO_576001.out (fun _ hk => trivial))⟩, bg BK575, hbg HB⟩
          ·obtain rfl := Option.some.inj H
           go_wp2
           go_ret
           exact ⟨eqE, bel_g HB.out⟩
       ·replace c75 := Bool.eq_false_iff.mpr c75
        subst c75
        replace H := ifF H
        obtain rfl := Option.some.inj H
        go_wp2
        go_ret
        exact ⟨eqE, bel_g HB.out⟩
end Go.Proofs.YtmoemabbmjdhgaaDoor.Q
