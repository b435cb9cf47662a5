import Derived.Test.YtlfjnllnddpgoaaDoorBFnStretchedIntervals5
import Derived.Test.YtlfjnllnddpgoaaDoorBFnStretchedIntervals14
import Derived.Test.YtlfjnllnddpgoaaDoorBFnStretchedIntervals27
import Derived.Test.YtlfjnllnddpgoaaDoorBFnStretchedIntervals28
namespace Go.Proofs.YtlfjnllnddpgoaaDoor.Q
open Go.RowKit Go.Proofs.YtlfjnllnddpgoaaDoorW.PrintWords Go.Proofs.YtlfjnllnddpgoaaDoorW.PrintLast Go.Proofs.YtlfjnllnddpgoaaDoorW.PrintMore
attribute [local go_sem] max2_int min2_int max_two min_two max_three min_three max_four min_four neB_f
set_option linter.unusedVariables false
set_option maxHeartbeats 8000000
set_option maxRecDepth 100000
set_option linter.unusedSimpArgs false
mutual
def laws_FnStretchedIntervals.j0 : Nat → List Int → List (S37) → List (S37) → Bool → Bool → Option (Bool)
 | 0, _, _, _, _, _ => none
 | k + 1, x1, x5, x8, x11, x63 => if x63 = true then (some false) else (if x11 = true then ((impl_OrderOfIntervals.f k x5).bind fun bt841 => ((impl_OrderOfIntervals.f k x8).bind fun bt847 => (if bt841.2.2 = true then (if bt847.2.2 = true then ((laws_pSameOrder.f k bt841.1 bt841.2.1 bt847.1 bt847.2.1).bind fun t853 => (if t853 = true then (laws_FnStretchedIntervals.j1 k x1) else (some false))) else (some false)) else (some false)))) else (laws_FnStretchedIntervals.j1 k x1))
def laws_FnStretchedIntervals.j1 : Nat → List Int → Option (Bool)
 | 0, _ => none
 | k + 1, x1 => (spec_DrawInsertInterval.f k x1).bind fun bt854 => ((impl_InsertInterval.f k bt854.1 bt854.2.1 bt854.2.2.1 bt854.2.2.2).bind fun bt862 => ((spec_InsertInterval.f k bt854.1 bt854.2.1 bt854.2.2.1 bt854.2.2.2).bind fun bt868 => (if (bt862.2.2 != bt868.2.2) = true then (laws_FnStretchedIntervals.j2 k bt862.2.2 true bt854.1 bt854.2.1 bt854.2.2.1 bt854.2.2.2 bt862.1 bt862.2.1) else ((laws_pSameOrder.f k bt862.1 bt862.2.1 bt868.1 bt868.2.1).bind fun t874 => (laws_FnStretchedIntervals.j2 k bt862.2.2 (!t874) bt854.1 bt854.2.1 bt854.2.2.1 bt854.2.2.2 bt862.1 bt862.2.1)))))
def laws_FnStretchedIntervals.j2 : Nat → Bool → Bool → Int → List Int → Int → Int → Int → List Int → Option (Bool)
 | 0, _, _, _, _, _, _, _, _ => none
 | k + 1, x19, x112, x861000, x861001, x862000, x862001, x868000, x868001 => if x112 = true then (some false) else (if x19 = true then (laws_FnStretchedIntervals.l0 k ([] : List Int) 0 x861000 x861001 x862000 x862001 x868000 x868001) else (some true))
def laws_FnStretchedIntervals.l0 : Nat → List Int → Int → Int → List Int → Int → Int → Int → List Int → Option (Bool)
 | 0, _, _, _, _, _, _, _, _ => none
 | k + 1, x22, x23, x861000, x861001, x862000, x862001, x868000, x868001 => if x23 < x861000 then (if x22.length < 17592186044416 then (laws_FnStretchedIntervals.l0 k (x22 ++ [x23]) (wrap64 (x23 + 1)) x861000 x861001 x862000 x862001 x868000 x868001) else (none)) else ((impl_PartOf.f k x868000 x868001 x22).bind fun bt878 => ((impl_IsIntervalOrder.f k x868000 x868001).bind fun bt884 => ((impl_EndsOf.f k x861000 x861001).bind fun bt886 => (if bt878.2.2 = true then (if bt884.2 = true then (if bt886.2 = true then (if bt884.1 = true then ((laws_pSameOrder.f k bt878.1 bt878.2.1 x861000 x861001).bind fun t890 => (laws_FnStretchedIntervals.j4 k bt886.1 (!t890) x861000 x861001 x862000 x862001 x868000 x868001)) else (laws_FnStretchedIntervals.j4 k bt886.1 true x861000 x861001 x862000 x862001 x868000 x868001)) else (laws_FnStretchedIntervals.j4 k bt886.1 true x861000 x861001 x862000 x862001 x868000 x868001)) else (laws_FnStretchedIntervals.j4 k bt886.1 true x861000 x861001 x862000 x862001 x868000 x868001)) else (laws_FnStretchedIntervals.j4 k bt886.1 true x861000 x861001 x862000 x862001 x868000 x868001)))))
def laws_FnStretchedIntervals.j4 : Nat → List (S37) → Bool → Int → List Int → Int → Int → Int → List Int → Option (Bool)
 | 0, _, _, _, _, _, _, _, _ => none
 | k + 1, x28, x160, x861000, x861001, x862000, x862001, x868000, x868001 => if x160 = true then (some false) else (laws_FnStretchedIntervals.l1 k x28 (x28.length : Int) 0 x861000 x861001 x862000 x862001 x868000 x868001)
def laws_FnStretchedIntervals.l1 : Nat → List (S37) → Int → Int → Int → List Int → Int → Int → Int → List Int → Option (Bool)
 | 0, _, _, _, _, _, _, _, _, _ => none
 | k + 1, x161, x162, x163, x861000, x861001, x862000, x862001, x868000, x868001 => if x163 < x162 then (if 0 ≤ x163 then (if x163 < (x161.length : Int) then (if x163 < (x868001.length : Int) then ((laws_pIn.f (rd x868001 x163) x861000).bind fun t894 => (if (t894 != (decide (((rd_T37 x161 x163).f1) < x862000))) = true then (some false) else (if 0 ≤ x861000 then (if x861000 < (x868001.length : Int) then ((laws_pIn.f (rd x868001 x861000) x163).bind fun t896 => (if (t896 != (decide (x862001 < ((rd_T37 x161 x163).f0)))) = true then (some false) else (laws_FnStretchedIntervals.l1 k x161 x162 (wrap64 (x163 + 1)) x861000 x861001 x862000 x862001 x868000 x868001))) else (none)) else (none)))) else (none)) else (none)) else (none)) else (some true)
end
def laws_FnStretchedIntervals.f (k : Nat) (l0 : List Int) (l1 : List Int) : Option (Bool) := (laws_big.f l0 l1).bind fun t826 => (if t826 = true then (some true) else ((spec_DrawStretchIntervals.f k l0).bind fun bt827 => ((impl_StretchIntervals.f k bt827.1 bt827.2.1 bt827.2.2).bind fun bt832 => ((spec_StretchIntervals.f k bt827.1 bt827.2.1 bt827.2.2).bind fun bt836 => (if (bt832.2 != bt836.2) = true then (laws_FnStretchedIntervals.j0 k l1 bt827.1 bt832.1 bt836.2 true) else ((laws_pSameIntervals.f k bt832.1 bt836.1).bind fun t840 => (laws_FnStretchedIntervals.j0 k l1 bt827.1 bt832.1 bt836.2 (!t840))))))))
theorem laws_FnStretchedIntervals.mono_l : ∀ k, (∀ y0 y1 y2 y3 y4, LeO (laws_FnStretchedIntervals.j0 k y0 y1 y2 y3 y4) (laws_FnStretchedIntervals.j0 (k + 1) y0 y1 y2 y3 y4)) ∧ (∀ y0, LeO (laws_FnStretchedIntervals.j1 k y0) (laws_FnStretchedIntervals.j1 (k + 1) y0)) ∧ (∀ y0 y1 y2 y3 y4 y5 y6 y7, LeO (laws_FnStretchedIntervals.j2 k y0 y1 y2 y3 y4 y5 y6 y7) (laws_FnStretchedIntervals.j2 (k + 1) y0 y1 y2 y3 y4 y5 y6 y7)) ∧ (∀ y0 y1 y2 y3 y4 y5 y6 y7, LeO (laws_FnStretchedIntervals.l0 k y0 y1 y2 y3 y4 y5 y6 y7) (laws_FnStretchedIntervals.l0 (k + 1) y0 y1 y2 y3 y4 y5 y6 y7)) ∧ (∀ y0 y1 y2 y3 y4 y5 y6 y7, LeO (laws_FnStretchedIntervals.j4 k y0 y1 y2 y3 y4 y5 y6 y7) (laws_FnStretchedIntervals.j4 (k + 1) y0 y1 y2 y3 y4 y5 y6 y7)) ∧ (∀ y0 y1 y2 y3 y4 y5 y6 y7 y8, LeO (laws_FnStretchedIntervals.l1 k y0 y1 y2 y3 y4 y5 y6 y7 y8) (laws_FnStretchedIntervals.l1 (k + 1) y0 y1 y2 y3 y4 y5 y6 y7 y8))
 | 0 => ⟨fun _ _ _ _ _ r h => by simp [laws_FnStretchedIntervals.j0] at h, fun _ r h => by simp [laws_FnStretchedIntervals.j1] at h, fun _ _ _ _ _ _ _ _ r h => by simp [laws_FnStretchedIntervals.j2] at h, fun _ _ _ _ _ _ _ _ r h => by simp [laws_FnStretchedIntervals.l0] at h, fun _ _ _ _ _ _ _ _ r h => by simp [laws_FnStretchedIntervals.j4] at h, fun _ _ _ _ _ _ _ _ _ r h => by simp [laws_FnStretchedIntervals.l1] at h⟩
 | k + 1 => by
  obtain ⟨ih0, ih1, ih2, ih3, ih4, ih5⟩ := laws_FnStretchedIntervals.mono_l k
  refine ⟨?_, ?_, ?_, ?_, ?_, ?_⟩ <;> intros
  unfold laws_FnStretchedIntervals.j0
  rotate_left
  unfold laws_FnStretchedIntervals.j1
  rotate_left
  unfold laws_FnStretchedIntervals.j2
  rotate_left
  unfold laws_FnStretchedIntervals.l0
  rotate_left
  unfold laws_FnStretchedIntervals.j4
  rotate_left
  unfold laws_FnStretchedIntervals.l1
  rotate_left
  all_goals repeat' (with_reducible first|apply ih0|apply ih1|apply ih2|apply ih3|apply ih4|apply ih5|apply impl_EndsOf.mono|apply impl_InsertInterval.mono|apply impl_IsIntervalOrder.mono|apply impl_OrderOfIntervals.mono|apply impl_PartOf.mono|apply impl_StretchIntervals.mono|apply laws_pSameIntervals.mono|apply laws_pSameOrder.mono|apply spec_DrawInsertInterval.mono|apply spec_DrawStretchIntervals.mono|apply spec_InsertInterval.mono|apply spec_StretchIntervals.mono|apply LeO.refl|apply LeO.none|apply LeO.ite|apply LeO.bind|intro)
theorem laws_FnStretchedIntervals.mono : ∀ a0 a1 k, LeO (laws_FnStretchedIntervals.f k a0 a1) (laws_FnStretchedIntervals.f (k + 1) a0 a1) := by
 intro a0 a1 k
 obtain ⟨ih0, ih1, ih2, ih3, ih4, ih5⟩ := laws_FnStretchedIntervals.mono_l k
 unfold laws_FnStretchedIntervals.f
 repeat' (with_reducible first|apply ih0|apply ih1|apply ih2|apply ih3|apply ih4|apply ih5|apply impl_EndsOf.mono|apply impl_InsertInterval.mono|apply impl_IsIntervalOrder.mono|apply impl_OrderOfIntervals.mono|apply impl_PartOf.mono|apply impl_StretchIntervals.mono|apply laws_pSameIntervals.mono|apply laws_pSameOrder.mono|apply spec_DrawInsertInterval.mono|apply spec_DrawStretchIntervals.mono|apply spec_InsertInterval.mono|apply spec_StretchIntervals.mono|apply LeO.refl|apply LeO.none|apply LeO.ite|apply LeO.bind|intro)
def laws_FnStretchedIntervals.T33 : Bool × List (List Nat × List Nat) := (true, [([], []), ([0], [0]), ([], []), ([1, 2], [1, 2]), ([3], [3]), ([], []), ([5], [5]), ([4, 6], [4, 6]), ([], []), ([8], [8]), ([], []), ([10], [10]), ([9, 11], [9, 11]), ([7, 12], [7, 12]), ([13, 7], [13]), ([14], [14]), ([15, 14], [14, 15]), ([14], [14]), ([17, 14], [14, 17]), ([16, 18, 14], [14, 16, 18]), ([19, 14], [14, 19]), ([14], [14]), ([20, 21, 14, 14], [14, 20, 21]), ([14], [14]), ([23, 14], [14, 23]), ([14], [14]), ([25, 14], [14, 25]), ([24, 26, 14], [14, 24, 26]), ([22, 27, 14], [14, 22, 27]), ([14, 28], [14, 28])])
def laws_FnStretchedIntervals.B33 : List Nat := [0, 1, 0, 7, 15, 0, 32, 127, 0, 256, 0, 1024, 3840, 8191, 16383, 32767, 65535, 32767, 163839, 524287, 1048575, 32767, 4194303, 32767, 8421375, 32767, 33587199, 125861887, 268435455, 536870911]
theorem laws_FnStretchedIntervals.tab33 : rtab .any (opsOf Tryd.f3 33) = laws_FnStretchedIntervals.T33 := by kernel_rfl
theorem laws_FnStretchedIntervals.bits33 : waitsOk laws_FnStretchedIntervals.T33.2 laws_FnStretchedIntervals.B33 = true := by kernel_rfl
theorem laws_FnStretchedIntervals.calls (k : Nat) (A0 : Option Addr) (c0 : Nat) (l0 : List Int) (A1 : Option Addr) (c1 : Nat) (l1 : List Int) (r : Bool) (w : World) (hr0 : Kd.C (Kd.int .u8) w A0 l0.length l0) (hc0 : l0.length ≤ c0) (hr1 : Kd.C (Kd.int .u8) w A1 l1.length l1) (hc1 : l1.length ≤ c1) (hTAB : Tab w) (h : laws_FnStretchedIntervals.f k l0 l1 = some r) :
  Calls Tryd.prog 3 #[.slice A0 l0.length c0, .slice A1 l1.length c1] w fun e w' => e = .returned (.bool r) ∧ Below w.heap.size w w' := by
 have HTAB := mkA hTAB
 clear hTAB
 have hu32 := Tryd.underlying32
 have hu37 := Tryd.underlying37
 have HR0 := mkA hr0
 have HC0 := mkA hc0
 clear hr0 hc0
 have HR1 := mkA hr1
 have HC1 := mkA hc1
 clear hr1 hc1
 have HB := mkA (Below.refl w.heap.size w)
 have H := h
 clear h
 unfold laws_FnStretchedIntervals.f at H
 obtain ⟨t826, A3, H⟩ := obE H
 by_cases c4 : t826 = true
 ·subst c4
  replace H := ifT H
  obtain rfl := Option.some.inj H
  go_enter Tryd.func3, Tryd.ntmps3
  go_wp2_with (first | ((with_reducible refine gate_callee (f := 4) rfl ?_); refine goesQ (some 34) Tryd.func4 #[.slice A0 l0.length c0, .slice A1 l1.length c1] ?_; (with_reducible refine (laws_big.calls _ _ l0 _ _ l1 true _ ?s1 ?s2 ?s3 ?s4 A3.out).mono ?_); (case s1 => repeat (first | exact HR0.out | (with_reducible refine Kd.C_alloc ?_ _) | (with_reducible refine Kd.C_drewN ?_ _) | (with_reducible refine Kd.C_drew ?_))); (case s2 => exact HC0.out); (case s3 => repeat (first | exact HR1.out | (with_reducible refine Kd.C_alloc ?_ _) | (with_reducible refine Kd.C_drewN ?_ _) | (with_reducible refine Kd.C_drew ?_))); (case s4 => exact HC1.out); rintro e w' ⟨rfl, ⟨nd, rfl⟩⟩; refine ⟨_, rfl, ?_⟩))
  go_ret
  exact ⟨eqE, bel_g HB.out⟩
 ·replace c4 := Bool.eq_false_iff.mpr c4
  subst c4
  replace H := ifF H
  obtain ⟨⟨t827, t828, t829⟩, A5, H⟩ := obE H
  dsimp only at H
  obtain ⟨⟨t832, t833⟩, A6, H⟩ := obE H
  dsimp only at H
  obtain ⟨⟨t836, t837⟩, A7, H⟩ := obE H
  dsimp only at H
  have HC8 := mkA H
  clear H
  go_enter Tryd.func3, Tryd.ntmps3
  go_upto_region 6 with (first | ((with_reducible refine gate_callee (f := 4) rfl ?_); refine goesQ (some 34) Tryd.func4 #[.slice A0 l0.length c0, .slice A1 l1.length c1] ?_; (with_reducible refine (laws_big.calls _ _ l0 _ _ l1 false _ ?s1 ?s2 ?s3 ?s4 A3.out).mono ?_); (case s1 => repeat (first | exact HR0.out | (with_reducible refine Kd.C_alloc ?_ _) | (with_reducible refine Kd.C_drewN ?_ _) | (with_reducible refine Kd.C_drew ?_))); (case s2 => exact HC0.out); (case s3 => repeat (first | exact HR1.out | (with_reducible refine Kd.C_alloc ?_ _) | (with_reducible refine Kd.C_drewN ?_ _) | (with_reducible refine Kd.C_drew ?_))); (case s4 => exact HC1.out); rintro e w' ⟨rfl, ⟨nd, rfl⟩⟩; refine ⟨_, rfl, ?_⟩) | ((with_reducible refine gate_callee (f := 5) rfl ?_); refine goesQ (some 37) Tryd.func5 #[.slice A0 l0.length c0] ?_; (with_reducible refine (spec_DrawStretchIntervals.calls k _ _ l0 t827 t828 t829 _ ?s1 ?s2 A5.out).mono ?_); (case s1 => repeat (first | exact HR0.out | (with_reducible refine Kd.C_alloc ?_ _) | (with_reducible refine Kd.C_drewN ?_ _) | (with_reducible refine Kd.C_drew ?_))); (case s2 => exact HC0.out); rintro e w9 ⟨v830, rfl, ho0, hb⟩; refine ⟨_, rfl, ?_⟩; have HO831 := rLo ho0 HB; replace HB := bst HB hb; clear hb ho0; obtain ⟨Ao10, co10, rfl⟩ := Kd.R_slice HO831.out) | ((with_reducible refine gate_callee (f := 6) rfl ?_); refine goesQ (some 45) Tryd.func6 #[.slice Ao10 t827.length co10, .int .i64 t828, .int .i64 t829] ?_; (with_reducible refine (impl_StretchIntervals.calls k _ _ t827 t828 t829 t832 t833 _ ?_ ?_ A6.out).mono ?_); exact rC HO831; exact rL HO831; rintro e w11 ⟨v834, rfl, ho0, hb⟩; refine ⟨_, rfl, ?_⟩; have HO835 := rLo (rN ho0 HO831) HB; replace HO831 := rE HO831 ho0 hb; replace HB := bst HB hb; clear hb ho0) | ((with_reducible refine gate_callee (f := 7) rfl ?_); refine goesQ (some 52) Tryd.func7 #[.slice Ao10 t827.length co10, .int .i64 t828, .int .i64 t829] ?_; (with_reducible refine (spec_StretchIntervals.calls k _ _ t827 t828 t829 t836 t837 _ ?_ ?_ A7.out).mono ?_); exact rC HO831; exact rL HO831; rintro e w12 ⟨v838, rfl, ho0, hb⟩; refine ⟨_, rfl, ?_⟩; have HO839 := rLo (rN (rN ho0 HO831) HO835) HB; replace HO831 := rE HO831 ho0 hb; replace HO835 := rE HO835 ho0 hb; replace HB := bst HB hb; clear hb ho0))
  (try simp only [Act.put, List.setIfInBounds_toArray, List.set_cons_zero, List.set_cons_succ])
  go_cut [63] (fun v63 wc => ∃ (kq : Nat) (x63_7 : Bool), v63 = .bool x63_7 ∧ Fc (laws_FnStretchedIntervals.j0 kq l1 t827 t832 t837 x63_7 = some r) ∧ Fc (kq ≤ k) ∧ Fc (Kd.R k37 37 wc w.heap.size (fun k_ => some k_ ≠ (v834 : Value).ownBlock) (.slice Ao10 t827.length co10) t827) ∧ Fc (Kd.R k37 37 wc w.heap.size (fun k_ => some k_ ≠ ((.slice Ao10 t827.length co10) : Value).ownBlock) v834 t832) ∧ Fc (Below w.heap.size w wc))
  case first =>
   have H := HC8.out
   clear HC8
   rcases iteP H with ⟨c13, H⟩ | ⟨c13, H⟩
   ·have c13b0 : (t833 != t837) = true := c13
    (try (have c13b1 : decide (t833 = t837) = false := by simpa using c13))
    (try (have c13b2 : (t833 == t837) = false := by simpa using c13))
    (try (have c13b3 : ¬ (t833 = t837) := by simpa using c13))
    clear c13
    (first | rw [c13b0] | (simp only [i64_w, i32_w]; rw [c13b0]) | skip)
    have H' := mkA H
    clear H
    as_aux_lemma =>
     go_wp2
     go_meet
     case rel => exact ⟨_, (true), eqS, H', ⟨by first | omega | exact Nat.le_refl _⟩, ⟨Kd.R_g (Kd.R_mono HO831.out (fun _ hk => hk.1.2))⟩, ⟨Kd.R_g (Kd.R_mono HO835.out (fun _ hk => hk.1.2))⟩, hbg HB⟩
   ·have c13b0 : (t833 != t837) = false := by simpa using c13
    (try (have c13b1 : decide (t833 = t837) = true := by simpa using c13))
    (try (have c13b2 : (t833 == t837) = true := by simpa using c13))
    clear c13
    (first | rw [c13b0] | (simp only [i64_w, i32_w]; rw [c13b0]) | skip)
    obtain ⟨t840, A14, H⟩ := obE H
    have H' := mkA H
    clear H
    obtain ⟨Ao15, co15, rfl⟩ := Kd.R_slice HO835.out
    obtain ⟨Ao16, co16, rfl⟩ := Kd.R_slice HO839.out
    as_aux_lemma =>
     go_wp2_with (first | (go_at_call 8; (with_reducible refine (laws_pSameIntervals.calls k _ _ t832 _ _ t836 t840 _ ?_ ?_ ?_ ?_ A14.out).mono ?_); exact rC HO835; exact rL HO835; exact rC HO839; exact rL HO839; rintro e w' ⟨rfl, ⟨nd, rfl⟩⟩))
     go_meet
     case rel => exact ⟨_, (!t840), eqS, H', ⟨by first | omega | exact Nat.le_refl _⟩, ⟨Kd.R_g (Kd.R_mono HO831.out (fun _ hk => hk.1.2))⟩, ⟨Kd.R_g (Kd.R_mono HO835.out (fun _ hk => hk.1.2))⟩, hbg HB⟩
  case rest =>
   clear HC8
   try clear c1
   try clear c4
   try clear c13
   try clear c13b0
   try clear c13b1
   try clear c13b2
   obtain ⟨kq, x63_7, rfl, HA, HJ7, HO_5, HO_8, HB⟩ := hcut
   cases kq with
   | zero => exact absurd HA.out (by simp [laws_FnStretchedIntervals.j0])
   | succ kj7 =>
    have H := HA.out
    clear HA
    simp only [laws_FnStretchedIntervals.j0] at H
    by_cases c17 : x63_7 = true
    ·subst c17
     replace H := ifT H
     obtain rfl := Option.some.inj H
     go_wp2
     go_ret
     exact ⟨eqE, bel_g HB.out⟩
    ·replace c17 := Bool.eq_false_iff.mpr c17
     subst c17
     replace H := ifF H
     have HC18 := mkA H
     clear H
     go_upto_if 64 with (fail)
     go_cut [] (fun wc => ∃ (kq : Nat), Fc (laws_FnStretchedIntervals.j1 kq l1 = some r) ∧ Fc (kq ≤ kj7) ∧ Fc (Below w.heap.size w wc))
     case first =>
      have H := HC18.out
      clear HC18
      by_cases c19 : t837 = true
      ·subst c19
       replace H := ifT H
       obtain ⟨⟨t841, t842, t845⟩, A20, H⟩ := obE H
       dsimp only at H
       obtain ⟨⟨t847, t848, t851⟩, A21, H⟩ := obE H
       dsimp only at H
       by_cases c22 : t845 = true
       ·subst c22
        replace H := ifT H
        by_cases c23 : t851 = true
        ·subst c23
         replace H := ifT H
         obtain ⟨t853, A24, H⟩ := obE H
         by_cases c25 : t853 = true
         ·subst c25
          replace H := ifT H
          have H' := mkA H
          clear H
          as_aux_lemma =>
           go_wp2_with (first | ((with_reducible refine gate_callee (f := 9) rfl ?_); refine goesQ (some 67) Tryd.func9 #[.slice Ao10 t827.length co10] ?_; (with_reducible refine (impl_OrderOfIntervals.calls kj7 _ _ t827 t841 t842 true _ ?_ ?_ A20.out).mono ?_); exact rC HO_5; exact rL HO_5; rintro e w26 ⟨v843, rfl, ho0, hb⟩; refine ⟨_, rfl, ?_⟩; replace HO_5 := rB HO_5 hb; replace HO_8 := rB HO_8 hb; have HO844 := rLo ho0 HB; replace HB := bst HB hb; clear hb ho0) | ((with_reducible refine gate_dst (N := 12) rfl ?_); refine boxG HB #[.int .i64 0, .slice none 0 0] 32 ?_; intro gb846 hg w27 BK846 GE846 hb; replace HO_5 := rB HO_5 hb; replace HO_8 := rB HO_8 hb; replace HO844 := rB HO844 hb; replace HB := bst HB hb; clear hb hg; obtain ⟨_, _, _, _⟩ := blk2 BK846; obtain ⟨Ao29, co29, rfl⟩ := Kd.R_slice HO844.out; obtain ⟨Ao30, co30, rfl⟩ := Kd.R_slice HO_8.out) | ((with_reducible refine gate_callee (f := 9) rfl ?_); refine goesQ (some 72) Tryd.func9 #[.slice Ao30 t832.length co30] ?_; (with_reducible refine (impl_OrderOfIntervals.calls kj7 _ _ t832 t847 t848 true _ ?_ ?_ A21.out).mono ?_); exact rCF HO_8 BK846; exact rL HO_8; rintro e w31 ⟨v849, rfl, ho0, hb⟩; refine ⟨_, rfl, ?_⟩; replace HO_5 := mkA (Kd.R_below (rFg HO_5 BK846) hb); replace HO_8 := mkA (Kd.R_below (rFg HO_8 BK846) hb); have HO850 := rLo (rNF ho0 HO844 BK846) HB; replace HO844 := rEF HO844 BK846 ho0 hb; replace BK846 := blkS BK846 hb; replace HB := bst HB hb; clear hb ho0) | ((with_reducible refine gate_dst (N := 14) rfl ?_); refine boxG HB #[.int .i64 0, .slice none 0 0] 32 ?_; intro gb852 hg w32 BK852 GE852 hb; replace HO_5 := rB HO_5 hb; replace HO_8 := rB HO_8 hb; replace HO844 := rB HO844 hb; replace HO850 := rB HO850 hb; have NB846_852 := neL7 BK846 hg; have NB852_846 := neR7 BK846 hg; replace BK846 := blkB BK846 hb; replace HB := bst HB hb; clear hb hg; obtain ⟨_, _, _, _⟩ := blk2 BK852; obtain ⟨Ao35, co35, rfl⟩ := Kd.R_slice HO850.out; obtain ⟨_, _, _, _⟩ := blk2 BK846) | (go_at_call 10; (with_reducible refine (laws_pSameOrder.calls kj7 t841 _ _ t842 t847 _ _ t848 true _ ?_ ?_ ?_ ?_ A24.out).mono ?_); exact rCF HO844 BK852; exact rL HO844; exact rCF HO850 BK852; exact rL HO850; rintro e w37 ⟨rfl, hb⟩; replace HO_5 := mkA (Kd.R_below (rFg HO_5 BK852) hb); replace HO_8 := mkA (Kd.R_below (rFg HO_8 BK852) hb); replace HO844 := mkA (Kd.R_below (rFg HO844 BK852) hb); replace HO850 := mkA (Kd.R_below (rFg HO850 BK852) hb); replace BK846 := blkS BK846 hb; replace BK852 := blkS BK852 hb; replace HB := bst HB hb; clear hb))
           go_meet
           case rel => exact ⟨_, H', ⟨by have := HJ7.out; first | omega | exact Nat.le_refl _⟩, hbg HB⟩
         ·replace c25 := Bool.eq_false_iff.mpr c25
          subst c25
          replace H := ifF H
          obtain rfl := Option.some.inj H
          go_wp2_with (first | ((with_reducible refine gate_callee (f := 9) rfl ?_); refine goesQ (some 67) Tryd.func9 #[.slice Ao10 t827.length co10] ?_; (with_reducible refine (impl_OrderOfIntervals.calls kj7 _ _ t827 t841 t842 true _ ?_ ?_ A20.out).mono ?_); exact rC HO_5; exact rL HO_5; rintro e w38 ⟨v843, rfl, ho0, hb⟩; refine ⟨_, rfl, ?_⟩; replace HO_5 := rB HO_5 hb; replace HO_8 := rB HO_8 hb; have HO844 := rLo ho0 HB; replace HB := bst HB hb; clear hb ho0) | ((with_reducible refine gate_dst (N := 12) rfl ?_); refine boxG HB #[.int .i64 0, .slice none 0 0] 32 ?_; intro gb846 hg w39 BK846 GE846 hb; replace HO_5 := rB HO_5 hb; replace HO_8 := rB HO_8 hb; replace HO844 := rB HO844 hb; replace HB := bst HB hb; clear hb hg; obtain ⟨_, _, _, _⟩ := blk2 BK846; obtain ⟨Ao41, co41, rfl⟩ := Kd.R_slice HO844.out; obtain ⟨Ao42, co42, rfl⟩ := Kd.R_slice HO_8.out) | ((with_reducible refine gate_callee (f := 9) rfl ?_); refine goesQ (some 72) Tryd.func9 #[.slice Ao42 t832.length co42] ?_; (with_reducible refine (impl_OrderOfIntervals.calls kj7 _ _ t832 t847 t848 true _ ?_ ?_ A21.out).mono ?_); exact rCF HO_8 BK846; exact rL HO_8; rintro e w43 ⟨v849, rfl, ho0, hb⟩; refine ⟨_, rfl, ?_⟩; replace HO_5 := mkA (Kd.R_below (rFg HO_5 BK846) hb); replace HO_8 := mkA (Kd.R_below (rFg HO_8 BK846) hb); have HO850 := rLo (rNF ho0 HO844 BK846) HB; replace HO844 := rEF HO844 BK846 ho0 hb; replace BK846 := blkS BK846 hb; replace HB := bst HB hb; clear hb ho0) | ((with_reducible refine gate_dst (N := 14) rfl ?_); refine boxG HB #[.int .i64 0, .slice none 0 0] 32 ?_; intro gb852 hg w44 BK852 GE852 hb; replace HO_5 := rB HO_5 hb; replace HO_8 := rB HO_8 hb; replace HO844 := rB HO844 hb; replace HO850 := rB HO850 hb; have NB846_852 := neL7 BK846 hg; have NB852_846 := neR7 BK846 hg; replace BK846 := blkB BK846 hb; replace HB := bst HB hb; clear hb hg; obtain ⟨_, _, _, _⟩ := blk2 BK852; obtain ⟨Ao47, co47, rfl⟩ := Kd.R_slice HO850.out; obtain ⟨_, _, _, _⟩ := blk2 BK846) | (go_at_call 10; (with_reducible refine (laws_pSameOrder.calls kj7 t841 _ _ t842 t847 _ _ t848 false _ ?_ ?_ ?_ ?_ A24.out).mono ?_); exact rCF HO844 BK852; exact rL HO844; exact rCF HO850 BK852; exact rL HO850; rintro e w49 ⟨rfl, hb⟩; replace HO_5 := mkA (Kd.R_below (rFg HO_5 BK852) hb); replace HO_8 := mkA (Kd.R_below (rFg HO_8 BK852) hb); replace HO844 := mkA (Kd.R_below (rFg HO844 BK852) hb); replace HO850 := mkA (Kd.R_below (rFg HO850 BK852) hb); replace BK846 := blkS BK846 hb; replace BK852 := blkS BK852 hb; replace HB := bst HB hb; clear hb))
          go_ret
          exact ⟨eqE, bel_g HB.out⟩
        ·replace c23 := Bool.eq_false_iff.mpr c23
         subst c23
         replace H := ifF H
         obtain rfl := Option.some.inj H
         go_wp2_with (first | ((with_reducible refine gate_callee (f := 9) rfl ?_); refine goesQ (some 67) Tryd.func9 #[.slice Ao10 t827.length co10] ?_; (with_reducible refine (impl_OrderOfIntervals.calls kj7 _ _ t827 t841 t842 true _ ?_ ?_ A20.out).mono ?_); exact rC HO_5; exact rL HO_5; rintro e w50 ⟨v843, rfl, ho0, hb⟩; refine ⟨_, rfl, ?_⟩; replace HO_5 := rB HO_5 hb; replace HO_8 := rB HO_8 hb; have HO844 := rLo ho0 HB; replace HB := bst HB hb; clear hb ho0) | ((with_reducible refine gate_dst (N := 12) rfl ?_); refine boxG HB #[.int .i64 0, .slice none 0 0] 32 ?_; intro gb846 hg w51 BK846 GE846 hb; replace HO_5 := rB HO_5 hb; replace HO_8 := rB HO_8 hb; replace HO844 := rB HO844 hb; replace HB := bst HB hb; clear hb hg; obtain ⟨_, _, _, _⟩ := blk2 BK846; obtain ⟨Ao53, co53, rfl⟩ := Kd.R_slice HO844.out; obtain ⟨Ao54, co54, rfl⟩ := Kd.R_slice HO_8.out) | ((with_reducible refine gate_callee (f := 9) rfl ?_); refine goesQ (some 72) Tryd.func9 #[.slice Ao54 t832.length co54] ?_; (with_reducible refine (impl_OrderOfIntervals.calls kj7 _ _ t832 t847 t848 false _ ?_ ?_ A21.out).mono ?_); exact rCF HO_8 BK846; exact rL HO_8; rintro e w55 ⟨v849, rfl, ho0, hb⟩; refine ⟨_, rfl, ?_⟩; replace HO_5 := mkA (Kd.R_below (rFg HO_5 BK846) hb); replace HO_8 := mkA (Kd.R_below (rFg HO_8 BK846) hb); have HO850 := rLo (rNF ho0 HO844 BK846) HB; replace HO844 := rEF HO844 BK846 ho0 hb; replace BK846 := blkS BK846 hb; replace HB := bst HB hb; clear hb ho0) | ((with_reducible refine gate_dst (N := 14) rfl ?_); refine boxG HB #[.int .i64 0, .slice none 0 0] 32 ?_; intro gb852 hg w56 BK852 GE852 hb; replace HO_5 := rB HO_5 hb; replace HO_8 := rB HO_8 hb; replace HO844 := rB HO844 hb; replace HO850 := rB HO850 hb; have NB846_852 := neL7 BK846 hg; have NB852_846 := neR7 BK846 hg; replace BK846 := blkB BK846 hb; replace HB := bst HB hb; clear hb hg; obtain ⟨_, _, _, _⟩ := blk2 BK852; obtain ⟨Ao59, co59, rfl⟩ := Kd.R_slice HO850.out))
         go_ret
         exact ⟨eqE, bel_g HB.out⟩
       ·replace c22 := Bool.eq_false_iff.mpr c22
        subst c22
        replace H := ifF H
        obtain rfl := Option.some.inj H
        go_wp2_with (first | ((with_reducible refine gate_callee (f := 9) rfl ?_); refine goesQ (some 67) Tryd.func9 #[.slice Ao10 t827.length co10] ?_; (with_reducible refine (impl_OrderOfIntervals.calls kj7 _ _ t827 t841 t842 false _ ?_ ?_ A20.out).mono ?_); exact rC HO_5; exact rL HO_5; rintro e w60 ⟨v843, rfl, ho0, hb⟩; refine ⟨_, rfl, ?_⟩; replace HO_5 := rB HO_5 hb; replace HO_8 := rB HO_8 hb; have HO844 := rLo ho0 HB; replace HB := bst HB hb; clear hb ho0) | ((with_reducible refine gate_dst (N := 12) rfl ?_); refine boxG HB #[.int .i64 0, .slice none 0 0] 32 ?_; intro gb846 hg w61 BK846 GE846 hb; replace HO_5 := rB HO_5 hb; replace HO_8 := rB HO_8 hb; replace HO844 := rB HO844 hb; replace HB := bst HB hb; clear hb hg; obtain ⟨_, _, _, _⟩ := blk2 BK846; obtain ⟨Ao63, co63, rfl⟩ := Kd.R_slice HO844.out; obtain ⟨Ao64, co64, rfl⟩ := Kd.R_slice HO_8.out) | ((with_reducible refine gate_callee (f := 9) rfl ?_); refine goesQ (some 72) Tryd.func9 #[.slice Ao64 t832.length co64] ?_; (with_reducible refine (impl_OrderOfIntervals.calls kj7 _ _ t832 t847 t848 t851 _ ?_ ?_ A21.out).mono ?_); exact rCF HO_8 BK846; exact rL HO_8; rintro e w65 ⟨v849, rfl, ho0, hb⟩; refine ⟨_, rfl, ?_⟩; replace HO_5 := mkA (Kd.R_below (rFg HO_5 BK846) hb); replace HO_8 := mkA (Kd.R_below (rFg HO_8 BK846) hb); have HO850 := rLo (rNF ho0 HO844 BK846) HB; replace HO844 := rEF HO844 BK846 ho0 hb; replace BK846 := blkS BK846 hb; replace HB := bst HB hb; clear hb ho0) | ((with_reducible refine gate_dst (N := 14) rfl ?_); refine boxG HB #[.int .i64 0, .slice none 0 0] 32 ?_; intro gb852 hg w66 BK852 GE852 hb; replace HO_5 := rB HO_5 hb; replace HO_8 := rB HO_8 hb; replace HO844 := rB HO844 hb; replace HO850 := rB HO850 hb; have NB846_852 := neL7 BK846 hg; have NB852_846 := neR7 BK846 hg; replace BK846 := blkB BK846 hb; replace HB := bst HB hb; clear hb hg; obtain ⟨_, _, _, _⟩ := blk2 BK852; obtain ⟨Ao69, co69, rfl⟩ := Kd.R_slice HO850.out))
        go_ret
        exact ⟨eqE, bel_g HB.out⟩
      ·replace c19 := Bool.eq_false_iff.mpr c19
       subst c19
       replace H := ifF H
       have H' := mkA H
       clear H
       as_aux_lemma =>
        go_wp2
        go_meet
        case rel => exact ⟨_, H', ⟨by have := HJ7.out; first | omega | exact Nat.le_refl _⟩, hbg HB⟩
     case rest =>
      clear HC18
      try clear c1
      try clear c4
      try clear c13
      try clear c13b0
      try clear c13b1
      try clear c13b2
      try clear c17
      try clear c19
      try clear c22
      try clear c23
      try clear c25
      obtain ⟨kq, HA, HJ17, HB⟩ := hcut
      cases kq with
      | zero => exact absurd HA.out (by simp [laws_FnStretchedIntervals.j1])
      | succ kj17 =>
       have H := HA.out
       clear HA
       simp only [laws_FnStretchedIntervals.j1] at H
       obtain ⟨⟨t854, t855, t858, t859⟩, A70, H⟩ := obE H
       dsimp only at H
       obtain ⟨⟨t862, t863, t866⟩, A71, H⟩ := obE H
       dsimp only at H
       obtain ⟨⟨t868, t869, t872⟩, A72, H⟩ := obE H
       dsimp only at H
       have HC73 := mkA H
       clear H
       go_upto_region 16 with (first | ((with_reducible refine gate_callee (f := 11) rfl ?_); refine goesQ (some 89) Tryd.func11 #[.slice A1 l1.length c1] ?_; (with_reducible refine (spec_DrawInsertInterval.calls kj17 _ _ l1 t854 t855 t858 t859 _ ?_ ?_ A70.out).mono ?_); exact C_g HR1 HB; exact HC1.out; rintro e w74 ⟨v856, rfl, ho0, hb⟩; refine ⟨_, rfl, ?_⟩; have HO857 := rLo ho0 HB; replace HB := bst HB hb; clear hb ho0) | ((with_reducible refine gate_dst (N := 16) rfl ?_); refine boxG HB #[.int .i64 0, .slice none 0 0] 32 ?_; intro gb860 hg w75 BK860 GE860 hb; replace HO857 := rB HO857 hb; replace HB := bst HB hb; clear hb hg) | ((with_reducible refine gate_dst (N := 17) rfl ?_); refine boxG HB #[.int .i64 0, .int .i64 0] 37 ?_; intro gb861 hg w76 BK861 GE861 hb; replace HO857 := rB HO857 hb; have NB860_861 := neL7 BK860 hg; have NB861_860 := neR7 BK860 hg; replace BK860 := blkB BK860 hb; replace HB := bst HB hb; clear hb hg; obtain ⟨_, _, _, _⟩ := blk2 BK860; obtain ⟨Ao79, co79, rfl⟩ := Kd.R_slice HO857.out; obtain ⟨_, _, _, _⟩ := blk2 BK861) | ((with_reducible refine gate_callee (f := 12) rfl ?_); refine goesQ (some 95) Tryd.func12 #[.agg #[.int .i64 t854, .slice Ao79 t855.length co79], .agg #[.int .i64 t858, .int .i64 t859]] ?_; (with_reducible refine (impl_InsertInterval.calls kj17 t854 _ _ t855 t858 t859 t862 t863 t866 _ ?_ ?_ ?_ A71.out).mono ?_); exact rDF HO857 BK860 BK861; exact rL HO857; exact Tab.below HTAB.out (bel_g HB.out); rintro e w81 ⟨v864, rfl, ho0, hb⟩; refine ⟨_, rfl, ?_⟩; have HO865 := rLo (Kd.R_new' ho0 (Kd.R_lt (rGg HO857 BK860 BK861))) HB; replace HO857 := mkA (Kd.R_elder' (rGg HO857 BK860 BK861) (Kd.R_base ho0) hb); replace BK860 := blkS BK860 hb; replace BK861 := blkS BK861 hb; replace HB := bst HB hb; clear hb ho0) | ((with_reducible refine gate_dst (N := 18) rfl ?_); refine boxG HB #[.int .i64 0, .slice none 0 0] 32 ?_; intro gb867 hg w82 BK867 GE867 hb; replace HO857 := rB HO857 hb; replace HO865 := rB HO865 hb; have NB860_867 := neL7 BK860 hg; have NB867_860 := neR7 BK860 hg; replace BK860 := blkB BK860 hb; have NB861_867 := neL7 BK861 hg; have NB867_861 := neR7 BK861 hg; replace BK861 := blkB BK861 hb; replace HB := bst HB hb; clear hb hg; obtain ⟨_, _, _, _⟩ := blk2 BK867; obtain ⟨Ao86, co86, rfl⟩ := Kd.R_slice HO865.out; obtain ⟨_, _, _, _⟩ := blk2 BK860; obtain ⟨_, _, _, _⟩ := blk2 BK861) | ((with_reducible refine gate_callee (f := 13) rfl ?_); refine goesQ (some 101) Tryd.func13 #[.agg #[.int .i64 t854, .slice Ao79 t855.length co79], .agg #[.int .i64 t858, .int .i64 t859]] ?_; (with_reducible refine (spec_InsertInterval.calls kj17 t854 _ _ t855 t858 t859 t868 t869 t872 _ ?_ ?_ A72.out).mono ?_); exact rCF HO857 BK867; exact rL HO857; rintro e w89 ⟨v870, rfl, ho0, hb⟩; refine ⟨_, rfl, ?_⟩; have HO871 := rLo (rNF (rNF ho0 HO857 BK867) HO865 BK867) HB; replace HO857 := rEF HO857 BK867 ho0 hb; replace HO865 := rEF HO865 BK867 ho0 hb; replace BK860 := blkS BK860 hb; replace BK861 := blkS BK861 hb; replace BK867 := blkS BK867 hb; replace HB := bst HB hb; clear hb ho0) | ((with_reducible refine gate_dst (N := 20) rfl ?_); refine boxG HB #[.int .i64 0, .slice none 0 0] 32 ?_; intro gb873 hg w90 BK873 GE873 hb; replace HO857 := rB HO857 hb; replace HO865 := rB HO865 hb; replace HO871 := rB HO871 hb; have NB860_873 := neL7 BK860 hg; have NB873_860 := neR7 BK860 hg; replace BK860 := blkB BK860 hb; have NB861_873 := neL7 BK861 hg; have NB873_861 := neR7 BK861 hg; replace BK861 := blkB BK861 hb; have NB867_873 := neL7 BK867 hg; have NB873_867 := neR7 BK867 hg; replace BK867 := blkB BK867 hb; replace HB := bst HB hb; clear hb hg; obtain ⟨_, _, _, _⟩ := blk2 BK873; obtain ⟨Ao95, co95, rfl⟩ := Kd.R_slice HO871.out))
       (try simp only [Act.put, List.setIfInBounds_toArray, List.set_cons_zero, List.set_cons_succ])
       go_cut [112] (fun v112 wc => ∃ (kq : Nat) (x112_72 : Bool), v112 = .bool x112_72 ∧ Fc (laws_FnStretchedIntervals.j2 kq t866 x112_72 t854 t855 t858 t859 t862 t863 = some r) ∧ Fc (kq ≤ kj17) ∧ Fc (Kd.R (Kd.int .i64) 3 wc w.heap.size (fun k_ => some k_ ≠ ((.slice Ao86 t863.length co86) : Value).ownBlock ∧ some k_ ≠ ((.slice Ao95 t869.length co95) : Value).ownBlock) (.slice Ao79 t855.length co79) t855) ∧ Fc (Kd.R (Kd.int .i64) 3 wc w.heap.size (fun k_ => some k_ ≠ ((.slice Ao79 t855.length co79) : Value).ownBlock ∧ some k_ ≠ ((.slice Ao95 t869.length co95) : Value).ownBlock) (.slice Ao86 t863.length co86) t863) ∧ Fc (Kd.R (Kd.int .i64) 3 wc w.heap.size (fun k_ => some k_ ≠ ((.slice Ao79 t855.length co79) : Value).ownBlock ∧ some k_ ≠ ((.slice Ao86 t863.length co86) : Value).ownBlock) (.slice Ao95 t869.length co95) t869) ∧ Fc (wc.heap[gb860]? = some (.cells #[.int .i64 t854, (.slice Ao79 t855.length co79)] 32 (0, 0))) ∧ Fc (wc.heap[gb861]? = some (.cells #[.int .i64 t858, .int .i64 t859] 37 (0, 0))) ∧ Fc (wc.heap[gb867]? = some (.cells #[.int .i64 t862, (.slice Ao86 t863.length co86)] 32 (0, 0))) ∧ Fc (wc.heap[gb873]? = some (.cells #[.int .i64 t868, (.slice Ao95 t869.length co95)] 32 (0, 0))) ∧ Fc (Below w.heap.size w wc))
       case first =>
        have H := HC73.out
        clear HC73
        rcases iteP H with ⟨c96, H⟩ | ⟨c96, H⟩
        ·have c96b0 : (t866 != t872) = true := c96
         (try (have c96b1 : decide (t866 = t872) = false := by simpa using c96))
         (try (have c96b2 : (t866 == t872) = false := by simpa using c96))
         (try (have c96b3 : ¬ (t866 = t872) := by simpa using c96))
         clear c96
         (first | rw [c96b0] | (simp only [i64_w, i32_w]; rw [c96b0]) | skip)
         have H' := mkA H
         clear H
         as_aux_lemma =>
          go_wp2
          go_meet
          case rel => exact ⟨_, (true), eqS, H', ⟨by have := HJ7.out; have := HJ17.out; first | omega | exact Nat.le_refl _⟩, ⟨Kd.R_g (Kd.R_mono (Kd.R_far (p := ⟨gb873, 1, none⟩) (Kd.R_far (p := ⟨gb873, 0, none⟩) (Kd.R_types HO857.out BK873.out (by decide)) (fun _ hk => hk.2) (.int .i64 t868)) (fun _ hk => hk.2) (.slice Ao95 t869.length co95)) (fun _ hk => ⟨hk.1.1.2, hk.1.2⟩))⟩, ⟨Kd.R_g (Kd.R_mono (Kd.R_far (p := ⟨gb873, 1, none⟩) (Kd.R_far (p := ⟨gb873, 0, none⟩) (Kd.R_types HO865.out BK873.out (by decide)) (fun _ hk => hk.2) (.int .i64 t868)) (fun _ hk => hk.2) (.slice Ao95 t869.length co95)) (fun _ hk => ⟨hk.1.1.2, hk.1.2⟩))⟩, ⟨Kd.R_g (Kd.R_mono (Kd.R_far (p := ⟨gb873, 1, none⟩) (Kd.R_far (p := ⟨gb873, 0, none⟩) (Kd.R_types HO871.out BK873.out (by decide)) (fun _ hk => hk.2) (.int .i64 t868)) (fun _ hk => hk.2) (.slice Ao95 t869.length co95)) (fun _ hk => ⟨hk.1.1.2, hk.1.2⟩))⟩, ⟨blkT BK860⟩, ⟨blkT BK861⟩, ⟨blkT BK867⟩, ⟨blkT BK873⟩, hbg HB⟩
        ·have c96b0 : (t866 != t872) = false := by simpa using c96
         (try (have c96b1 : decide (t866 = t872) = true := by simpa using c96))
         (try (have c96b2 : (t866 == t872) = true := by simpa using c96))
         clear c96
         (first | rw [c96b0] | (simp only [i64_w, i32_w]; rw [c96b0]) | skip)
         obtain ⟨t874, A97, H⟩ := obE H
         have H' := mkA H
         clear H
         obtain ⟨_, _, _, _⟩ := blk2 BK867
         obtain ⟨_, _, _, _⟩ := blk2 BK873
         as_aux_lemma =>
          go_wp2_with (first | (go_at_call 10; (with_reducible refine (laws_pSameOrder.calls kj17 t862 _ _ t863 t868 _ _ t869 t874 _ ?_ ?_ ?_ ?_ A97.out).mono ?_); exact rCF HO865 BK873; exact rL HO865; exact rCF HO871 BK873; exact rL HO871; rintro e w105 ⟨rfl, hb⟩; replace HO857 := mkA (Kd.R_below (rFg HO857 BK873) hb); replace HO865 := mkA (Kd.R_below (rFg HO865 BK873) hb); replace HO871 := mkA (Kd.R_below (rFg HO871 BK873) hb); replace BK860 := blkS BK860 hb; replace BK861 := blkS BK861 hb; replace BK867 := blkS BK867 hb; replace BK873 := blkS BK873 hb; replace HB := bst HB hb; clear hb))
          go_meet
          case rel => exact ⟨_, (!t874), eqS, H', ⟨by have := HJ7.out; have := HJ17.out; first | omega | exact Nat.le_refl _⟩, ⟨Kd.R_g (Kd.R_mono HO857.out (fun _ hk => ⟨hk.1.2, hk.2⟩))⟩, ⟨Kd.R_g (Kd.R_mono HO865.out (fun _ hk => ⟨hk.1.2, hk.2⟩))⟩, ⟨Kd.R_g (Kd.R_mono HO871.out (fun _ hk => ⟨hk.1.2, hk.2⟩))⟩, bg BK860, bg BK861, bg BK867, bg BK873, hbg HB⟩
       case rest =>
        clear HC73
        try clear c1
        try clear c4
        try clear c13
        try clear c13b0
        try clear c13b1
        try clear c13b2
        try clear c17
        try clear c19
        try clear c22
        try clear c23
        try clear c25
        try clear c96
        try clear c96b0
        try clear c96b1
        try clear c96b2
        obtain ⟨kq, x112_72, rfl, HA, HJ72, HO_861001, HO_868001, HO_874001, BK860, BK861, BK867, BK873, HB⟩ := hcut
        cases kq with
        | zero => exact absurd HA.out (by simp [laws_FnStretchedIntervals.j2])
        | succ kj72 =>
         have H := HA.out
         clear HA
         simp only [laws_FnStretchedIntervals.j2] at H
         by_cases c106 : x112_72 = true
         ·subst c106
          replace H := ifT H
          obtain rfl := Option.some.inj H
          go_wp2
          go_ret
          exact ⟨eqE, bel_g HB.out⟩
         ·replace c106 := Bool.eq_false_iff.mpr c106
          subst c106
          replace H := ifF H
          by_cases c107 : t866 = true
          ·subst c107
           replace H := ifT H
           have H' := mkA H
           clear H
           as_aux_lemma =>
            go_wp2
            go_loopg [22, 23] kj72 (fun kq v22 v23 w' => ∃ (x22_4 : List Int) (x23_4 : Int), v23 = .int .i64 x23_4 ∧ Fc (laws_FnStretchedIntervals.l0 kq x22_4 x23_4 t854 t855 t858 t859 t862 t863 = some r) ∧ Fc (kq ≤ kj72) ∧ Fc (Kd.R (Kd.int .i64) 3 w' w.heap.size (fun k_ => some k_ ≠ ((.slice Ao79 t855.length co79) : Value).ownBlock ∧ some k_ ≠ ((.slice Ao86 t863.length co86) : Value).ownBlock ∧ some k_ ≠ ((.slice Ao95 t869.length co95) : Value).ownBlock) v22 x22_4) ∧ Fc (Kd.R (Kd.int .i64) 3 w' w.heap.size (fun k_ => some k_ ≠ (v22 : Value).ownBlock ∧ some k_ ≠ ((.slice Ao86 t863.length co86) : Value).ownBlock ∧ some k_ ≠ ((.slice Ao95 t869.length co95) : Value).ownBlock) (.slice Ao79 t855.length co79) t855) ∧ Fc (Kd.R (Kd.int .i64) 3 w' w.heap.size (fun k_ => some k_ ≠ (v22 : Value).ownBlock ∧ some k_ ≠ ((.slice Ao79 t855.length co79) : Value).ownBlock ∧ some k_ ≠ ((.slice Ao95 t869.length co95) : Value).ownBlock) (.slice Ao86 t863.length co86) t863) ∧ Fc (Kd.R (Kd.int .i64) 3 w' w.heap.size (fun k_ => some k_ ≠ (v22 : Value).ownBlock ∧ some k_ ≠ ((.slice Ao79 t855.length co79) : Value).ownBlock ∧ some k_ ≠ ((.slice Ao86 t863.length co86) : Value).ownBlock) (.slice Ao95 t869.length co95) t869) ∧ Fc (w'.heap[gb860]? = some (.cells #[.int .i64 t854, (.slice Ao79 t855.length co79)] 32 (0, 0))) ∧ Fc (w'.heap[gb861]? = some (.cells #[.int .i64 t858, .int .i64 t859] 37 (0, 0))) ∧ Fc (w'.heap[gb867]? = some (.cells #[.int .i64 t862, (.slice Ao86 t863.length co86)] 32 (0, 0))) ∧ Fc (w'.heap[gb873]? = some (.cells #[.int .i64 t868, (.slice Ao95 t869.length co95)] 32 (0, 0))) ∧ Fc (Below w.heap.size w w'))
            case atStart => exact ⟨(([] : List Int)), (0), eqS, H', ⟨Nat.le_refl _⟩, ⟨nilE⟩, ⟨Kd.R_g (Kd.R_mono HO_861001.out (fun _ hk => ⟨(by simp [Value.ownBlock]), ⟨hk.1, hk.2⟩⟩))⟩, ⟨Kd.R_g (Kd.R_mono HO_868001.out (fun _ hk => ⟨(by simp [Value.ownBlock]), ⟨hk.1, hk.2⟩⟩))⟩, ⟨Kd.R_g (Kd.R_mono HO_874001.out (fun _ hk => ⟨(by simp [Value.ownBlock]), ⟨hk.1, hk.2⟩⟩))⟩, bg BK860, bg BK861, bg BK867, bg BK873, hbg HB⟩
            case round =>
             clear H'
             try clear c1
             try clear c4
             try clear c13
             try clear c13b0
             try clear c13b1
             try clear c13b2
             try clear c17
             try clear c19
             try clear c22
             try clear c23
             try clear c25
             try clear c96
             try clear c96b0
             try clear c96b1
             try clear c96b2
             try clear c106
             try clear c107
             obtain ⟨x22_4, x23_4, rfl, HA, HK4, HO_22, HO_861001, HO_868001, HO_874001, BK860, BK861, BK867, BK873, HB⟩ := hrel
             cases gk with
             | zero => exact absurd HA.out (by simp [laws_FnStretchedIntervals.l0])
             | succ k4 =>
              have H := HA.out
              clear HA
              simp only [laws_FnStretchedIntervals.l0] at H
              rcases iteE H with ⟨c108b0, H⟩ | ⟨c108b0, H⟩
              ·obtain ⟨c109, H⟩ := itNP H
               have LMc109 := mkA c109
               clear c109
               obtain ⟨y875, hy875⟩ : ∃ y_ : List Int, y_ = (x22_4 ++ [x23_4]) := ⟨_, rfl⟩
               rw [← hy875] at H
               have Ny875 := mkA hy875
               clear hy875
               have H' := mkA H
               clear H
               obtain ⟨_, _, _, _⟩ := blk2 BK860
               go_wp2_with (first | ((with_reducible refine gate_builtin (b := .append) (xs := #[.tmp 121, .tmp 123]) rfl ?_); at_builtin; refine Kd.R_append (Kd.int .i64) (w0 := w) w.heap.size rfl (.tmp 121) (.tmp 123) 30 3 (.int .i64 0) 8 rfl Tryd.underlying30 info3 rfl (by decide) (by omega) u22 x22_4 x23_4 [.int .i64 x23_4] (fun k_ => some k_ ≠ (.slice Ao79 t855.length co79 : Value).ownBlock ∧ some k_ ≠ (.slice Ao86 t863.length co86 : Value).ownBlock ∧ some k_ ≠ (.slice Ao95 t869.length co95 : Value).ownBlock) (fun _ => False) rfl rfl ?aP (fun _ hk => hk.elim) ?aF ?aO ?aB ?aS ?aL ?_; (case aP => exact rfl); (case aB => exact (bel_g HB.out)); (case aF => exact (fun k_ hk => ⟨Kd.fresh' (Kd.R_lt (Kd.R_g HO_861001.out)) k_ hk, Kd.fresh' (Kd.R_lt (Kd.R_g HO_868001.out)) k_ hk, Kd.fresh' (Kd.R_lt (Kd.R_g HO_874001.out)) k_ hk⟩)); (case aO => exact (Kd.R_g HO_22.out)); (case aS => exact (below_size (bel_g HB.out))); (case aL => have := LMc109.out; omega); intro v876 w114 ho hb hg hat; rw [← Ny875.out] at ho; replace HO_861001 := mkA (Kd.R_after (ok := (fun k_ => some k_ ≠ (.slice Ao86 t863.length co86 : Value).ownBlock ∧ some k_ ≠ (.slice Ao95 t869.length co95 : Value).ownBlock)) (Kd.R_g (Kd.R_mono HO_861001.out (fun _ hk => ⟨⟨hk.2.1, hk.2.2⟩, hk.1⟩))) hg hat); replace HO_868001 := mkA (Kd.R_after (ok := (fun k_ => some k_ ≠ (.slice Ao79 t855.length co79 : Value).ownBlock ∧ some k_ ≠ (.slice Ao95 t869.length co95 : Value).ownBlock)) (Kd.R_g (Kd.R_mono HO_868001.out (fun _ hk => ⟨⟨hk.2.1, hk.2.2⟩, hk.1⟩))) hg hat); replace HO_874001 := mkA (Kd.R_after (ok := (fun k_ => some k_ ≠ (.slice Ao79 t855.length co79 : Value).ownBlock ∧ some k_ ≠ (.slice Ao86 t863.length co86 : Value).ownBlock)) (Kd.R_g (Kd.R_mono HO_874001.out (fun _ hk => ⟨⟨hk.2.1, hk.2.2⟩, hk.1⟩))) hg hat); replace BK860 := mkA (blk_grown (g := gb860) (o := .cells #[.int .i64 t854, .slice Ao79 t855.length co79] 32 (0, 0)) (blk_g BK860.out) hg (Kd.R_ne HO_22.out BK860.out (by decide))); replace BK861 := mkA (blk_grown (g := gb861) (o := .cells #[.int .i64 t858, .int .i64 t859] 37 (0, 0)) (blk_g BK861.out) hg (Kd.R_ne HO_22.out BK861.out (by decide))); replace BK867 := mkA (blk_grown (g := gb867) (o := .cells #[.int .i64 t862, .slice Ao86 t863.length co86] 32 (0, 0)) (blk_g BK867.out) hg (Kd.R_ne HO_22.out BK867.out (by decide))); replace BK873 := mkA (blk_grown (g := gb873) (o := .cells #[.int .i64 t868, .slice Ao95 t869.length co95] 32 (0, 0)) (blk_g BK873.out) hg (Kd.R_ne HO_22.out BK873.out (by decide))); have HO877 := mkA (ho); replace HB := mkA (hb); clear HO_22; clear ho hb hg hat))
               go_roundg k4
               case measure => have := HJ7.out; have := HJ17.out; have := HJ72.out; have := HK4.out; omega
               case rel => exact ⟨(y875), (wrap64 (x23_4 + 1)), eqS, H', ⟨by have := HJ7.out; have := HJ17.out; have := HJ72.out; have := HK4.out; omega⟩, rg HO877, ⟨Kd.R_g (Kd.R_mono HO_861001.out (fun _ hk => ⟨hk.2, ⟨hk.1.1, hk.1.2⟩⟩))⟩, ⟨Kd.R_g (Kd.R_mono HO_868001.out (fun _ hk => ⟨hk.2, ⟨hk.1.1, hk.1.2⟩⟩))⟩, ⟨Kd.R_g (Kd.R_mono HO_874001.out (fun _ hk => ⟨hk.2, ⟨hk.1.1, hk.1.2⟩⟩))⟩, bg BK860, bg BK861, bg BK867, bg BK873, hbg HB⟩
              ·obtain ⟨⟨t878, t879, t882⟩, A115, H⟩ := obE H
               dsimp only at H
               obtain ⟨⟨t884, t885⟩, A116, H⟩ := obE H
               dsimp only at H
               obtain ⟨⟨t886, t889⟩, A117, H⟩ := obE H
               dsimp only at H
               have HC118 := mkA H
               clear H
               obtain ⟨_, _, _, _⟩ := blk2 BK860
               obtain ⟨_, _, _, _⟩ := blk2 BK867
               obtain ⟨Ao126, co126, rfl⟩ := Kd.R_slice HO_22.out
               go_upto_region 28 with (first | ((with_reducible refine gate_callee (f := 14) rfl ?_); refine goesQ (some 128) Tryd.func14 #[.agg #[.int .i64 t862, .slice Ao86 t863.length co86], .slice Ao126 x22_4.length co126] ?_; (with_reducible refine (impl_PartOf.calls k4 t862 _ _ t863 _ _ x22_4 t878 t879 t882 _ ?_ ?_ ?_ ?_ A115.out).mono ?_); exact rC HO_868001; exact rL HO_868001; exact rC HO_22; exact rL HO_22; rintro e w127 ⟨v880, rfl, ho0, hb⟩; refine ⟨_, rfl, ?_⟩; have HO881 := rLo (rN (rN (rN (rN ho0 HO_22) HO_861001) HO_868001) HO_874001) HB; replace HO_22 := rE HO_22 ho0 hb; replace HO_861001 := rE HO_861001 ho0 hb; replace HO_868001 := rE HO_868001 ho0 hb; replace HO_874001 := rE HO_874001 ho0 hb; replace BK860 := blkB BK860 hb; replace BK861 := blkB BK861 hb; replace BK867 := blkB BK867 hb; replace BK873 := blkB BK873 hb; replace HB := bst HB hb; clear hb ho0) | ((with_reducible refine gate_dst (N := 24) rfl ?_); refine boxG HB #[.int .i64 0, .slice none 0 0] 32 ?_; intro gb883 hg w128 BK883 GE883 hb; replace HO_22 := rB HO_22 hb; replace HO_861001 := rB HO_861001 hb; replace HO_868001 := rB HO_868001 hb; replace HO_874001 := rB HO_874001 hb; replace HO881 := rB HO881 hb; have NB860_883 := neL7 BK860 hg; have NB883_860 := neR7 BK860 hg; replace BK860 := blkB BK860 hb; have NB861_883 := neL7 BK861 hg; have NB883_861 := neR7 BK861 hg; replace BK861 := blkB BK861 hb; have NB867_883 := neL7 BK867 hg; have NB883_867 := neR7 BK867 hg; replace BK867 := blkB BK867 hb; have NB873_883 := neL7 BK873 hg; have NB883_873 := neR7 BK873 hg; replace BK873 := blkB BK873 hb; replace HB := bst HB hb; clear hb hg; obtain ⟨_, _, _, _⟩ := blk2 BK883; obtain ⟨Ao134, co134, rfl⟩ := Kd.R_slice HO881.out; obtain ⟨_, _, _, _⟩ := blk2 BK867) | ((with_reducible refine gate_callee (f := 15) rfl ?_); refine goesQ (some 133) Tryd.func15 #[.agg #[.int .i64 t862, .slice Ao86 t863.length co86]] ?_; (with_reducible refine (impl_IsIntervalOrder.calls k4 t862 _ _ t863 t884 t885 _ ?_ ?_ ?_ A116.out).mono ?_); exact rCF HO_868001 BK883; exact rL HO_868001; exact Tab.below HTAB.out (bel_g HB.out); rintro e w136 ⟨rfl, hb⟩; refine ⟨_, rfl, ?_⟩; replace HO_22 := mkA (Kd.R_below (rFg HO_22 BK883) hb); replace HO_861001 := mkA (Kd.R_below (rFg HO_861001 BK883) hb); replace HO_868001 := mkA (Kd.R_below (rFg HO_868001 BK883) hb); replace HO_874001 := mkA (Kd.R_below (rFg HO_874001 BK883) hb); replace HO881 := mkA (Kd.R_below (rFg HO881 BK883) hb); replace BK860 := blkS BK860 hb; replace BK861 := blkS BK861 hb; replace BK867 := blkS BK867 hb; replace BK873 := blkS BK873 hb; replace BK883 := blkS BK883 hb; replace HB := bst HB hb; clear hb; obtain ⟨_, _, _, _⟩ := blk2 BK860) | ((with_reducible refine gate_callee (f := 16) rfl ?_); refine goesQ (some 138) Tryd.func16 #[.agg #[.int .i64 t854, .slice Ao79 t855.length co79]] ?_; (with_reducible refine (impl_EndsOf.calls k4 t854 _ _ t855 t886 t889 _ ?_ ?_ ?_ A117.out).mono ?_); exact rC HO_861001; exact rL HO_861001; exact Tab.below HTAB.out (bel_g HB.out); rintro e w138 ⟨v887, rfl, ho0, hb⟩; refine ⟨_, rfl, ?_⟩; replace HO_22 := rB HO_22 hb; replace HO_861001 := rB HO_861001 hb; replace HO_868001 := rB HO_868001 hb; replace HO_874001 := rB HO_874001 hb; replace HO881 := rB HO881 hb; have HO888 := rLo (Kd.R_newB ho0 (g := gb861) (o := .cells #[.int .i64 t858, .int .i64 t859] 37 (0, 0)) (blk_g BK861.out)) HB; replace BK860 := blkB BK860 hb; replace BK861 := blkB BK861 hb; replace BK867 := blkB BK867 hb; replace BK873 := blkB BK873 hb; replace BK883 := blkB BK883 hb; replace HB := bst HB hb; clear hb ho0))
               (try simp only [Act.put, List.setIfInBounds_toArray, List.set_cons_zero, List.set_cons_succ])
               go_cut [160] (fun v160 wc => ∃ (kq : Nat) (x160_117 : Bool), v160 = .bool x160_117 ∧ Fc (laws_FnStretchedIntervals.j4 kq t886 x160_117 t854 t855 t858 t859 t862 t863 = some r) ∧ Fc (kq ≤ k4) ∧ Fc (Kd.R k37 37 wc w.heap.size (fun k_ => k_ ≠ gb861) v887 t886) ∧ Fc (Kd.R (Kd.int .i64) 3 wc w.heap.size (fun k_ => some k_ ≠ ((.slice Ao86 t863.length co86) : Value).ownBlock ∧ some k_ ≠ ((.slice Ao95 t869.length co95) : Value).ownBlock ∧ some k_ ≠ ((.slice Ao134 t879.length co134) : Value).ownBlock) (.slice Ao79 t855.length co79) t855) ∧ Fc (Kd.R (Kd.int .i64) 3 wc w.heap.size (fun k_ => some k_ ≠ ((.slice Ao79 t855.length co79) : Value).ownBlock ∧ some k_ ≠ ((.slice Ao95 t869.length co95) : Value).ownBlock ∧ some k_ ≠ ((.slice Ao134 t879.length co134) : Value).ownBlock) (.slice Ao86 t863.length co86) t863) ∧ Fc (Kd.R (Kd.int .i64) 3 wc w.heap.size (fun k_ => some k_ ≠ ((.slice Ao79 t855.length co79) : Value).ownBlock ∧ some k_ ≠ ((.slice Ao86 t863.length co86) : Value).ownBlock ∧ some k_ ≠ ((.slice Ao134 t879.length co134) : Value).ownBlock) (.slice Ao95 t869.length co95) t869) ∧ Fc (Kd.R (Kd.int .i64) 3 wc w.heap.size (fun k_ => some k_ ≠ ((.slice Ao79 t855.length co79) : Value).ownBlock ∧ some k_ ≠ ((.slice Ao86 t863.length co86) : Value).ownBlock ∧ some k_ ≠ ((.slice Ao95 t869.length co95) : Value).ownBlock) (.slice Ao134 t879.length co134) t879) ∧ Fc (wc.heap[gb860]? = some (.cells #[.int .i64 t854, (.slice Ao79 t855.length co79)] 32 (0, 0))) ∧ Fc (wc.heap[gb861]? = some (.cells #[.int .i64 t858, .int .i64 t859] 37 (0, 0))) ∧ Fc (wc.heap[gb867]? = some (.cells #[.int .i64 t862, (.slice Ao86 t863.length co86)] 32 (0, 0))) ∧ Fc (wc.heap[gb873]? = some (.cells #[.int .i64 t868, (.slice Ao95 t869.length co95)] 32 (0, 0))) ∧ Fc (wc.heap[gb883]? = some (.cells #[.int .i64 t878, (.slice Ao134 t879.length co134)] 32 (0, 0))) ∧ Fc (Below w.heap.size w wc))
               case first =>
                have H := HC118.out
                clear HC118
                by_cases c139 : t882 = true
                ·subst c139
                 replace H := ifT H
                 by_cases c140 : t885 = true
                 ·subst c140
                  replace H := ifT H
                  by_cases c141 : t889 = true
                  ·subst c141
                   replace H := ifT H
                   by_cases c142 : t884 = true
                   ·subst c142
                    replace H := ifT H
                    obtain ⟨t890, A143, H⟩ := obE H
                    have H' := mkA H
                    clear H
                    obtain ⟨_, _, _, _⟩ := blk2 BK883
                    obtain ⟨_, _, _, _⟩ := blk2 BK860
                    go_wp2_with (first | (go_at_call 10; (with_reducible refine (laws_pSameOrder.calls k4 t878 _ _ t879 t854 _ _ t855 t890 _ ?_ ?_ ?_ ?_ A143.out).mono ?_); exact rC HO881; exact rL HO881; exact rC HO_861001; exact rL HO_861001; rintro e w153 ⟨rfl, hb⟩; replace HO_22 := rB HO_22 hb; replace HO_861001 := rB HO_861001 hb; replace HO_868001 := rB HO_868001 hb; replace HO_874001 := rB HO_874001 hb; replace HO881 := rB HO881 hb; replace HO888 := rB HO888 hb; replace BK860 := blkB BK860 hb; replace BK861 := blkB BK861 hb; replace BK867 := blkB BK867 hb; replace BK873 := blkB BK873 hb; replace BK883 := blkB BK883 hb; replace HB := bst HB hb; clear hb))
                    go_meet
                    case rel => exact ⟨_, (!t890), eqS, H', ⟨by have := HJ7.out; have := HJ17.out; have := HJ72.out; have := HK4.out; first | omega | exact Nat.le_refl _⟩, ⟨Kd.R_g (Kd.R_mono HO888.out (fun _ hk => hk.2))⟩, ⟨Kd.R_g (Kd.R_mono HO_861001.out (fun _ hk => ⟨hk.1.2.1, ⟨hk.1.2.2, hk.2⟩⟩))⟩, ⟨Kd.R_g (Kd.R_mono HO_868001.out (fun _ hk => ⟨hk.1.2.1, ⟨hk.1.2.2, hk.2⟩⟩))⟩, ⟨Kd.R_g (Kd.R_mono HO_874001.out (fun _ hk => ⟨hk.1.2.1, ⟨hk.1.2.2, hk.2⟩⟩))⟩, ⟨Kd.R_g (Kd.R_mono HO881.out (fun _ hk => ⟨hk.1.1.2, ⟨hk.1.2, hk.2⟩⟩))⟩, bg BK860, bg BK861, bg BK867, bg BK873, bg BK883, hbg HB⟩
                   ·replace c142 := Bool.eq_false_iff.mpr c142
                    subst c142
                    replace H := ifF H
                    have H' := mkA H
                    clear H
                    go_wp2
                    go_meet
                    case rel => exact ⟨_, (true), eqS, H', ⟨by have := HJ7.out; have := HJ17.out; have := HJ72.out; have := HK4.out; first | omega | exact Nat.le_refl _⟩, ⟨Kd.R_g (Kd.R_mono HO888.out (fun _ hk => hk.2))⟩, ⟨Kd.R_g (Kd.R_mono HO_861001.out (fun _ hk => ⟨hk.1.2.1, ⟨hk.1.2.2, hk.2⟩⟩))⟩, ⟨Kd.R_g (Kd.R_mono HO_868001.out (fun _ hk => ⟨hk.1.2.1, ⟨hk.1.2.2, hk.2⟩⟩))⟩, ⟨Kd.R_g (Kd.R_mono HO_874001.out (fun _ hk => ⟨hk.1.2.1, ⟨hk.1.2.2, hk.2⟩⟩))⟩, ⟨Kd.R_g (Kd.R_mono HO881.out (fun _ hk => ⟨hk.1.1.2, ⟨hk.1.2, hk.2⟩⟩))⟩, bg BK860, bg BK861, bg BK867, bg BK873, bg BK883, hbg HB⟩
                  ·replace c141 := Bool.eq_false_iff.mpr c141
                   subst c141
                   replace H := ifF H
                   have H' := mkA H
                   clear H
                   go_wp2
                   go_meet
                   case rel => exact ⟨_, (true), eqS, H', ⟨by have := HJ7.out; have := HJ17.out; have := HJ72.out; have := HK4.out; first | omega | exact Nat.le_refl _⟩, ⟨Kd.R_g (Kd.R_mono HO888.out (fun _ hk => hk.2))⟩, ⟨Kd.R_g (Kd.R_mono HO_861001.out (fun _ hk => ⟨hk.1.2.1, ⟨hk.1.2.2, hk.2⟩⟩))⟩, ⟨Kd.R_g (Kd.R_mono HO_868001.out (fun _ hk => ⟨hk.1.2.1, ⟨hk.1.2.2, hk.2⟩⟩))⟩, ⟨Kd.R_g (Kd.R_mono HO_874001.out (fun _ hk => ⟨hk.1.2.1, ⟨hk.1.2.2, hk.2⟩⟩))⟩, ⟨Kd.R_g (Kd.R_mono HO881.out (fun _ hk => ⟨hk.1.1.2, ⟨hk.1.2, hk.2⟩⟩))⟩, bg BK860, bg BK861, bg BK867, bg BK873, bg BK883, hbg HB⟩
                 ·replace c140 := Bool.eq_false_iff.mpr c140
                  subst c140
                  replace H := ifF H
                  have H' := mkA H
                  clear H
                  go_wp2
                  go_meet
                  case rel => exact ⟨_, (true), eqS, H', ⟨by have := HJ7.out; have := HJ17.out; have := HJ72.out; have := HK4.out; first | omega | exact Nat.le_refl _⟩, ⟨Kd.R_g (Kd.R_mono HO888.out (fun _ hk => hk.2))⟩, ⟨Kd.R_g (Kd.R_mono HO_861001.out (fun _ hk => ⟨hk.1.2.1, ⟨hk.1.2.2, hk.2⟩⟩))⟩, ⟨Kd.R_g (Kd.R_mono HO_868001.out (fun _ hk => ⟨hk.1.2.1, ⟨hk.1.2.2, hk.2⟩⟩))⟩, ⟨Kd.R_g (Kd.R_mono HO_874001.out (fun _ hk => ⟨hk.1.2.1, ⟨hk.1.2.2, hk.2⟩⟩))⟩, ⟨Kd.R_g (Kd.R_mono HO881.out (fun _ hk => ⟨hk.1.1.2, ⟨hk.1.2, hk.2⟩⟩))⟩, bg BK860, bg BK861, bg BK867, bg BK873, bg BK883, hbg HB⟩
                ·replace c139 := Bool.eq_false_iff.mpr c139
                 subst c139
                 replace H := ifF H
                 have H' := mkA H
                 clear H
                 go_wp2
                 go_meet
                 case rel => exact ⟨_, (true), eqS, H', ⟨by have := HJ7.out; have := HJ17.out; have := HJ72.out; have := HK4.out; first | omega | exact Nat.le_refl _⟩, ⟨Kd.R_g (Kd.R_mono HO888.out (fun _ hk => hk.2))⟩, ⟨Kd.R_g (Kd.R_mono HO_861001.out (fun _ hk => ⟨hk.1.2.1, ⟨hk.1.2.2, hk.2⟩⟩))⟩, ⟨Kd.R_g (Kd.R_mono HO_868001.out (fun _ hk => ⟨hk.1.2.1, ⟨hk.1.2.2, hk.2⟩⟩))⟩, ⟨Kd.R_g (Kd.R_mono HO_874001.out (fun _ hk => ⟨hk.1.2.1, ⟨hk.1.2.2, hk.2⟩⟩))⟩, ⟨Kd.R_g (Kd.R_mono HO881.out (fun _ hk => ⟨hk.1.1.2, ⟨hk.1.2, hk.2⟩⟩))⟩, bg BK860, bg BK861, bg BK867, bg BK873, bg BK883, hbg HB⟩
               case rest =>
                clear HC118
                try clear c1
                try clear c4
                try clear c13
                try clear c13b0
                try clear c13b1
                try clear c13b2
                try clear c17
                try clear c19
                try clear c22
                try clear c23
                try clear c25
                try clear c96
                try clear c96b0
                try clear c96b1
                try clear c96b2
                try clear c106
                try clear c107
                try clear c108b0
                try clear c109
                try clear c139
                try clear c140
                try clear c141
                try clear c142
                obtain ⟨kq, x160_117, rfl, HA, HJ117, HO_28, HO_861001, HO_868001, HO_874001, HO_884001, BK860, BK861, BK867, BK873, BK883, HB⟩ := hcut
                cases kq with
                | zero => exact absurd HA.out (by simp [laws_FnStretchedIntervals.j4])
                | succ kj117 =>
                 have H := HA.out
                 clear HA
                 simp only [laws_FnStretchedIntervals.j4] at H
                 by_cases c154 : x160_117 = true
                 ·subst c154
                  replace H := ifT H
                  obtain rfl := Option.some.inj H
                  go_wp2
                  go_ret
                  exact ⟨eqE, bel_g HB.out⟩
                 ·replace c154 := Bool.eq_false_iff.mpr c154
                  subst c154
                  replace H := ifF H
                  have H' := mkA H
                  clear H
                  obtain ⟨Ao155, co155, rfl⟩ := Kd.R_slice HO_28.out
                  go_wp2
                  go_loopg [163] kj117 (fun kq v163 w' => ∃ (x163_6 : Int), v163 = .int .i64 x163_6 ∧ Fc (laws_FnStretchedIntervals.l1 kq t886 (t886.length : Int) x163_6 t854 t855 t858 t859 t862 t863 = some r) ∧ Fc (kq ≤ kj117) ∧ Fc (Kd.R k37 37 w' w.heap.size (fun k_ => k_ ≠ gb861) (.slice Ao155 t886.length co155) t886) ∧ Fc (Kd.R (Kd.int .i64) 3 w' w.heap.size (fun k_ => some k_ ≠ ((.slice Ao86 t863.length co86) : Value).ownBlock ∧ some k_ ≠ ((.slice Ao95 t869.length co95) : Value).ownBlock ∧ some k_ ≠ ((.slice Ao134 t879.length co134) : Value).ownBlock) (.slice Ao79 t855.length co79) t855) ∧ Fc (Kd.R (Kd.int .i64) 3 w' w.heap.size (fun k_ => some k_ ≠ ((.slice Ao79 t855.length co79) : Value).ownBlock ∧ some k_ ≠ ((.slice Ao95 t869.length co95) : Value).ownBlock ∧ some k_ ≠ ((.slice Ao134 t879.length co134) : Value).ownBlock) (.slice Ao86 t863.length co86) t863) ∧ Fc (Kd.R (Kd.int .i64) 3 w' w.heap.size (fun k_ => some k_ ≠ ((.slice Ao79 t855.length co79) : Value).ownBlock ∧ some k_ ≠ ((.slice Ao86 t863.length co86) : Value).ownBlock ∧ some k_ ≠ ((.slice Ao134 t879.length co134) : Value).ownBlock) (.slice Ao95 t869.length co95) t869) ∧ Fc (Kd.R (Kd.int .i64) 3 w' w.heap.size (fun k_ => some k_ ≠ ((.slice Ao79 t855.length co79) : Value).ownBlock ∧ some k_ ≠ ((.slice Ao86 t863.length co86) : Value).ownBlock ∧ some k_ ≠ ((.slice Ao95 t869.length co95) : Value).ownBlock) (.slice Ao134 t879.length co134) t879) ∧ Fc (w'.heap[gb860]? = some (.cells #[.int .i64 t854, (.slice Ao79 t855.length co79)] 32 (0, 0))) ∧ Fc (w'.heap[gb861]? = some (.cells #[.int .i64 t858, .int .i64 t859] 37 (0, 0))) ∧ Fc (w'.heap[gb867]? = some (.cells #[.int .i64 t862, (.slice Ao86 t863.length co86)] 32 (0, 0))) ∧ Fc (w'.heap[gb873]? = some (.cells #[.int .i64 t868, (.slice Ao95 t869.length co95)] 32 (0, 0))) ∧ Fc (w'.heap[gb883]? = some (.cells #[.int .i64 t878, (.slice Ao134 t879.length co134)] 32 (0, 0))) ∧ Fc (Below w.heap.size w w'))
                  case atStart => exact ⟨(0), eqS, H', ⟨Nat.le_refl _⟩, rg HO_28, rg HO_861001, rg HO_868001, rg HO_874001, rg HO_884001, bg BK860, bg BK861, bg BK867, bg BK873, bg BK883, hbg HB⟩
                  case round =>
                   clear H'
                   try clear c1
                   try clear c4
                   try clear c13
                   try clear c13b0
                   try clear c13b1
                   try clear c13b2
                   try clear c17
                   try clear c19
                   try clear c22
                   try clear c23
                   try clear c25
                   try clear c96
                   try clear c96b0
                   try clear c96b1
                   try clear c96b2
                   try clear c106
                   try clear c107
                   try clear c108b0
                   try clear c109
                   try clear c139
                   try clear c140
                   try clear c141
                   try clear c142
                   try clear c154
                   obtain ⟨x163_6, rfl, HA, HK6, HO_161, HO_861001, HO_868001, HO_874001, HO_884001, BK860, BK861, BK867, BK873, BK883, HB⟩ := hrel
                   cases gk with
                   | zero => exact absurd HA.out (by simp [laws_FnStretchedIntervals.l1])
                   | succ k6 =>
                    have H := HA.out
                    clear HA
                    simp only [laws_FnStretchedIntervals.l1] at H
                    rcases iteE H with ⟨c156b0, H⟩ | ⟨c156b0, H⟩
                    ·obtain ⟨c157b0, H⟩ := itND H
                     obtain ⟨c158b0, H⟩ := itND H
                     obtain ⟨c159b0, H⟩ := itND H
                     obtain ⟨t894, A160, H⟩ := obE H
                     rcases iteP H with ⟨c161, H⟩ | ⟨c161, H⟩
                     ·have c161b0 : (t894 != (decide (((rd_T37 t886 x163_6).f1) < t858))) = true := c161
                      (try (have c161b1 : decide (t894 = (decide (((rd_T37 t886 x163_6).f1) < t858))) = false := by simpa using c161))
                      (try (have c161b2 : (t894 == (decide (((rd_T37 t886 x163_6).f1) < t858))) = false := by simpa using c161))
                      (try (have c161b3 : ¬ (t894 = (decide (((rd_T37 t886 x163_6).f1) < t858))) := by simpa using c161))
                      clear c161
                      obtain rfl := Option.some.inj H
                      have p891 : 0 ≤ (x163_6 : Int) := ofd
                      have q891 : x163_6 < (t886.length : Int) := ofd
                      obtain ⟨ad891, e891, hx891_0, hx891_1⟩ := at_T37 (Kd.R_reads' HO_161.out).2.2 x163_6 p891 q891
                      cases e891
                      replace p891 := eq_true p891
                      replace q891 := eq_true q891
                      try go_wp2_with (first | ((with_reducible refine gate_dst (N := 31) rfl ?_); refine boxE (N := 31) (cs := #[.int .i64 0, .int .i64 0]) (t := 37) ?_; intro gb892 hg w162 hbox hb; replace HO_161 := mkA (Kd.R_below (Kd.R_elderB (Kd.R_g HO_161.out) gb892 (Nat.le_of_eq hg.symm)) hb); replace HO_861001 := rB HO_861001 hb; replace HO_868001 := rB HO_868001 hb; replace HO_874001 := rB HO_874001 hb; replace HO_884001 := rB HO_884001 hb; have BK892 := mkA (hbox); have GE892 := geB HB hg; have NB860_892 := neL7 BK860 hg; have NB892_860 := neR7 BK860 hg; replace BK860 := blkB BK860 hb; have NB861_892 := neL7 BK861 hg; have NB892_861 := neR7 BK861 hg; replace BK861 := blkB BK861 hb; have NB867_892 := neL7 BK867 hg; have NB892_867 := neR7 BK867 hg; replace BK867 := blkB BK867 hb; have NB873_892 := neL7 BK873 hg; have NB892_873 := neR7 BK873 hg; replace BK873 := blkB BK873 hb; have NB883_892 := neL7 BK883 hg; have NB892_883 := neR7 BK883 hg; replace BK883 := blkB BK883 hb; replace HB := bst HB hb; clear hb hbox hg; obtain ⟨_, _, _, _⟩ := blk2 BK892))
                      have n0_ : Fc (Kd.R k37 37 ((w162.setCell ⟨gb892, 0, none⟩ (.int .i64 ((rd_T37 t886 x163_6).f0))).setCell ⟨gb892, 1, none⟩ (.int .i64 ((rd_T37 t886 x163_6).f1))) w.heap.size (fun k_ => k_ ≠ gb861 ∧ k_ ≠ gb892) (.slice (some ad891) t886.length co155) t886) := ⟨Kd.R_g (Kd.R_mono (Kd.R_far (p := ⟨gb892, 1, none⟩) (Kd.R_far (p := ⟨gb892, 0, none⟩) (Kd.R_mono HO_161.out (fun k_ hk => (⟨hk, hk.2⟩ : _ ∧ k_ ≠ gb892))) (fun _ hk => hk.2) (.int .i64 ((rd_T37 t886 x163_6).f0))) (fun _ hk => hk.2) (.int .i64 ((rd_T37 t886 x163_6).f1))) (fun _ hk => ⟨hk.1.1, hk.1.2⟩))⟩
                      have n1_ : Fc (Kd.R (Kd.int .i64) 3 ((w162.setCell ⟨gb892, 0, none⟩ (.int .i64 ((rd_T37 t886 x163_6).f0))).setCell ⟨gb892, 1, none⟩ (.int .i64 ((rd_T37 t886 x163_6).f1))) w.heap.size (fun k_ => some k_ ≠ (.slice Ao86 t863.length co86 : Value).ownBlock ∧ some k_ ≠ (.slice Ao95 t869.length co95 : Value).ownBlock ∧ some k_ ≠ (.slice Ao134 t879.length co134 : Value).ownBlock) (.slice Ao79 t855.length co79) t855) := ⟨Kd.R_g (Kd.R_mono (Kd.R_far (p := ⟨gb892, 1, none⟩) (Kd.R_far (p := ⟨gb892, 0, none⟩) (Kd.R_types HO_861001.out BK892.out (by decide)) (fun _ hk => hk.2) (.int .i64 ((rd_T37 t886 x163_6).f0))) (fun _ hk => hk.2) (.int .i64 ((rd_T37 t886 x163_6).f1))) (fun _ hk => ⟨hk.1.1, ⟨hk.1.2.1, hk.1.2.2⟩⟩))⟩
                      have n2_ : Fc (Kd.R (Kd.int .i64) 3 ((w162.setCell ⟨gb892, 0, none⟩ (.int .i64 ((rd_T37 t886 x163_6).f0))).setCell ⟨gb892, 1, none⟩ (.int .i64 ((rd_T37 t886 x163_6).f1))) w.heap.size (fun k_ => some k_ ≠ (.slice Ao79 t855.length co79 : Value).ownBlock ∧ some k_ ≠ (.slice Ao95 t869.length co95 : Value).ownBlock ∧ some k_ ≠ (.slice Ao134 t879.length co134 : Value).ownBlock) (.slice Ao86 t863.length co86) t863) := ⟨Kd.R_g (Kd.R_mono (Kd.R_far (p := ⟨gb892, 1, none⟩) (Kd.R_far (p := ⟨gb892, 0, none⟩) (Kd.R_types HO_868001.out BK892.out (by decide)) (fun _ hk => hk.2) (.int .i64 ((rd_T37 t886 x163_6).f0))) (fun _ hk => hk.2) (.int .i64 ((rd_T37 t886 x163_6).f1))) (fun _ hk => ⟨hk.1.1, ⟨hk.1.2.1, hk.1.2.2⟩⟩))⟩
                      have n3_ : Fc (Kd.R (Kd.int .i64) 3 ((w162.setCell ⟨gb892, 0, none⟩ (.int .i64 ((rd_T37 t886 x163_6).f0))).setCell ⟨gb892, 1, none⟩ (.int .i64 ((rd_T37 t886 x163_6).f1))) w.heap.size (fun k_ => some k_ ≠ (.slice Ao79 t855.length co79 : Value).ownBlock ∧ some k_ ≠ (.slice Ao86 t863.length co86 : Value).ownBlock ∧ some k_ ≠ (.slice Ao134 t879.length co134 : Value).ownBlock) (.slice Ao95 t869.length co95) t869) := ⟨Kd.R_g (Kd.R_mono (Kd.R_far (p := ⟨gb892, 1, none⟩) (Kd.R_far (p := ⟨gb892, 0, none⟩) (Kd.R_types HO_874001.out BK892.out (by decide)) (fun _ hk => hk.2) (.int .i64 ((rd_T37 t886 x163_6).f0))) (fun _ hk => hk.2) (.int .i64 ((rd_T37 t886 x163_6).f1))) (fun _ hk => ⟨hk.1.1, ⟨hk.1.2.1, hk.1.2.2⟩⟩))⟩
                      have n4_ : Fc (Kd.R (Kd.int .i64) 3 ((w162.setCell ⟨gb892, 0, none⟩ (.int .i64 ((rd_T37 t886 x163_6).f0))).setCell ⟨gb892, 1, none⟩ (.int .i64 ((rd_T37 t886 x163_6).f1))) w.heap.size (fun k_ => some k_ ≠ (.slice Ao79 t855.length co79 : Value).ownBlock ∧ some k_ ≠ (.slice Ao86 t863.length co86 : Value).ownBlock ∧ some k_ ≠ (.slice Ao95 t869.length co95 : Value).ownBlock) (.slice Ao134 t879.length co134) t879) := ⟨Kd.R_g (Kd.R_mono (Kd.R_far (p := ⟨gb892, 1, none⟩) (Kd.R_far (p := ⟨gb892, 0, none⟩) (Kd.R_types HO_884001.out BK892.out (by decide)) (fun _ hk => hk.2) (.int .i64 ((rd_T37 t886 x163_6).f0))) (fun _ hk => hk.2) (.int .i64 ((rd_T37 t886 x163_6).f1))) (fun _ hk => ⟨hk.1.1, ⟨hk.1.2.1, hk.1.2.2⟩⟩))⟩
                      have n5_ : Fc (((w162.setCell ⟨gb892, 0, none⟩ (.int .i64 ((rd_T37 t886 x163_6).f0))).setCell ⟨gb892, 1, none⟩ (.int .i64 ((rd_T37 t886 x163_6).f1))).heap[gb860]? = some (.cells #[.int .i64 t854, .slice Ao79 t855.length co79] 32 (0, 0))) := ⟨blkT BK860⟩
                      have n6_ : Fc (((w162.setCell ⟨gb892, 0, none⟩ (.int .i64 ((rd_T37 t886 x163_6).f0))).setCell ⟨gb892, 1, none⟩ (.int .i64 ((rd_T37 t886 x163_6).f1))).heap[gb861]? = some (.cells #[.int .i64 t858, .int .i64 t859] 37 (0, 0))) := ⟨blkT BK861⟩
                      have n7_ : Fc (((w162.setCell ⟨gb892, 0, none⟩ (.int .i64 ((rd_T37 t886 x163_6).f0))).setCell ⟨gb892, 1, none⟩ (.int .i64 ((rd_T37 t886 x163_6).f1))).heap[gb867]? = some (.cells #[.int .i64 t862, .slice Ao86 t863.length co86] 32 (0, 0))) := ⟨blkT BK867⟩
                      have n8_ : Fc (((w162.setCell ⟨gb892, 0, none⟩ (.int .i64 ((rd_T37 t886 x163_6).f0))).setCell ⟨gb892, 1, none⟩ (.int .i64 ((rd_T37 t886 x163_6).f1))).heap[gb873]? = some (.cells #[.int .i64 t868, .slice Ao95 t869.length co95] 32 (0, 0))) := ⟨blkT BK873⟩
                      have n9_ : Fc (((w162.setCell ⟨gb892, 0, none⟩ (.int .i64 ((rd_T37 t886 x163_6).f0))).setCell ⟨gb892, 1, none⟩ (.int .i64 ((rd_T37 t886 x163_6).f1))).heap[gb883]? = some (.cells #[.int .i64 t878, .slice Ao134 t879.length co134] 32 (0, 0))) := ⟨blkT BK883⟩
                      have n10_ : Fc (((w162.setCell ⟨gb892, 0, none⟩ (.int .i64 ((rd_T37 t886 x163_6).f0))).setCell ⟨gb892, 1, none⟩ (.int .i64 ((rd_T37 t886 x163_6).f1))).heap[gb892]? = some (.cells #[.int .i64 ((rd_T37 t886 x163_6).f0), .int .i64 ((rd_T37 t886 x163_6).f1)] 37 (0, 0))) := ⟨blkT BK892⟩
                      have n11_ : Fc (Below w.heap.size w ((w162.setCell ⟨gb892, 0, none⟩ (.int .i64 ((rd_T37 t886 x163_6).f0))).setCell ⟨gb892, 1, none⟩ (.int .i64 ((rd_T37 t886 x163_6).f1)))) := ⟨bel_g HB.out⟩
                      (try clear HO_161)
                      (try clear HO_861001)
                      (try clear HO_868001)
                      (try clear HO_874001)
                      (try clear HO_884001)
                      (try clear BK860)
                      (try clear BK861)
                      (try clear BK867)
                      (try clear BK873)
                      (try clear BK883)
                      (try clear BK892)
                      (try clear HB)
                      generalize ((w162.setCell ⟨gb892, 0, none⟩ (.int .i64 ((rd_T37 t886 x163_6).f0))).setCell ⟨gb892, 1, none⟩ (.int .i64 ((rd_T37 t886 x163_6).f1))) = w169 at n0_ n1_ n2_ n3_ n4_ n5_ n6_ n7_ n8_ n9_ n10_ n11_ ⊢
                      have HO_161 := n0_
                      have HO_861001 := n1_
                      have HO_868001 := n2_
                      have HO_874001 := n3_
                      have HO_884001 := n4_
                      have BK860 := n5_
                      have BK861 := n6_
                      have BK867 := n7_
                      have BK873 := n8_
                      have BK883 := n9_
                      have BK892 := n10_
                      have HB := n11_
                      clear n0_ n1_ n2_ n3_ n4_ n5_ n6_ n7_ n8_ n9_ n10_ n11_
                      replace HO_161 := mkA (Kd.R_drew HO_161.out)
                      replace HO_861001 := mkA (Kd.R_drew HO_861001.out)
                      replace HO_868001 := mkA (Kd.R_drew HO_868001.out)
                      replace HO_874001 := mkA (Kd.R_drew HO_874001.out)
                      replace HO_884001 := mkA (Kd.R_drew HO_884001.out)
                      replace BK860 := mkA (blk_drew BK860.out)
                      replace BK861 := mkA (blk_drew BK861.out)
                      replace BK867 := mkA (blk_drew BK867.out)
                      replace BK873 := mkA (blk_drew BK873.out)
                      replace BK883 := mkA (blk_drew BK883.out)
                      replace BK892 := mkA (blk_drew BK892.out)
                      replace HB := mkA (below_drew1 HB.out)
                      obtain ⟨p893, q893, ad893, e893, hx893_0⟩ := atI (Kd.R_reads' HO_868001.out).2.2 x163_6
                      cases e893
                      refine start_ (n := 30) (S := fun w' => w'.cell? ⟨gb867, 0, none⟩ = some (.int .i64 t862) ∧ w'.cell? ⟨gb867, 1, none⟩ = some (.slice (some ad893) t863.length co86) ∧ w'.cell? ⟨gb860, 0, none⟩ = some (.int .i64 t854) ∧ w'.cell? ⟨gb860, 1, none⟩ = some (.slice Ao79 t855.length co79) ∧ w'.cell? ⟨gb892, 0, none⟩ = some (.int .i64 ((rd_T37 t886 x163_6).f0)) ∧ w'.cell? ⟨gb892, 1, none⟩ = some (.int .i64 ((rd_T37 t886 x163_6).f1)) ∧ w'.cell? ⟨gb861, 0, none⟩ = some (.int .i64 t858) ∧ w'.cell? ⟨gb861, 1, none⟩ = some (.int .i64 t859) ∧ w'.cell? (ad893.add (x163_6).toNat) = some (.int .i64 (rd t863 x163_6))) (ds := []) (bm 30 0) (by kernel_rfl) rfl (by kernel_rfl) ⟨(blk_cell BK867.out 0).trans rfl, (blk_cell BK867.out 1).trans rfl, (blk_cell BK860.out 0).trans rfl, (blk_cell BK860.out 1).trans rfl, (blk_cell BK892.out 0).trans rfl, (blk_cell BK892.out 1).trans rfl, (blk_cell BK861.out 0).trans rfl, (blk_cell BK861.out 1).trans rfl, hx893_0⟩ (fun hHeld => ?_); refine with_tabW laws_FnStretchedIntervals.tab33 laws_FnStretchedIntervals.bits33 (fun HT_ HW_ => ?_)
                      generalize w169.drew = w170 at HO_161 HO_861001 HO_868001 HO_874001 HO_884001 BK860 BK861 BK867 BK873 BK883 BK892 HB hx893_0 hHeld ⊢
                      refine purW 0 168 30 1 HT_ ?_
                      refine purW 2 170 30 5 HT_ ?_
                      refine purW 5 173 30 37 HT_ ?_
                      refine purW 8 176 30 293 HT_ ?_
                      refine purW 10 178 30 1317 HT_ ?_
                      refine takeW 1 (some 169) (bm 30 1319) HT_ HW_ hHeld ?_
                      refine purW 3 171 30 1327 HT_ ?_
                      refine takeW 4 (some 172) (bm 30 1343) HT_ HW_ hHeld ?_
                      refine takeW 6 (some 174) (bm 30 1407) HT_ HW_ hHeld ?_
                      refine takeW 9 (some 177) (bm 30 1919) HT_ HW_ hHeld ?_
                      refine takeW 11 (some 179) (bm 30 3967) HT_ HW_ hHeld ?_
                      refine purW 12 180 30 8063 HT_ ?_
                      refine oneW 7 (some 175) (bm 30 8191) HT_ (fun K hK => ?_)
                      refine goesR Tryd.func17 #[.int .i64 (rd t863 x163_6), .int .i64 t854] ?_
                      with_reducible refine (laws_pIn.calls (rd t863 x163_6) t854 t894 _ A160.out).mono ?_
                      rintro e w' ⟨rfl, ⟨nd, rfl⟩⟩
                      refine ⟨_, rfl, ?_⟩
                      refine hK.out _ _ ⟨(blk_cell BK867.out 0).trans rfl, (blk_cell BK867.out 1).trans rfl, (blk_cell BK860.out 0).trans rfl, (blk_cell BK860.out 1).trans rfl, (blk_cell BK892.out 0).trans rfl, (blk_cell BK892.out 1).trans rfl, (blk_cell BK861.out 0).trans rfl, (blk_cell BK861.out 1).trans rfl, hHeld.2.2.2.2.2.2.2.2⟩ (fun hHeld => ?_)
                      clear hK K
                      refine normW 175 ?_
                      refine purW 13 181 30 16383 HT_ ?_
                      refine purW 14 182 30 32767 HT_ ?_
                      refine purG 15 183 30 65535 HT_ ?_
                      refine purG 16 184 30 131071 HT_ ?_
                      refine purG 17 185 30 262143 HT_ ?_
                      refine purG 18 186 30 524287 HT_ ?_
                      refine purG 19 187 30 1048575 HT_ ?_
                      refine purG 20 188 30 2097151 HT_ ?_
                      refine purG 21 189 30 4194303 HT_ ?_
                      refine purG 22 190 30 8388607 HT_ ?_
                      refine purG 23 191 30 16777215 HT_ ?_
                      refine purG 24 192 30 33554431 HT_ ?_
                      refine purG 25 193 30 67108863 HT_ ?_
                      refine purG 26 194 30 134217727 HT_ ?_
                      refine purG 27 195 30 268435455 HT_ ?_
                      refine purG 28 196 30 536870911 HT_ ?_
                      refine purW 29 197 30 1073741823 HT_ ?_
                      refine doneW HT_ ?_
                      try go_wp2
                      go_ret
                      exact ⟨eqE, bel_g HB.out⟩
                     ·have c161b0 : (t894 != (decide (((rd_T37 t886 x163_6).f1) < t858))) = false := by simpa using c161
                      (try (have c161b1 : decide (t894 = (decide (((rd_T37 t886 x163_6).f1) < t858))) = true := by simpa using c161))
                      (try (have c161b2 : (t894 == (decide (((rd_T37 t886 x163_6).f1) < t858))) = true := by simpa using c161))
                      clear c161
                      obtain ⟨c171b0, H⟩ := itND H
                      obtain ⟨c172b0, H⟩ := itND H
                      obtain ⟨t896, A173, H⟩ := obE H
                      rcases iteP H with ⟨c174, H⟩ | ⟨c174, H⟩
                      ·have c174b0 : (t896 != (decide (t859 < ((rd_T37 t886 x163_6).f0)))) = true := c174
                       (try (have c174b1 : decide (t896 = (decide (t859 < ((rd_T37 t886 x163_6).f0)))) = false := by simpa using c174))
                       (try (have c174b2 : (t896 == (decide (t859 < ((rd_T37 t886 x163_6).f0)))) = false := by simpa using c174))
                       (try (have c174b3 : ¬ (t896 = (decide (t859 < ((rd_T37 t886 x163_6).f0)))) := by simpa using c174))
                       clear c174
                       obtain rfl := Option.some.inj H
                       have p891 : 0 ≤ (x163_6 : Int) := ofd
                       have q891 : x163_6 < (t886.length : Int) := ofd
                       obtain ⟨ad891, e891, hx891_0, hx891_1⟩ := at_T37 (Kd.R_reads' HO_161.out).2.2 x163_6 p891 q891
                       cases e891
                       replace p891 := eq_true p891
                       replace q891 := eq_true q891
                       try go_wp2_with (first | ((with_reducible refine gate_dst (N := 31) rfl ?_); refine boxE (N := 31) (cs := #[.int .i64 0, .int .i64 0]) (t := 37) ?_; intro gb892 hg w175 hbox hb; replace HO_161 := mkA (Kd.R_below (Kd.R_elderB (Kd.R_g HO_161.out) gb892 (Nat.le_of_eq hg.symm)) hb); replace HO_861001 := rB HO_861001 hb; replace HO_868001 := rB HO_868001 hb; replace HO_874001 := rB HO_874001 hb; replace HO_884001 := rB HO_884001 hb; have BK892 := mkA (hbox); have GE892 := geB HB hg; have NB860_892 := neL7 BK860 hg; have NB892_860 := neR7 BK860 hg; replace BK860 := blkB BK860 hb; have NB861_892 := neL7 BK861 hg; have NB892_861 := neR7 BK861 hg; replace BK861 := blkB BK861 hb; have NB867_892 := neL7 BK867 hg; have NB892_867 := neR7 BK867 hg; replace BK867 := blkB BK867 hb; have NB873_892 := neL7 BK873 hg; have NB892_873 := neR7 BK873 hg; replace BK873 := blkB BK873 hb; have NB883_892 := neL7 BK883 hg; have NB892_883 := neR7 BK883 hg; replace BK883 := blkB BK883 hb; replace HB := bst HB hb; clear hb hbox hg; obtain ⟨_, _, _, _⟩ := blk2 BK892))
                       have n0_ : Fc (Kd.R k37 37 ((w175.setCell ⟨gb892, 0, none⟩ (.int .i64 ((rd_T37 t886 x163_6).f0))).setCell ⟨gb892, 1, none⟩ (.int .i64 ((rd_T37 t886 x163_6).f1))) w.heap.size (fun k_ => k_ ≠ gb861 ∧ k_ ≠ gb892) (.slice (some ad891) t886.length co155) t886) := ⟨Kd.R_g (Kd.R_mono (Kd.R_far (p := ⟨gb892, 1, none⟩) (Kd.R_far (p := ⟨gb892, 0, none⟩) (Kd.R_mono HO_161.out (fun k_ hk => (⟨hk, hk.2⟩ : _ ∧ k_ ≠ gb892))) (fun _ hk => hk.2) (.int .i64 ((rd_T37 t886 x163_6).f0))) (fun _ hk => hk.2) (.int .i64 ((rd_T37 t886 x163_6).f1))) (fun _ hk => ⟨hk.1.1, hk.1.2⟩))⟩
                       have n1_ : Fc (Kd.R (Kd.int .i64) 3 ((w175.setCell ⟨gb892, 0, none⟩ (.int .i64 ((rd_T37 t886 x163_6).f0))).setCell ⟨gb892, 1, none⟩ (.int .i64 ((rd_T37 t886 x163_6).f1))) w.heap.size (fun k_ => some k_ ≠ (.slice Ao86 t863.length co86 : Value).ownBlock ∧ some k_ ≠ (.slice Ao95 t869.length co95 : Value).ownBlock ∧ some k_ ≠ (.slice Ao134 t879.length co134 : Value).ownBlock) (.slice Ao79 t855.length co79) t855) := ⟨Kd.R_g (Kd.R_mono (Kd.R_far (p := ⟨gb892, 1, none⟩) (Kd.R_far (p := ⟨gb892, 0, none⟩) (Kd.R_types HO_861001.out BK892.out (by decide)) (fun _ hk => hk.2) (.int .i64 ((rd_T37 t886 x163_6).f0))) (fun _ hk => hk.2) (.int .i64 ((rd_T37 t886 x163_6).f1))) (fun _ hk => ⟨hk.1.1, ⟨hk.1.2.1, hk.1.2.2⟩⟩))⟩
                       have n2_ : Fc (Kd.R (Kd.int .i64) 3 ((w175.setCell ⟨gb892, 0, none⟩ (.int .i64 ((rd_T37 t886 x163_6).f0))).setCell ⟨gb892, 1, none⟩ (.int .i64 ((rd_T37 t886 x163_6).f1))) w.heap.size (fun k_ => some k_ ≠ (.slice Ao79 t855.length co79 : Value).ownBlock ∧ some k_ ≠ (.slice Ao95 t869.length co95 : Value).ownBlock ∧ some k_ ≠ (.slice Ao134 t879.length co134 : Value).ownBlock) (.slice Ao86 t863.length co86) t863) := ⟨Kd.R_g (Kd.R_mono (Kd.R_far (p := ⟨gb892, 1, none⟩) (Kd.R_far (p := ⟨gb892, 0, none⟩) (Kd.R_types HO_868001.out BK892.out (by decide)) (fun _ hk => hk.2) (.int .i64 ((rd_T37 t886 x163_6).f0))) (fun _ hk => hk.2) (.int .i64 ((rd_T37 t886 x163_6).f1))) (fun _ hk => ⟨hk.1.1, ⟨hk.1.2.1, hk.1.2.2⟩⟩))⟩
                       have n3_ : Fc (Kd.R (Kd.int .i64) 3 ((w175.setCell ⟨gb892, 0, none⟩ (.int .i64 ((rd_T37 t886 x163_6).f0))).setCell ⟨gb892, 1, none⟩ (.int .i64 ((rd_T37 t886 x163_6).f1))) w.heap.size (fun k_ => some k_ ≠ (.slice Ao79 t855.length co79 : Value).ownBlock ∧ some k_ ≠ (.slice Ao86 t863.length co86 : Value).ownBlock ∧ some k_ ≠ (.slice Ao134 t879.length co134 : Value).ownBlock) (.slice Ao95 t869.length co95) t869) := ⟨Kd.R_g (Kd.R_mono (Kd.R_far (p := ⟨gb892, 1, none⟩) (Kd.R_far (p := ⟨gb892, 0, none⟩) (Kd.R_types HO_874001.out BK892.out (by decide)) (fun _ hk => hk.2) (.int .i64 ((rd_T37 t886 x163_6).f0))) (fun _ hk => hk.2) (.int .i64 ((rd_T37 t886 x163_6).f1))) (fun _ hk => ⟨hk.1.1, ⟨hk.1.2.1, hk.1.2.2⟩⟩))⟩
                       have n4_ : Fc (Kd.R (Kd.int .i64) 3 ((w175.setCell ⟨gb892, 0, none⟩ (.int .i64 ((rd_T37 t886 x163_6).f0))).setCell ⟨gb892, 1, none⟩ (.int .i64 ((rd_T37 t886 x163_6).f1))) w.heap.size (fun k_ => some k_ ≠ (.slice Ao79 t855.length co79 : Value).ownBlock ∧ some k_ ≠ (.slice Ao86 t863.length co86 : Value).ownBlock ∧ some k_ ≠ (.slice Ao95 t869.length co95 : Value).ownBlock) (.slice Ao134 t879.length co134) t879) := ⟨Kd.R_g (Kd.R_mono (Kd.R_far (p := ⟨gb892, 1, none⟩) (Kd.R_far (p := ⟨gb892, 0, none⟩) (Kd.R_types HO_884001.out BK892.out (by decide)) (fun _ hk => hk.2) (.int .i64 ((rd_T37 t886 x163_6).f0))) (fun _ hk => hk.2) (.int .i64 ((rd_T37 t886 x163_6).f1))) (fun _ hk => ⟨hk.1.1, ⟨hk.1.2.1, hk.1.2.2⟩⟩))⟩
                       have n5_ : Fc (((w175.setCell ⟨gb892, 0, none⟩ (.int .i64 ((rd_T37 t886 x163_6).f0))).setCell ⟨gb892, 1, none⟩ (.int .i64 ((rd_T37 t886 x163_6).f1))).heap[gb860]? = some (.cells #[.int .i64 t854, .slice Ao79 t855.length co79] 32 (0, 0))) := ⟨blkT BK860⟩
                       have n6_ : Fc (((w175.setCell ⟨gb892, 0, none⟩ (.int .i64 ((rd_T37 t886 x163_6).f0))).setCell ⟨gb892, 1, none⟩ (.int .i64 ((rd_T37 t886 x163_6).f1))).heap[gb861]? = some (.cells #[.int .i64 t858, .int .i64 t859] 37 (0, 0))) := ⟨blkT BK861⟩
                       have n7_ : Fc (((w175.setCell ⟨gb892, 0, none⟩ (.int .i64 ((rd_T37 t886 x163_6).f0))).setCell ⟨gb892, 1, none⟩ (.int .i64 ((rd_T37 t886 x163_6).f1))).heap[gb867]? = some (.cells #[.int .i64 t862, .slice Ao86 t863.length co86] 32 (0, 0))) := ⟨blkT BK867⟩
                       have n8_ : Fc (((w175.setCell ⟨gb892, 0, none⟩ (.int .i64 ((rd_T37 t886 x163_6).f0))).setCell ⟨gb892, 1, none⟩ (.int .i64 ((rd_T37 t886 x163_6).f1))).heap[gb873]? = some (.cells #[.int .i64 t868, .slice Ao95 t869.length co95] 32 (0, 0))) := ⟨blkT BK873⟩
                       have n9_ : Fc (((w175.setCell ⟨gb892, 0, none⟩ (.int .i64 ((rd_T37 t886 x163_6).f0))).setCell ⟨gb892, 1, none⟩ (.int .i64 ((rd_T37 t886 x163_6).f1))).heap[gb883]? = some (.cells #[.int .i64 t878, .slice Ao134 t879.length co134] 32 (0, 0))) := ⟨blkT BK883⟩
                       have n10_ : Fc (((w175.setCell ⟨gb892, 0, none⟩ (.int .i64 ((rd_T37 t886 x163_6).f0))).setCell ⟨gb892, 1, none⟩ (.int .i64 ((rd_T37 t886 x163_6).f1))).heap[gb892]? = some (.cells #[.int .i64 ((rd_T37 t886 x163_6).f0), .int .i64 ((rd_T37 t886 x163_6).f1)] 37 (0, 0))) := ⟨blkT BK892⟩
                       have n11_ : Fc (Below w.heap.size w ((w175.setCell ⟨gb892, 0, none⟩ (.int .i64 ((rd_T37 t886 x163_6).f0))).setCell ⟨gb892, 1, none⟩ (.int .i64 ((rd_T37 t886 x163_6).f1)))) := ⟨bel_g HB.out⟩
                       (try clear HO_161)
                       (try clear HO_861001)
                       (try clear HO_868001)
                       (try clear HO_874001)
                       (try clear HO_884001)
                       (try clear BK860)
                       (try clear BK861)
                       (try clear BK867)
                       (try clear BK873)
                       (try clear BK883)
                       (try clear BK892)
                       (try clear HB)
                       generalize ((w175.setCell ⟨gb892, 0, none⟩ (.int .i64 ((rd_T37 t886 x163_6).f0))).setCell ⟨gb892, 1, none⟩ (.int .i64 ((rd_T37 t886 x163_6).f1))) = w182 at n0_ n1_ n2_ n3_ n4_ n5_ n6_ n7_ n8_ n9_ n10_ n11_ ⊢
                       have HO_161 := n0_
                       have HO_861001 := n1_
                       have HO_868001 := n2_
                       have HO_874001 := n3_
                       have HO_884001 := n4_
                       have BK860 := n5_
                       have BK861 := n6_
                       have BK867 := n7_
                       have BK873 := n8_
                       have BK883 := n9_
                       have BK892 := n10_
                       have HB := n11_
                       clear n0_ n1_ n2_ n3_ n4_ n5_ n6_ n7_ n8_ n9_ n10_ n11_
                       replace HO_161 := mkA (Kd.R_drew HO_161.out)
                       replace HO_861001 := mkA (Kd.R_drew HO_861001.out)
                       replace HO_868001 := mkA (Kd.R_drew HO_868001.out)
                       replace HO_874001 := mkA (Kd.R_drew HO_874001.out)
                       replace HO_884001 := mkA (Kd.R_drew HO_884001.out)
                       replace BK860 := mkA (blk_drew BK860.out)
                       replace BK861 := mkA (blk_drew BK861.out)
                       replace BK867 := mkA (blk_drew BK867.out)
                       replace BK873 := mkA (blk_drew BK873.out)
                       replace BK883 := mkA (blk_drew BK883.out)
                       replace BK892 := mkA (blk_drew BK892.out)
                       replace HB := mkA (below_drew1 HB.out)
                       obtain ⟨p893, q893, ad893, e893, hx893_0⟩ := atI (Kd.R_reads' HO_868001.out).2.2 x163_6
                       cases e893
                       obtain ⟨p895, q895, ad895, e895, hx895_0⟩ := atI (Kd.R_reads' HO_868001.out).2.2 t854
                       obtain rfl : ad893 = ad895 := (by injection e895)
                       refine start_ (n := 30) (S := fun w' => w'.cell? ⟨gb867, 0, none⟩ = some (.int .i64 t862) ∧ w'.cell? ⟨gb867, 1, none⟩ = some (.slice (some ad893) t863.length co86) ∧ w'.cell? ⟨gb860, 0, none⟩ = some (.int .i64 t854) ∧ w'.cell? ⟨gb860, 1, none⟩ = some (.slice Ao79 t855.length co79) ∧ w'.cell? ⟨gb892, 0, none⟩ = some (.int .i64 ((rd_T37 t886 x163_6).f0)) ∧ w'.cell? ⟨gb892, 1, none⟩ = some (.int .i64 ((rd_T37 t886 x163_6).f1)) ∧ w'.cell? ⟨gb861, 0, none⟩ = some (.int .i64 t858) ∧ w'.cell? ⟨gb861, 1, none⟩ = some (.int .i64 t859) ∧ w'.cell? (ad893.add (x163_6).toNat) = some (.int .i64 (rd t863 x163_6)) ∧ w'.cell? (ad893.add (t854).toNat) = some (.int .i64 (rd t863 t854))) (ds := []) (bm 30 0) (by kernel_rfl) rfl (by kernel_rfl) ⟨(blk_cell BK867.out 0).trans rfl, (blk_cell BK867.out 1).trans rfl, (blk_cell BK860.out 0).trans rfl, (blk_cell BK860.out 1).trans rfl, (blk_cell BK892.out 0).trans rfl, (blk_cell BK892.out 1).trans rfl, (blk_cell BK861.out 0).trans rfl, (blk_cell BK861.out 1).trans rfl, hx893_0, hx895_0⟩ (fun hHeld => ?_); refine with_tabW laws_FnStretchedIntervals.tab33 laws_FnStretchedIntervals.bits33 (fun HT_ HW_ => ?_)
                       generalize w182.drew = w183 at HO_161 HO_861001 HO_868001 HO_874001 HO_884001 BK860 BK861 BK867 BK873 BK883 BK892 HB hx893_0 hx895_0 hHeld ⊢
                       refine purW 0 168 30 1 HT_ ?_
                       refine purW 2 170 30 5 HT_ ?_
                       refine purW 5 173 30 37 HT_ ?_
                       refine purW 8 176 30 293 HT_ ?_
                       refine purW 10 178 30 1317 HT_ ?_
                       refine takeW 1 (some 169) (bm 30 1319) HT_ HW_ hHeld ?_
                       refine purW 3 171 30 1327 HT_ ?_
                       refine takeW 4 (some 172) (bm 30 1343) HT_ HW_ hHeld ?_
                       refine takeW 6 (some 174) (bm 30 1407) HT_ HW_ hHeld ?_
                       refine takeW 9 (some 177) (bm 30 1919) HT_ HW_ hHeld ?_
                       refine takeW 11 (some 179) (bm 30 3967) HT_ HW_ hHeld ?_
                       refine purW 12 180 30 8063 HT_ ?_
                       refine oneW 7 (some 175) (bm 30 8191) HT_ (fun K hK => ?_)
                       refine goesR Tryd.func17 #[.int .i64 (rd t863 x163_6), .int .i64 t854] ?_
                       with_reducible refine (laws_pIn.calls (rd t863 x163_6) t854 t894 _ A160.out).mono ?_
                       rintro e w' ⟨rfl, ⟨nd, rfl⟩⟩
                       refine ⟨_, rfl, ?_⟩
                       refine hK.out _ _ ⟨(blk_cell BK867.out 0).trans rfl, (blk_cell BK867.out 1).trans rfl, (blk_cell BK860.out 0).trans rfl, (blk_cell BK860.out 1).trans rfl, (blk_cell BK892.out 0).trans rfl, (blk_cell BK892.out 1).trans rfl, (blk_cell BK861.out 0).trans rfl, (blk_cell BK861.out 1).trans rfl, hHeld.2.2.2.2.2.2.2.2.1, hHeld.2.2.2.2.2.2.2.2.2⟩ (fun hHeld => ?_)
                       clear hK K
                       refine normW 175 ?_
                       refine purW 13 181 30 16383 HT_ ?_
                       refine purW 14 182 30 32767 HT_ ?_
                       refine purW 15 183 30 65535 HT_ ?_
                       refine purW 17 185 30 196607 HT_ ?_
                       refine purW 21 189 30 2293759 HT_ ?_
                       refine purW 23 191 30 10682367 HT_ ?_
                       refine purW 25 193 30 44236799 HT_ ?_
                       refine takeW 16 (some 184) (bm 30 44302335) HT_ HW_ hHeld ?_
                       refine takeW 18 (some 186) (bm 30 44564479) HT_ HW_ hHeld ?_
                       refine purW 19 187 30 45088767 HT_ ?_
                       refine takeW 20 (some 188) (bm 30 46137343) HT_ HW_ hHeld ?_
                       refine takeW 24 (some 192) (bm 30 62914559) HT_ HW_ hHeld ?_
                       refine takeW 26 (some 194) (bm 30 130023423) HT_ HW_ hHeld ?_
                       refine purW 27 195 30 264241151 HT_ ?_
                       refine oneW 22 (some 190) (bm 30 268435455) HT_ (fun K hK => ?_)
                       refine goesR Tryd.func17 #[.int .i64 (rd t863 t854), .int .i64 x163_6] ?_
                       with_reducible refine (laws_pIn.calls (rd t863 t854) x163_6 t896 _ A173.out).mono ?_
                       rintro e w' ⟨rfl, ⟨nd, rfl⟩⟩
                       refine ⟨_, rfl, ?_⟩
                       refine hK.out _ _ ⟨(blk_cell BK867.out 0).trans rfl, (blk_cell BK867.out 1).trans rfl, (blk_cell BK860.out 0).trans rfl, (blk_cell BK860.out 1).trans rfl, (blk_cell BK892.out 0).trans rfl, (blk_cell BK892.out 1).trans rfl, (blk_cell BK861.out 0).trans rfl, (blk_cell BK861.out 1).trans rfl, hHeld.2.2.2.2.2.2.2.2.1, hHeld.2.2.2.2.2.2.2.2.2⟩ (fun hHeld => ?_)
                       clear hK K
                       refine normW 190 ?_
                       refine purW 28 196 30 536870911 HT_ ?_
                       refine purW 29 197 30 1073741823 HT_ ?_
                       refine doneW HT_ ?_
                       try go_wp2
                       go_ret
                       exact ⟨eqE, bel_g HB.out⟩
                      ·have c174b0 : (t896 != (decide (t859 < ((rd_T37 t886 x163_6).f0)))) = false := by simpa using c174
                       (try (have c174b1 : decide (t896 = (decide (t859 < ((rd_T37 t886 x163_6).f0)))) = true := by simpa using c174))
                       (try (have c174b2 : (t896 == (decide (t859 < ((rd_T37 t886 x163_6).f0)))) = true := by simpa using c174))
                       clear c174
                       have H' := mkA H
                       clear H
                       have p891 : 0 ≤ (x163_6 : Int) := ofd
                       have q891 : x163_6 < (t886.length : Int) := ofd
                       obtain ⟨ad891, e891, hx891_0, hx891_1⟩ := at_T37 (Kd.R_reads' HO_161.out).2.2 x163_6 p891 q891
                       cases e891
                       replace p891 := eq_true p891
                       replace q891 := eq_true q891
                       try go_wp2_with (first | ((with_reducible refine gate_dst (N := 31) rfl ?_); refine boxE (N := 31) (cs := #[.int .i64 0, .int .i64 0]) (t := 37) ?_; intro gb892 hg w184 hbox hb; replace HO_161 := mkA (Kd.R_below (Kd.R_elderB (Kd.R_g HO_161.out) gb892 (Nat.le_of_eq hg.symm)) hb); replace HO_861001 := rB HO_861001 hb; replace HO_868001 := rB HO_868001 hb; replace HO_874001 := rB HO_874001 hb; replace HO_884001 := rB HO_884001 hb; have BK892 := mkA (hbox); have GE892 := geB HB hg; have NB860_892 := neL7 BK860 hg; have NB892_860 := neR7 BK860 hg; replace BK860 := blkB BK860 hb; have NB861_892 := neL7 BK861 hg; have NB892_861 := neR7 BK861 hg; replace BK861 := blkB BK861 hb; have NB867_892 := neL7 BK867 hg; have NB892_867 := neR7 BK867 hg; replace BK867 := blkB BK867 hb; have NB873_892 := neL7 BK873 hg; have NB892_873 := neR7 BK873 hg; replace BK873 := blkB BK873 hb; have NB883_892 := neL7 BK883 hg; have NB892_883 := neR7 BK883 hg; replace BK883 := blkB BK883 hb; replace HB := bst HB hb; clear hb hbox hg; obtain ⟨_, _, _, _⟩ := blk2 BK892))
                       have n0_ : Fc (Kd.R k37 37 ((w184.setCell ⟨gb892, 0, none⟩ (.int .i64 ((rd_T37 t886 x163_6).f0))).setCell ⟨gb892, 1, none⟩ (.int .i64 ((rd_T37 t886 x163_6).f1))) w.heap.size (fun k_ => k_ ≠ gb861 ∧ k_ ≠ gb892) (.slice (some ad891) t886.length co155) t886) := ⟨Kd.R_g (Kd.R_mono (Kd.R_far (p := ⟨gb892, 1, none⟩) (Kd.R_far (p := ⟨gb892, 0, none⟩) (Kd.R_mono HO_161.out (fun k_ hk => (⟨hk, hk.2⟩ : _ ∧ k_ ≠ gb892))) (fun _ hk => hk.2) (.int .i64 ((rd_T37 t886 x163_6).f0))) (fun _ hk => hk.2) (.int .i64 ((rd_T37 t886 x163_6).f1))) (fun _ hk => ⟨hk.1.1, hk.1.2⟩))⟩
                       have n1_ : Fc (Kd.R (Kd.int .i64) 3 ((w184.setCell ⟨gb892, 0, none⟩ (.int .i64 ((rd_T37 t886 x163_6).f0))).setCell ⟨gb892, 1, none⟩ (.int .i64 ((rd_T37 t886 x163_6).f1))) w.heap.size (fun k_ => some k_ ≠ (.slice Ao86 t863.length co86 : Value).ownBlock ∧ some k_ ≠ (.slice Ao95 t869.length co95 : Value).ownBlock ∧ some k_ ≠ (.slice Ao134 t879.length co134 : Value).ownBlock) (.slice Ao79 t855.length co79) t855) := ⟨Kd.R_g (Kd.R_mono (Kd.R_far (p := ⟨gb892, 1, none⟩) (Kd.R_far (p := ⟨gb892, 0, none⟩) (Kd.R_types HO_861001.out BK892.out (by decide)) (fun _ hk => hk.2) (.int .i64 ((rd_T37 t886 x163_6).f0))) (fun _ hk => hk.2) (.int .i64 ((rd_T37 t886 x163_6).f1))) (fun _ hk => ⟨hk.1.1, ⟨hk.1.2.1, hk.1.2.2⟩⟩))⟩
                       have n2_ : Fc (Kd.R (Kd.int .i64) 3 ((w184.setCell ⟨gb892, 0, none⟩ (.int .i64 ((rd_T37 t886 x163_6).f0))).setCell ⟨gb892, 1, none⟩ (.int .i64 ((rd_T37 t886 x163_6).f1))) w.heap.size (fun k_ => some k_ ≠ (.slice Ao79 t855.length co79 : Value).ownBlock ∧ some k_ ≠ (.slice Ao95 t869.length co95 : Value).ownBlock ∧ some k_ ≠ (.slice Ao134 t879.length co134 : Value).ownBlock) (.slice Ao86 t863.length co86) t863) := ⟨Kd.R_g (Kd.R_mono (Kd.R_far (p := ⟨gb892, 1, none⟩) (Kd.R_far (p := ⟨gb892, 0, none⟩) (Kd.R_types HO_868001.out BK892.out (by decide)) (fun _ hk => hk.2) (.int .i64 ((rd_T37 t886 x163_6).f0))) (fun _ hk => hk.2) (.int .i64 ((rd_T37 t886 x163_6).f1))) (fun _ hk => ⟨hk.1.1, ⟨hk.1.2.1, hk.1.2.2⟩⟩))⟩
                       have n3_ : Fc (Kd.R (Kd.int .i64) 3 ((w184.setCell ⟨gb892, 0, none⟩ (.int .i64 ((rd_T37 t886 x163_6).f0))).setCell ⟨gb892, 1, none⟩ (.int .i64 ((rd_T37 t886 x163_6).f1))) w.heap.size (fun k_ => some k_ ≠ (.slice Ao79 t855.length co79 : Value).ownBlock ∧ some k_ ≠ (.slice Ao86 t863.length co86 : Value).ownBlock ∧ some k_ ≠ (.slice Ao134 t879.length co134 : Value).ownBlock) (.slice Ao95 t869.length co95) t869) := ⟨Kd.R_g (Kd.R_mono (Kd.R_far (p := ⟨gb892, 1, none⟩) (Kd.R_far (p := ⟨gb892, 0, none⟩) (Kd.R_types HO_874001.out BK892.out (by decide)) (fun _ hk => hk.2) (.int .i64 ((rd_T37 t886 x163_6).f0))) (fun _ hk => hk.2) (.int .i64 ((rd_T37 t886 x163_6).f1))) (fun _ hk => ⟨hk.1.1, ⟨hk.1.2.1, hk.1.2.2⟩⟩))⟩
                       have n4_ : Fc (Kd.R (Kd.int .i64) 3 ((w184.setCell ⟨gb892, 0, none⟩ (.int .i64 ((rd_T37 t886 x163_6).f0))).setCell ⟨gb892, 1, none⟩ (.int .i64 ((rd_T37 t886 x163_6).f1))) w.heap.size (fun k_ => some k_ ≠ (.slice Ao79 t855.length co79 : Value).ownBlock ∧ some k_ ≠ (.slice Ao86 t863.length co86 : Value).ownBlock ∧ some k_ ≠ (.slice Ao95 t869.length co95 : Value).ownBlock) (.slice Ao134 t879.length co134) t879) := ⟨Kd.R_g (Kd.R_mono (Kd.R_far (p := ⟨gb892, 1, none⟩) (Kd.R_far (p := ⟨gb892, 0, none⟩) (Kd.R_types HO_884001.out BK892.out (by decide)) (fun _ hk => hk.2) (.int .i64 ((rd_T37 t886 x163_6).f0))) (fun _ hk => hk.2) (.int .i64 ((rd_T37 t886 x163_6).f1))) (fun _ hk => ⟨hk.1.1, ⟨hk.1.2.1, hk.1.2.2⟩⟩))⟩
                       have n5_ : Fc (((w184.setCell ⟨gb892, 0, none⟩ (.int .i64 ((rd_T37 t886 x163_6).f0))).setCell ⟨gb892, 1, none⟩ (.int .i64 ((rd_T37 t886 x163_6).f1))).heap[gb860]? = some (.cells #[.int .i64 t854, .slice Ao79 t855.length co79] 32 (0, 0))) := ⟨blkT BK860⟩
                       have n6_ : Fc (((w184.setCell ⟨gb892, 0, none⟩ (.int .i64 ((rd_T37 t886 x163_6).f0))).setCell ⟨gb892, 1, none⟩ (.int .i64 ((rd_T37 t886 x163_6).f1))).heap[gb861]? = some (.cells #[.int .i64 t858, .int .i64 t859] 37 (0, 0))) := ⟨blkT BK861⟩
                       have n7_ : Fc (((w184.setCell ⟨gb892, 0, none⟩ (.int .i64 ((rd_T37 t886 x163_6).f0))).setCell ⟨gb892, 1, none⟩ (.int .i64 ((rd_T37 t886 x163_6).f1))).heap[gb867]? = some (.cells #[.int .i64 t862, .slice Ao86 t863.length co86] 32 (0, 0))) := ⟨blkT BK867⟩
                       have n8_ : Fc (((w184.setCell ⟨gb892, 0, none⟩ (.int .i64 ((rd_T37 t886 x163_6).f0))).setCell ⟨gb892, 1, none⟩ (.int .i64 ((rd_T37 t886 x163_6).f1))).heap[gb873]? = some (.cells #[.int .i64 t868, .slice Ao95 t869.length co95] 32 (0, 0))) := ⟨blkT BK873⟩
                       have n9_ : Fc (((w184.setCell ⟨gb892, 0, none⟩ (.int .i64 ((rd_T37 t886 x163_6).f0))).setCell ⟨gb892, 1, none⟩ (.int .i64 ((rd_T37 t886 x163_6).f1))).heap[gb883]? = some (.cells #[.int .i64 t878, .slice Ao134 t879.length co134] 32 (0, 0))) := ⟨blkT BK883⟩
                       have n10_ : Fc (((w184.setCell ⟨gb892, 0, none⟩ (.int .i64 ((rd_T37 t886 x163_6).f0))).setCell ⟨gb892, 1, none⟩ (.int .i64 ((rd_T37 t886 x163_6).f1))).heap[gb892]? = some (.cells #[.int .i64 ((rd_T37 t886 x163_6).f0), .int .i64 ((rd_T37 t886 x163_6).f1)] 37 (0, 0))) := ⟨blkT BK892⟩
                       have n11_ : Fc (Below w.heap.size w ((w184.setCell ⟨gb892, 0, none⟩ (.int .i64 ((rd_T37 t886 x163_6).f0))).setCell ⟨gb892, 1, none⟩ (.int .i64 ((rd_T37 t886 x163_6).f1)))) := ⟨bel_g HB.out⟩
                       (try clear HO_161)
                       (try clear HO_861001)
                       (try clear HO_868001)
                       (try clear HO_874001)
                       (try clear HO_884001)
                       (try clear BK860)
                       (try clear BK861)
                       (try clear BK867)
                       (try clear BK873)
                       (try clear BK883)
                       (try clear BK892)
                       (try clear HB)
                       generalize ((w184.setCell ⟨gb892, 0, none⟩ (.int .i64 ((rd_T37 t886 x163_6).f0))).setCell ⟨gb892, 1, none⟩ (.int .i64 ((rd_T37 t886 x163_6).f1))) = w191 at n0_ n1_ n2_ n3_ n4_ n5_ n6_ n7_ n8_ n9_ n10_ n11_ ⊢
                       have HO_161 := n0_
                       have HO_861001 := n1_
                       have HO_868001 := n2_
                       have HO_874001 := n3_
                       have HO_884001 := n4_
                       have BK860 := n5_
                       have BK861 := n6_
                       have BK867 := n7_
                       have BK873 := n8_
                       have BK883 := n9_
                       have BK892 := n10_
                       have HB := n11_
                       clear n0_ n1_ n2_ n3_ n4_ n5_ n6_ n7_ n8_ n9_ n10_ n11_
                       replace HO_161 := mkA (Kd.R_drew HO_161.out)
                       replace HO_861001 := mkA (Kd.R_drew HO_861001.out)
                       replace HO_868001 := mkA (Kd.R_drew HO_868001.out)
                       replace HO_874001 := mkA (Kd.R_drew HO_874001.out)
                       replace HO_884001 := mkA (Kd.R_drew HO_884001.out)
                       replace BK860 := mkA (blk_drew BK860.out)
                       replace BK861 := mkA (blk_drew BK861.out)
                       replace BK867 := mkA (blk_drew BK867.out)
                       replace BK873 := mkA (blk_drew BK873.out)
                       replace BK883 := mkA (blk_drew BK883.out)
                       replace BK892 := mkA (blk_drew BK892.out)
                       replace HB := mkA (below_drew1 HB.out)
                       obtain ⟨p893, q893, ad893, e893, hx893_0⟩ := atI (Kd.R_reads' HO_868001.out).2.2 x163_6
                       cases e893
                       obtain ⟨p895, q895, ad895, e895, hx895_0⟩ := atI (Kd.R_reads' HO_868001.out).2.2 t854
                       obtain rfl : ad893 = ad895 := (by injection e895)
                       refine start_ (n := 30) (S := fun w' => w'.cell? ⟨gb867, 0, none⟩ = some (.int .i64 t862) ∧ w'.cell? ⟨gb867, 1, none⟩ = some (.slice (some ad893) t863.length co86) ∧ w'.cell? ⟨gb860, 0, none⟩ = some (.int .i64 t854) ∧ w'.cell? ⟨gb860, 1, none⟩ = some (.slice Ao79 t855.length co79) ∧ w'.cell? ⟨gb892, 0, none⟩ = some (.int .i64 ((rd_T37 t886 x163_6).f0)) ∧ w'.cell? ⟨gb892, 1, none⟩ = some (.int .i64 ((rd_T37 t886 x163_6).f1)) ∧ w'.cell? ⟨gb861, 0, none⟩ = some (.int .i64 t858) ∧ w'.cell? ⟨gb861, 1, none⟩ = some (.int .i64 t859) ∧ w'.cell? (ad893.add (x163_6).toNat) = some (.int .i64 (rd t863 x163_6)) ∧ w'.cell? (ad893.add (t854).toNat) = some (.int .i64 (rd t863 t854))) (ds := []) (bm 30 0) (by kernel_rfl) rfl (by kernel_rfl) ⟨(blk_cell BK867.out 0).trans rfl, (blk_cell BK867.out 1).trans rfl, (blk_cell BK860.out 0).trans rfl, (blk_cell BK860.out 1).trans rfl, (blk_cell BK892.out 0).trans rfl, (blk_cell BK892.out 1).trans rfl, (blk_cell BK861.out 0).trans rfl, (blk_cell BK861.out 1).trans rfl, hx893_0, hx895_0⟩ (fun hHeld => ?_); refine with_tabW laws_FnStretchedIntervals.tab33 laws_FnStretchedIntervals.bits33 (fun HT_ HW_ => ?_)
                       generalize w191.drew = w192 at HO_161 HO_861001 HO_868001 HO_874001 HO_884001 BK860 BK861 BK867 BK873 BK883 BK892 HB hx893_0 hx895_0 hHeld ⊢
                       refine purW 0 168 30 1 HT_ ?_
                       refine purW 2 170 30 5 HT_ ?_
                       refine purW 5 173 30 37 HT_ ?_
                       refine purW 8 176 30 293 HT_ ?_
                       refine purW 10 178 30 1317 HT_ ?_
                       refine takeW 1 (some 169) (bm 30 1319) HT_ HW_ hHeld ?_
                       refine purW 3 171 30 1327 HT_ ?_
                       refine takeW 4 (some 172) (bm 30 1343) HT_ HW_ hHeld ?_
                       refine takeW 6 (some 174) (bm 30 1407) HT_ HW_ hHeld ?_
                       refine takeW 9 (some 177) (bm 30 1919) HT_ HW_ hHeld ?_
                       refine takeW 11 (some 179) (bm 30 3967) HT_ HW_ hHeld ?_
                       refine purW 12 180 30 8063 HT_ ?_
                       refine oneW 7 (some 175) (bm 30 8191) HT_ (fun K hK => ?_)
                       refine goesR Tryd.func17 #[.int .i64 (rd t863 x163_6), .int .i64 t854] ?_
                       with_reducible refine (laws_pIn.calls (rd t863 x163_6) t854 t894 _ A160.out).mono ?_
                       rintro e w' ⟨rfl, ⟨nd, rfl⟩⟩
                       refine ⟨_, rfl, ?_⟩
                       refine hK.out _ _ ⟨(blk_cell BK867.out 0).trans rfl, (blk_cell BK867.out 1).trans rfl, (blk_cell BK860.out 0).trans rfl, (blk_cell BK860.out 1).trans rfl, (blk_cell BK892.out 0).trans rfl, (blk_cell BK892.out 1).trans rfl, (blk_cell BK861.out 0).trans rfl, (blk_cell BK861.out 1).trans rfl, hHeld.2.2.2.2.2.2.2.2.1, hHeld.2.2.2.2.2.2.2.2.2⟩ (fun hHeld => ?_)
                       clear hK K
                       refine normW 175 ?_
                       refine purW 13 181 30 16383 HT_ ?_
                       refine purW 14 182 30 32767 HT_ ?_
                       refine purW 15 183 30 65535 HT_ ?_
                       refine purW 17 185 30 196607 HT_ ?_
                       refine purW 21 189 30 2293759 HT_ ?_
                       refine purW 23 191 30 10682367 HT_ ?_
                       refine purW 25 193 30 44236799 HT_ ?_
                       refine takeW 16 (some 184) (bm 30 44302335) HT_ HW_ hHeld ?_
                       refine takeW 18 (some 186) (bm 30 44564479) HT_ HW_ hHeld ?_
                       refine purW 19 187 30 45088767 HT_ ?_
                       refine takeW 20 (some 188) (bm 30 46137343) HT_ HW_ hHeld ?_
                       refine takeW 24 (some 192) (bm 30 62914559) HT_ HW_ hHeld ?_
                       refine takeW 26 (some 194) (bm 30 130023423) HT_ HW_ hHeld ?_
                       refine purW 27 195 30 264241151 HT_ ?_
                       refine oneW 22 (some 190) (bm 30 268435455) HT_ (fun K hK => ?_)
                       refine goesR Tryd.func17 #[.int .i64 (rd t863 t854), .int .i64 x163_6] ?_
                       with_reducible refine (laws_pIn.calls (rd t863 t854) x163_6 t896 _ A173.out).mono ?_
                       rintro e w' ⟨rfl, ⟨nd, rfl⟩⟩
                       refine ⟨_, rfl, ?_⟩
                       refine hK.out _ _ ⟨(blk_cell BK867.out 0).trans rfl, (blk_cell BK867.out 1).trans rfl, (blk_cell BK860.out 0).trans rfl, (blk_cell BK860.out 1).trans rfl, (blk_cell BK892.out 0).trans rfl, (blk_cell BK892.out 1).trans rfl, (blk_cell BK861.out 0).trans rfl, (blk_cell BK861.out 1).trans rfl, hHeld.2.2.2.2.2.2.2.2.1, hHeld.2.2.2.2.2.2.2.2.2⟩ (fun hHeld => ?_)
                       clear hK K
                       refine normW 190 ?_
                       refine purW 28 196 30 536870911 HT_ ?_
                       refine purW 29 197 30 1073741823 HT_ ?_
                       refine doneW HT_ ?_
                       try go_wp2
                       go_roundg k6
                       case measure => have := HJ7.out; have := HJ17.out; have := HJ72.out; have := HK4.out; have := HJ117.out; have := HK6.out; omega
                       case rel => exact ⟨(wrap64 (x163_6 + 1)), eqS, H', ⟨by have := HJ7.out; have := HJ17.out; have := HJ72.out; have := HK4.out; have := HJ117.out; have := HK6.out; omega⟩, ⟨Kd.R_g (Kd.R_mono HO_161.out (fun _ hk => hk.1))⟩, rg HO_861001, rg HO_868001, rg HO_874001, rg HO_884001, bg BK860, bg BK861, bg BK867, bg BK873, bg BK883, hbg HB⟩
                    ·obtain rfl := Option.some.inj H
                     go_wp2
                     go_ret
                     exact ⟨eqE, bel_g HB.out⟩
          ·replace c107 := Bool.eq_false_iff.mpr c107
           subst c107
           replace H := ifF H
           obtain rfl := Option.some.inj H
           go_wp2
           go_ret
           exact ⟨eqE, bel_g HB.out⟩
end Go.Proofs.YtlfjnllnddpgoaaDoor.Q
