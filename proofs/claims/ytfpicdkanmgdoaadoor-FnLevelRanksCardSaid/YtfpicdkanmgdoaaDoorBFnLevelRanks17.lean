import Derived.Test.YtfpicdkanmgdoaaDoorBFnLevelRanks7
import Derived.Test.YtfpicdkanmgdoaaDoorBFnLevelRanks8
import Derived.Test.YtfpicdkanmgdoaaDoorBFnLevelRanks11
import Derived.Test.YtfpicdkanmgdoaaDoorBFnLevelRanks15
import Derived.Test.YtfpicdkanmgdoaaDoorBFnLevelRanks16
namespace Go.Proofs.YtfpicdkanmgdoaaDoor.Q
open Go.RowKit Go.Proofs.YtfpicdkanmgdoaaDoorW.PrintWords Go.Proofs.YtfpicdkanmgdoaaDoorW.PrintLast Go.Proofs.YtfpicdkanmgdoaaDoorW.PrintMore
attribute [local go_sem] max2_int min2_int max_two min_two max_three min_three max_four min_four neB_f
set_option linter.unusedVariables false
set_option maxHeartbeats 8000000
set_option maxRecDepth 100000
set_option linter.unusedSimpArgs false
mutual
def laws_FnLevelRanks.j0 : Nat → List Int → Option (Bool)
 | 0, _ => none
 | k + 1, x1 => (spec_DrawCountLinear.f k x1).bind fun t593 => ((impl_CountLinear.f k t593).bind fun bt596 => ((spec_CountLinear.f k t593).bind fun bt598 => (if (bt596.2 != bt598.2) = true then (none) else (if bt596.1 = bt598.1 then (if bt596.2 = true then ((impl_OrderOfLevels.f k t593).bind fun bt600 => ((impl_CountExtensions.f k bt600.1 bt600.2.1).bind fun bt606 => (if bt600.2.2 = true then (if bt606.2 = true then (if bt606.1 = bt596.1 then (laws_FnLevelRanks.j1 k x1) else (none)) else (none)) else (none)))) else (laws_FnLevelRanks.j1 k x1)) else (none)))))
def laws_FnLevelRanks.j1 : Nat → List Int → Option (Bool)
 | 0, _ => none
 | k + 1, x1 => (spec_DrawCountWeak.f x1).bind fun t608 => ((impl_CountWeak.f k t608).bind fun bt609 => ((spec_CountWeak.f k t608).bind fun bt611 => ((spec_DrawRankLevels.f k x1).bind fun t613 => ((impl_RankLevels.f k t613).bind fun bt616 => ((spec_RankLevels.f k t613).bind fun bt618 => (if (bt609.2 == bt611.2) = true then (if bt609.1 = bt611.1 then (if (bt616.2 == bt618.2) = true then (some (bt616.1 == bt618.1)) else (none)) else (none)) else (none)))))))
end
def laws_FnLevelRanks.f (k : Nat) (l0 : List Int) (l1 : List Int) : Option (Bool) := (laws_big.f l0 l1).bind fun t572 => (if t572 = true then (some true) else ((spec_DrawLevelsWith.f k l0).bind fun bt573 => ((impl_LevelsWith.f k bt573.1 bt573.2).bind fun bt575 => ((spec_LevelsWith.f k bt573.1 bt573.2).bind fun bt579 => (if (bt575.2 != bt579.2) = true then (none) else ((laws_vSame.f k bt575.1 bt579.1).bind fun t583 => (if t583 = true then (if bt575.2 = true then ((impl_RankLevels.f k bt575.1).bind fun bt584 => ((impl_LevelsWith.f k bt573.1 (wrap64 (bt573.2 + 1))).bind fun bt586 => ((impl_CountWeak.f k bt573.1).bind fun bt590 => (if bt584.2 = true then (if bt584.1 = bt573.2 then (if bt590.2 = true then (if (bt586.2 != (decide ((wrap64 (bt573.2 + 1)) < bt590.1))) = true then (none) else (if bt586.2 = true then ((laws_vLess.f k bt575.1 bt586.1).bind fun t592 => (if t592 = true then (laws_FnLevelRanks.j0 k l1) else (none))) else (laws_FnLevelRanks.j0 k l1))) else (none)) else (none)) else (none))))) else (laws_FnLevelRanks.j0 k l1)) else (none))))))))
theorem laws_FnLevelRanks.mono_l : ∀ k, (∀ y0, LeO (laws_FnLevelRanks.j0 k y0) (laws_FnLevelRanks.j0 (k + 1) y0)) ∧ (∀ y0, LeO (laws_FnLevelRanks.j1 k y0) (laws_FnLevelRanks.j1 (k + 1) y0))
 | 0 => ⟨fun _ r h => by simp [laws_FnLevelRanks.j0] at h, fun _ r h => by simp [laws_FnLevelRanks.j1] at h⟩
 | k + 1 => by
  obtain ⟨ih0, ih1⟩ := laws_FnLevelRanks.mono_l k
  refine ⟨?_, ?_⟩ <;> intros
  unfold laws_FnLevelRanks.j0
  rotate_left
  unfold laws_FnLevelRanks.j1
  rotate_left
  all_goals repeat' (with_reducible first|apply ih0|apply ih1|apply impl_CountExtensions.mono|apply impl_CountLinear.mono|apply impl_CountWeak.mono|apply impl_LevelsWith.mono|apply impl_OrderOfLevels.mono|apply impl_RankLevels.mono|apply laws_vLess.mono|apply laws_vSame.mono|apply spec_CountLinear.mono|apply spec_CountWeak.mono|apply spec_DrawCountLinear.mono|apply spec_DrawLevelsWith.mono|apply spec_DrawRankLevels.mono|apply spec_LevelsWith.mono|apply spec_RankLevels.mono|apply LeO.refl|apply LeO.none|apply LeO.ite|apply LeO.bind|intro)
theorem laws_FnLevelRanks.mono : ∀ a0 a1 k, LeO (laws_FnLevelRanks.f k a0 a1) (laws_FnLevelRanks.f (k + 1) a0 a1) := by
 intro a0 a1 k
 obtain ⟨ih0, ih1⟩ := laws_FnLevelRanks.mono_l k
 unfold laws_FnLevelRanks.f
 repeat' (with_reducible first|apply ih0|apply ih1|apply impl_CountExtensions.mono|apply impl_CountLinear.mono|apply impl_CountWeak.mono|apply impl_LevelsWith.mono|apply impl_OrderOfLevels.mono|apply impl_RankLevels.mono|apply laws_vLess.mono|apply laws_vSame.mono|apply spec_CountLinear.mono|apply spec_CountWeak.mono|apply spec_DrawCountLinear.mono|apply spec_DrawLevelsWith.mono|apply spec_DrawRankLevels.mono|apply spec_LevelsWith.mono|apply spec_RankLevels.mono|apply LeO.refl|apply LeO.none|apply LeO.ite|apply LeO.bind|intro)
theorem laws_FnLevelRanks.calls (k : Nat) (A0 : Option Addr) (c0 : Nat) (l0 : List Int) (A1 : Option Addr) (c1 : Nat) (l1 : List Int) (r : Bool) (w : World) (hr0 : Kd.C (Kd.int .u8) w A0 l0.length l0) (hc0 : l0.length ≤ c0) (hr1 : Kd.C (Kd.int .u8) w A1 l1.length l1) (hc1 : l1.length ≤ c1) (hTAB : Tab w) (h : laws_FnLevelRanks.f k l0 l1 = some r) :
  Calls Tryd.prog 3 #[.slice A0 l0.length c0, .slice A1 l1.length c1] w fun e w' => e = .returned (.bool r) ∧ Below w.heap.size w w' := by
 have HTAB := mkA hTAB
 clear hTAB
 have hu35 := Tryd.underlying35
 have HR0 := mkA hr0
 have HC0 := mkA hc0
 clear hr0 hc0
 have HR1 := mkA hr1
 have HC1 := mkA hc1
 clear hr1 hc1
 have HB := mkA (Below.refl w.heap.size w)
 have H := h
 clear h
 unfold laws_FnLevelRanks.f at H
 obtain ⟨t572, A3, H⟩ := obE H
 by_cases c4 : t572 = true
 ·subst c4
  replace H := ifT H
  obtain rfl := Option.some.inj H
  go_enter Tryd.func3, Tryd.ntmps3
  go_wp2_with (first | ((with_reducible refine gate_callee (f := 4) rfl ?_); refine goesQ (some 38) Tryd.func4 #[.slice A0 l0.length c0, .slice A1 l1.length c1] ?_; (with_reducible refine (laws_big.calls _ _ l0 _ _ l1 true _ ?s1 ?s2 ?s3 ?s4 A3.out).mono ?_); (case s1 => repeat (first | exact HR0.out | (with_reducible refine Kd.C_alloc ?_ _) | (with_reducible refine Kd.C_drewN ?_ _) | (with_reducible refine Kd.C_drew ?_))); (case s2 => exact HC0.out); (case s3 => repeat (first | exact HR1.out | (with_reducible refine Kd.C_alloc ?_ _) | (with_reducible refine Kd.C_drewN ?_ _) | (with_reducible refine Kd.C_drew ?_))); (case s4 => exact HC1.out); rintro e w' ⟨rfl, ⟨nd, rfl⟩⟩; refine ⟨_, rfl, ?_⟩))
  go_ret
  exact ⟨eqE, bel_g HB.out⟩
 ·replace c4 := Bool.eq_false_iff.mpr c4
  subst c4
  replace H := ifF H
  obtain ⟨⟨t573, t574⟩, A5, H⟩ := obE H
  dsimp only at H
  obtain ⟨⟨t575, t576⟩, A6, H⟩ := obE H
  dsimp only at H
  obtain ⟨⟨t579, t582⟩, A7, H⟩ := obE H
  dsimp only at H
  obtain ⟨c8, H⟩ := itMP H
  have c8b0 : (t576 != t582) = false := by simpa using c8
  (try (have c8b1 : decide (t576 = t582) = true := by simpa using c8))
  (try (have c8b2 : (t576 == t582) = true := by simpa using c8))
  clear c8
  obtain ⟨t583, A9, H⟩ := obE H
  by_cases c10 : t583 = true
  ·subst c10
   replace H := ifT H
   have HC11 := mkA H
   clear H
   go_enter Tryd.func3, Tryd.ntmps3
   go_upto_if 65 with (first | ((with_reducible refine gate_callee (f := 4) rfl ?_); refine goesQ (some 38) Tryd.func4 #[.slice A0 l0.length c0, .slice A1 l1.length c1] ?_; (with_reducible refine (laws_big.calls _ _ l0 _ _ l1 false _ ?s1 ?s2 ?s3 ?s4 A3.out).mono ?_); (case s1 => repeat (first | exact HR0.out | (with_reducible refine Kd.C_alloc ?_ _) | (with_reducible refine Kd.C_drewN ?_ _) | (with_reducible refine Kd.C_drew ?_))); (case s2 => exact HC0.out); (case s3 => repeat (first | exact HR1.out | (with_reducible refine Kd.C_alloc ?_ _) | (with_reducible refine Kd.C_drewN ?_ _) | (with_reducible refine Kd.C_drew ?_))); (case s4 => exact HC1.out); rintro e w' ⟨rfl, ⟨nd, rfl⟩⟩; refine ⟨_, rfl, ?_⟩) | ((with_reducible refine gate_callee (f := 5) rfl ?_); refine goesQ (some 41) Tryd.func5 #[.slice A0 l0.length c0] ?_; (with_reducible refine (spec_DrawLevelsWith.calls k _ _ l0 t573 t574 _ ?s1 ?s2 A5.out).mono ?_); (case s1 => repeat (first | exact HR0.out | (with_reducible refine Kd.C_alloc ?_ _) | (with_reducible refine Kd.C_drewN ?_ _) | (with_reducible refine Kd.C_drew ?_))); (case s2 => exact HC0.out); rintro e w12 ⟨rfl, hb⟩; refine ⟨_, rfl, ?_⟩; replace HB := bst HB hb; clear hb) | ((with_reducible refine gate_callee (f := 6) rfl ?_); refine goesQ (some 47) Tryd.func6 #[.int .i64 t573, .int .i64 t574] ?_; (with_reducible refine (impl_LevelsWith.calls k t573 t574 t575 t576 _ A6.out).mono ?_); rintro e w13 ⟨v577, rfl, ho0, hb⟩; refine ⟨_, rfl, ?_⟩; have HO578 := rLo ho0 HB; replace HB := bst HB hb; clear hb ho0) | ((with_reducible refine gate_callee (f := 7) rfl ?_); refine goesQ (some 53) Tryd.func7 #[.int .i64 t573, .int .i64 t574] ?_; (with_reducible refine (spec_LevelsWith.calls k t573 t574 t579 t582 _ A7.out).mono ?_); rintro e w14 ⟨v580, rfl, ho0, hb⟩; refine ⟨_, rfl, ?_⟩; have HO581 := mkA (Kd.V_lower (Kd.V_mono (ok' := fun k_ => some k_ ≠ (v577 : Value).ownBlock) ho0 (fun k_ hk_ => (Kd.fresh' (Kd.R_lt (Kd.R_g HO578.out)) k_ hk_))) (below_size (bel_g HB.out))); replace HO578 := rB HO578 hb; replace HB := bst HB hb; clear hb ho0; obtain ⟨Ao15, co15, rfl⟩ := Kd.R_slice HO578.out; obtain ⟨Ao16, co16, rfl⟩ := Kd.V_slice HO581.out) | (go_at_call 8; (with_reducible refine (laws_vSame.calls k _ _ t575 _ _ t579 true _ ?s1 ?s2 ?s3 ?s4 A9.out).mono ?_); (case s1 => exact rC HO578); (case s2 => exact rL HO578); (case s3 => repeat (first | exact (Kd.V_reads' HO581.out).2.2 | (with_reducible refine Kd.C_alloc ?_ _) | (with_reducible refine Kd.C_drewN ?_ _) | (with_reducible refine Kd.C_drew ?_))); (case s4 => exact (Kd.V_reads' HO581.out).2.1); rintro e w' ⟨rfl, ⟨nd, rfl⟩⟩))
   (try simp only [Act.put, List.setIfInBounds_toArray, List.set_cons_zero, List.set_cons_succ])
   go_cut [] (fun wc => ∃ (kq : Nat), Fc (laws_FnLevelRanks.j0 kq l1 = some r) ∧ Fc (kq ≤ k) ∧ Fc (Below w.heap.size w wc))
   case first =>
    have H := HC11.out
    clear HC11
    by_cases c17 : t576 = true
    ·subst c17
     replace H := ifT H
     obtain ⟨⟨t584, t585⟩, A18, H⟩ := obE H
     dsimp only at H
     obtain ⟨⟨t586, t587⟩, A19, H⟩ := obE H
     dsimp only at H
     obtain ⟨⟨t590, t591⟩, A20, H⟩ := obE H
     dsimp only at H
     by_cases c21 : t585 = true
     ·subst c21
      replace H := ifT H
      obtain ⟨c22, H⟩ := itNP H
      have c22b0 := beq_iff_eq.mpr c22
      have c22b1 := bne_eq_false_iff_eq.mpr c22
      clear c22
      (first | rw [c22b0] | (simp only [i64_w, i32_w]; rw [c22b0]) | skip)
      by_cases c23 : t591 = true
      ·subst c23
       replace H := ifT H
       obtain ⟨c24, H⟩ := itMP H
       have c24b0 : (t587 != (decide ((wrap64 (t574 + 1)) < t590))) = false := by simpa using c24
       (try (have c24b1 : decide (t587 = (decide ((wrap64 (t574 + 1)) < t590))) = true := by simpa using c24))
       (try (have c24b2 : (t587 == (decide ((wrap64 (t574 + 1)) < t590))) = true := by simpa using c24))
       clear c24
       by_cases c25 : t587 = true
       ·subst c25
        replace H := ifT H
        obtain ⟨t592, A26, H⟩ := obE H
        by_cases c27 : t592 = true
        ·subst c27
         replace H := ifT H
         have H' := mkA H
         clear H
         go_wp2_with (first | ((with_reducible refine gate_callee (f := 9) rfl ?_); refine goesQ (some 68) Tryd.func9 #[.slice Ao15 t575.length co15] ?_; (with_reducible refine (impl_RankLevels.calls k _ _ t575 t584 true _ ?_ ?_ A18.out).mono ?_); exact rC HO578; exact rL HO578; rintro e w28 ⟨rfl, hb⟩; refine ⟨_, rfl, ?_⟩; replace HO578 := rB HO578 hb; replace HO581 := mkA (Kd.V_below (by (with_reducible repeat (first | apply Kd.V_alloc | apply Kd.V_drewN | apply Kd.V_drew)); exact HO581.out) hb); replace HB := bst HB hb; (try clear hb); (try clear hk)) | ((with_reducible refine gate_callee (f := 6) rfl ?_); refine goesQ (some 75) Tryd.func6 #[.int .i64 t573, .int .i64 (wrap64 (t574 + 1))] ?_; (with_reducible refine (impl_LevelsWith.calls k t573 (wrap64 (t574 + 1)) t586 true _ A19.out).mono ?_); rintro e w29 ⟨v588, rfl, ho0, hb⟩; refine ⟨_, rfl, ?_⟩; replace HO581 := mkA (Kd.V_elder' (by (with_reducible repeat (first | apply Kd.V_alloc | apply Kd.V_drewN | apply Kd.V_drew)); exact HO581.out) (Kd.R_base ho0) hb); have HO589 := rLo (rN ho0 HO578) HB; replace HO578 := rE HO578 ho0 hb; replace HB := bst HB hb; (try clear hb); (try clear hk); (try clear ho0)) | ((with_reducible refine gate_callee (f := 10) rfl ?_); refine goesQ (some 80) Tryd.func10 #[.int .i64 t573] ?_; (with_reducible refine (impl_CountWeak.calls k t573 t590 true _ A20.out).mono ?_); rintro e w30 ⟨rfl, hb⟩; refine ⟨_, rfl, ?_⟩; replace HO578 := rB HO578 hb; replace HO581 := mkA (Kd.V_below (by (with_reducible repeat (first | apply Kd.V_alloc | apply Kd.V_drewN | apply Kd.V_drew)); exact HO581.out) hb); replace HO589 := rB HO589 hb; replace HB := bst HB hb; (try clear hb); (try clear hk); obtain ⟨Ao31, co31, rfl⟩ := Kd.R_slice HO589.out) | (go_at_call 11; (with_reducible refine (laws_vLess.calls k _ _ t575 _ _ t586 true _ ?_ ?_ ?_ ?_ A26.out).mono ?_); exact rC HO578; exact rL HO578; exact rC HO589; exact rL HO589; rintro e w' ⟨rfl, ⟨nd, rfl⟩⟩))
         go_meet
         case rel => exact ⟨_, H', ⟨by first | omega | exact Nat.le_refl _⟩, hbg HB⟩
        ·replace c27 := Bool.eq_false_iff.mpr c27
         subst c27
         replace H := ifF H
         exact absurd H (by simp)
       ·replace c25 := Bool.eq_false_iff.mpr c25
        subst c25
        replace H := ifF H
        have H' := mkA H
        clear H
        go_wp2_with (first | ((with_reducible refine gate_callee (f := 9) rfl ?_); refine goesQ (some 68) Tryd.func9 #[.slice Ao15 t575.length co15] ?_; (with_reducible refine (impl_RankLevels.calls k _ _ t575 t584 true _ ?_ ?_ A18.out).mono ?_); exact rC HO578; exact rL HO578; rintro e w32 ⟨rfl, hb⟩; refine ⟨_, rfl, ?_⟩; replace HO578 := rB HO578 hb; replace HO581 := mkA (Kd.V_below (by (with_reducible repeat (first | apply Kd.V_alloc | apply Kd.V_drewN | apply Kd.V_drew)); exact HO581.out) hb); replace HB := bst HB hb; (try clear hb); (try clear hk)) | ((with_reducible refine gate_callee (f := 6) rfl ?_); refine goesQ (some 75) Tryd.func6 #[.int .i64 t573, .int .i64 (wrap64 (t574 + 1))] ?_; (with_reducible refine (impl_LevelsWith.calls k t573 (wrap64 (t574 + 1)) t586 false _ A19.out).mono ?_); rintro e w33 ⟨v588, rfl, ho0, hb⟩; refine ⟨_, rfl, ?_⟩; replace HO581 := mkA (Kd.V_elder' (by (with_reducible repeat (first | apply Kd.V_alloc | apply Kd.V_drewN | apply Kd.V_drew)); exact HO581.out) (Kd.R_base ho0) hb); have HO589 := rLo (rN ho0 HO578) HB; replace HO578 := rE HO578 ho0 hb; replace HB := bst HB hb; (try clear hb); (try clear hk); (try clear ho0)) | ((with_reducible refine gate_callee (f := 10) rfl ?_); refine goesQ (some 80) Tryd.func10 #[.int .i64 t573] ?_; (with_reducible refine (impl_CountWeak.calls k t573 t590 true _ A20.out).mono ?_); rintro e w34 ⟨rfl, hb⟩; refine ⟨_, rfl, ?_⟩; replace HO578 := rB HO578 hb; replace HO581 := mkA (Kd.V_below (by (with_reducible repeat (first | apply Kd.V_alloc | apply Kd.V_drewN | apply Kd.V_drew)); exact HO581.out) hb); replace HO589 := rB HO589 hb; replace HB := bst HB hb; (try clear hb); (try clear hk)))
        go_meet
        case rel => exact ⟨_, H', ⟨by first | omega | exact Nat.le_refl _⟩, hbg HB⟩
      ·replace c23 := Bool.eq_false_iff.mpr c23
       subst c23
       replace H := ifF H
       exact absurd H (by simp)
     ·replace c21 := Bool.eq_false_iff.mpr c21
      subst c21
      replace H := ifF H
      exact absurd H (by simp)
    ·replace c17 := Bool.eq_false_iff.mpr c17
     subst c17
     replace H := ifF H
     have H' := mkA H
     clear H
     go_wp2
     go_meet
     case rel => exact ⟨_, H', ⟨by first | omega | exact Nat.le_refl _⟩, hbg HB⟩
   case rest =>
    clear HC11
    try clear c1
    try clear c4
    try clear c8
    try clear c8b0
    try clear c8b1
    try clear c8b2
    try clear c10
    try clear c17
    try clear c21
    try clear c22
    try clear c22b0
    try clear c22b1
    try clear c23
    try clear c24
    try clear c24b0
    try clear c24b1
    try clear c24b2
    try clear c25
    try clear c27
    obtain ⟨kq, HA, HJ10, HB⟩ := hcut
    cases kq with
    | zero => exact absurd HA.out (by simp [laws_FnLevelRanks.j0])
    | succ kj10 =>
     have H := HA.out
     clear HA
     simp only [laws_FnLevelRanks.j0] at H
     obtain ⟨t593, A35, H⟩ := obE H
     obtain ⟨⟨t596, t597⟩, A36, H⟩ := obE H
     dsimp only at H
     obtain ⟨⟨t598, t599⟩, A37, H⟩ := obE H
     dsimp only at H
     obtain ⟨c38, H⟩ := itMP H
     have c38b0 : (t597 != t599) = false := by simpa using c38
     (try (have c38b1 : decide (t597 = t599) = true := by simpa using c38))
     (try (have c38b2 : (t597 == t599) = true := by simpa using c38))
     clear c38
     obtain ⟨c39, H⟩ := itNP H
     have c39b0 := beq_iff_eq.mpr c39
     have c39b1 := bne_eq_false_iff_eq.mpr c39
     clear c39
     have HC40 := mkA H
     clear H
     go_upto_if 131 with (first | ((with_reducible refine gate_callee (f := 12) rfl ?_); refine goesQ (some 112) Tryd.func12 #[.slice A1 l1.length c1] ?_; (with_reducible refine (spec_DrawCountLinear.calls kj10 _ _ l1 t593 _ ?_ ?_ A35.out).mono ?_); exact C_g HR1 HB; exact HC1.out; rintro e w41 ⟨v594, rfl, ho0, hb⟩; refine ⟨_, rfl, ?_⟩; have HO595 := rLo ho0 HB; replace HB := bst HB hb; clear hb ho0; obtain ⟨Ao42, co42, rfl⟩ := Kd.R_slice HO595.out) | ((with_reducible refine gate_callee (f := 13) rfl ?_); refine goesQ (some 115) Tryd.func13 #[.slice Ao42 t593.length co42] ?_; (with_reducible refine (impl_CountLinear.calls kj10 _ _ t593 t596 t597 _ ?_ ?_ A36.out).mono ?_); exact rC HO595; exact rL HO595; rintro e w43 ⟨rfl, hb⟩; refine ⟨_, rfl, ?_⟩; replace HO595 := rB HO595 hb; replace HB := bst HB hb; clear hb) | ((with_reducible refine gate_callee (f := 14) rfl ?_); refine goesQ (some 120) Tryd.func14 #[.slice Ao42 t593.length co42] ?_; (with_reducible refine (spec_CountLinear.calls kj10 _ _ t593 t598 t599 _ ?_ ?_ A37.out).mono ?_); exact rC HO595; exact rL HO595; rintro e w' ⟨rfl, ⟨nd, rfl⟩⟩; refine ⟨_, rfl, ?_⟩))
     (try simp only [Act.put, List.setIfInBounds_toArray, List.set_cons_zero, List.set_cons_succ])
     go_cut [] (fun wc => ∃ (kq : Nat), Fc (laws_FnLevelRanks.j1 kq l1 = some r) ∧ Fc (kq ≤ kj10) ∧ Fc (Below w.heap.size w wc))
     case first =>
      have H := HC40.out
      clear HC40
      by_cases c44 : t597 = true
      ·subst c44
       replace H := ifT H
       obtain ⟨⟨t600, t601, t604⟩, A45, H⟩ := obE H
       dsimp only at H
       obtain ⟨⟨t606, t607⟩, A46, H⟩ := obE H
       dsimp only at H
       by_cases c47 : t604 = true
       ·subst c47
        replace H := ifT H
        by_cases c48 : t607 = true
        ·subst c48
         replace H := ifT H
         obtain ⟨c49, H⟩ := itNP H
         have c49b0 := beq_iff_eq.mpr c49
         have c49b1 := bne_eq_false_iff_eq.mpr c49
         clear c49
         (first | rw [c49b0] | (simp only [i64_w, i32_w]; rw [c49b0]) | skip)
         have H' := mkA H
         clear H
         go_wp2_with (first | ((with_reducible refine gate_callee (f := 15) rfl ?_); refine goesQ (some 134) Tryd.func15 #[.slice Ao42 t593.length co42] ?_; (with_reducible refine (impl_OrderOfLevels.calls kj10 _ _ t593 t600 t601 true _ ?_ ?_ A45.out).mono ?_); exact rC HO595; exact rL HO595; rintro e w50 ⟨v602, rfl, ho0, hb⟩; refine ⟨_, rfl, ?_⟩; have HO603 := rLo (rN ho0 HO595) HB; replace HO595 := rE HO595 ho0 hb; replace HB := bst HB hb; clear hb ho0) | ((with_reducible refine gate_dst (N := 22) rfl ?_); refine boxG HB #[.int .i64 0, .slice none 0 0] 35 ?_; intro gb605 hg w51 BK605 GE605 hb; replace HO595 := rB HO595 hb; replace HO603 := rB HO603 hb; replace HB := bst HB hb; clear hb hg; obtain ⟨_, _, _, _⟩ := blk2 BK605; obtain ⟨Ao53, co53, rfl⟩ := Kd.R_slice HO603.out) | ((with_reducible refine gate_callee (f := 16) rfl ?_); refine goesQ (some 139) Tryd.func16 #[.agg #[.int .i64 t600, .slice Ao53 t601.length co53]] ?_; (with_reducible refine (impl_CountExtensions.calls kj10 t600 _ _ t601 t606 true _ ?_ ?_ ?_ A46.out).mono ?_); exact rCF HO603 BK605; exact rL HO603; exact Tab.below HTAB.out (bel_g HB.out); rintro e w54 ⟨rfl, hb⟩; refine ⟨_, rfl, ?_⟩; replace HO595 := mkA (Kd.R_below (rFg HO595 BK605) hb); replace HO603 := mkA (Kd.R_below (rFg HO603 BK605) hb); replace BK605 := blkS BK605 hb; replace HB := bst HB hb; clear hb))
         go_meet
         case rel => exact ⟨_, H', ⟨by have := HJ10.out; first | omega | exact Nat.le_refl _⟩, hbg HB⟩
        ·replace c48 := Bool.eq_false_iff.mpr c48
         subst c48
         replace H := ifF H
         exact absurd H (by simp)
       ·replace c47 := Bool.eq_false_iff.mpr c47
        subst c47
        replace H := ifF H
        exact absurd H (by simp)
      ·replace c44 := Bool.eq_false_iff.mpr c44
       subst c44
       replace H := ifF H
       have H' := mkA H
       clear H
       go_wp2
       go_meet
       case rel => exact ⟨_, H', ⟨by have := HJ10.out; first | omega | exact Nat.le_refl _⟩, hbg HB⟩
     case rest =>
      clear HC40
      try clear c1
      try clear c4
      try clear c8
      try clear c8b0
      try clear c8b1
      try clear c8b2
      try clear c10
      try clear c17
      try clear c21
      try clear c22
      try clear c22b0
      try clear c22b1
      try clear c23
      try clear c24
      try clear c24b0
      try clear c24b1
      try clear c24b2
      try clear c25
      try clear c27
      try clear c38
      try clear c38b0
      try clear c38b1
      try clear c38b2
      try clear c39
      try clear c39b0
      try clear c39b1
      try clear c44
      try clear c47
      try clear c48
      try clear c49
      try clear c49b0
      try clear c49b1
      obtain ⟨kq, HA, HJ39, HB⟩ := hcut
      cases kq with
      | zero => exact absurd HA.out (by simp [laws_FnLevelRanks.j1])
      | succ kj39 =>
       have H := HA.out
       clear HA
       simp only [laws_FnLevelRanks.j1] at H
       obtain ⟨t608, A55, H⟩ := obE H
       obtain ⟨⟨t609, t610⟩, A56, H⟩ := obE H
       dsimp only at H
       obtain ⟨⟨t611, t612⟩, A57, H⟩ := obE H
       dsimp only at H
       obtain ⟨t613, A58, H⟩ := obE H
       obtain ⟨⟨t616, t617⟩, A59, H⟩ := obE H
       dsimp only at H
       obtain ⟨⟨t618, t619⟩, A60, H⟩ := obE H
       dsimp only at H
       obtain ⟨c61, H⟩ := itNP H
       have c61b0 : (t610 == t612) = true := c61
       (try (have c61b1 : decide (t610 = t612) = true := by simpa using c61))
       (try (have c61b2 : (t610 == t612) = true := by simpa using c61))
       clear c61
       obtain ⟨c62, H⟩ := itNP H
       have c62b0 := beq_iff_eq.mpr c62
       have c62b1 := bne_eq_false_iff_eq.mpr c62
       clear c62
       obtain ⟨c63, H⟩ := itNP H
       have c63b0 : (t617 == t619) = true := c63
       (try (have c63b1 : decide (t617 = t619) = true := by simpa using c63))
       (try (have c63b2 : (t617 == t619) = true := by simpa using c63))
       clear c63
       obtain rfl := Option.some.inj H
       go_wp2_with (first | ((with_reducible refine gate_callee (f := 17) rfl ?_); refine goesQ (some 154) Tryd.func17 #[.slice A1 l1.length c1] ?_; (with_reducible refine (spec_DrawCountWeak.calls _ _ l1 t608 _ ?_ ?_ A55.out).mono ?_); exact C_g HR1 HB; exact HC1.out; rintro e w64 ⟨rfl, hb⟩; refine ⟨_, rfl, ?_⟩; replace HB := bst HB hb; clear hb) | ((with_reducible refine gate_callee (f := 10) rfl ?_); refine goesQ (some 157) Tryd.func10 #[.int .i64 t608] ?_; (with_reducible refine (impl_CountWeak.calls kj39 t608 t609 t610 _ A56.out).mono ?_); rintro e w65 ⟨rfl, hb⟩; refine ⟨_, rfl, ?_⟩; replace HB := bst HB hb; clear hb) | ((with_reducible refine gate_callee (f := 18) rfl ?_); refine goesQ (some 162) Tryd.func18 #[.int .i64 t608] ?_; (with_reducible refine (spec_CountWeak.calls kj39 t608 t611 t612 _ A57.out).mono ?_); rintro e w' ⟨rfl, ⟨nd, rfl⟩⟩; refine ⟨_, rfl, ?_⟩) | ((with_reducible refine gate_callee (f := 19) rfl ?_); refine goesQ (some 166) Tryd.func19 #[.slice A1 l1.length c1] ?_; (with_reducible refine (spec_DrawRankLevels.calls kj39 _ _ l1 t613 _ ?s1 ?s2 A58.out).mono ?_); (case s1 => repeat (first | exact (Kd.C_below HR1.out (bel_g HB.out)) | (with_reducible refine Kd.C_alloc ?_ _) | (with_reducible refine Kd.C_drewN ?_ _) | (with_reducible refine Kd.C_drew ?_))); (case s2 => exact HC1.out); rintro e w66 ⟨v614, rfl, ho0, hb⟩; refine ⟨_, rfl, ?_⟩; have HO615 := rLo ho0 HB; replace HB := bst HB hb; clear hb ho0; obtain ⟨Ao67, co67, rfl⟩ := Kd.R_slice HO615.out) | ((with_reducible refine gate_callee (f := 9) rfl ?_); refine goesQ (some 169) Tryd.func9 #[.slice Ao67 t613.length co67] ?_; (with_reducible refine (impl_RankLevels.calls kj39 _ _ t613 t616 t617 _ ?_ ?_ A59.out).mono ?_); exact rC HO615; exact rL HO615; rintro e w68 ⟨rfl, hb⟩; refine ⟨_, rfl, ?_⟩; replace HO615 := rB HO615 hb; replace HB := bst HB hb; clear hb) | ((with_reducible refine gate_callee (f := 20) rfl ?_); refine goesQ (some 174) Tryd.func20 #[.slice Ao67 t613.length co67] ?_; (with_reducible refine (spec_RankLevels.calls kj39 _ _ t613 t618 t619 _ ?_ ?_ A60.out).mono ?_); exact rC HO615; exact rL HO615; rintro e w69 ⟨rfl, hb⟩; refine ⟨_, rfl, ?_⟩; replace HO615 := rB HO615 hb; replace HB := bst HB hb; clear hb))
       go_ret
       exact ⟨eqE, bel_g HB.out⟩
  ·replace c10 := Bool.eq_false_iff.mpr c10
   subst c10
   replace H := ifF H
   exact absurd H (by simp)
end Go.Proofs.YtfpicdkanmgdoaaDoor.Q
namespace Go.Proofs.YtfpicdkanmgdoaaDoor.Pure
open Go.RowKit Go.Proofs.YtfpicdkanmgdoaaDoor.Q Go.Proofs.YtfpicdkanmgdoaaDoorW.PrintWords Go.Proofs.YtfpicdkanmgdoaaDoorW.PrintLast
set_option linter.unusedVariables false
set_option linter.unusedSimpArgs false
-- small laws over rounds, numbers and lists; no program in sight
theorem Ev.shift {α : Type} {g : Nat → Option α} {r : α} (h : Ev (fun k => g (k + 1)) r) : Ev g r := by
 obtain ⟨K, hK⟩ := h
 refine ⟨K + 1, fun k hk => ?_⟩
 obtain ⟨m, rfl⟩ : ∃ m, k = m + 1 := ⟨k - 1, by omega⟩
 exact hK m (by omega)
theorem Ev.pos {α : Type} {c : Prop} [Decidable c] {f g : Nat → Option α} {r : α} (h : c) (k : Ev f r) : Ev (fun n => if c then f n else g n) r := by
 simp only [if_pos h]; exact k
theorem Ev.neg {α : Type} {c : Prop} [Decidable c] {f g : Nat → Option α} {r : α} (h : ¬ c) (k : Ev g r) : Ev (fun n => if c then f n else g n) r := by
 simp only [if_neg h]; exact k
theorem Ev.bindc {α β : Type} {a : Option α} {x : α} {f : Nat → α → Option β} {r : β} (h : a = some x) (k : Ev (fun n => f n x) r) : Ev (fun n => a.bind (f n)) r := by
 subst h; exact k
theorem Ev.ret {α : Type} {r s : α} (h : r = s) : Ev (fun _ => some r) s := by subst h; exact Ev.now _
theorem Ev.const {α : Type} {a : Option α} {r : α} (h : a = some r) : Ev (fun _ => a) r := ⟨0, fun _ _ => h⟩
theorem Ev.eq {α : Type} {g : Nat → Option α} {r s : α} (h : Ev g r) (e : r = s) : Ev g s := e ▸ h
theorem Ev.uniq {α : Type} {g : Nat → Option α} {r s : α} (h : Ev g r) (h' : Ev g s) : r = s := by
 obtain ⟨K, hK⟩ := h; obtain ⟨L, hL⟩ := h'
 have a := hK (max K L) (by omega); have b := hL (max K L) (by omega)
 rw [a] at b; exact Option.some.inj b
theorem Ev.at1 {α : Type} {g : Nat → Option α} {r : α} (h : Ev g r) : ∃ k, g k = some r := h.rounds
theorem wrap64_id {x : Int} (h1 : -9223372036854775808 ≤ x) (h2 : x ≤ 9223372036854775807) : wrap64 x = x := by unfold wrap64; omega
theorem rd_nat (l : List Int) (i : Nat) : rd l (i : Int) = l.getD i 0 := by simp [rd]
theorem rd_lt (l : List Int) (i : Nat) (h : i < l.length) : rd l (i : Int) = l[i] := by simp [rd, h]
theorem cast1 (i : Nat) : (i : Int) + 1 = ((i + 1 : Nat) : Int) := by omega
theorem big_f (l m : List Int) (hl : l.length ≤ maxLen) : ∃ b, laws_big.f l m = some b := by
 unfold laws_big.f
 by_cases h : (l.length : Int) > 1048576
 ·exact ⟨_, if_pos h⟩
 ·exact ⟨_, if_neg h⟩
end Go.Proofs.YtfpicdkanmgdoaaDoor.Pure
