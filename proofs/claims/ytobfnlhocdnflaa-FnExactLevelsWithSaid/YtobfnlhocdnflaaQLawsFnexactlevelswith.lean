-- printed by this project's own program (wip/mp/mp.py) over the kit's print, for this seat; Lean checks it
import Derived.Test.YtobfnlhocdnflaaQx0
import Derived.Test.YtobfnlhocdnflaaQSpecLevelswith
import Derived.Test.YtobfnlhocdnflaaQImplLevelswith
import Derived.Test.YtobfnlhocdnflaaQLawsEqints
import Derived.Test.YtobfnlhocdnflaaQLawsMarkints
import Derived.Test.YtobfnlhocdnflaaQLawsHeldints
namespace Go.Proofs.Ytobfnlhocdnflaa.Q
open Go.RowKit Go.Proofs.YtobfnlhocdnflaaW.PrintWords Go.Proofs.YtobfnlhocdnflaaW.PrintLast Go.Proofs.YtobfnlhocdnflaaW.PrintMore
attribute [local go_sem] max2_int min2_int max_two min_two max_three min_three max_four min_four   -- for this text's walks alone
set_option linter.unusedVariables false
set_option maxHeartbeats 8000000
set_option maxRecDepth 100000
set_option linter.unusedSimpArgs false

/-! ### laws_FnExactLevelsWith: function 3 -/
mutual
def laws_FnExactLevelsWith.j0 : Nat → Int → Int → List Int → Bool → List Int → Bool → Option (Bool)
 | 0, _, _, _, _, _, _ => none
 | k + 1, x0, x1, x5, x6, x7, x33 => if x33 = true then (some false) else ((laws_markIntS.f k x7 1).bind fun bt303 => ((laws_heldIntS.f k bt303.2 1).bind fun t305 => (if t305 < 0 then (some false) else (if t305 = bt303.1 then ((impl_LevelsWith.f k x0 x1).bind fun bt306 => ((laws_eqIntS.f k bt306.1 x5).bind fun t310 => (if t310 = true then (laws_FnExactLevelsWith.j1 k bt303.2 bt303.1 (bt306.2 != x6)) else (laws_FnExactLevelsWith.j1 k bt303.2 bt303.1 true)))) else (some false)))))
def laws_FnExactLevelsWith.j1 : Nat → List Int → Int → Bool → Option (Bool)
 | 0, _, _, _ => none
 | k + 1, x7, x9, x59 => if x59 = true then (some false) else ((laws_heldIntS.f k x7 1).bind fun t311 => (if t311 < 0 then (some false) else (if t311 = x9 then (some true) else (some false))))
end
def laws_FnExactLevelsWith.f (k : Nat) (a0 : Int) (a1 : Int) : Option (Bool) := (spec_LevelsWith.f k a0 a1).bind fun bt294 => ((impl_LevelsWith.f k a0 a1).bind fun bt298 => ((laws_eqIntS.f k bt298.1 bt294.1).bind fun t302 => (if t302 = true then (laws_FnExactLevelsWith.j0 k a0 a1 bt294.1 bt294.2 bt298.1 (bt298.2 != bt294.2)) else (laws_FnExactLevelsWith.j0 k a0 a1 bt294.1 bt294.2 bt298.1 true))))
theorem laws_FnExactLevelsWith.mono_l : ∀ k, (∀ y0 y1 y2 y3 y4 y5, LeO (laws_FnExactLevelsWith.j0 k y0 y1 y2 y3 y4 y5) (laws_FnExactLevelsWith.j0 (k + 1) y0 y1 y2 y3 y4 y5)) ∧ (∀ y0 y1 y2, LeO (laws_FnExactLevelsWith.j1 k y0 y1 y2) (laws_FnExactLevelsWith.j1 (k + 1) y0 y1 y2))
 | 0 => ⟨fun _ _ _ _ _ _ r h => by simp [laws_FnExactLevelsWith.j0] at h, fun _ _ _ r h => by simp [laws_FnExactLevelsWith.j1] at h⟩
 | k + 1 => by
  obtain ⟨ih0, ih1⟩ := laws_FnExactLevelsWith.mono_l k
  refine ⟨?_, ?_⟩ <;> intros
  unfold laws_FnExactLevelsWith.j0
  rotate_left
  unfold laws_FnExactLevelsWith.j1
  rotate_left
  all_goals repeat' (with_reducible first|apply ih0|apply ih1|apply impl_LevelsWith.mono|apply laws_eqIntS.mono|apply laws_heldIntS.mono|apply laws_markIntS.mono|apply spec_LevelsWith.mono|apply LeO.refl|apply LeO.none|apply LeO.ite|apply LeO.bind|intro)
theorem laws_FnExactLevelsWith.mono : ∀ a0 a1 k, LeO (laws_FnExactLevelsWith.f k a0 a1) (laws_FnExactLevelsWith.f (k + 1) a0 a1) := by
 intro a0 a1 k
 obtain ⟨ih0, ih1⟩ := laws_FnExactLevelsWith.mono_l k
 unfold laws_FnExactLevelsWith.f
 repeat' (with_reducible first|apply ih0|apply ih1|apply impl_LevelsWith.mono|apply laws_eqIntS.mono|apply laws_heldIntS.mono|apply laws_markIntS.mono|apply spec_LevelsWith.mono|apply LeO.refl|apply LeO.none|apply LeO.ite|apply LeO.bind|intro)
theorem laws_FnExactLevelsWith.calls (k : Nat) (a0 : Int) (a1 : Int) (r : Bool) (w : World) (h : laws_FnExactLevelsWith.f k a0 a1 = some r) :
  Calls Try.prog 3 #[.int .i64 a0, .int .i64 a1] w fun e w' => e = .returned (.bool r) ∧ Below w.heap.size w w' := by
 have HB := mkA (Below.refl w.heap.size w)
 have H := h
 clear h
 unfold laws_FnExactLevelsWith.f at H
 obtain ⟨⟨t294, t297⟩, A3, H⟩ := obE H
 dsimp only at H
 obtain ⟨⟨t298, t299⟩, A4, H⟩ := obE H
 dsimp only at H
 have HC5 := mkA H
 clear H
 go_enter Try.func3, Try.ntmps3
 go_upto_region 3 with (first | ((with_reducible refine gate_callee (f := 5) rfl ?_); refine goesQ (some 16) Try.func5 #[.int .i64 a0, .int .i64 a1] ?_; (with_reducible refine (spec_LevelsWith.calls k a0 a1 t294 t297 _ A3.out).mono ?_); rintro e w6 ⟨v295, rfl, ho0, hb⟩; refine ⟨_, rfl, ?_⟩; have HO296 := mkA (Kd.V_lower (Kd.V_mono (ok' := fun k_ => True) ho0 (fun k_ hk_ => trivial)) (below_size (bel_g HB.out))); replace HB := bst HB hb; clear hb ho0) | ((with_reducible refine gate_callee (f := 6) rfl ?_); refine goesQ (some 22) Try.func6 #[.int .i64 a0, .int .i64 a1] ?_; (with_reducible refine (impl_LevelsWith.calls k a0 a1 t298 t299 _ A4.out).mono ?_); rintro e w7 ⟨v300, rfl, ho0, hb⟩; refine ⟨_, rfl, ?_⟩; replace HO296 := mkA (Kd.V_elder' (by (with_reducible repeat (first | apply Kd.V_alloc | apply Kd.V_drewN | apply Kd.V_drew)); exact HO296.out) (Kd.R_base ho0) hb); have HO301 := rLo ho0 HB; replace HB := bst HB hb; (try clear hb); (try clear hk); (try clear ho0)))
 (try simp only [Act.put, List.setIfInBounds_toArray, List.set_cons_zero, List.set_cons_succ])
 go_cut [33] (fun v33 wc => ∃ (kq : Nat) (x33_4 : Bool), v33 = .bool x33_4 ∧ Fc (laws_FnExactLevelsWith.j0 kq a0 a1 t294 t297 t298 x33_4 = some r) ∧ Fc (kq ≤ k) ∧ Fc (Kd.V (Kd.int .i64) 3 wc w.heap.size (fun k_ => some k_ ≠ (v300 : Value).ownBlock) v295 t294) ∧ Fc (Kd.R (Kd.int .i64) 3 wc w.heap.size (fun _ => True) v300 t298) ∧ Fc (Below w.heap.size w wc))
 case first =>
  have H := HC5.out
  clear HC5
  obtain ⟨t302, A8, H⟩ := obE H
  by_cases c9 : t302 = true
  ·subst c9
   replace H := ifT H
   have H' := mkA H
   clear H
   obtain ⟨Ao10, co10, rfl⟩ := Kd.R_slice HO301.out
   obtain ⟨Ao11, co11, rfl⟩ := Kd.V_slice HO296.out
   go_wp2_with (first | ((with_reducible refine gate_callee (f := 7) rfl ?_); refine goesQ (some 27) Try.func7 #[.slice Ao10 t298.length co10, .slice Ao11 t294.length co11] ?_; (with_reducible refine (laws_eqIntS.calls k _ _ t298 _ _ t294 true _ ?s1 ?s2 ?s3 ?s4 A8.out).mono ?_); (case s1 => exact rC HO301); (case s2 => exact rL HO301); (case s3 => repeat (first | exact (Kd.V_reads' HO296.out).2.2 | (with_reducible refine Kd.C_alloc ?_ _) | (with_reducible refine Kd.C_drewN ?_ _) | (with_reducible refine Kd.C_drew ?_))); (case s4 => exact (Kd.V_reads' HO296.out).2.1); rintro e w' ⟨rfl, ⟨nd, rfl⟩⟩; refine ⟨_, rfl, ?_⟩))
   go_meet
   case rel => exact ⟨_, ((t299 != t297)), eqS, H', ⟨by first | omega | exact Nat.le_refl _⟩, ⟨by (with_reducible repeat (first | apply Kd.V_alloc | apply Kd.V_drewN | apply Kd.V_drew)); exact Kd.V_mono HO296.out (fun _ hk => hk.2)⟩, rg HO301, hbg HB⟩
  ·replace c9 := Bool.eq_false_iff.mpr c9
   subst c9
   replace H := ifF H
   have H' := mkA H
   clear H
   obtain ⟨Ao12, co12, rfl⟩ := Kd.R_slice HO301.out
   obtain ⟨Ao13, co13, rfl⟩ := Kd.V_slice HO296.out
   go_wp2_with (first | ((with_reducible refine gate_callee (f := 7) rfl ?_); refine goesQ (some 27) Try.func7 #[.slice Ao12 t298.length co12, .slice Ao13 t294.length co13] ?_; (with_reducible refine (laws_eqIntS.calls k _ _ t298 _ _ t294 false _ ?s1 ?s2 ?s3 ?s4 A8.out).mono ?_); (case s1 => exact rC HO301); (case s2 => exact rL HO301); (case s3 => repeat (first | exact (Kd.V_reads' HO296.out).2.2 | (with_reducible refine Kd.C_alloc ?_ _) | (with_reducible refine Kd.C_drewN ?_ _) | (with_reducible refine Kd.C_drew ?_))); (case s4 => exact (Kd.V_reads' HO296.out).2.1); rintro e w' ⟨rfl, ⟨nd, rfl⟩⟩; refine ⟨_, rfl, ?_⟩))
   go_meet
   case rel => exact ⟨_, (true), eqS, H', ⟨by first | omega | exact Nat.le_refl _⟩, ⟨by (with_reducible repeat (first | apply Kd.V_alloc | apply Kd.V_drewN | apply Kd.V_drew)); exact Kd.V_mono HO296.out (fun _ hk => hk.2)⟩, rg HO301, hbg HB⟩
 case rest =>
  clear HC5
  try clear c9
  obtain ⟨kq, x33_4, rfl, HA, HJ4, HO_5, HO_7, HB⟩ := hcut
  cases kq with
  | zero => exact absurd HA.out (by simp [laws_FnExactLevelsWith.j0])
  | succ kj4 =>
   have H := HA.out
   clear HA
   simp only [laws_FnExactLevelsWith.j0] at H
   by_cases c14 : x33_4 = true
   ·subst c14
    replace H := ifT H
    obtain rfl := Option.some.inj H
    go_wp2
    go_ret
    exact ⟨eqE, bel_g HB.out⟩
   ·replace c14 := Bool.eq_false_iff.mpr c14
    subst c14
    replace H := ifF H
    obtain ⟨⟨t303, t304⟩, A15, H⟩ := obE H
    dsimp only at H
    obtain ⟨t305, A16, H⟩ := obE H
    rcases iteE H with ⟨c17b0, H⟩ | ⟨c17b0, H⟩
    ·obtain rfl := Option.some.inj H
     obtain ⟨Ao18, co18, rfl⟩ := Kd.R_slice HO_7.out
     go_wp2_with (first | ((with_reducible refine gate_callee (f := 8) rfl ?_); refine goesQ (some 36) Try.func8 #[.slice Ao18 t298.length co18, .int .i64 1] ?_; (with_reducible refine (laws_markIntS.calls kj4 (fun k_ => some k_ = (.slice Ao18 t298.length co18 : Value).ownBlock) (.slice Ao18 t298.length co18) t298 1 t303 t304 w _ ?_ ?_ A15.out).mono ?_); exact bel_g HB.out; exact Kd.R_tight rfl HO_7.out; rintro e w19 ⟨rfl, hy0, hb, hkp⟩; refine ⟨_, rfl, ?_⟩; replace HO_5 := mkA (Kd.V_mono (ok' := fun k_ => some k_ ≠ (.slice Ao18 t298.length co18 : Value).ownBlock) (Kd.V_keptB (HO_5.out) hkp (fun k_ hk_ hs_ => (hk_) hs_)) (fun k_ hk_ => hk_.1)); replace HO_7 := mkA (Kd.R_reok rfl hy0 (fun k_ e_ => HO_7.out.1 k_ e_)); replace HB := mkA (hb); clear hb hkp hy0) | ((with_reducible refine gate_callee (f := 9) rfl ?_); refine goesL_ (some 39) rfl rfl Try.func9 (by kernel_rfl) rfl #[.slice Ao18 t304.length co18, .int .i64 1] rfl (by (try simp only [List.map_toArray, List.map_cons, List.map_nil]); first | done | (rw [show t304.length = t298.length from (Kd.R_reads' HO_7.out).1.symm] <;> rfl) | rfl | (simp only [List.length_drop, List.length_take]; rfl)) ?_; (with_reducible refine (laws_heldIntS.calls kj4 _ _ t304 1 t305 _ ?s1 ?s2 A16.out).mono ?_); (case s1 => exact rC HO_7); (case s2 => rw [show t304.length = t298.length from (Kd.R_reads' HO_7.out).1.symm]; exact rL HO_7); rintro e w' ⟨rfl, ⟨nd, rfl⟩⟩; refine ⟨_, rfl, ?_⟩))
     go_ret
     exact ⟨eqE, bel_g HB.out⟩
    ·rcases iteP H with ⟨c20, H⟩ | ⟨c20, H⟩
     ·have c20b0 := beq_iff_eq.mpr c20
      have c20b1 := bne_eq_false_iff_eq.mpr c20
      clear c20
      obtain ⟨⟨t306, t307⟩, A21, H⟩ := obE H
      dsimp only at H
      have HC22 := mkA H
      clear H
      obtain ⟨Ao23, co23, rfl⟩ := Kd.R_slice HO_7.out
      go_upto_region 14 with (first | ((with_reducible refine gate_callee (f := 8) rfl ?_); refine goesQ (some 36) Try.func8 #[.slice Ao23 t298.length co23, .int .i64 1] ?_; (with_reducible refine (laws_markIntS.calls kj4 (fun k_ => some k_ = (.slice Ao23 t298.length co23 : Value).ownBlock) (.slice Ao23 t298.length co23) t298 1 t303 t304 w _ ?_ ?_ A15.out).mono ?_); exact bel_g HB.out; exact Kd.R_tight rfl HO_7.out; rintro e w24 ⟨rfl, hy0, hb, hkp⟩; refine ⟨_, rfl, ?_⟩; replace HO_5 := mkA (Kd.V_mono (ok' := fun k_ => some k_ ≠ (.slice Ao23 t298.length co23 : Value).ownBlock) (Kd.V_keptB (HO_5.out) hkp (fun k_ hk_ hs_ => (hk_) hs_)) (fun k_ hk_ => hk_.1)); replace HO_7 := mkA (Kd.R_reok rfl hy0 (fun k_ e_ => HO_7.out.1 k_ e_)); replace HB := mkA (hb); clear hb hkp hy0) | ((with_reducible refine gate_callee (f := 9) rfl ?_); refine goesL_ (some 39) rfl rfl Try.func9 (by kernel_rfl) rfl #[.slice Ao23 t304.length co23, .int .i64 1] rfl (by (try simp only [List.map_toArray, List.map_cons, List.map_nil]); first | done | (rw [show t304.length = t298.length from (Kd.R_reads' HO_7.out).1.symm] <;> rfl) | rfl | (simp only [List.length_drop, List.length_take]; rfl)) ?_; (with_reducible refine (laws_heldIntS.calls kj4 _ _ t304 1 t305 _ ?s1 ?s2 A16.out).mono ?_); (case s1 => exact rC HO_7); (case s2 => rw [show t304.length = t298.length from (Kd.R_reads' HO_7.out).1.symm]; exact rL HO_7); rintro e w' ⟨rfl, ⟨nd, rfl⟩⟩; refine ⟨_, rfl, ?_⟩) | ((with_reducible refine gate_callee (f := 6) rfl ?_); refine goesQ (some 48) Try.func6 #[.int .i64 a0, .int .i64 a1] ?_; (with_reducible refine (impl_LevelsWith.calls kj4 a0 a1 t306 t307 _ A21.out).mono ?_); rintro e w25 ⟨v308, rfl, ho0, hb⟩; refine ⟨_, rfl, ?_⟩; replace HO_5 := mkA (Kd.V_elder' (by (with_reducible repeat (first | apply Kd.V_alloc | apply Kd.V_drewN | apply Kd.V_drew)); exact HO_5.out) (Kd.R_base ho0) hb); have HO309 := rLo (rN ho0 HO_7) HB; replace HO_7 := rE HO_7 ho0 hb; replace HB := bst HB hb; (try clear hb); (try clear hk); (try clear ho0)))
      (try simp only [Act.put, List.setIfInBounds_toArray, List.set_cons_zero, List.set_cons_succ])
      go_cut [59] (fun v59 wc => ∃ (kq : Nat) (x59_21 : Bool), v59 = .bool x59_21 ∧ Fc (laws_FnExactLevelsWith.j1 kq t304 t303 x59_21 = some r) ∧ Fc (kq ≤ kj4) ∧ Fc (Kd.R (Kd.int .i64) 3 wc w.heap.size (fun _ => True) (.slice Ao23 t298.length co23) t304) ∧ Fc (Below w.heap.size w wc))
      case first =>
       have H := HC22.out
       clear HC22
       obtain ⟨t310, A26, H⟩ := obE H
       by_cases c27 : t310 = true
       ·subst c27
        replace H := ifT H
        have H' := mkA H
        clear H
        obtain ⟨Ao28, co28, rfl⟩ := Kd.R_slice HO309.out
        obtain ⟨Ao29, co29, rfl⟩ := Kd.V_slice HO_5.out
        go_wp2_with (first | ((with_reducible refine gate_callee (f := 7) rfl ?_); refine goesQ (some 53) Try.func7 #[.slice Ao28 t306.length co28, .slice Ao29 t294.length co29] ?_; (with_reducible refine (laws_eqIntS.calls kj4 _ _ t306 _ _ t294 true _ ?s1 ?s2 ?s3 ?s4 A26.out).mono ?_); (case s1 => exact rC HO309); (case s2 => exact rL HO309); (case s3 => repeat (first | exact (Kd.V_reads' HO_5.out).2.2 | (with_reducible refine Kd.C_alloc ?_ _) | (with_reducible refine Kd.C_drewN ?_ _) | (with_reducible refine Kd.C_drew ?_))); (case s4 => exact (Kd.V_reads' HO_5.out).2.1); rintro e w' ⟨rfl, ⟨nd, rfl⟩⟩; refine ⟨_, rfl, ?_⟩))
        go_meet
        case rel => exact ⟨_, ((t307 != t297)), eqS, H', ⟨by have := HJ4.out; first | omega | exact Nat.le_refl _⟩, ⟨Kd.R_g (Kd.R_mono HO_7.out (fun _ hk => trivial))⟩, hbg HB⟩
       ·replace c27 := Bool.eq_false_iff.mpr c27
        subst c27
        replace H := ifF H
        have H' := mkA H
        clear H
        obtain ⟨Ao30, co30, rfl⟩ := Kd.R_slice HO309.out
        obtain ⟨Ao31, co31, rfl⟩ := Kd.V_slice HO_5.out
        go_wp2_with (first | ((with_reducible refine gate_callee (f := 7) rfl ?_); refine goesQ (some 53) Try.func7 #[.slice Ao30 t306.length co30, .slice Ao31 t294.length co31] ?_; (with_reducible refine (laws_eqIntS.calls kj4 _ _ t306 _ _ t294 false _ ?s1 ?s2 ?s3 ?s4 A26.out).mono ?_); (case s1 => exact rC HO309); (case s2 => exact rL HO309); (case s3 => repeat (first | exact (Kd.V_reads' HO_5.out).2.2 | (with_reducible refine Kd.C_alloc ?_ _) | (with_reducible refine Kd.C_drewN ?_ _) | (with_reducible refine Kd.C_drew ?_))); (case s4 => exact (Kd.V_reads' HO_5.out).2.1); rintro e w' ⟨rfl, ⟨nd, rfl⟩⟩; refine ⟨_, rfl, ?_⟩))
        go_meet
        case rel => exact ⟨_, (true), eqS, H', ⟨by have := HJ4.out; first | omega | exact Nat.le_refl _⟩, ⟨Kd.R_g (Kd.R_mono HO_7.out (fun _ hk => trivial))⟩, hbg HB⟩
      case rest =>
       clear HC22
       try clear c9
       try clear c14
       try clear c17b0
       try clear c20
       try clear c20b0
       try clear c20b1
       try clear c27
       obtain ⟨kq, x59_21, rfl, HA, HJ21, HO_7, HB⟩ := hcut
       have hl7_21 := (Kd.R_reads' HO_7.out).1
       rw [hl7_21] at HO_7
       (try simp only [hl7_21])
       cases kq with
       | zero => exact absurd HA.out (by simp [laws_FnExactLevelsWith.j1])
       | succ kj21 =>
        have H := HA.out
        clear HA
        simp only [laws_FnExactLevelsWith.j1] at H
        by_cases c32 : x59_21 = true
        ·subst c32
         replace H := ifT H
         obtain rfl := Option.some.inj H
         go_wp2
         go_ret
         exact ⟨eqE, bel_g HB.out⟩
        ·replace c32 := Bool.eq_false_iff.mpr c32
         subst c32
         replace H := ifF H
         obtain ⟨t311, A33, H⟩ := obE H
         rcases iteE H with ⟨c34b0, H⟩ | ⟨c34b0, H⟩
         ·obtain rfl := Option.some.inj H
          go_wp2_with (first | ((with_reducible refine gate_callee (f := 9) rfl ?_); refine goesQ (some 62) Try.func9 #[.slice Ao23 t304.length co23, .int .i64 1] ?_; (with_reducible refine (laws_heldIntS.calls kj21 _ _ t304 1 t311 _ ?_ ?_ A33.out).mono ?_); exact rC HO_7; exact rL HO_7; rintro e w' ⟨rfl, ⟨nd, rfl⟩⟩; refine ⟨_, rfl, ?_⟩))
          go_ret
          exact ⟨eqE, bel_g HB.out⟩
         ·rcases iteP H with ⟨c35, H⟩ | ⟨c35, H⟩
          ·have c35b0 := beq_iff_eq.mpr c35
           have c35b1 := bne_eq_false_iff_eq.mpr c35
           clear c35
           obtain rfl := Option.some.inj H
           go_wp2_with (first | ((with_reducible refine gate_callee (f := 9) rfl ?_); refine goesQ (some 62) Try.func9 #[.slice Ao23 t304.length co23, .int .i64 1] ?_; (with_reducible refine (laws_heldIntS.calls kj21 _ _ t304 1 t311 _ ?_ ?_ A33.out).mono ?_); exact rC HO_7; exact rL HO_7; rintro e w' ⟨rfl, ⟨nd, rfl⟩⟩; refine ⟨_, rfl, ?_⟩))
           go_ret
           exact ⟨eqE, bel_g HB.out⟩
          ·have c35b0 := beq_eq_false_iff_ne.mpr c35
           have c35b1 := bne_iff_ne.mpr c35
           obtain rfl := Option.some.inj H
           go_wp2_with (first | ((with_reducible refine gate_callee (f := 9) rfl ?_); refine goesQ (some 62) Try.func9 #[.slice Ao23 t304.length co23, .int .i64 1] ?_; (with_reducible refine (laws_heldIntS.calls kj21 _ _ t304 1 t311 _ ?_ ?_ A33.out).mono ?_); exact rC HO_7; exact rL HO_7; rintro e w' ⟨rfl, ⟨nd, rfl⟩⟩; refine ⟨_, rfl, ?_⟩))
           go_ret
           exact ⟨eqE, bel_g HB.out⟩
     ·have c20b0 := beq_eq_false_iff_ne.mpr c20
      have c20b1 := bne_iff_ne.mpr c20
      obtain rfl := Option.some.inj H
      obtain ⟨Ao36, co36, rfl⟩ := Kd.R_slice HO_7.out
      go_wp2_with (first | ((with_reducible refine gate_callee (f := 8) rfl ?_); refine goesQ (some 36) Try.func8 #[.slice Ao36 t298.length co36, .int .i64 1] ?_; (with_reducible refine (laws_markIntS.calls kj4 (fun k_ => some k_ = (.slice Ao36 t298.length co36 : Value).ownBlock) (.slice Ao36 t298.length co36) t298 1 t303 t304 w _ ?_ ?_ A15.out).mono ?_); exact bel_g HB.out; exact Kd.R_tight rfl HO_7.out; rintro e w37 ⟨rfl, hy0, hb, hkp⟩; refine ⟨_, rfl, ?_⟩; replace HO_5 := mkA (Kd.V_mono (ok' := fun k_ => some k_ ≠ (.slice Ao36 t298.length co36 : Value).ownBlock) (Kd.V_keptB (HO_5.out) hkp (fun k_ hk_ hs_ => (hk_) hs_)) (fun k_ hk_ => hk_.1)); replace HO_7 := mkA (Kd.R_reok rfl hy0 (fun k_ e_ => HO_7.out.1 k_ e_)); replace HB := mkA (hb); clear hb hkp hy0) | ((with_reducible refine gate_callee (f := 9) rfl ?_); refine goesL_ (some 39) rfl rfl Try.func9 (by kernel_rfl) rfl #[.slice Ao36 t304.length co36, .int .i64 1] rfl (by (try simp only [List.map_toArray, List.map_cons, List.map_nil]); first | done | (rw [show t304.length = t298.length from (Kd.R_reads' HO_7.out).1.symm] <;> rfl) | rfl | (simp only [List.length_drop, List.length_take]; rfl)) ?_; (with_reducible refine (laws_heldIntS.calls kj4 _ _ t304 1 t305 _ ?s1 ?s2 A16.out).mono ?_); (case s1 => exact rC HO_7); (case s2 => rw [show t304.length = t298.length from (Kd.R_reads' HO_7.out).1.symm]; exact rL HO_7); rintro e w' ⟨rfl, ⟨nd, rfl⟩⟩; refine ⟨_, rfl, ?_⟩))
      go_ret
      exact ⟨eqE, bel_g HB.out⟩

/-- THE ONE PURE STATEMENT of laws_FnExactLevelsWith: yours. -/
def laws_FnExactLevelsWith.Pure : Prop := ∀ (a0 : Int) (a1 : Int), (Lit.int .i64 a0).wf = true → (Lit.int .i64 a1).wf = true → ∃ k, laws_FnExactLevelsWith.f k a0 a1 = some true
theorem laws_FnExactLevelsWith.walk (P : laws_FnExactLevelsWith.Pure) (a0 : Int) (a1 : Int) (w : World) (w0 : (Lit.int .i64 a0).wf = true) (w1 : (Lit.int .i64 a1).wf = true) :
  Calls Try.prog 3 #[.int .i64 a0, .int .i64 a1] w fun e w' => e = .returned (.bool true) ∧ Below w.heap.size w w' := by
 obtain ⟨k, h⟩ := P a0 a1 w0 w1
 refine (laws_FnExactLevelsWith.calls k a0 a1 true w h).mono ?_
 rintro e w' ⟨rfl, hd⟩
 exact ⟨rfl, hd⟩

end Go.Proofs.Ytobfnlhocdnflaa.Q
