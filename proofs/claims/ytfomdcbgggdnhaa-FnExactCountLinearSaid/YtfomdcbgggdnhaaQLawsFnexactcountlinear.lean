-- printed by this project's own program (wip/mp/mp.py) over the kit's print, for this seat; Lean checks it
import Derived.Test.YtfomdcbgggdnhaaQx0
import Derived.Test.YtfomdcbgggdnhaaQSpecCountlinear
import Derived.Test.YtfomdcbgggdnhaaQLawsToints
import Derived.Test.YtfomdcbgggdnhaaQImplCountlinear
import Derived.Test.YtfomdcbgggdnhaaQLawsEqints
namespace Go.Proofs.Ytfomdcbgggdnhaa.Q
open Go.RowKit Go.Proofs.YtfomdcbgggdnhaaW.PrintWords Go.Proofs.YtfomdcbgggdnhaaW.PrintLast Go.Proofs.YtfomdcbgggdnhaaW.PrintMore
attribute [local go_sem] max2_int min2_int max_two min_two max_three min_three max_four min_four   -- for this text's walks alone
set_option linter.unusedVariables false
set_option maxHeartbeats 8000000
set_option maxRecDepth 100000
set_option linter.unusedSimpArgs false

/-! ### laws_FnExactCountLinear: function 3 -/
def laws_FnExactCountLinear.j0 : Nat → List Int → List Int → Bool → Option (Bool)
 | 0, _, _, _ => none
 | k + 1, x0, x5, x31 => if x31 = true then (some false) else ((laws_toIntS.f k x0).bind fun t279 => ((laws_eqIntS.f k x5 t279).bind fun t282 => (if t282 = true then (some true) else (some false))))
def laws_FnExactCountLinear.f (k : Nat) (l0 : List Int) : Option (Bool) := if (l0.length : Int) > 1048576 then (some true) else ((laws_toIntS.f k l0).bind fun t269 => ((spec_CountLinear.f k t269).bind fun bt272 => ((laws_toIntS.f k l0).bind fun t274 => ((impl_CountLinear.f k t274).bind fun bt277 => (if bt277.1 = bt272.1 then (laws_FnExactCountLinear.j0 k l0 t274 (bt277.2 != bt272.2)) else (laws_FnExactCountLinear.j0 k l0 t274 true))))))
theorem laws_FnExactCountLinear.mono_l : ∀ k, (∀ y0 y1 y2, LeO (laws_FnExactCountLinear.j0 k y0 y1 y2) (laws_FnExactCountLinear.j0 (k + 1) y0 y1 y2))
 | 0 => fun _ _ _ r h => by simp [laws_FnExactCountLinear.j0] at h
 | k + 1 => by
  have ih0 := laws_FnExactCountLinear.mono_l k
  ·intro y0 y1 y2
   unfold laws_FnExactCountLinear.j0
   repeat' (with_reducible first|apply ih0|apply impl_CountLinear.mono|apply laws_eqIntS.mono|apply laws_toIntS.mono|apply spec_CountLinear.mono|apply LeO.refl|apply LeO.none|apply LeO.ite|apply LeO.bind|intro)
theorem laws_FnExactCountLinear.mono : ∀ a0 k, LeO (laws_FnExactCountLinear.f k a0) (laws_FnExactCountLinear.f (k + 1) a0) := by
 intro a0 k
 have ih0 := laws_FnExactCountLinear.mono_l k
 unfold laws_FnExactCountLinear.f
 repeat' (with_reducible first|apply ih0|apply impl_CountLinear.mono|apply laws_eqIntS.mono|apply laws_toIntS.mono|apply spec_CountLinear.mono|apply LeO.refl|apply LeO.none|apply LeO.ite|apply LeO.bind|intro)
theorem laws_FnExactCountLinear.calls (k : Nat) (A0 : Option Addr) (c0 : Nat) (l0 : List Int) (r : Bool) (w : World) (hr0 : Kd.C (Kd.int .i64) w A0 l0.length l0) (hc0 : l0.length ≤ c0) (h : laws_FnExactCountLinear.f k l0 = some r) :
  Calls Try.prog 3 #[.slice A0 l0.length c0] w fun e w' => e = .returned (.bool r) ∧ Below w.heap.size w w' := by
 have HR0 := mkA hr0
 have HC0 := mkA hc0
 clear hr0 hc0
 have HB := mkA (Below.refl w.heap.size w)
 have H := h
 clear h
 unfold laws_FnExactCountLinear.f at H
 rcases iteP H with ⟨c2, H⟩ | ⟨c2, H⟩
 ·have c2b0 := decide_eq_true c2
  have c2b1 : decide (1048576 < l0.length) = true := decide_eq_true (by omega)
  clear c2
  obtain rfl := Option.some.inj H
  go_enter Try.func3, Try.ntmps3
  go_wp2
  go_ret
  exact ⟨eqE, bel_g HB.out⟩
 ·have c2b0 := decide_eq_false c2
  have c2b1 : decide (1048576 < l0.length) = false := decide_eq_false (by omega)
  clear c2
  obtain ⟨t269, A3, H⟩ := obE H
  obtain ⟨⟨t272, t273⟩, A4, H⟩ := obE H
  dsimp only at H
  obtain ⟨t274, A5, H⟩ := obE H
  obtain ⟨⟨t277, t278⟩, A6, H⟩ := obE H
  dsimp only at H
  have HC7 := mkA H
  clear H
  go_enter Try.func3, Try.ntmps3
  go_upto_region 6 with (first | ((with_reducible refine gate_callee (f := 5) rfl ?_); refine goesQ (some 13) Try.func5 #[.slice A0 l0.length c0] ?_; (with_reducible refine (laws_toIntS.calls k _ _ l0 t269 _ ?s1 ?s2 A3.out).mono ?_); (case s1 => repeat (first | exact HR0.out | (with_reducible refine Kd.C_alloc ?_ _) | (with_reducible refine Kd.C_drewN ?_ _) | (with_reducible refine Kd.C_drew ?_))); (case s2 => exact HC0.out); rintro e w8 ⟨v270, rfl, ho0, hb⟩; refine ⟨_, rfl, ?_⟩; have HO271 := rLo ho0 HB; replace HB := bst HB hb; clear hb ho0; obtain ⟨Ao9, co9, rfl⟩ := Kd.R_slice HO271.out) | ((with_reducible refine gate_callee (f := 4) rfl ?_); refine goesQ (some 14) Try.func4 #[.slice Ao9 t269.length co9] ?_; (with_reducible refine (spec_CountLinear.calls k _ _ t269 t272 t273 _ ?_ ?_ A4.out).mono ?_); exact rC HO271; exact rL HO271; rintro e w' ⟨rfl, ⟨nd, rfl⟩⟩; refine ⟨_, rfl, ?_⟩) | ((with_reducible refine gate_callee (f := 5) rfl ?_); refine goesQ (some 18) Try.func5 #[.slice A0 l0.length c0] ?_; (with_reducible refine (laws_toIntS.calls k _ _ l0 t274 _ ?s1 ?s2 A5.out).mono ?_); (case s1 => repeat (first | exact (Kd.C_below HR0.out (bel_g HB.out)) | (with_reducible refine Kd.C_alloc ?_ _) | (with_reducible refine Kd.C_drewN ?_ _) | (with_reducible refine Kd.C_drew ?_))); (case s2 => exact HC0.out); rintro e w10 ⟨v275, rfl, ho0, hb⟩; refine ⟨_, rfl, ?_⟩; have HO276 := rLo (rN ho0 HO271) HB; replace HO271 := rE HO271 ho0 hb; replace HB := bst HB hb; clear hb ho0; obtain ⟨Ao11, co11, rfl⟩ := Kd.R_slice HO276.out) | ((with_reducible refine gate_callee (f := 6) rfl ?_); refine goesQ (some 21) Try.func6 #[.slice Ao11 t274.length co11] ?_; (with_reducible refine (impl_CountLinear.calls k _ _ t274 t277 t278 _ ?_ ?_ A6.out).mono ?_); exact rC HO276; exact rL HO276; rintro e w12 ⟨rfl, hb⟩; refine ⟨_, rfl, ?_⟩; replace HO271 := rB HO271 hb; replace HO276 := rB HO276 hb; replace HB := bst HB hb; clear hb))
  (try simp only [Act.put, List.setIfInBounds_toArray, List.set_cons_zero, List.set_cons_succ])
  go_cut [31] (fun v31 wc => ∃ (kq : Nat) (x31_6 : Bool), v31 = .bool x31_6 ∧ Fc (laws_FnExactCountLinear.j0 kq l0 t274 x31_6 = some r) ∧ Fc (kq ≤ k) ∧ Fc (Kd.R (Kd.int .i64) 3 wc w.heap.size (fun _ => True) (.slice Ao11 t274.length co11) t274) ∧ Fc (Below w.heap.size w wc))
  case first =>
   have H := HC7.out
   clear HC7
   rcases iteP H with ⟨c13, H⟩ | ⟨c13, H⟩
   ·have c13b0 := beq_iff_eq.mpr c13
    have c13b1 := bne_eq_false_iff_eq.mpr c13
    clear c13
    (first | rw [c13b0] | (simp only [i64_w, i32_w]; rw [c13b0]) | skip)
    have H' := mkA H
    clear H
    go_wp2
    go_meet
    case rel => exact ⟨_, ((t278 != t273)), eqS, H', ⟨by first | omega | exact Nat.le_refl _⟩, ⟨Kd.R_g (Kd.R_mono HO276.out (fun _ hk => trivial))⟩, hbg HB⟩
   ·have c13b0 := beq_eq_false_iff_ne.mpr c13
    have c13b1 := bne_iff_ne.mpr c13
    (first | rw [c13b0] | (simp only [i64_w, i32_w]; rw [c13b0]) | skip)
    have H' := mkA H
    clear H
    go_wp2
    go_meet
    case rel => exact ⟨_, (true), eqS, H', ⟨by first | omega | exact Nat.le_refl _⟩, ⟨Kd.R_g (Kd.R_mono HO276.out (fun _ hk => trivial))⟩, hbg HB⟩
  case rest =>
   clear HC7
   try clear c2
   try clear c2b0
   try clear c2b1
   try clear c13
   try clear c13b0
   try clear c13b1
   obtain ⟨kq, x31_6, rfl, HA, HJ6, HO_5, HB⟩ := hcut
   cases kq with
   | zero => exact absurd HA.out (by simp [laws_FnExactCountLinear.j0])
   | succ kj6 =>
    have H := HA.out
    clear HA
    simp only [laws_FnExactCountLinear.j0] at H
    by_cases c14 : x31_6 = true
    ·subst c14
     replace H := ifT H
     obtain rfl := Option.some.inj H
     go_wp2
     go_ret
     exact ⟨eqE, bel_g HB.out⟩
    ·replace c14 := Bool.eq_false_iff.mpr c14
     subst c14
     replace H := ifF H
     obtain ⟨t279, A15, H⟩ := obE H
     obtain ⟨t282, A16, H⟩ := obE H
     by_cases c17 : t282 = true
     ·subst c17
      replace H := ifT H
      obtain rfl := Option.some.inj H
      go_wp2_with (first | ((with_reducible refine gate_callee (f := 5) rfl ?_); refine goesQ (some 34) Try.func5 #[.slice A0 l0.length c0] ?_; (with_reducible refine (laws_toIntS.calls kj6 _ _ l0 t279 _ ?_ ?_ A15.out).mono ?_); exact C_g HR0 HB; exact HC0.out; rintro e w18 ⟨v280, rfl, ho0, hb⟩; refine ⟨_, rfl, ?_⟩; have HO281 := rLo (rN ho0 HO_5) HB; replace HO_5 := rE HO_5 ho0 hb; replace HB := bst HB hb; clear hb ho0; obtain ⟨Ao19, co19, rfl⟩ := Kd.R_slice HO281.out) | ((with_reducible refine gate_callee (f := 7) rfl ?_); refine goesQ (some 35) Try.func7 #[.slice Ao11 t274.length co11, .slice Ao19 t279.length co19] ?_; (with_reducible refine (laws_eqIntS.calls kj6 _ _ t274 _ _ t279 true _ ?_ ?_ ?_ ?_ A16.out).mono ?_); exact rC HO_5; exact rL HO_5; exact rC HO281; exact rL HO281; rintro e w' ⟨rfl, ⟨nd, rfl⟩⟩; refine ⟨_, rfl, ?_⟩))
      go_ret
      exact ⟨eqE, bel_g HB.out⟩
     ·replace c17 := Bool.eq_false_iff.mpr c17
      subst c17
      replace H := ifF H
      obtain rfl := Option.some.inj H
      go_wp2_with (first | ((with_reducible refine gate_callee (f := 5) rfl ?_); refine goesQ (some 34) Try.func5 #[.slice A0 l0.length c0] ?_; (with_reducible refine (laws_toIntS.calls kj6 _ _ l0 t279 _ ?_ ?_ A15.out).mono ?_); exact C_g HR0 HB; exact HC0.out; rintro e w20 ⟨v280, rfl, ho0, hb⟩; refine ⟨_, rfl, ?_⟩; have HO281 := rLo (rN ho0 HO_5) HB; replace HO_5 := rE HO_5 ho0 hb; replace HB := bst HB hb; clear hb ho0; obtain ⟨Ao21, co21, rfl⟩ := Kd.R_slice HO281.out) | ((with_reducible refine gate_callee (f := 7) rfl ?_); refine goesQ (some 35) Try.func7 #[.slice Ao11 t274.length co11, .slice Ao21 t279.length co21] ?_; (with_reducible refine (laws_eqIntS.calls kj6 _ _ t274 _ _ t279 false _ ?_ ?_ ?_ ?_ A16.out).mono ?_); exact rC HO_5; exact rL HO_5; exact rC HO281; exact rL HO281; rintro e w' ⟨rfl, ⟨nd, rfl⟩⟩; refine ⟨_, rfl, ?_⟩))
      go_ret
      exact ⟨eqE, bel_g HB.out⟩

/-- THE ONE PURE STATEMENT of laws_FnExactCountLinear: yours. -/
def laws_FnExactCountLinear.Pure : Prop := ∀ (l0 : List Int), l0.length ≤ maxLen → l0.length * 8 ≤ 140737488351232 → (∀ x ∈ l0, (Lit.int .i64 x).wf = true) → ∃ k, laws_FnExactCountLinear.f k l0 = some true
theorem laws_FnExactCountLinear.walk (P : laws_FnExactCountLinear.Pure) (a0 : Option Addr) (len0 cap0 : Nat) (z0 : List Int) (w : World) (w0 : (a0 = none ∧ len0 = 0 ∧ cap0 = 0 ∧ z0 = []) ∨ ∃ x, a0 = some x ∧ len0 ≤ cap0 ∧ cap0 ≤ maxLen ∧ z0.length = cap0 ∧ (∀ i, i < z0.length → w.cell? (x.add i) = some (.int .i64 (z0.getD i 0))) ∧ ∀ n ∈ z0, (Lit.int .i64 n).wf = true) (y0 : len0 * 8 ≤ 140737488351232) :
  Calls Try.prog 3 #[.slice a0 len0 cap0] w fun e w' => e = .returned (.bool true) ∧ Below w.heap.size w w' := by
 obtain ⟨l0, rfl, hr0, hm0, hw0, hc0⟩ := ReadsInt.ofRowC w0
 obtain ⟨k, h⟩ := P l0 hm0 y0 hw0
 refine (laws_FnExactCountLinear.calls k _ _ l0 true w (Kd.C_of_reads (d := (0 : Int)) (h1 := fun _ => rfl) hr0) hc0 h).mono ?_
 rintro e w' ⟨rfl, hd⟩
 exact ⟨rfl, hd⟩

end Go.Proofs.Ytfomdcbgggdnhaa.Q
