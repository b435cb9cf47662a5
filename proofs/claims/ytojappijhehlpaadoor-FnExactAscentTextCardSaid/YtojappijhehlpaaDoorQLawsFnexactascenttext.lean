-- printed by this project's own program (wip/mp/mp.py) over the kit's print, for this seat; Lean checks it
import Derived.Test.YtojappijhehlpaaDoorQx0
import Derived.Test.YtojappijhehlpaaDoorQSpecAscenttext
import Derived.Test.YtojappijhehlpaaDoorQLawsToints
import Derived.Test.YtojappijhehlpaaDoorQImplAscenttext
import Derived.Test.YtojappijhehlpaaDoorQLawsEqints
namespace Go.Proofs.YtojappijhehlpaaDoor.Q
open Go.RowKit Go.Proofs.YtojappijhehlpaaDoorW.PrintWords Go.Proofs.YtojappijhehlpaaDoorW.PrintLast Go.Proofs.YtojappijhehlpaaDoorW.PrintMore
attribute [local go_sem] max2_int min2_int max_two min_two max_three min_three max_four min_four   -- for this text's walks alone
set_option linter.unusedVariables false
set_option maxHeartbeats 8000000
set_option maxRecDepth 100000
set_option linter.unusedSimpArgs false

/-! ### laws_FnExactAscentText: function 3 -/
def laws_FnExactAscentText.j0 : Nat → List Int → List Int → Bool → Option (Bool)
 | 0, _, _, _ => none
 | k + 1, x0, x5, x31 => if x31 = true then (some false) else ((laws_toIntS.f k x0).bind fun t178 => ((laws_eqIntS.f k x5 t178).bind fun t181 => (if t181 = true then (some true) else (some false))))
def laws_FnExactAscentText.f (k : Nat) (l0 : List Int) : Option (Bool) := if (l0.length : Int) > 1048576 then (some true) else ((laws_toIntS.f k l0).bind fun t168 => ((spec_AscentText.f k t168).bind fun bt171 => ((laws_toIntS.f k l0).bind fun t173 => ((impl_AscentText.f k t173).bind fun bt176 => (if bt176.1.toList = bt171.1.toList then (laws_FnExactAscentText.j0 k l0 t173 (bt176.2 != bt171.2)) else (laws_FnExactAscentText.j0 k l0 t173 true))))))
theorem laws_FnExactAscentText.mono_l : ∀ k, (∀ y0 y1 y2, LeO (laws_FnExactAscentText.j0 k y0 y1 y2) (laws_FnExactAscentText.j0 (k + 1) y0 y1 y2))
 | 0 => fun _ _ _ r h => by simp [laws_FnExactAscentText.j0] at h
 | k + 1 => by
  have ih0 := laws_FnExactAscentText.mono_l k
  ·intro y0 y1 y2
   unfold laws_FnExactAscentText.j0
   repeat' (with_reducible first|apply ih0|apply impl_AscentText.mono|apply laws_eqIntS.mono|apply laws_toIntS.mono|apply spec_AscentText.mono|apply LeO.refl|apply LeO.none|apply LeO.ite|apply LeO.bind|intro)
theorem laws_FnExactAscentText.mono : ∀ a0 k, LeO (laws_FnExactAscentText.f k a0) (laws_FnExactAscentText.f (k + 1) a0) := by
 intro a0 k
 have ih0 := laws_FnExactAscentText.mono_l k
 unfold laws_FnExactAscentText.f
 repeat' (with_reducible first|apply ih0|apply impl_AscentText.mono|apply laws_eqIntS.mono|apply laws_toIntS.mono|apply spec_AscentText.mono|apply LeO.refl|apply LeO.none|apply LeO.ite|apply LeO.bind|intro)
theorem laws_FnExactAscentText.calls (k : Nat) (A0 : Option Addr) (c0 : Nat) (l0 : List Int) (r : Bool) (w : World) (hr0 : Kd.C (Kd.int .i64) w A0 l0.length l0) (hc0 : l0.length ≤ c0) (h : laws_FnExactAscentText.f k l0 = some r) :
  Calls Tryd.prog 3 #[.slice A0 l0.length c0] w fun e w' => e = .returned (.bool r) ∧ Below w.heap.size w w' := by
 have HR0 := mkA hr0
 have HC0 := mkA hc0
 clear hr0 hc0
 have HB := mkA (Below.refl w.heap.size w)
 have H := h
 clear h
 unfold laws_FnExactAscentText.f at H
 rcases iteP H with ⟨c2, H⟩ | ⟨c2, H⟩
 ·have c2b0 := decide_eq_true c2
  have c2b1 : decide (1048576 < l0.length) = true := decide_eq_true (by omega)
  clear c2
  obtain rfl := Option.some.inj H
  go_enter Tryd.func3, Tryd.ntmps3
  go_wp2
  go_ret
  exact ⟨eqE, bel_g HB.out⟩
 ·have c2b0 := decide_eq_false c2
  have c2b1 : decide (1048576 < l0.length) = false := decide_eq_false (by omega)
  clear c2
  obtain ⟨t168, A3, H⟩ := obE H
  obtain ⟨⟨t171, t172⟩, A4, H⟩ := obE H
  dsimp only at H
  obtain ⟨t173, A5, H⟩ := obE H
  obtain ⟨⟨t176, t177⟩, A6, H⟩ := obE H
  dsimp only at H
  have HC7 := mkA H
  clear H
  go_enter Tryd.func3, Tryd.ntmps3
  go_upto_region 6 with (first | ((with_reducible refine gate_callee (f := 6) rfl ?_); refine goesQ (some 13) Tryd.func6 #[.slice A0 l0.length c0] ?_; (with_reducible refine (laws_toIntS.calls k _ _ l0 t168 _ ?s1 ?s2 A3.out).mono ?_); (case s1 => repeat (first | exact HR0.out | (with_reducible refine Kd.C_alloc ?_ _) | (with_reducible refine Kd.C_drewN ?_ _) | (with_reducible refine Kd.C_drew ?_))); (case s2 => exact HC0.out); rintro e w8 ⟨v169, rfl, ho0, hb⟩; refine ⟨_, rfl, ?_⟩; have HO170 := rLo ho0 HB; replace HB := bst HB hb; clear hb ho0; obtain ⟨Ao9, co9, rfl⟩ := Kd.R_slice HO170.out) | ((with_reducible refine gate_callee (f := 5) rfl ?_); refine goesQ (some 14) Tryd.func5 #[.slice Ao9 t168.length co9] ?_; (with_reducible refine (spec_AscentText.calls k _ _ t168 t171 t172 _ ?_ ?_ A4.out).mono ?_); exact rC HO170; exact rL HO170; rintro e w10 ⟨rfl, hb⟩; refine ⟨_, rfl, ?_⟩; replace HO170 := rB HO170 hb; replace HB := bst HB hb; clear hb) | ((with_reducible refine gate_callee (f := 6) rfl ?_); refine goesQ (some 18) Tryd.func6 #[.slice A0 l0.length c0] ?_; (with_reducible refine (laws_toIntS.calls k _ _ l0 t173 _ ?_ ?_ A5.out).mono ?_); exact C_g HR0 HB; exact HC0.out; rintro e w11 ⟨v174, rfl, ho0, hb⟩; refine ⟨_, rfl, ?_⟩; have HO175 := rLo (rN ho0 HO170) HB; replace HO170 := rE HO170 ho0 hb; replace HB := bst HB hb; clear hb ho0; obtain ⟨Ao12, co12, rfl⟩ := Kd.R_slice HO175.out) | ((with_reducible refine gate_callee (f := 7) rfl ?_); refine goesQ (some 21) Tryd.func7 #[.slice Ao12 t173.length co12] ?_; (with_reducible refine (impl_AscentText.calls k _ _ t173 t176 t177 _ ?_ ?_ A6.out).mono ?_); exact rC HO175; exact rL HO175; rintro e w13 ⟨rfl, hb⟩; refine ⟨_, rfl, ?_⟩; replace HO170 := rB HO170 hb; replace HO175 := rB HO175 hb; replace HB := bst HB hb; clear hb))
  (try simp only [Act.put, List.setIfInBounds_toArray, List.set_cons_zero, List.set_cons_succ])
  go_cut [31] (fun v31 wc => ∃ (kq : Nat) (x31_6 : Bool), v31 = .bool x31_6 ∧ Fc (laws_FnExactAscentText.j0 kq l0 t173 x31_6 = some r) ∧ Fc (kq ≤ k) ∧ Fc (Kd.R (Kd.int .i64) 3 wc w.heap.size (fun _ => True) (.slice Ao12 t173.length co12) t173) ∧ Fc (Below w.heap.size w wc))
  case first =>
   have H := HC7.out
   clear HC7
   rcases iteP H with ⟨c14, H⟩ | ⟨c14, H⟩
   ·have c14b0 := beq_iff_eq.mpr c14
    have c14b1 := bne_eq_false_iff_eq.mpr c14
    clear c14
    (first | rw [c14b0] | (simp only [i64_w, i32_w]; rw [c14b0]) | skip)
    have H' := mkA H
    clear H
    go_wp2
    go_meet
    case rel => exact ⟨_, ((t177 != t172)), eqS, H', ⟨by first | omega | exact Nat.le_refl _⟩, ⟨Kd.R_g (Kd.R_mono HO175.out (fun _ hk => trivial))⟩, hbg HB⟩
   ·have c14b0 := beq_eq_false_iff_ne.mpr c14
    have c14b1 := bne_iff_ne.mpr c14
    (first | rw [c14b0] | (simp only [i64_w, i32_w]; rw [c14b0]) | skip)
    have H' := mkA H
    clear H
    go_wp2
    go_meet
    case rel => exact ⟨_, (true), eqS, H', ⟨by first | omega | exact Nat.le_refl _⟩, ⟨Kd.R_g (Kd.R_mono HO175.out (fun _ hk => trivial))⟩, hbg HB⟩
  case rest =>
   clear HC7
   try clear c2
   try clear c2b0
   try clear c2b1
   try clear c14
   try clear c14b0
   try clear c14b1
   obtain ⟨kq, x31_6, rfl, HA, HJ6, HO_5, HB⟩ := hcut
   cases kq with
   | zero => exact absurd HA.out (by simp [laws_FnExactAscentText.j0])
   | succ kj6 =>
    have H := HA.out
    clear HA
    simp only [laws_FnExactAscentText.j0] at H
    by_cases c15 : x31_6 = true
    ·subst c15
     replace H := ifT H
     obtain rfl := Option.some.inj H
     go_wp2
     go_ret
     exact ⟨eqE, bel_g HB.out⟩
    ·replace c15 := Bool.eq_false_iff.mpr c15
     subst c15
     replace H := ifF H
     obtain ⟨t178, A16, H⟩ := obE H
     obtain ⟨t181, A17, H⟩ := obE H
     by_cases c18 : t181 = true
     ·subst c18
      replace H := ifT H
      obtain rfl := Option.some.inj H
      go_wp2_with (first | ((with_reducible refine gate_callee (f := 6) rfl ?_); refine goesQ (some 34) Tryd.func6 #[.slice A0 l0.length c0] ?_; (with_reducible refine (laws_toIntS.calls kj6 _ _ l0 t178 _ ?_ ?_ A16.out).mono ?_); exact C_g HR0 HB; exact HC0.out; rintro e w19 ⟨v179, rfl, ho0, hb⟩; refine ⟨_, rfl, ?_⟩; have HO180 := rLo (rN ho0 HO_5) HB; replace HO_5 := rE HO_5 ho0 hb; replace HB := bst HB hb; clear hb ho0; obtain ⟨Ao20, co20, rfl⟩ := Kd.R_slice HO180.out) | ((with_reducible refine gate_callee (f := 8) rfl ?_); refine goesQ (some 35) Tryd.func8 #[.slice Ao12 t173.length co12, .slice Ao20 t178.length co20] ?_; (with_reducible refine (laws_eqIntS.calls kj6 _ _ t173 _ _ t178 true _ ?_ ?_ ?_ ?_ A17.out).mono ?_); exact rC HO_5; exact rL HO_5; exact rC HO180; exact rL HO180; rintro e w' ⟨rfl, ⟨nd, rfl⟩⟩; refine ⟨_, rfl, ?_⟩))
      go_ret
      exact ⟨eqE, bel_g HB.out⟩
     ·replace c18 := Bool.eq_false_iff.mpr c18
      subst c18
      replace H := ifF H
      obtain rfl := Option.some.inj H
      go_wp2_with (first | ((with_reducible refine gate_callee (f := 6) rfl ?_); refine goesQ (some 34) Tryd.func6 #[.slice A0 l0.length c0] ?_; (with_reducible refine (laws_toIntS.calls kj6 _ _ l0 t178 _ ?_ ?_ A16.out).mono ?_); exact C_g HR0 HB; exact HC0.out; rintro e w21 ⟨v179, rfl, ho0, hb⟩; refine ⟨_, rfl, ?_⟩; have HO180 := rLo (rN ho0 HO_5) HB; replace HO_5 := rE HO_5 ho0 hb; replace HB := bst HB hb; clear hb ho0; obtain ⟨Ao22, co22, rfl⟩ := Kd.R_slice HO180.out) | ((with_reducible refine gate_callee (f := 8) rfl ?_); refine goesQ (some 35) Tryd.func8 #[.slice Ao12 t173.length co12, .slice Ao22 t178.length co22] ?_; (with_reducible refine (laws_eqIntS.calls kj6 _ _ t173 _ _ t178 false _ ?_ ?_ ?_ ?_ A17.out).mono ?_); exact rC HO_5; exact rL HO_5; exact rC HO180; exact rL HO180; rintro e w' ⟨rfl, ⟨nd, rfl⟩⟩; refine ⟨_, rfl, ?_⟩))
      go_ret
      exact ⟨eqE, bel_g HB.out⟩

/-- THE ONE PURE STATEMENT of laws_FnExactAscentText: yours. -/
def laws_FnExactAscentText.Pure : Prop := ∀ (l0 : List Int), l0.length ≤ maxLen → l0.length * 8 ≤ 140737488351232 → (∀ x ∈ l0, (Lit.int .i64 x).wf = true) → ∃ k, laws_FnExactAscentText.f k l0 = some true
theorem laws_FnExactAscentText.walk (P : laws_FnExactAscentText.Pure) (a0 : Option Addr) (len0 cap0 : Nat) (z0 : List Int) (w : World) (w0 : (a0 = none ∧ len0 = 0 ∧ cap0 = 0 ∧ z0 = []) ∨ ∃ x, a0 = some x ∧ len0 ≤ cap0 ∧ cap0 ≤ maxLen ∧ z0.length = cap0 ∧ (∀ i, i < z0.length → w.cell? (x.add i) = some (.int .i64 (z0.getD i 0))) ∧ ∀ n ∈ z0, (Lit.int .i64 n).wf = true) (y0 : len0 * 8 ≤ 140737488351232) :
  Calls Tryd.prog 3 #[.slice a0 len0 cap0] w fun e w' => e = .returned (.bool true) ∧ Below w.heap.size w w' := by
 obtain ⟨l0, rfl, hr0, hm0, hw0, hc0⟩ := ReadsInt.ofRowC w0
 obtain ⟨k, h⟩ := P l0 hm0 y0 hw0
 refine (laws_FnExactAscentText.calls k _ _ l0 true w (Kd.C_of_reads (d := (0 : Int)) (h1 := fun _ => rfl) hr0) hc0 h).mono ?_
 rintro e w' ⟨rfl, hd⟩
 exact ⟨rfl, hd⟩

end Go.Proofs.YtojappijhehlpaaDoor.Q
