-- printed by this project's own program (wip/mp/mp.py) over the kit's print, for this seat; Lean checks it
import Derived.Test.YtfomdcbgggdnhaaQx0
import Derived.Test.YtfomdcbgggdnhaaQSpecL1All
import Derived.Test.YtfomdcbgggdnhaaQSpecL1Has
namespace Go.Proofs.Ytfomdcbgggdnhaa.Q
open Go.RowKit Go.Proofs.YtfomdcbgggdnhaaW.PrintWords Go.Proofs.YtfomdcbgggdnhaaW.PrintLast Go.Proofs.YtfomdcbgggdnhaaW.PrintMore
attribute [local go_sem] max2_int min2_int max_two min_two max_three min_three max_four min_four   -- for this text's walks alone
set_option linter.unusedVariables false
set_option maxHeartbeats 8000000
set_option maxRecDepth 100000
set_option linter.unusedSimpArgs false

/-! ### spec_weLevels: function 8 -/
mutual
def spec_weLevels.j0 : Nat → List Int → Bool → Option (Bool)
 | 0, _, _ => none
 | k + 1, x0, x12 => if x12 = true then (some false) else (spec_weLevels.l0 k x0 x0 (x0.length : Int) 0)
def spec_weLevels.l0 : Nat → List Int → List Int → Int → Int → Option (Bool)
 | 0, _, _, _, _ => none
 | k + 1, x0, x13, x14, x15 => if x15 < x14 then (if 0 ≤ x15 then (if x15 < (x13.length : Int) then (if (rd x13 x15) > 0 then ((spec_l1Has.f k x0 (wrap64 ((rd x13 x15) - 1))).bind fun t106 => (if t106 = true then (spec_weLevels.l0 k x0 x13 x14 (wrap64 (x15 + 1))) else (some false))) else (spec_weLevels.l0 k x0 x13 x14 (wrap64 (x15 + 1)))) else (none)) else (none)) else (some true)
end
def spec_weLevels.f (k : Nat) (l0 : List Int) : Option (Bool) := if (l0.length : Int) > 10 then (spec_weLevels.j0 k l0 true) else ((spec_l1All.f k l0 0 10).bind fun t104 => (spec_weLevels.j0 k l0 (!t104)))
theorem spec_weLevels.mono_l : ∀ k, (∀ y0 y1, LeO (spec_weLevels.j0 k y0 y1) (spec_weLevels.j0 (k + 1) y0 y1)) ∧ (∀ y0 y1 y2 y3, LeO (spec_weLevels.l0 k y0 y1 y2 y3) (spec_weLevels.l0 (k + 1) y0 y1 y2 y3))
 | 0 => ⟨fun _ _ r h => by simp [spec_weLevels.j0] at h, fun _ _ _ _ r h => by simp [spec_weLevels.l0] at h⟩
 | k + 1 => by
  obtain ⟨ih0, ih1⟩ := spec_weLevels.mono_l k
  refine ⟨?_, ?_⟩ <;> intros
  unfold spec_weLevels.j0
  rotate_left
  unfold spec_weLevels.l0
  rotate_left
  all_goals repeat' (with_reducible first|apply ih0|apply ih1|apply spec_l1All.mono|apply spec_l1Has.mono|apply LeO.refl|apply LeO.none|apply LeO.ite|apply LeO.bind|intro)
theorem spec_weLevels.mono : ∀ a0 k, LeO (spec_weLevels.f k a0) (spec_weLevels.f (k + 1) a0) := by
 intro a0 k
 obtain ⟨ih0, ih1⟩ := spec_weLevels.mono_l k
 unfold spec_weLevels.f
 repeat' (with_reducible first|apply ih0|apply ih1|apply spec_l1All.mono|apply spec_l1Has.mono|apply LeO.refl|apply LeO.none|apply LeO.ite|apply LeO.bind|intro)
theorem spec_weLevels.calls (k : Nat) (A0 : Option Addr) (c0 : Nat) (l0 : List Int) (r : Bool) (w : World) (hr0 : Kd.C (Kd.int .i64) w A0 l0.length l0) (hc0 : l0.length ≤ c0) (h : spec_weLevels.f k l0 = some r) :
  Calls Try.prog 8 #[.slice A0 l0.length c0] w fun e w' => e = .returned (.bool r) ∧ Drawn0 w w' := by
 have HR0 := mkA hr0
 have HC0 := mkA hc0
 clear hr0 hc0
 have H := h
 clear h
 unfold spec_weLevels.f at H
 have HC2 := mkA H
 clear H
 go_enter Try.func8, Try.ntmps8
 go_upto_region 1 with (fail)
 go_cut [12] (fun v12 wc => ∃ (kq : Nat) (x12_1 : Bool), v12 = .bool x12_1 ∧ Fc (spec_weLevels.j0 kq l0 x12_1 = some r) ∧ Fc (kq ≤ k) ∧ Drawn0 w wc)
 case first =>
  have H := HC2.out
  clear HC2
  rcases iteP H with ⟨c3, H⟩ | ⟨c3, H⟩
  ·have c3b0 := decide_eq_true c3
   have c3b1 : decide (10 < l0.length) = true := decide_eq_true (by omega)
   clear c3
   (first | rw [c3b0] | (simp only [i64_w, i32_w]; rw [c3b0]) | skip)
   have H' := mkA H
   clear H
   go_wp2
   go_meet
   case rel => exact ⟨_, (true), eqS, H', ⟨by first | omega | exact Nat.le_refl _⟩, by repeat (first | exact Drawn0.refl _ | apply Drawn0.step)⟩
  ·have c3b0 := decide_eq_false c3
   have c3b1 : decide (10 < l0.length) = false := decide_eq_false (by omega)
   clear c3
   (first | rw [c3b0] | (simp only [i64_w, i32_w]; rw [c3b0]) | skip)
   obtain ⟨t104, A4, H⟩ := obE H
   have H' := mkA H
   clear H
   go_wp2_with (first | (go_at_call 10; (with_reducible refine (spec_l1All.calls k _ _ l0 0 10 t104 _ ?s1 ?s2 A4.out).mono ?_); (case s1 => repeat (first | exact HR0.out | (with_reducible refine Kd.C_alloc ?_ _) | (with_reducible refine Kd.C_drewN ?_ _) | (with_reducible refine Kd.C_drew ?_))); (case s2 => exact HC0.out); rintro e w' ⟨rfl, ⟨nd, rfl⟩⟩))
   go_meet
   case rel => exact ⟨_, (!t104), eqS, H', ⟨by first | omega | exact Nat.le_refl _⟩, by repeat (first | exact Drawn0.refl _ | apply Drawn0.step)⟩
 case rest =>
  clear HC2
  try clear c3
  try clear c3b0
  try clear c3b1
  obtain ⟨kq, x12_1, rfl, HA, HJ1, ⟨mc1, rfl⟩⟩ := hcut
  cases kq with
  | zero => exact absurd HA.out (by simp [spec_weLevels.j0])
  | succ kj1 =>
   have H := HA.out
   clear HA
   simp only [spec_weLevels.j0] at H
   by_cases c5 : x12_1 = true
   ·subst c5
    replace H := ifT H
    obtain rfl := Option.some.inj H
    go_wp2
    go_ret
    exact ⟨eqS, drE⟩
   ·replace c5 := Bool.eq_false_iff.mpr c5
    subst c5
    replace H := ifF H
    have H' := mkA H
    clear H
    go_wp2
    go_loopg [15] kj1 (fun kq v15 w' => ∃ (x15_2 : Int), v15 = .int .i64 x15_2 ∧ Fc (spec_weLevels.l0 kq l0 l0 (l0.length : Int) x15_2 = some r) ∧ Fc (kq ≤ kj1) ∧ Drawn0 w w')
    case atStart => exact ⟨(0), eqS, H', ⟨Nat.le_refl _⟩, by repeat (first | exact Drawn0.refl _ | apply Drawn0.step)⟩
    case round =>
     clear H'
     try clear c3
     try clear c3b0
     try clear c3b1
     try clear c5
     obtain ⟨x15_2, rfl, HA, HK2, ⟨m2, rfl⟩⟩ := hrel
     cases gk with
     | zero => exact absurd HA.out (by simp [spec_weLevels.l0])
     | succ k2 =>
      have H := HA.out
      clear HA
      simp only [spec_weLevels.l0] at H
      rcases iteE H with ⟨c6b0, H⟩ | ⟨c6b0, H⟩
      ·obtain ⟨c7b0, H⟩ := itND H
       obtain ⟨c8b0, H⟩ := itND H
       rcases iteP H with ⟨c9, H⟩ | ⟨c9, H⟩
       ·have c9b0 := decide_eq_true c9
        clear c9
        obtain ⟨t106, A10, H⟩ := obE H
        by_cases c11 : t106 = true
        ·subst c11
         replace H := ifT H
         have H' := mkA H
         clear H
         obtain ⟨p105, q105, ad105, e105, hx105_0⟩ := atI HR0.out x15_2
         cases e105
         go_wp2_with (first | (go_at_call 11; (with_reducible refine (spec_l1Has.calls k2 _ _ l0 (wrap64 ((rd l0 x15_2) - 1)) true _ ?s1 ?s2 A10.out).mono ?_); (case s1 => repeat (first | exact HR0.out | (with_reducible refine Kd.C_alloc ?_ _) | (with_reducible refine Kd.C_drewN ?_ _) | (with_reducible refine Kd.C_drew ?_))); (case s2 => exact HC0.out); rintro e w' ⟨rfl, ⟨nd, rfl⟩⟩))
         go_roundg k2
         case measure => have := HJ1.out; have := HK2.out; omega
         case rel => exact ⟨(wrap64 (x15_2 + 1)), eqS, H', ⟨by have := HJ1.out; have := HK2.out; omega⟩, by repeat (first | exact Drawn0.refl _ | apply Drawn0.step)⟩
        ·replace c11 := Bool.eq_false_iff.mpr c11
         subst c11
         replace H := ifF H
         obtain rfl := Option.some.inj H
         obtain ⟨p105, q105, ad105, e105, hx105_0⟩ := atI HR0.out x15_2
         cases e105
         go_wp2_with (first | (go_at_call 11; (with_reducible refine (spec_l1Has.calls k2 _ _ l0 (wrap64 ((rd l0 x15_2) - 1)) false _ ?s1 ?s2 A10.out).mono ?_); (case s1 => repeat (first | exact HR0.out | (with_reducible refine Kd.C_alloc ?_ _) | (with_reducible refine Kd.C_drewN ?_ _) | (with_reducible refine Kd.C_drew ?_))); (case s2 => exact HC0.out); rintro e w' ⟨rfl, ⟨nd, rfl⟩⟩))
         go_ret
         exact ⟨eqS, drE⟩
       ·have c9b0 := decide_eq_false c9
        clear c9
        have H' := mkA H
        clear H
        obtain ⟨p105, q105, ad105, e105, hx105_0⟩ := atI HR0.out x15_2
        cases e105
        go_wp2
        go_roundg k2
        case measure => have := HJ1.out; have := HK2.out; omega
        case rel => exact ⟨(wrap64 (x15_2 + 1)), eqS, H', ⟨by have := HJ1.out; have := HK2.out; omega⟩, by repeat (first | exact Drawn0.refl _ | apply Drawn0.step)⟩
      ·obtain rfl := Option.some.inj H
       go_wp2
       go_ret
       exact ⟨eqS, drE⟩

end Go.Proofs.Ytfomdcbgggdnhaa.Q
