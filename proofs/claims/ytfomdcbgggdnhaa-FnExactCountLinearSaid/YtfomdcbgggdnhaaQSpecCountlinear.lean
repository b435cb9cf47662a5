-- printed by this project's own program (wip/mp/mp.py) over the kit's print, for this seat; Lean checks it
import Derived.Test.YtfomdcbgggdnhaaQx0
import Derived.Test.YtfomdcbgggdnhaaQSpecWelevels
namespace Go.Proofs.Ytfomdcbgggdnhaa.Q
open Go.RowKit Go.Proofs.YtfomdcbgggdnhaaW.PrintWords Go.Proofs.YtfomdcbgggdnhaaW.PrintLast Go.Proofs.YtfomdcbgggdnhaaW.PrintMore
attribute [local go_sem] max2_int min2_int max_two min_two max_three min_three max_four min_four   -- for this text's walks alone
set_option linter.unusedVariables false
set_option maxHeartbeats 8000000
set_option maxRecDepth 100000
set_option linter.unusedSimpArgs false

/-! ### spec_CountLinear: function 4 -/
mutual
def spec_CountLinear.l0 : Nat → List Int → Int → List Int → Int → Int → Option (Int × Bool)
 | 0, _, _, _, _, _ => none
 | k + 1, x0, x4, x13, x14, x15 => if x15 < x14 then (if 0 ≤ x15 then (if x15 < (x13.length : Int) then (if x15 ≤ (x0.length : Int) then (spec_CountLinear.l1 k x0 x4 (rd x13 x15) 1 x13 x14 x15 (x0.take (x15 : Int).toNat) ((x0.take (x15 : Int).toNat).length : Int) 0) else (none)) else (none)) else (none)) else (some (x4, true))
def spec_CountLinear.l1 : Nat → List Int → Int → Int → Int → List Int → Int → Int → List Int → Int → Int → Option (Int × Bool)
 | 0, _, _, _, _, _, _, _, _, _, _ => none
 | k + 1, x0, x4, x6, x7, x13, x14, x15, x22, x23, x24 => if x24 < x23 then (if 0 ≤ x24 then (if x24 < (x22.length : Int) then (if x6 = (rd x22 x24) then (spec_CountLinear.l1 k x0 x4 x6 (wrap64 (x7 + 1)) x13 x14 x15 x22 x23 (wrap64 (x24 + 1))) else (spec_CountLinear.l1 k x0 x4 x6 x7 x13 x14 x15 x22 x23 (wrap64 (x24 + 1)))) else (none)) else (none)) else (spec_CountLinear.l0 k x0 (wrap64 (x4 * x7)) x13 x14 (wrap64 (x15 + 1)))
end
def spec_CountLinear.f (k : Nat) (l0 : List Int) : Option (Int × Bool) := (spec_weLevels.f k l0).bind fun t107 => (if t107 = true then (spec_CountLinear.l0 k l0 1 l0 (l0.length : Int) 0) else (some (0, false)))
theorem spec_CountLinear.mono_l : ∀ k, (∀ y0 y1 y2 y3 y4, LeO (spec_CountLinear.l0 k y0 y1 y2 y3 y4) (spec_CountLinear.l0 (k + 1) y0 y1 y2 y3 y4)) ∧ (∀ y0 y1 y2 y3 y4 y5 y6 y7 y8 y9, LeO (spec_CountLinear.l1 k y0 y1 y2 y3 y4 y5 y6 y7 y8 y9) (spec_CountLinear.l1 (k + 1) y0 y1 y2 y3 y4 y5 y6 y7 y8 y9))
 | 0 => ⟨fun _ _ _ _ _ r h => by simp [spec_CountLinear.l0] at h, fun _ _ _ _ _ _ _ _ _ _ r h => by simp [spec_CountLinear.l1] at h⟩
 | k + 1 => by
  obtain ⟨ih0, ih1⟩ := spec_CountLinear.mono_l k
  refine ⟨?_, ?_⟩ <;> intros
  unfold spec_CountLinear.l0
  rotate_left
  unfold spec_CountLinear.l1
  rotate_left
  all_goals repeat' (with_reducible first|apply ih0|apply ih1|apply spec_weLevels.mono|apply LeO.refl|apply LeO.none|apply LeO.ite|apply LeO.bind|intro)
theorem spec_CountLinear.mono : ∀ a0 k, LeO (spec_CountLinear.f k a0) (spec_CountLinear.f (k + 1) a0) := by
 intro a0 k
 obtain ⟨ih0, ih1⟩ := spec_CountLinear.mono_l k
 unfold spec_CountLinear.f
 repeat' (with_reducible first|apply ih0|apply ih1|apply spec_weLevels.mono|apply LeO.refl|apply LeO.none|apply LeO.ite|apply LeO.bind|intro)
theorem spec_CountLinear.calls (k : Nat) (A0 : Option Addr) (c0 : Nat) (l0 : List Int) (r1 : Int) (r2 : Bool) (w : World) (hr0 : Kd.C (Kd.int .i64) w A0 l0.length l0) (hc0 : l0.length ≤ c0) (h : spec_CountLinear.f k l0 = some (r1, r2)) :
  Calls Try.prog 4 #[.slice A0 l0.length c0] w fun e w' => e = .returned (.tuple #[.int .i64 r1, .bool r2]) ∧ Drawn0 w w' := by
 have HR0 := mkA hr0
 have HC0 := mkA hc0
 clear hr0 hc0
 have H := h
 clear h
 unfold spec_CountLinear.f at H
 obtain ⟨t107, A2, H⟩ := obE H
 by_cases c3 : t107 = true
 ·subst c3
  replace H := ifT H
  have H' := mkA H
  clear H
  go_enter Try.func4, Try.ntmps4
  go_wp2_with (first | ((with_reducible refine gate_callee (f := 8) rfl ?_); refine goesQ (some 11) Try.func8 #[.slice A0 l0.length c0] ?_; (with_reducible refine (spec_weLevels.calls k _ _ l0 true _ ?s1 ?s2 A2.out).mono ?_); (case s1 => repeat (first | exact HR0.out | (with_reducible refine Kd.C_alloc ?_ _) | (with_reducible refine Kd.C_drewN ?_ _) | (with_reducible refine Kd.C_drew ?_))); (case s2 => exact HC0.out); rintro e w' ⟨rfl, ⟨nd, rfl⟩⟩; refine ⟨_, rfl, ?_⟩))
  go_loopg [4, 15] k (fun kq v4 v15 w' => ∃ (x4_1 : Int) (x15_1 : Int), v4 = .int .i64 x4_1 ∧ v15 = .int .i64 x15_1 ∧ Fc (spec_CountLinear.l0 kq l0 x4_1 l0 (l0.length : Int) x15_1 = some (r1, r2)) ∧ Fc (kq ≤ k) ∧ Drawn0 w w')
  case atStart => exact ⟨(1), (0), eqS, eqS, H', ⟨Nat.le_refl _⟩, by repeat (first | exact Drawn0.refl _ | apply Drawn0.step)⟩
  case round =>
   clear H'
   try clear c3
   obtain ⟨x4_1, x15_1, rfl, rfl, HA, HK1, ⟨m1, rfl⟩⟩ := hrel
   cases gk with
   | zero => exact absurd HA.out (by simp [spec_CountLinear.l0])
   | succ k1 =>
    have H := HA.out
    clear HA
    simp only [spec_CountLinear.l0] at H
    rcases iteE H with ⟨c4b0, H⟩ | ⟨c4b0, H⟩
    ·obtain ⟨c5b0, H⟩ := itND H
     obtain ⟨c6b0, H⟩ := itND H
     have c7b0 := eq_true (ofd : 0 ≤ x15_1)
     obtain ⟨c8b0, c8b1, H⟩ := itNQ H
     have H' := mkA H
     clear H
     obtain ⟨p108, q108, ad108, e108, hx108_0⟩ := atI HR0.out x15_1
     cases e108
     obtain ⟨i09, hi09, _, hsz9, _⟩ := info_parts info3
     obtain ⟨hcut9, hA9, hC9⟩ := print_take_of (P := Try.prog) (Value.int .i64) 0 22 3 .i64 Try.underlying22 hi09 hsz9 (some ad108) c0 l0 x15_1 (ofd) (ofd) HC0.out
     have HR109 := mkA (Kd.C_of_reads (h1 := fun _ => rfl) (hA9 _ (Kd.reads_of_C HR0.out)))
     have HC109 := mkA hC9
     clear hA9 hC9 hi09 hsz9
     obtain ⟨y9_, hy9_⟩ : ∃ y_ : List Int, y_ = l0.take (x15_1 : Int).toNat := ⟨_, rfl⟩
     rw [← hy9_] at hcut9 HR109 HC109 H'
     clear hy9_
     go_wp2
     go_loopg [7, 24] k1 (fun kq v7 v24 w' => ∃ (x7_2 : Int) (x24_2 : Int), v7 = .int .i64 x7_2 ∧ v24 = .int .i64 x24_2 ∧ Fc (spec_CountLinear.l1 kq l0 x4_1 (rd l0 x15_1) x7_2 l0 (l0.length : Int) x15_1 y9_ (y9_.length : Int) x24_2 = some (r1, r2)) ∧ Fc (kq ≤ k1) ∧ Drawn0 w w')
     case atStart => exact ⟨(1), (0), eqS, eqS, H', ⟨Nat.le_refl _⟩, by repeat (first | exact Drawn0.refl _ | apply Drawn0.step)⟩
     case round =>
      clear H'
      try clear c3
      try clear c4b0
      try clear c5
      try clear c5b0
      try clear c6
      try clear c6b0
      try clear c7b0
      try clear c8
      try clear c8b0
      try clear c8b1
      try clear hx108_0
      try clear p108
      try clear q108
      obtain ⟨x7_2, x24_2, rfl, rfl, HA, HK2, ⟨m2, rfl⟩⟩ := hrel
      cases gk with
      | zero => exact absurd HA.out (by simp [spec_CountLinear.l1])
      | succ k2 =>
       have H := HA.out
       clear HA
       simp only [spec_CountLinear.l1] at H
       rcases iteE H with ⟨c10b0, H⟩ | ⟨c10b0, H⟩
       ·obtain ⟨c11b0, H⟩ := itND H
        obtain ⟨c12b0, H⟩ := itND H
        rcases iteP H with ⟨c13, H⟩ | ⟨c13, H⟩
        ·have c13b0 := beq_iff_eq.mpr c13
         have c13b1 := bne_eq_false_iff_eq.mpr c13
         clear c13
         have H' := mkA H
         clear H
         obtain ⟨p110, q110, ad110, e110, hx110_0⟩ := atI HR109.out x24_2
         obtain rfl : ad108 = ad110 := (by injection e110)
         go_wp2
         go_roundg k2
         case measure => have := HK1.out; have := HK2.out; omega
         case rel => exact ⟨(wrap64 (x7_2 + 1)), (wrap64 (x24_2 + 1)), eqS, eqS, H', ⟨by have := HK1.out; have := HK2.out; omega⟩, by repeat (first | exact Drawn0.refl _ | apply Drawn0.step)⟩
        ·have c13b0 := beq_eq_false_iff_ne.mpr c13
         have c13b1 := bne_iff_ne.mpr c13
         have H' := mkA H
         clear H
         obtain ⟨p110, q110, ad110, e110, hx110_0⟩ := atI HR109.out x24_2
         obtain rfl : ad108 = ad110 := (by injection e110)
         go_wp2
         go_roundg k2
         case measure => have := HK1.out; have := HK2.out; omega
         case rel => exact ⟨(x7_2), (wrap64 (x24_2 + 1)), eqS, eqS, H', ⟨by have := HK1.out; have := HK2.out; omega⟩, by repeat (first | exact Drawn0.refl _ | apply Drawn0.step)⟩
       ·have H' := mkA H
        clear H
        go_wp2
        go_roundg k2
        case measure => have := HK1.out; have := HK2.out; omega
        case rel => exact ⟨(wrap64 (x4_1 * x7_2)), (wrap64 (x15_1 + 1)), eqS, eqS, H', ⟨by have := HK1.out; have := HK2.out; omega⟩, by repeat (first | exact Drawn0.refl _ | apply Drawn0.step)⟩
    ·simp only [Option.some.injEq, Prod.mk.injEq] at H
     obtain ⟨rfl, rfl⟩ := H
     go_wp2
     go_ret2
     exact ⟨eqS, drE⟩
 ·replace c3 := Bool.eq_false_iff.mpr c3
  subst c3
  replace H := ifF H
  simp only [Option.some.injEq, Prod.mk.injEq] at H
  obtain ⟨rfl, rfl⟩ := H
  go_enter Try.func4, Try.ntmps4
  go_wp2_with (first | ((with_reducible refine gate_callee (f := 8) rfl ?_); refine goesQ (some 11) Try.func8 #[.slice A0 l0.length c0] ?_; (with_reducible refine (spec_weLevels.calls k _ _ l0 false _ ?s1 ?s2 A2.out).mono ?_); (case s1 => repeat (first | exact HR0.out | (with_reducible refine Kd.C_alloc ?_ _) | (with_reducible refine Kd.C_drewN ?_ _) | (with_reducible refine Kd.C_drew ?_))); (case s2 => exact HC0.out); rintro e w' ⟨rfl, ⟨nd, rfl⟩⟩; refine ⟨_, rfl, ?_⟩))
  go_ret2
  exact ⟨eqS, drE⟩

end Go.Proofs.Ytfomdcbgggdnhaa.Q
