-- printed by this project's own program (wip/mp/mp.py) over the kit's print, for this seat; Lean checks it
import Derived.Test.YtojappijhehlpaaDoorQx0
import Derived.Test.YtojappijhehlpaaDoorQImplWithin
import Derived.Test.YtojappijhehlpaaDoorQImplAscents
namespace Go.Proofs.YtojappijhehlpaaDoor.Q
open Go.RowKit Go.Proofs.YtojappijhehlpaaDoorW.PrintWords Go.Proofs.YtojappijhehlpaaDoorW.PrintLast Go.Proofs.YtojappijhehlpaaDoorW.PrintMore
attribute [local go_sem] max2_int min2_int max_two min_two max_three min_three max_four min_four   -- for this text's walks alone
set_option linter.unusedVariables false
set_option maxHeartbeats 8000000
set_option maxRecDepth 100000
set_option linter.unusedSimpArgs false

/-! ### impl_IsAscent: function 15 -/
def impl_IsAscent.l0 : Nat → List Int → List Int → Int → Int → Option (Bool)
 | 0, _, _, _, _ => none
 | k + 1, x0, x8, x9, x10 => if x10 < x9 then (if 0 ≤ x10 then (if x10 < (x8.length : Int) then (if x10 = 0 then (if (rd x8 x10) = 0 then (if x10 > 0 then (if x10 ≤ (x0.length : Int) then ((impl_ascents.f k (x0.take (x10 : Int).toNat)).bind fun t129 => ((impl_within.f (rd x8 x10) 0 (wrap64 (t129 + 1))).bind fun t130 => (if t130 = true then (impl_IsAscent.l0 k x0 x8 x9 (wrap64 (x10 + 1))) else (some false)))) else (none)) else (impl_IsAscent.l0 k x0 x8 x9 (wrap64 (x10 + 1)))) else (some false)) else (if x10 > 0 then (if x10 ≤ (x0.length : Int) then ((impl_ascents.f k (x0.take (x10 : Int).toNat)).bind fun t132 => ((impl_within.f (rd x8 x10) 0 (wrap64 (t132 + 1))).bind fun t133 => (if t133 = true then (impl_IsAscent.l0 k x0 x8 x9 (wrap64 (x10 + 1))) else (some false)))) else (none)) else (impl_IsAscent.l0 k x0 x8 x9 (wrap64 (x10 + 1))))) else (none)) else (none)) else (some true)
def impl_IsAscent.f (k : Nat) (l0 : List Int) : Option (Bool) := if (l0.length : Int) > 12 then (some false) else (impl_IsAscent.l0 k l0 l0 (l0.length : Int) 0)
theorem impl_IsAscent.mono_l : ∀ k, (∀ y0 y1 y2 y3, LeO (impl_IsAscent.l0 k y0 y1 y2 y3) (impl_IsAscent.l0 (k + 1) y0 y1 y2 y3))
 | 0 => fun _ _ _ _ r h => by simp [impl_IsAscent.l0] at h
 | k + 1 => by
  have ih0 := impl_IsAscent.mono_l k
  ·intro y0 y1 y2 y3
   unfold impl_IsAscent.l0
   repeat' (with_reducible first|apply ih0|apply impl_ascents.mono|apply LeO.refl|apply LeO.none|apply LeO.ite|apply LeO.bind|intro)
theorem impl_IsAscent.mono : ∀ a0 k, LeO (impl_IsAscent.f k a0) (impl_IsAscent.f (k + 1) a0) := by
 intro a0 k
 have ih0 := impl_IsAscent.mono_l k
 unfold impl_IsAscent.f
 repeat' (with_reducible first|apply ih0|apply impl_ascents.mono|apply LeO.refl|apply LeO.none|apply LeO.ite|apply LeO.bind|intro)
theorem impl_IsAscent.calls (k : Nat) (A0 : Option Addr) (c0 : Nat) (l0 : List Int) (r : Bool) (w : World) (hr0 : Kd.C (Kd.int .i64) w A0 l0.length l0) (hc0 : l0.length ≤ c0) (h : impl_IsAscent.f k l0 = some r) :
  Calls Tryd.prog 15 #[.slice A0 l0.length c0] w fun e w' => e = .returned (.bool r) ∧ Drawn0 w w' := by
 have HR0 := mkA hr0
 have HC0 := mkA hc0
 clear hr0 hc0
 have H := h
 clear h
 unfold impl_IsAscent.f at H
 rcases iteP H with ⟨c2, H⟩ | ⟨c2, H⟩
 ·have c2b0 := decide_eq_true c2
  have c2b1 : decide (12 < l0.length) = true := decide_eq_true (by omega)
  clear c2
  obtain rfl := Option.some.inj H
  go_enter Tryd.func15, Tryd.ntmps15
  go_wp2
  go_ret
  exact ⟨eqS, drE⟩
 ·have c2b0 := decide_eq_false c2
  have c2b1 : decide (12 < l0.length) = false := decide_eq_false (by omega)
  clear c2
  have H' := mkA H
  clear H
  go_enter Tryd.func15, Tryd.ntmps15
  go_wp2
  go_loopg [10] k (fun kq v10 w' => ∃ (x10_1 : Int), v10 = .int .i64 x10_1 ∧ Fc (impl_IsAscent.l0 kq l0 l0 (l0.length : Int) x10_1 = some r) ∧ Fc (kq ≤ k) ∧ Drawn0 w w')
  case atStart => exact ⟨(0), eqS, H', ⟨Nat.le_refl _⟩, by repeat (first | exact Drawn0.refl _ | apply Drawn0.step)⟩
  case round =>
   clear H'
   try clear c2
   try clear c2b0
   try clear c2b1
   obtain ⟨x10_1, rfl, HA, HK1, ⟨m1, rfl⟩⟩ := hrel
   cases gk with
   | zero => exact absurd HA.out (by simp [impl_IsAscent.l0])
   | succ k1 =>
    have H := HA.out
    clear HA
    simp only [impl_IsAscent.l0] at H
    rcases iteE H with ⟨c3b0, H⟩ | ⟨c3b0, H⟩
    ·obtain ⟨c4b0, H⟩ := itND H
     obtain ⟨c5b0, H⟩ := itND H
     rcases iteP H with ⟨c6, H⟩ | ⟨c6, H⟩
     ·have c6b0 := beq_iff_eq.mpr c6
      have c6b1 := bne_eq_false_iff_eq.mpr c6
      clear c6
      rcases iteP H with ⟨c7, H⟩ | ⟨c7, H⟩
      ·have c7b0 := beq_iff_eq.mpr c7
       have c7b1 := bne_eq_false_iff_eq.mpr c7
       clear c7
       rcases iteP H with ⟨c8, H⟩ | ⟨c8, H⟩
       ·have c8b0 := decide_eq_true c8
        clear c8
        have c9b0 := eq_true (ofd : 0 ≤ x10_1)
        obtain ⟨c10b0, c10b1, H⟩ := itNQ H
        obtain ⟨t129, A11, H⟩ := obE H
        obtain ⟨t130, A12, H⟩ := obE H
        by_cases c13 : t130 = true
        ·subst c13
         replace H := ifT H
         have H' := mkA H
         clear H
         obtain ⟨p127, q127, ad127, e127, hx127_0⟩ := atI HR0.out x10_1
         cases e127
         obtain ⟨i014, hi014, _, hsz14, _⟩ := info_parts info3
         obtain ⟨hcut14, hA14, hC14⟩ := print_take_of (P := Tryd.prog) (Value.int .i64) 0 22 3 .i64 Tryd.underlying22 hi014 hsz14 (some ad127) c0 l0 x10_1 (ofd) (ofd) HC0.out
         have HR128 := mkA (Kd.C_of_reads (h1 := fun _ => rfl) (hA14 _ (Kd.reads_of_C HR0.out)))
         have HC128 := mkA hC14
         clear hA14 hC14 hi014 hsz14
         go_wp2_with (first | (go_at_call 24; refine calls_of_args (args' := #[.slice (some ad127) (l0.take (x10_1 : Int).toNat).length c0]) (by first | (rw [show (l0.take (x10_1 : Int).toNat).length = x10_1.toNat from (by rw [List.length_take]; have h_ : (x10_1 : Int) ≤ (l0.length : Int) := ofd; omega)] <;> rfl) | rfl) ?_; (with_reducible refine (impl_ascents.calls k1 _ _ (l0.take (x10_1 : Int).toNat) t129 _ ?s1 ?s2 A11.out).mono ?_); (case s1 => repeat (first | exact HR128.out | (with_reducible refine Kd.C_alloc ?_ _) | (with_reducible refine Kd.C_drewN ?_ _) | (with_reducible refine Kd.C_drew ?_))); (case s2 => exact HC128.out); rintro e w' ⟨rfl, ⟨nd, rfl⟩⟩) | (go_at_call 23; (with_reducible refine (impl_within.calls (rd l0 x10_1) 0 (wrap64 (t129 + 1)) true _ A12.out).mono ?_); rintro e w' ⟨rfl, ⟨nd, rfl⟩⟩))
         go_roundg k1
         case measure => have := HK1.out; omega
         case rel => exact ⟨(wrap64 (x10_1 + 1)), eqS, H', ⟨by have := HK1.out; omega⟩, by repeat (first | exact Drawn0.refl _ | apply Drawn0.step)⟩
        ·replace c13 := Bool.eq_false_iff.mpr c13
         subst c13
         replace H := ifF H
         obtain rfl := Option.some.inj H
         obtain ⟨p127, q127, ad127, e127, hx127_0⟩ := atI HR0.out x10_1
         cases e127
         obtain ⟨i015, hi015, _, hsz15, _⟩ := info_parts info3
         obtain ⟨hcut15, hA15, hC15⟩ := print_take_of (P := Tryd.prog) (Value.int .i64) 0 22 3 .i64 Tryd.underlying22 hi015 hsz15 (some ad127) c0 l0 x10_1 (ofd) (ofd) HC0.out
         have HR128 := mkA (Kd.C_of_reads (h1 := fun _ => rfl) (hA15 _ (Kd.reads_of_C HR0.out)))
         have HC128 := mkA hC15
         clear hA15 hC15 hi015 hsz15
         go_wp2_with (first | (go_at_call 24; refine calls_of_args (args' := #[.slice (some ad127) (l0.take (x10_1 : Int).toNat).length c0]) (by first | (rw [show (l0.take (x10_1 : Int).toNat).length = x10_1.toNat from (by rw [List.length_take]; have h_ : (x10_1 : Int) ≤ (l0.length : Int) := ofd; omega)] <;> rfl) | rfl) ?_; (with_reducible refine (impl_ascents.calls k1 _ _ (l0.take (x10_1 : Int).toNat) t129 _ ?s1 ?s2 A11.out).mono ?_); (case s1 => repeat (first | exact HR128.out | (with_reducible refine Kd.C_alloc ?_ _) | (with_reducible refine Kd.C_drewN ?_ _) | (with_reducible refine Kd.C_drew ?_))); (case s2 => exact HC128.out); rintro e w' ⟨rfl, ⟨nd, rfl⟩⟩) | (go_at_call 23; (with_reducible refine (impl_within.calls (rd l0 x10_1) 0 (wrap64 (t129 + 1)) false _ A12.out).mono ?_); rintro e w' ⟨rfl, ⟨nd, rfl⟩⟩))
         go_ret
         exact ⟨eqS, drE⟩
       ·have c8b0 := decide_eq_false c8
        clear c8
        have H' := mkA H
        clear H
        obtain ⟨p127, q127, ad127, e127, hx127_0⟩ := atI HR0.out x10_1
        cases e127
        go_wp2
        go_roundg k1
        case measure => have := HK1.out; omega
        case rel => exact ⟨(wrap64 (x10_1 + 1)), eqS, H', ⟨by have := HK1.out; omega⟩, by repeat (first | exact Drawn0.refl _ | apply Drawn0.step)⟩
      ·have c7b0 := beq_eq_false_iff_ne.mpr c7
       have c7b1 := bne_iff_ne.mpr c7
       obtain rfl := Option.some.inj H
       obtain ⟨p127, q127, ad127, e127, hx127_0⟩ := atI HR0.out x10_1
       cases e127
       go_wp2
       go_ret
       exact ⟨eqS, drE⟩
     ·have c6b0 := beq_eq_false_iff_ne.mpr c6
      have c6b1 := bne_iff_ne.mpr c6
      rcases iteP H with ⟨c16, H⟩ | ⟨c16, H⟩
      ·have c16b0 := decide_eq_true c16
       clear c16
       have c17b0 := eq_true (ofd : 0 ≤ x10_1)
       obtain ⟨c18b0, c18b1, H⟩ := itNQ H
       obtain ⟨t132, A19, H⟩ := obE H
       obtain ⟨t133, A20, H⟩ := obE H
       by_cases c21 : t133 = true
       ·subst c21
        replace H := ifT H
        have H' := mkA H
        clear H
        obtain ⟨p127, q127, ad127, e127, hx127_0⟩ := atI HR0.out x10_1
        cases e127
        obtain ⟨i022, hi022, _, hsz22, _⟩ := info_parts info3
        obtain ⟨hcut22, hA22, hC22⟩ := print_take_of (P := Tryd.prog) (Value.int .i64) 0 22 3 .i64 Tryd.underlying22 hi022 hsz22 (some ad127) c0 l0 x10_1 (ofd) (ofd) HC0.out
        have HR131 := mkA (Kd.C_of_reads (h1 := fun _ => rfl) (hA22 _ (Kd.reads_of_C HR0.out)))
        have HC131 := mkA hC22
        clear hA22 hC22 hi022 hsz22
        go_wp2_with (first | (go_at_call 24; refine calls_of_args (args' := #[.slice (some ad127) (l0.take (x10_1 : Int).toNat).length c0]) (by first | (rw [show (l0.take (x10_1 : Int).toNat).length = x10_1.toNat from (by rw [List.length_take]; have h_ : (x10_1 : Int) ≤ (l0.length : Int) := ofd; omega)] <;> rfl) | rfl) ?_; (with_reducible refine (impl_ascents.calls k1 _ _ (l0.take (x10_1 : Int).toNat) t132 _ ?s1 ?s2 A19.out).mono ?_); (case s1 => repeat (first | exact HR131.out | (with_reducible refine Kd.C_alloc ?_ _) | (with_reducible refine Kd.C_drewN ?_ _) | (with_reducible refine Kd.C_drew ?_))); (case s2 => exact HC131.out); rintro e w' ⟨rfl, ⟨nd, rfl⟩⟩) | (go_at_call 23; (with_reducible refine (impl_within.calls (rd l0 x10_1) 0 (wrap64 (t132 + 1)) true _ A20.out).mono ?_); rintro e w' ⟨rfl, ⟨nd, rfl⟩⟩))
        go_roundg k1
        case measure => have := HK1.out; omega
        case rel => exact ⟨(wrap64 (x10_1 + 1)), eqS, H', ⟨by have := HK1.out; omega⟩, by repeat (first | exact Drawn0.refl _ | apply Drawn0.step)⟩
       ·replace c21 := Bool.eq_false_iff.mpr c21
        subst c21
        replace H := ifF H
        obtain rfl := Option.some.inj H
        obtain ⟨p127, q127, ad127, e127, hx127_0⟩ := atI HR0.out x10_1
        cases e127
        obtain ⟨i023, hi023, _, hsz23, _⟩ := info_parts info3
        obtain ⟨hcut23, hA23, hC23⟩ := print_take_of (P := Tryd.prog) (Value.int .i64) 0 22 3 .i64 Tryd.underlying22 hi023 hsz23 (some ad127) c0 l0 x10_1 (ofd) (ofd) HC0.out
        have HR131 := mkA (Kd.C_of_reads (h1 := fun _ => rfl) (hA23 _ (Kd.reads_of_C HR0.out)))
        have HC131 := mkA hC23
        clear hA23 hC23 hi023 hsz23
        go_wp2_with (first | (go_at_call 24; refine calls_of_args (args' := #[.slice (some ad127) (l0.take (x10_1 : Int).toNat).length c0]) (by first | (rw [show (l0.take (x10_1 : Int).toNat).length = x10_1.toNat from (by rw [List.length_take]; have h_ : (x10_1 : Int) ≤ (l0.length : Int) := ofd; omega)] <;> rfl) | rfl) ?_; (with_reducible refine (impl_ascents.calls k1 _ _ (l0.take (x10_1 : Int).toNat) t132 _ ?s1 ?s2 A19.out).mono ?_); (case s1 => repeat (first | exact HR131.out | (with_reducible refine Kd.C_alloc ?_ _) | (with_reducible refine Kd.C_drewN ?_ _) | (with_reducible refine Kd.C_drew ?_))); (case s2 => exact HC131.out); rintro e w' ⟨rfl, ⟨nd, rfl⟩⟩) | (go_at_call 23; (with_reducible refine (impl_within.calls (rd l0 x10_1) 0 (wrap64 (t132 + 1)) false _ A20.out).mono ?_); rintro e w' ⟨rfl, ⟨nd, rfl⟩⟩))
        go_ret
        exact ⟨eqS, drE⟩
      ·have c16b0 := decide_eq_false c16
       clear c16
       have H' := mkA H
       clear H
       obtain ⟨p127, q127, ad127, e127, hx127_0⟩ := atI HR0.out x10_1
       cases e127
       go_wp2
       go_roundg k1
       case measure => have := HK1.out; omega
       case rel => exact ⟨(wrap64 (x10_1 + 1)), eqS, H', ⟨by have := HK1.out; omega⟩, by repeat (first | exact Drawn0.refl _ | apply Drawn0.step)⟩
    ·obtain rfl := Option.some.inj H
     go_wp2
     go_ret
     exact ⟨eqS, drE⟩

end Go.Proofs.YtojappijhehlpaaDoor.Q
