import Derived.Lib.SplitLaws
import Derived.Test.YtojappijhehlpaaDoorBFnExactParseAscent2
namespace Go.Proofs.YtojappijhehlpaaDoor.Q
open Go.RowKit Go.Proofs.YtojappijhehlpaaDoorW.PrintWords Go.Proofs.YtojappijhehlpaaDoorW.PrintLast Go.Proofs.YtojappijhehlpaaDoorW.PrintMore
attribute [local go_sem] max2_int min2_int max_two min_two max_three min_three max_four min_four
set_option linter.unusedVariables false
set_option maxHeartbeats 8000000
set_option maxRecDepth 100000
set_option linter.unusedSimpArgs false
def Tab (w : World) : Prop := (∃ m, w.cell? ⟨3, 0, none⟩ = some (.int .i64 m)) ∧ (∃ ev, w.cell? ⟨0, 0, none⟩ = some ev ∧ (ev = .nilIface ∨ ∃ te pe, ev = .iface te pe)) ∧ (∃ ev, w.cell? ⟨1, 0, none⟩ = some ev ∧ (ev = .nilIface ∨ ∃ te pe, ev = .iface te pe))
theorem Tab.below {w W : World} (h : Tab w) (hb : Below w.heap.size w W) : Tab W := by
 obtain ⟨⟨m, h1⟩, ⟨e2, h2, g2⟩, ⟨e3, h3, g3⟩⟩ := h
 exact ⟨⟨m, (hb.cell (World.block_lt_of_cell? w _ h1)).trans h1⟩, ⟨e2, (hb.cell (World.block_lt_of_cell? w _ h2)).trans h2, g2⟩, ⟨e3, (hb.cell (World.block_lt_of_cell? w _ h3)).trans h3, g3⟩⟩
theorem Tab.drewN {w : World} (h : Tab w) (m : Nat) : Tab (w.drewN m) := h.below (pw_below_drewN (Below.refl _ _) m)
def strings_Split.f (a0 : ByteArray) (a1 : ByteArray) : Option (List ByteArray) := if a0.size < 4294967281 ∧ 1 ≤ a1.size then some (Go.Lib.splitB a1 0 (Go.Lib.countB a0 a1) a0) else none
theorem strings_Split.calls (a0 : ByteArray) (a1 : ByteArray) (r : List ByteArray) (w : World) (hG : Tab w) (h : strings_Split.f a0 a1 = some r) :
  Calls Tryd.prog 27 #[.string a0, .string a1] w fun e w' => ∃ v0_ : Value, e = .returned (v0_) ∧ Kd.R Kd.string 9 w' w.heap.size (fun _ => True) v0_ r ∧ Below w.heap.size w w' := by
 unfold strings_Split.f at h
 split at h
 case isFalse => cases h
 case isTrue hc =>
 obtain rfl := Option.some.inj h
 obtain ⟨m, hm⟩ := hG.1
 refine (Tryd.strings_Split a0 a1 m w hc.1 hm hc.2).mono ?_
 rintro e w' ⟨rfl, rfl⟩
 refine ⟨_, rfl, Kd.R_of_own ?_ (fun _ _ => trivial), below_alloc (Below.refl _ _) _⟩
 have hl := Go.Lib.splitB_all a1 hc.2 0 _ a0 rfl
 have hc2 := Go.Lib.countB_le a1 hc.2 _ a0 (Nat.le_refl _)
 rw [hl]
 refine ⟨by simp [encs, hl], .inr ⟨w.heap.size, _, _, rfl, Nat.le_refl _, heap_alloc_new w _, Nat.le_refl _, by simp only [maxLen]; omega, by simp [hl], ?_⟩⟩
 rw [List.take_of_length_le (by simp [hl])]
 simp [encs]
def impl_within.f (a0 : Int) (a1 : Int) (a2 : Int) : Option (Bool) := if a0 ≥ a1 then (some (decide (a0 ≤ a2))) else (some false)
theorem impl_within.calls (a0 : Int) (a1 : Int) (a2 : Int) (r : Bool) (w : World) (h : impl_within.f a0 a1 a2 = some r) :
  Calls Tryd.prog 23 #[.int .i64 a0, .int .i64 a1, .int .i64 a2] w fun e w' => e = .returned (.bool r) ∧ Drawn0 w w' := by
 have H := h
 clear h
 unfold impl_within.f at H
 rcases iteP H with ⟨c4, H⟩ | ⟨c4, H⟩
 ·have c4b0 := decide_eq_true c4
  clear c4
  obtain rfl := Option.some.inj H
  go_enter Tryd.func23, Tryd.ntmps23
  go_wp2
  go_ret
  exact ⟨eqS, drE⟩
 ·have c4b0 := decide_eq_false c4
  clear c4
  obtain rfl := Option.some.inj H
  go_enter Tryd.func23, Tryd.ntmps23
  go_wp2
  go_ret
  exact ⟨eqS, drE⟩
def impl_ascents.l0 : Nat → List Int → Int → Int → Option (Int)
 | 0, _, _, _ => none
 | k + 1, x0, x3, x4 => if x4 < (x0.length : Int) then (if 0 ≤ (wrap64 (x4 - 1)) then (if (wrap64 (x4 - 1)) < (x0.length : Int) then (if 0 ≤ x4 then (if (rd x0 (wrap64 (x4 - 1))) < (rd x0 x4) then (impl_ascents.l0 k x0 (wrap64 (x3 + 1)) (wrap64 (x4 + 1))) else (impl_ascents.l0 k x0 x3 (wrap64 (x4 + 1)))) else (none)) else (none)) else (none)) else (some x3)
def impl_ascents.f (k : Nat) (l0 : List Int) : Option (Int) := impl_ascents.l0 k l0 0 1
theorem impl_ascents.mono_l : ∀ k, (∀ y0 y1 y2, LeO (impl_ascents.l0 k y0 y1 y2) (impl_ascents.l0 (k + 1) y0 y1 y2))
 | 0 => fun _ _ _ r h => by simp [impl_ascents.l0] at h
 | k + 1 => by
  have ih0 := impl_ascents.mono_l k
  ·intro y0 y1 y2
   unfold impl_ascents.l0
   repeat' (with_reducible first|apply ih0|apply LeO.refl|apply LeO.none|apply LeO.ite|apply LeO.bind|intro)
theorem impl_ascents.mono : ∀ a0 k, LeO (impl_ascents.f k a0) (impl_ascents.f (k + 1) a0) := by
 intro a0 k
 have ih0 := impl_ascents.mono_l k
 unfold impl_ascents.f
 repeat' (with_reducible first|apply ih0|apply LeO.refl|apply LeO.none|apply LeO.ite|apply LeO.bind|intro)
theorem impl_ascents.calls (k : Nat) (A0 : Option Addr) (c0 : Nat) (l0 : List Int) (r : Int) (w : World) (hr0 : Kd.C (Kd.int .i64) w A0 l0.length l0) (hc0 : l0.length ≤ c0) (h : impl_ascents.f k l0 = some r) :
  Calls Tryd.prog 24 #[.slice A0 l0.length c0] w fun e w' => e = .returned (.int .i64 r) ∧ Drawn0 w w' := by
 have HR0 := mkA hr0
 have HC0 := mkA hc0
 clear hr0 hc0
 have H := h
 clear h
 unfold impl_ascents.f at H
 have H' := mkA H
 clear H
 go_enter Tryd.func24, Tryd.ntmps24
 go_wp2
 repeat (go_quiet (fail); try go_wp2)
 go_loopg [3, 4] k (fun kq v3 v4 w' => ∃ (x3_1 : Int) (x4_1 : Int), v3 = .int .i64 x3_1 ∧ v4 = .int .i64 x4_1 ∧ Fc (impl_ascents.l0 kq l0 x3_1 x4_1 = some r) ∧ Fc (kq ≤ k) ∧ Drawn0 w w')
 case atStart => exact ⟨(0), (1), eqS, eqS, H', ⟨Nat.le_refl _⟩, by repeat (first | exact Drawn0.refl _ | apply Drawn0.step)⟩
 case round =>
  clear H'
  obtain ⟨x3_1, x4_1, rfl, rfl, HA, HK1, ⟨m1, rfl⟩⟩ := hrel
  cases gk with
  | zero => exact absurd HA.out (by simp [impl_ascents.l0])
  | succ k1 =>
   have H := HA.out
   clear HA
   simp only [impl_ascents.l0] at H
   rcases iteE H with ⟨c2b0, H⟩ | ⟨c2b0, H⟩
   ·obtain ⟨ji3, hji3⟩ : ∃ j_ : Int, (wrap64 (x4_1 - 1)) = j_ := ⟨_, rfl⟩
    first | rw [hji3] at H | simp only [hji3] at H
    have hji3w : (IntKind.i64.wrap (x4_1 - 1)) = ji3 := (i64_w _).trans hji3
    obtain ⟨c4b0, H⟩ := itND H
    obtain ⟨c5b0, H⟩ := itND H
    obtain ⟨c6b0, H⟩ := itND H
    rcases iteE H with ⟨c7b0, H⟩ | ⟨c7b0, H⟩
    ·have H' := mkA H
     clear H
     obtain ⟨p125, q125, ad125, e125, hx125_0⟩ := atI HR0.out (ji3)
     cases e125
     obtain ⟨p126, q126, ad126, e126, hx126_0⟩ := atI HR0.out x4_1
     obtain rfl : ad125 = ad126 := (by injection e126)
     go_wp2
     repeat (go_quiet (fail); try go_wp2)
     go_roundg k1
     case measure => have := HK1.out; omega
     case rel => exact ⟨(wrap64 (x3_1 + 1)), (wrap64 (x4_1 + 1)), eqS, eqS, H', ⟨by have := HK1.out; omega⟩, by repeat (first | exact Drawn0.refl _ | apply Drawn0.step)⟩
    ·have H' := mkA H
     clear H
     obtain ⟨p125, q125, ad125, e125, hx125_0⟩ := atI HR0.out (ji3)
     cases e125
     obtain ⟨p126, q126, ad126, e126, hx126_0⟩ := atI HR0.out x4_1
     obtain rfl : ad125 = ad126 := (by injection e126)
     go_wp2
     repeat (go_quiet (fail); try go_wp2)
     go_roundg k1
     case measure => have := HK1.out; omega
     case rel => exact ⟨(x3_1), (wrap64 (x4_1 + 1)), eqS, eqS, H', ⟨by have := HK1.out; omega⟩, by repeat (first | exact Drawn0.refl _ | apply Drawn0.step)⟩
   ·obtain rfl := Option.some.inj H
    go_wp2
    repeat (go_quiet (fail); try go_wp2)
    go_ret
    exact ⟨eqS, drE⟩
def impl_IsAscent.l0 : Nat → List Int → List Int → Int → Int → Option (Bool)
 | 0, _, _, _, _ => none
 | k + 1, x0, x8, x9, x10 => if x10 < x9 then (if 0 ≤ x10 then (if x10 < (x8.length : Int) then (if x10 = 0 then (if (rd x8 x10) = 0 then (if x10 > 0 then (if x10 ≤ (x0.length : Int) then ((impl_ascents.f k (x0.take (x10 : Int).toNat)).bind fun t129 => ((impl_within.f (rd x8 x10) 0 (wrap64 (t129 + 1))).bind fun t130 => (if t130 = true then (impl_IsAscent.l0 k x0 x8 x9 (wrap64 (x10 + 1))) else (some false)))) else (none)) else (impl_IsAscent.l0 k x0 x8 x9 (wrap64 (x10 + 1)))) else (some false)) else (if x10 > 0 then (if x10 ≤ (x0.length : Int) then ((impl_ascents.f k (x0.take (x10 : Int).toNat)).bind fun t132 => ((impl_within.f (rd x8 x10) 0 (wrap64 (t132 + 1))).bind fun t133 => (if t133 = true then (impl_IsAscent.l0 k x0 x8 x9 (wrap64 (x10 + 1))) else (some false)))) else (none)) else (impl_IsAscent.l0 k x0 x8 x9 (wrap64 (x10 + 1))))) else (none)) else (none)) else (some true)
def impl_IsAscent.f (k : Nat) (l0 : List Int) : Option (Bool) := if (l0.length : Int) > 12 then (some false) else (impl_IsAscent.l0 k l0 l0 (l0.length : Int) 0)
theorem impl_IsAscent.mono_l : ∀ k, (∀ y0 y1 y2 y3, LeO (impl_IsAscent.l0 k y0 y1 y2 y3) (impl_IsAscent.l0 (k + 1) y0 y1 y2 y3))
 | 0 => fun _ _ _ _ r h => by simp [impl_IsAscent.l0] at h
 | k + 1 => by
  have ih0 := impl_IsAscent.mono_l k
  ·intro y0 y1 y2 y3
   unfold impl_IsAscent.l0
   repeat' (with_reducible first|apply ih0|apply impl_ascents.mono|apply LeO.refl|apply LeO.none|apply LeO.ite|apply LeO.bind|intro)
theorem impl_IsAscent.mono : ∀ a0 k, LeO (impl_IsAscent.f k a0) (impl_IsAscent.f (k + 1) a0) := by
 intro a0 k
 have ih0 := impl_IsAscent.mono_l k
 unfold impl_IsAscent.f
 repeat' (with_reducible first|apply ih0|apply impl_ascents.mono|apply LeO.refl|apply LeO.none|apply LeO.ite|apply LeO.bind|intro)
theorem impl_IsAscent.calls (k : Nat) (A0 : Option Addr) (c0 : Nat) (l0 : List Int) (r : Bool) (w : World) (hr0 : Kd.C (Kd.int .i64) w A0 l0.length l0) (hc0 : l0.length ≤ c0) (h : impl_IsAscent.f k l0 = some r) :
  Calls Tryd.prog 15 #[.slice A0 l0.length c0] w fun e w' => e = .returned (.bool r) ∧ Drawn0 w w' := by
 have HR0 := mkA hr0
 have HC0 := mkA hc0
 clear hr0 hc0
 have H := h
 clear h
 unfold impl_IsAscent.f at H
 rcases iteP H with ⟨c2, H⟩ | ⟨c2, H⟩
 ·have c2b0 := decide_eq_true c2
  have c2b1 : decide (12 < l0.length) = true := decide_eq_true (by omega)
  clear c2
  obtain rfl := Option.some.inj H
  go_enter Tryd.func15, Tryd.ntmps15
  go_wp2
  go_ret
  exact ⟨eqS, drE⟩
 ·have c2b0 := decide_eq_false c2
  have c2b1 : decide (12 < l0.length) = false := decide_eq_false (by omega)
  clear c2
  have H' := mkA H
  clear H
  go_enter Tryd.func15, Tryd.ntmps15
  go_wp2
  go_loopg [10] k (fun kq v10 w' => ∃ (x10_1 : Int), v10 = .int .i64 x10_1 ∧ Fc (impl_IsAscent.l0 kq l0 l0 (l0.length : Int) x10_1 = some r) ∧ Fc (kq ≤ k) ∧ Drawn0 w w')
  case atStart => exact ⟨(0), eqS, H', ⟨Nat.le_refl _⟩, by repeat (first | exact Drawn0.refl _ | apply Drawn0.step)⟩
  case round =>
   clear H'
   try clear c2
   try clear c2b0
   try clear c2b1
   obtain ⟨x10_1, rfl, HA, HK1, ⟨m1, rfl⟩⟩ := hrel
   cases gk with
   | zero => exact absurd HA.out (by simp [impl_IsAscent.l0])
   | succ k1 =>
    have H := HA.out
    clear HA
    simp only [impl_IsAscent.l0] at H
    rcases iteE H with ⟨c3b0, H⟩ | ⟨c3b0, H⟩
    ·obtain ⟨c4b0, H⟩ := itND H
     obtain ⟨c5b0, H⟩ := itND H
     rcases iteP H with ⟨c6, H⟩ | ⟨c6, H⟩
     ·have c6b0 := beq_iff_eq.mpr c6
      have c6b1 := bne_eq_false_iff_eq.mpr c6
      clear c6
      rcases iteP H with ⟨c7, H⟩ | ⟨c7, H⟩
      ·have c7b0 := beq_iff_eq.mpr c7
       have c7b1 := bne_eq_false_iff_eq.mpr c7
       clear c7
       rcases iteP H with ⟨c8, H⟩ | ⟨c8, H⟩
       ·have c8b0 := decide_eq_true c8
        clear c8
        have c9b0 := eq_true (ofd : 0 ≤ x10_1)
        obtain ⟨c10b0, c10b1, H⟩ := itNQ H
        obtain ⟨t129, A11, H⟩ := obE H
        obtain ⟨t130, A12, H⟩ := obE H
        by_cases c13 : t130 = true
        ·subst c13
         replace H := ifT H
         have H' := mkA H
         clear H
         obtain ⟨p127, q127, ad127, e127, hx127_0⟩ := atI HR0.out x10_1
         cases e127
         obtain ⟨i014, hi014, _, hsz14, _⟩ := info_parts info3
         obtain ⟨hcut14, hA14, hC14⟩ := print_take_of (P := Tryd.prog) (Value.int .i64) 0 22 3 .i64 Tryd.underlying22 hi014 hsz14 (some ad127) c0 l0 x10_1 (ofd) (ofd) HC0.out
         have HR128 := mkA (Kd.C_of_reads (h1 := fun _ => rfl) (hA14 _ (Kd.reads_of_C HR0.out)))
         have HC128 := mkA hC14
         clear hA14 hC14 hi014 hsz14
         go_wp2_with (first | (go_at_call 24; refine calls_of_args (args' := #[.slice (some ad127) (l0.take (x10_1 : Int).toNat).length c0]) (by first | (rw [show (l0.take (x10_1 : Int).toNat).length = x10_1.toNat from (by rw [List.length_take]; have h_ : (x10_1 : Int) ≤ (l0.length : Int) := ofd; omega)] <;> rfl) | rfl) ?_; (with_reducible refine (impl_ascents.calls k1 _ _ (l0.take (x10_1 : Int).toNat) t129 _ ?s1 ?s2 A11.out).mono ?_); (case s1 => repeat (first | exact HR128.out | (with_reducible refine Kd.C_alloc ?_ _) | (with_reducible refine Kd.C_drewN ?_ _) | (with_reducible refine Kd.C_drew ?_))); (case s2 => exact HC128.out); rintro e w' ⟨rfl, ⟨nd, rfl⟩⟩) | (go_at_call 23; (with_reducible refine (impl_within.calls (rd l0 x10_1) 0 (wrap64 (t129 + 1)) true _ A12.out).mono ?_); rintro e w' ⟨rfl, ⟨nd, rfl⟩⟩))
         go_roundg k1
         case measure => have := HK1.out; omega
         case rel => exact ⟨(wrap64 (x10_1 + 1)), eqS, H', ⟨by have := HK1.out; omega⟩, by repeat (first | exact Drawn0.refl _ | apply Drawn0.step)⟩
        ·replace c13 := Bool.eq_false_iff.mpr c13
         subst c13
         replace H := ifF H
         obtain rfl := Option.some.inj H
         obtain ⟨p127, q127, ad127, e127, hx127_0⟩ := atI HR0.out x10_1
         cases e127
         obtain ⟨i015, hi015, _, hsz15, _⟩ := info_parts info3
         obtain ⟨hcut15, hA15, hC15⟩ := print_take_of (P := Tryd.prog) (Value.int .i64) 0 22 3 .i64 Tryd.underlying22 hi015 hsz15 (some ad127) c0 l0 x10_1 (ofd) (ofd) HC0.out
         have HR128 := mkA (Kd.C_of_reads (h1 := fun _ => rfl) (hA15 _ (Kd.reads_of_C HR0.out)))
         have HC128 := mkA hC15
         clear hA15 hC15 hi015 hsz15
         go_wp2_with (first | (go_at_call 24; refine calls_of_args (args' := #[.slice (some ad127) (l0.take (x10_1 : Int).toNat).length c0]) (by first | (rw [show (l0.take (x10_1 : Int).toNat).length = x10_1.toNat from (by rw [List.length_take]; have h_ : (x10_1 : Int) ≤ (l0.length : Int) := ofd; omega)] <;> rfl) | rfl) ?_; (with_reducible refine (impl_ascents.calls k1 _ _ (l0.take (x10_1 : Int).toNat) t129 _ ?s1 ?s2 A11.out).mono ?_); (case s1 => repeat (first | exact HR128.out | (with_reducible refine Kd.C_alloc ?_ _) | (with_reducible refine Kd.C_drewN ?_ _) | (with_reducible refine Kd.C_drew ?_))); (case s2 => exact HC128.out); rintro e w' ⟨rfl, ⟨nd, rfl⟩⟩) | (go_at_call 23; (with_reducible refine (impl_within.calls (rd l0 x10_1) 0 (wrap64 (t129 + 1)) false _ A12.out).mono ?_); rintro e w' ⟨rfl, ⟨nd, rfl⟩⟩))
         go_ret
         exact ⟨eqS, drE⟩
       ·have c8b0 := decide_eq_false c8
        clear c8
        have H' := mkA H
        clear H
        obtain ⟨p127, q127, ad127, e127, hx127_0⟩ := atI HR0.out x10_1
        cases e127
        go_wp2
        go_roundg k1
        case measure => have := HK1.out; omega
        case rel => exact ⟨(wrap64 (x10_1 + 1)), eqS, H', ⟨by have := HK1.out; omega⟩, by repeat (first | exact Drawn0.refl _ | apply Drawn0.step)⟩
      ·have c7b0 := beq_eq_false_iff_ne.mpr c7
       have c7b1 := bne_iff_ne.mpr c7
       obtain rfl := Option.some.inj H
       obtain ⟨p127, q127, ad127, e127, hx127_0⟩ := atI HR0.out x10_1
       cases e127
       go_wp2
       go_ret
       exact ⟨eqS, drE⟩
     ·have c6b0 := beq_eq_false_iff_ne.mpr c6
      have c6b1 := bne_iff_ne.mpr c6
      rcases iteP H with ⟨c16, H⟩ | ⟨c16, H⟩
      ·have c16b0 := decide_eq_true c16
       clear c16
       have c17b0 := eq_true (ofd : 0 ≤ x10_1)
       obtain ⟨c18b0, c18b1, H⟩ := itNQ H
       obtain ⟨t132, A19, H⟩ := obE H
       obtain ⟨t133, A20, H⟩ := obE H
       by_cases c21 : t133 = true
       ·subst c21
        replace H := ifT H
        have H' := mkA H
        clear H
        obtain ⟨p127, q127, ad127, e127, hx127_0⟩ := atI HR0.out x10_1
        cases e127
        obtain ⟨i022, hi022, _, hsz22, _⟩ := info_parts info3
        obtain ⟨hcut22, hA22, hC22⟩ := print_take_of (P := Tryd.prog) (Value.int .i64) 0 22 3 .i64 Tryd.underlying22 hi022 hsz22 (some ad127) c0 l0 x10_1 (ofd) (ofd) HC0.out
        have HR131 := mkA (Kd.C_of_reads (h1 := fun _ => rfl) (hA22 _ (Kd.reads_of_C HR0.out)))
        have HC131 := mkA hC22
        clear hA22 hC22 hi022 hsz22
        go_wp2_with (first | (go_at_call 24; refine calls_of_args (args' := #[.slice (some ad127) (l0.take (x10_1 : Int).toNat).length c0]) (by first | (rw [show (l0.take (x10_1 : Int).toNat).length = x10_1.toNat from (by rw [List.length_take]; have h_ : (x10_1 : Int) ≤ (l0.length : Int) := ofd; omega)] <;> rfl) | rfl) ?_; (with_reducible refine (impl_ascents.calls k1 _ _ (l0.take (x10_1 : Int).toNat) t132 _ ?s1 ?s2 A19.out).mono ?_); (case s1 => repeat (first | exact HR131.out | (with_reducible refine Kd.C_alloc ?_ _) | (with_reducible refine Kd.C_drewN ?_ _) | (with_reducible refine Kd.C_drew ?_))); (case s2 => exact HC131.out); rintro e w' ⟨rfl, ⟨nd, rfl⟩⟩) | (go_at_call 23; (with_reducible refine (impl_within.calls (rd l0 x10_1) 0 (wrap64 (t132 + 1)) true _ A20.out).mono ?_); rintro e w' ⟨rfl, ⟨nd, rfl⟩⟩))
        go_roundg k1
        case measure => have := HK1.out; omega
        case rel => exact ⟨(wrap64 (x10_1 + 1)), eqS, H', ⟨by have := HK1.out; omega⟩, by repeat (first | exact Drawn0.refl _ | apply Drawn0.step)⟩
       ·replace c21 := Bool.eq_false_iff.mpr c21
        subst c21
        replace H := ifF H
        obtain rfl := Option.some.inj H
        obtain ⟨p127, q127, ad127, e127, hx127_0⟩ := atI HR0.out x10_1
        cases e127
        obtain ⟨i023, hi023, _, hsz23, _⟩ := info_parts info3
        obtain ⟨hcut23, hA23, hC23⟩ := print_take_of (P := Tryd.prog) (Value.int .i64) 0 22 3 .i64 Tryd.underlying22 hi023 hsz23 (some ad127) c0 l0 x10_1 (ofd) (ofd) HC0.out
        have HR131 := mkA (Kd.C_of_reads (h1 := fun _ => rfl) (hA23 _ (Kd.reads_of_C HR0.out)))
        have HC131 := mkA hC23
        clear hA23 hC23 hi023 hsz23
        go_wp2_with (first | (go_at_call 24; refine calls_of_args (args' := #[.slice (some ad127) (l0.take (x10_1 : Int).toNat).length c0]) (by first | (rw [show (l0.take (x10_1 : Int).toNat).length = x10_1.toNat from (by rw [List.length_take]; have h_ : (x10_1 : Int) ≤ (l0.length : Int) := ofd; omega)] <;> rfl) | rfl) ?_; (with_reducible refine (impl_ascents.calls k1 _ _ (l0.take (x10_1 : Int).toNat) t132 _ ?s1 ?s2 A19.out).mono ?_); (case s1 => repeat (first | exact HR131.out | (with_reducible refine Kd.C_alloc ?_ _) | (with_reducible refine Kd.C_drewN ?_ _) | (with_reducible refine Kd.C_drew ?_))); (case s2 => exact HC131.out); rintro e w' ⟨rfl, ⟨nd, rfl⟩⟩) | (go_at_call 23; (with_reducible refine (impl_within.calls (rd l0 x10_1) 0 (wrap64 (t132 + 1)) false _ A20.out).mono ?_); rintro e w' ⟨rfl, ⟨nd, rfl⟩⟩))
        go_ret
        exact ⟨eqS, drE⟩
      ·have c16b0 := decide_eq_false c16
       clear c16
       have H' := mkA H
       clear H
       obtain ⟨p127, q127, ad127, e127, hx127_0⟩ := atI HR0.out x10_1
       cases e127
       go_wp2
       go_roundg k1
       case measure => have := HK1.out; omega
       case rel => exact ⟨(wrap64 (x10_1 + 1)), eqS, H', ⟨by have := HK1.out; omega⟩, by repeat (first | exact Drawn0.refl _ | apply Drawn0.step)⟩
    ·obtain rfl := Option.some.inj H
     go_wp2
     go_ret
     exact ⟨eqS, drE⟩
def strconv_Itoa_25.f (a0 : Int) : Option ByteArray := if 0 ≤ a0 ∧ a0 < 100 then some ⟨(Go.Lib.decDigits a0.toNat).toArray⟩ else none
theorem strconv_Itoa_25.calls (a0 : Int) (r : ByteArray) (w : World) (h : strconv_Itoa_25.f a0 = some r) :
  Calls Tryd.prog 25 #[.int .i64 a0] w fun e w' => e = .returned (.string r) ∧ Drawn0 w w' := by
 unfold strconv_Itoa_25.f at h
 split at h
 case isFalse => cases h
 case isTrue hc =>
 obtain rfl := Option.some.inj h
 obtain ⟨i, rfl⟩ : ∃ i : Nat, a0 = i := ⟨a0.toNat, by omega⟩
 refine (Tryd.strconv_Itoa_small i (by omega) w).mono ?_
 rintro e w' ⟨rfl, rfl⟩
 exact ⟨by rw [Int.toNat_natCast], Drawn0.refl _⟩
def strings_Join.f (l0 : List ByteArray) (a1 : ByteArray) : Option (ByteArray × List ByteArray) := if l0.length ≤ 140737488355328 ∧ (Go.Lib.join (l0.map (·.data.toList)) a1.data.toList).length ≤ 140737488355328 then some (⟨(Go.Lib.join (l0.map (·.data.toList)) a1.data.toList).toArray⟩, l0) else none
theorem strings_Join.calls (P0_ : Nat → Prop) (u9000_ : Value) (l0 : List ByteArray) (a1 : ByteArray) (r1 : ByteArray) (r2 : List ByteArray) (w0 w : World) (hB : Below w0.heap.size w0 w) (ho0 : Kd.R Kd.string 9 w w0.heap.size P0_ u9000_ l0) (h : strings_Join.f l0 a1 = some (r1, r2)) :
  Calls Tryd.prog 26 #[u9000_, .string a1] w fun e w' => e = .returned (.string r1) ∧ Kd.R Kd.string 9 w' w0.heap.size (fun k_ => (P0_ k_ ∨ w.heap.size ≤ k_)) u9000_ r2 ∧ Below w0.heap.size w0 w' ∧ Kept w w' (fun k_ => P0_ k_) := by
 unfold strings_Join.f at h
 split at h
 case isFalse => cases h
 case isTrue hc =>
 simp only [Option.some.injEq, Prod.mk.injEq] at h
 obtain ⟨rfl, rfl⟩ := h
 have key : Calls Tryd.prog 26 #[u9000_, .string a1] w fun e w' => e = .returned (.string ⟨(Go.Lib.join (l0.map (·.data.toList)) a1.data.toList).toArray⟩) ∧ Below w.heap.size w w' := by
  obtain ⟨A, c, e1⟩ := Kd.R_slice ho0
  subst e1
  obtain ⟨g1, g2, g3⟩ := Kd.R_reads' ho0
  by_cases hz : l0.length = 0
  ·have hn : l0 = [] := List.eq_nil_of_length_eq_zero hz
   subst hn
   refine (Tryd.strings_Join_none A c a1 w).mono ?_
   rintro e w' ⟨rfl, rfl⟩
   exact ⟨rfl, Below.refl _ _⟩
  ·obtain ⟨ad, ha, hcell⟩ := g3.2.2 (by omega)
   subst ha
   obtain ⟨g, rfl⟩ := Kd.R_head ho0
   have hcl : ∀ (j : Nat) x, l0[j]? = some x → w.cell? ⟨g, 0 + j, none⟩ = some (.string x) := by
    intro j x hx
    have hj : j < l0.length := (List.getElem?_eq_some_iff.1 hx).1
    obtain ⟨ad, e2, h2⟩ := Kd.at_string g3 (j : Int) (by omega) (by omega)
    cases e2
    have e3 : rdOf ByteArray.empty l0 (j : Int) = x := by simp [rdOf, hx, List.getD_eq_getElem?_getD]
    rw [e3, Int.toNat_natCast] at h2
    simpa [add_plain] using h2
   have hlt : g < w.heap.size := World.block_lt_of_cell? w _ (hcl 0 l0[0] (by simp))
   exact Tryd.strings_Join g 0 c l0 a1 w hcl hlt hc.1 g2 hc.2
 refine key.mono ?_
 rintro e w' ⟨rfl, hb⟩
 exact ⟨rfl, Kd.R_mono (Kd.R_below ho0 hb) (fun _ hk => .inl hk), below_step hB hb, Kept.of_below hb _⟩
end Go.Proofs.YtojappijhehlpaaDoor.Q
