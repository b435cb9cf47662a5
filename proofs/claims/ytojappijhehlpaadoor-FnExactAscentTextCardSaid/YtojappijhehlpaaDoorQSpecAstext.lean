-- printed by this project's own program (wip/mp/mp.py) over the kit's print, for this seat; Lean checks it
import Derived.Test.YtojappijhehlpaaDoorQx0
import Derived.Test.YtojappijhehlpaaDoorQSpecL1Num
namespace Go.Proofs.YtojappijhehlpaaDoor.Q
open Go.RowKit Go.Proofs.YtojappijhehlpaaDoorW.PrintWords Go.Proofs.YtojappijhehlpaaDoorW.PrintLast Go.Proofs.YtojappijhehlpaaDoorW.PrintMore
attribute [local go_sem] max2_int min2_int max_two min_two max_three min_three max_four min_four   -- for this text's walks alone
set_option linter.unusedVariables false
set_option maxHeartbeats 8000000
set_option maxRecDepth 100000
set_option linter.unusedSimpArgs false

/-! ### spec_asText: function 14 -/
def spec_asText.l0 : Nat → ByteArray → List Int → Int → Int → Option (ByteArray)
 | 0, _, _, _, _ => none
 | k + 1, x3, x6, x7, x8 => if x8 < x7 then (if 0 ≤ x8 then (if x8 < (x6.length : Int) then (if x8 > 0 then (if x3.size + 1 ≤ 9223372036854775807 then ((spec_l1Num.f k (rd x6 x8)).bind fun t116 => (if (x3 ++ (⟨#[44]⟩ : ByteArray)).size + t116.size ≤ 9223372036854775807 then (spec_asText.l0 k ((x3 ++ (⟨#[44]⟩ : ByteArray)) ++ t116) x6 x7 (wrap64 (x8 + 1))) else (none))) else (none)) else ((spec_l1Num.f k (rd x6 x8)).bind fun t117 => (if x3.size + t117.size ≤ 9223372036854775807 then (spec_asText.l0 k (x3 ++ t117) x6 x7 (wrap64 (x8 + 1))) else (none)))) else (none)) else (none)) else (some x3)
def spec_asText.f (k : Nat) (l0 : List Int) : Option (ByteArray) := spec_asText.l0 k (⟨#[]⟩ : ByteArray) l0 (l0.length : Int) 0
theorem spec_asText.mono_l : ∀ k, (∀ y0 y1 y2 y3, LeO (spec_asText.l0 k y0 y1 y2 y3) (spec_asText.l0 (k + 1) y0 y1 y2 y3))
 | 0 => fun _ _ _ _ r h => by simp [spec_asText.l0] at h
 | k + 1 => by
  have ih0 := spec_asText.mono_l k
  ·intro y0 y1 y2 y3
   unfold spec_asText.l0
   repeat' (with_reducible first|apply ih0|apply spec_l1Num.mono|apply LeO.refl|apply LeO.none|apply LeO.ite|apply LeO.bind|intro)
theorem spec_asText.mono : ∀ a0 k, LeO (spec_asText.f k a0) (spec_asText.f (k + 1) a0) := by
 intro a0 k
 have ih0 := spec_asText.mono_l k
 unfold spec_asText.f
 repeat' (with_reducible first|apply ih0|apply spec_l1Num.mono|apply LeO.refl|apply LeO.none|apply LeO.ite|apply LeO.bind|intro)
theorem spec_asText.calls (k : Nat) (A0 : Option Addr) (c0 : Nat) (l0 : List Int) (r : ByteArray) (w : World) (hr0 : Kd.C (Kd.int .i64) w A0 l0.length l0) (hc0 : l0.length ≤ c0) (h : spec_asText.f k l0 = some r) :
  Calls Tryd.prog 14 #[.slice A0 l0.length c0] w fun e w' => e = .returned (.string r) ∧ Below w.heap.size w w' := by
 have HR0 := mkA hr0
 have HC0 := mkA hc0
 clear hr0 hc0
 have HB := mkA (Below.refl w.heap.size w)
 have H := h
 clear h
 unfold spec_asText.f at H
 have H' := mkA H
 clear H
 go_enter Tryd.func14, Tryd.ntmps14
 go_wp2
 go_loopg [3, 8] k (fun kq v3 v8 w' => ∃ (x3_1 : ByteArray) (x8_1 : Int), v3 = .string x3_1 ∧ v8 = .int .i64 x8_1 ∧ Fc (spec_asText.l0 kq x3_1 l0 (l0.length : Int) x8_1 = some r) ∧ Fc (kq ≤ k) ∧ Fc (Below w.heap.size w w'))
 case atStart => exact ⟨((⟨#[]⟩ : ByteArray)), (0), eqS, eqS, H', ⟨Nat.le_refl _⟩, hbg HB⟩
 case round =>
  clear H'
  obtain ⟨x3_1, x8_1, rfl, rfl, HA, HK1, HB⟩ := hrel
  cases gk with
  | zero => exact absurd HA.out (by simp [spec_asText.l0])
  | succ k1 =>
   have H := HA.out
   clear HA
   simp only [spec_asText.l0] at H
   rcases iteE H with ⟨c2b0, H⟩ | ⟨c2b0, H⟩
   ·obtain ⟨c3b0, H⟩ := itND H
    obtain ⟨c4b0, H⟩ := itND H
    rcases iteP H with ⟨c5, H⟩ | ⟨c5, H⟩
    ·have c5b0 := decide_eq_true c5
     clear c5
     obtain ⟨c6, H⟩ := itNP H
     have c6b0 := eq_true c6
     have c6b1 := decide_eq_true c6
     try have c6b2 : (9223372036854775807 < x3_1.size + 1) = False := eq_false (Nat.not_lt.2 c6)
     obtain ⟨t116, A7, H⟩ := obE H
     obtain ⟨c8, H⟩ := itNP H
     have c8b0 := eq_true c8
     have c8b1 := decide_eq_true c8
     try have c8b2 : (9223372036854775807 < (x3_1 ++ (⟨#[44]⟩ : ByteArray)).size + t116.size) = False := eq_false (Nat.not_lt.2 c8)
     try have c8b2z : (9223372036854775807 < x3_1.size + 1 + t116.size) = False := eq_false (by have h_ := c8; rw [ByteArray.size_append] at h_; exact Nat.not_lt.2 h_)
     have H' := mkA H
     clear H
     obtain ⟨p115, q115, ad115, e115, hx115_0⟩ := atI HR0.out x8_1
     cases e115
     replace hx115_0 := (HB.out.cell (World.block_lt_of_cell? w _ hx115_0)).trans hx115_0
     go_wp2_with (first | ((with_reducible refine gate_callee (f := 22) rfl ?_); refine goesQ (some 19) Tryd.func22 #[.int .i64 (rd l0 x8_1)] ?_; (with_reducible refine (spec_l1Num.calls k1 (rd l0 x8_1) t116 _ A7.out).mono ?_); rintro e w9 ⟨rfl, hb⟩; refine ⟨_, rfl, ?_⟩; replace HB := bst HB hb; clear hb))
     go_roundg k1
     case measure => have := HK1.out; omega
     case rel => exact ⟨((x3_1 ++ (⟨#[44]⟩ : ByteArray)) ++ t116), (wrap64 (x8_1 + 1)), eqS, eqS, H', ⟨by have := HK1.out; omega⟩, hbg HB⟩
    ·have c5b0 := decide_eq_false c5
     clear c5
     obtain ⟨t117, A10, H⟩ := obE H
     obtain ⟨c11, H⟩ := itNP H
     have c11b0 := eq_true c11
     have c11b1 := decide_eq_true c11
     try have c11b2 : (9223372036854775807 < x3_1.size + t117.size) = False := eq_false (Nat.not_lt.2 c11)
     have H' := mkA H
     clear H
     obtain ⟨p115, q115, ad115, e115, hx115_0⟩ := atI HR0.out x8_1
     cases e115
     replace hx115_0 := (HB.out.cell (World.block_lt_of_cell? w _ hx115_0)).trans hx115_0
     go_wp2_with (first | ((with_reducible refine gate_callee (f := 22) rfl ?_); refine goesQ (some 19) Tryd.func22 #[.int .i64 (rd l0 x8_1)] ?_; (with_reducible refine (spec_l1Num.calls k1 (rd l0 x8_1) t117 _ A10.out).mono ?_); rintro e w12 ⟨rfl, hb⟩; refine ⟨_, rfl, ?_⟩; replace HB := bst HB hb; clear hb))
     go_roundg k1
     case measure => have := HK1.out; omega
     case rel => exact ⟨(x3_1 ++ t117), (wrap64 (x8_1 + 1)), eqS, eqS, H', ⟨by have := HK1.out; omega⟩, hbg HB⟩
   ·obtain rfl := Option.some.inj H
    go_wp2
    go_ret
    exact ⟨eqE, bel_g HB.out⟩

end Go.Proofs.YtojappijhehlpaaDoor.Q
