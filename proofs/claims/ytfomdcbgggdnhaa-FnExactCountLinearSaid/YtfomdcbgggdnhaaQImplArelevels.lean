-- printed by this project's own program (wip/mp/mp.py) over the kit's print, for this seat; Lean checks it
import Derived.Test.YtfomdcbgggdnhaaQx0
import Derived.Test.YtfomdcbgggdnhaaQImplDifferent
namespace Go.Proofs.Ytfomdcbgggdnhaa.Q
open Go.RowKit Go.Proofs.YtfomdcbgggdnhaaW.PrintWords Go.Proofs.YtfomdcbgggdnhaaW.PrintLast Go.Proofs.YtfomdcbgggdnhaaW.PrintMore
attribute [local go_sem] max2_int min2_int max_two min_two max_three min_three max_four min_four   -- for this text's walks alone
set_option linter.unusedVariables false
set_option maxHeartbeats 8000000
set_option maxRecDepth 100000
set_option linter.unusedSimpArgs false

/-! ### impl_AreLevels: function 9 -/
def impl_AreLevels.l0 : Nat → List Int → List Int → Int → Int → Option (Bool)
 | 0, _, _, _, _ => none
 | k + 1, x0, x6, x7, x8 => if x8 < x7 then (if 0 ≤ x8 then (if x8 < (x6.length : Int) then (if (rd x6 x8) = x8 then (impl_AreLevels.l0 k x0 x6 x7 (wrap64 (x8 + 1))) else (some false)) else (none)) else (none)) else (some (decide ((x0.length : Int) ≤ 10)))
def impl_AreLevels.f (k : Nat) (l0 : List Int) : Option (Bool) := (impl_different.f l0).bind fun t255 => (impl_AreLevels.l0 k l0 t255 (t255.length : Int) 0)
theorem impl_AreLevels.mono_l : ∀ k, (∀ y0 y1 y2 y3, LeO (impl_AreLevels.l0 k y0 y1 y2 y3) (impl_AreLevels.l0 (k + 1) y0 y1 y2 y3))
 | 0 => fun _ _ _ _ r h => by simp [impl_AreLevels.l0] at h
 | k + 1 => by
  have ih0 := impl_AreLevels.mono_l k
  ·intro y0 y1 y2 y3
   unfold impl_AreLevels.l0
   repeat' (with_reducible first|apply ih0|apply LeO.refl|apply LeO.none|apply LeO.ite|apply LeO.bind|intro)
theorem impl_AreLevels.mono : ∀ a0 k, LeO (impl_AreLevels.f k a0) (impl_AreLevels.f (k + 1) a0) := by
 intro a0 k
 have ih0 := impl_AreLevels.mono_l k
 unfold impl_AreLevels.f
 repeat' (with_reducible first|apply ih0|apply LeO.refl|apply LeO.none|apply LeO.ite|apply LeO.bind|intro)
theorem impl_AreLevels.calls (k : Nat) (A0 : Option Addr) (c0 : Nat) (l0 : List Int) (r : Bool) (w : World) (hr0 : Kd.C (Kd.int .i64) w A0 l0.length l0) (hc0 : l0.length ≤ c0) (h : impl_AreLevels.f k l0 = some r) :
  Calls Try.prog 9 #[.slice A0 l0.length c0] w fun e w' => e = .returned (.bool r) ∧ Below w.heap.size w w' := by
 have HR0 := mkA hr0
 have HC0 := mkA hc0
 clear hr0 hc0
 have HB := mkA (Below.refl w.heap.size w)
 have H := h
 clear h
 unfold impl_AreLevels.f at H
 obtain ⟨t255, A2, H⟩ := obE H
 have H' := mkA H
 clear H
 go_enter Try.func9, Try.ntmps9
 go_wp2_with (first | ((with_reducible refine gate_callee (f := 12) rfl ?_); refine goesQ (some 6) Try.func12 #[.slice A0 l0.length c0] ?_; (with_reducible refine (impl_different.calls _ _ l0 t255 _ ?s1 ?s2 A2.out).mono ?_); (case s1 => repeat (first | exact HR0.out | (with_reducible refine Kd.C_alloc ?_ _) | (with_reducible refine Kd.C_drewN ?_ _) | (with_reducible refine Kd.C_drew ?_))); (case s2 => exact HC0.out); rintro e w3 ⟨v256, rfl, ho0, hb⟩; refine ⟨_, rfl, ?_⟩; have HO257 := rLo ho0 HB; replace HB := bst HB hb; clear hb ho0; obtain ⟨Ao4, co4, rfl⟩ := Kd.R_slice HO257.out))
 go_loopg [8] k (fun kq v8 w' => ∃ (x8_1 : Int), v8 = .int .i64 x8_1 ∧ Fc (impl_AreLevels.l0 kq l0 t255 (t255.length : Int) x8_1 = some r) ∧ Fc (kq ≤ k) ∧ Fc (Kd.R (Kd.int .i64) 3 w' w.heap.size (fun _ => True) (.slice Ao4 t255.length co4) t255) ∧ Fc (Below w.heap.size w w'))
 case atStart => exact ⟨(0), eqS, H', ⟨Nat.le_refl _⟩, rg HO257, hbg HB⟩
 case round =>
  clear H'
  obtain ⟨x8_1, rfl, HA, HK1, HO_6, HB⟩ := hrel
  cases gk with
  | zero => exact absurd HA.out (by simp [impl_AreLevels.l0])
  | succ k1 =>
   have H := HA.out
   clear HA
   simp only [impl_AreLevels.l0] at H
   rcases iteE H with ⟨c5b0, H⟩ | ⟨c5b0, H⟩
   ·obtain ⟨c6b0, H⟩ := itND H
    obtain ⟨c7b0, H⟩ := itND H
    rcases iteP H with ⟨c8, H⟩ | ⟨c8, H⟩
    ·have c8b0 := beq_iff_eq.mpr c8
     have c8b1 := bne_eq_false_iff_eq.mpr c8
     clear c8
     have H' := mkA H
     clear H
     obtain ⟨p258, q258, ad258, e258, hx258_0⟩ := atI (Kd.R_reads' HO_6.out).2.2 x8_1
     cases e258
     go_wp2
     go_roundg k1
     case measure => have := HK1.out; omega
     case rel => exact ⟨(wrap64 (x8_1 + 1)), eqS, H', ⟨by have := HK1.out; omega⟩, rg HO_6, hbg HB⟩
    ·have c8b0 := beq_eq_false_iff_ne.mpr c8
     have c8b1 := bne_iff_ne.mpr c8
     obtain rfl := Option.some.inj H
     obtain ⟨p258, q258, ad258, e258, hx258_0⟩ := atI (Kd.R_reads' HO_6.out).2.2 x8_1
     cases e258
     go_wp2
     go_ret
     exact ⟨eqE, bel_g HB.out⟩
   ·obtain rfl := Option.some.inj H
    go_wp2
    go_ret
    exact ⟨eqE, bel_g HB.out⟩

end Go.Proofs.Ytfomdcbgggdnhaa.Q
