-- printed by this project's own program (wip/mp/mp.py) over the kit's print, for this seat; Lean checks it
import Derived.Test.YtojappijhehlpaaDoorQx0
namespace Go.Proofs.YtojappijhehlpaaDoor.Q
open Go.RowKit Go.Proofs.YtojappijhehlpaaDoorW.PrintWords Go.Proofs.YtojappijhehlpaaDoorW.PrintLast Go.Proofs.YtojappijhehlpaaDoorW.PrintMore
attribute [local go_sem] max2_int min2_int max_two min_two max_three min_three max_four min_four   -- for this text's walks alone
set_option linter.unusedVariables false
set_option maxHeartbeats 8000000
set_option maxRecDepth 100000
set_option linter.unusedSimpArgs false

/-! ### bits_TrailingZeros64: function 74 -/
-- the table of a 64 bit number's last set bit, as the variable holds it
def dbtab : List Int := [0, 1, 56, 2, 57, 49, 28, 3, 61, 58, 42, 50, 38, 29, 17, 4, 62, 47, 59, 36, 45, 43, 51, 22, 53, 39, 33, 30, 24, 18, 12, 5, 63, 55, 48, 27, 60, 41, 37, 16, 46, 35, 44, 21, 52, 32, 23, 11, 54, 26, 40, 15, 34, 20, 31, 10, 25, 14, 19, 9, 13, 8, 7, 6]
/-- The variable holds its table. -/
def Tab (w : World) : Prop := 7 < w.heap.size ∧ ∀ i : Nat, i < 64 → w.cell? ⟨7, i, none⟩ = some (.int .u8 (dbtab.getD i 0))
theorem Tab.below {w W : World} (h : Tab w) (hb : Below w.heap.size w W) : Tab W := ⟨Nat.lt_of_lt_of_le h.1 hb.size, fun i hi => (hb.cell h.1).trans (h.2 i hi)⟩
theorem Tab.below' {w W : World} (hb : Below w.heap.size w W) (h : Tab w) : Tab W := h.below hb
theorem Tab.drewN {w : World} (h : Tab w) (m : Nat) : Tab (w.drewN m) := h.below (pw_below_drewN (Below.refl _ _) m)
/-- where the table tells a number's last set bit -/
def tzIdx (x : Int) : Int := IntKind.u64.wrap (Go.bits .and .u64 x (IntKind.u64.wrap (-x)) * 285870213051353865) / 288230376151711744
theorem tzIdx_range (x : Int) : 0 ≤ tzIdx x ∧ tzIdx x < 64 := by
 unfold tzIdx
 have : ∀ y : Int, 0 ≤ IntKind.u64.wrap y ∧ IntKind.u64.wrap y < 18446744073709551616 := by
  intro y; simp [IntKind.wrap, IntKind.signed, IntKind.bits]; omega
 have := this (Go.bits .and .u64 x (IntKind.u64.wrap (-x)) * 285870213051353865)
 omega
def bits_TrailingZeros64.f (a0 : Int) : Option Int := some (if a0 = 0 then 64 else wrap64 (dbtab.getD (tzIdx a0).toNat 0))
set_option maxHeartbeats 8000000 in
theorem bits_TrailingZeros64.calls (a0 : Int) (r : Int) (w : World) (hG : Tab w) (h : bits_TrailingZeros64.f a0 = some r) :
  Calls Tryd.prog 74 #[.int .u64 a0] w fun e w' => e = .returned (.int .i64 r) ∧ Drawn0 w w' := by
 obtain rfl := Option.some.inj h
 by_cases h0 : a0 = 0
 ·subst h0
  go_enter Tryd.func74, Tryd.ntmps74
  go_wp2
  go_ret
  exact ⟨rfl, Drawn0.refl _⟩
 ·rw [if_neg h0]
  have c1 : (a0 == 0) = false := beq_eq_false_iff_ne.mpr h0
  have hp := tzIdx_range a0
  have hx := hG.2 (tzIdx a0).toNat (by omega)
  unfold tzIdx at hp hx ⊢
  have hp1 := eq_true hp.1
  have hp2 := eq_true hp.2
  clear hp h hG h0
  go_enter Tryd.func74, Tryd.ntmps74
  go_wp2
  go_ret
  exact ⟨rfl, Drawn0.refl _⟩


end Go.Proofs.YtojappijhehlpaaDoor.Q
