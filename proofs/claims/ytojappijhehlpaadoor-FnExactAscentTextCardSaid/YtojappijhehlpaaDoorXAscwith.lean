import Derived.Test.YtojappijhehlpaaDoorQImplWithin
import Derived.Test.YtojappijhehlpaaDoorXAscgo
namespace Go.Proofs.YtojappijhehlpaaDoor.Pure
open Go.RowKit Go.Proofs.YtojappijhehlpaaDoor.Q Go.Proofs.YtojappijhehlpaaDoorW.PrintWords Go.Proofs.YtojappijhehlpaaDoorW.PrintLast
set_option linter.unusedVariables false
set_option linter.unusedSimpArgs false

theorem drop_rd' (l : List Int) (i : Nat) (h : i < l.length) : l.drop i = rd l (i : Int) :: l.drop (i + 1) := by
 rw [rd_lt l i h]; exact List.drop_eq_getElem_cons h
theorem findK_range (f : Int → Int) (hf : ∀ i, 0 ≤ i → 0 ≤ f i) : ∀ (d : Nat) (k r : Int), 0 ≤ k → 0 ≤ r → r + sumTo f k.toNat < sumTo f (k.toNat + d + 1) →
  k ≤ (findK f d k r).1 ∧ (findK f d k r).1 ≤ k + d ∧ 0 ≤ (findK f d k r).2 ∧ (findK f d k r).2 < f (findK f d k r).1
 | 0, k, r, h0, hr, h => by
  simp only [findK, Nat.add_zero, sumTo] at h ⊢
  rw [show ((k.toNat : Nat) : Int) = k by omega] at h
  omega
 | d + 1, k, r, h0, hr, h => by
  simp only [findK]
  by_cases hc : r < f k
  ·rw [if_pos hc]; exact ⟨by omega, by simp; omega, hr, hc⟩
  ·rw [if_neg hc]
   have ih := findK_range f hf d (k + 1) (r - f k) (by omega) (by omega) (by
    rw [show (k + 1).toNat = k.toNat + 1 by omega, show k.toNat + 1 + d + 1 = k.toNat + (d + 1) + 1 by omega]
    simp only [sumTo] at h ⊢
    rw [show ((k.toNat : Nat) : Int) = k by omega]; omega)
   omega
theorem impl_in' (a b c : Int) : impl_within.f a b c = some (decide (b ≤ a ∧ a ≤ c)) := impl_in a b c
/-- what AscentWith answers -/
def withR (n r : Int) : List Int × Bool := if (0 ≤ n ∧ n ≤ 12) ∧ 0 ≤ r ∧ r < wys n.toNat (-1) 0 then (unrank n.toNat (-1) 0 r, true) else ([], false)

end Go.Proofs.YtojappijhehlpaaDoor.Pure
