import Derived.Test.YtfomdcbgggdnhaaQSpecL1In
import Derived.Test.YtfomdcbgggdnhaaXBase
namespace Go.Proofs.Ytfomdcbgggdnhaa.Pure
open Go.RowKit Go.Proofs.Ytfomdcbgggdnhaa.Q Go.Proofs.YtfomdcbgggdnhaaW.PrintWords Go.Proofs.YtfomdcbgggdnhaaW.PrintLast
set_option linter.unusedVariables false
set_option linter.unusedSimpArgs false

theorem spec_in (a b c : Int) : spec_l1In.f a b c = some (decide (b ≤ a ∧ a ≤ c)) := by
 unfold spec_l1In.f
 by_cases h : a ≥ b
 ·rw [if_pos h]; by_cases h2 : a ≤ c <;> simp [h2] <;> omega
 ·rw [if_neg h]; simp; omega
theorem drop_rd (l : List Int) (i : Nat) (h : i < l.length) : l.drop i = rd l (i : Int) :: l.drop (i + 1) := by
 rw [rd_lt l i h]; exact List.drop_eq_getElem_cons h

end Go.Proofs.Ytfomdcbgggdnhaa.Pure
