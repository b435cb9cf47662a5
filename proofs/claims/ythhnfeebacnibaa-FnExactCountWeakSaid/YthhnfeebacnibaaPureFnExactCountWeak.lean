/- CountWeak equals the reference for every number: inside 0..10 the two are reckoned, outside both refuse. Conditions: none. -/
import Derived.Test.YthhnfeebacnibaaPFnExactCountWeakx1
namespace Go.Proofs.Ythhnfeebacnibaa.Pure
open Go.RowKit Go.Proofs.Ythhnfeebacnibaa.PFnExactCountWeak Go.Proofs.YthhnfeebacnibaaW.PrintWords Go.Proofs.YthhnfeebacnibaaW.PrintLast

theorem FnExactCountWeak : laws_FnExactCountWeak.Pure := by
  intro a hw
  refine ⟨100, ?_⟩
  by_cases h0 : 0 ≤ a
  · by_cases h1 : a ≤ 10
    · have h : a = 0 ∨ a = 1 ∨ a = 2 ∨ a = 3 ∨ a = 4 ∨ a = 5 ∨ a = 6 ∨ a = 7 ∨ a = 8 ∨ a = 9 ∨ a = 10 := by omega
      rcases h with rfl | rfl | rfl | rfl | rfl | rfl | rfl | rfl | rfl | rfl | rfl <;> decide +kernel
    · have e : spec_l1In.f a 0 10 = some false := by unfold spec_l1In.f; rw [if_pos h0, decide_eq_false h1]
      have e' : impl_within.f a 0 10 = some false := by unfold impl_within.f; rw [if_pos h0, decide_eq_false h1]
      unfold laws_FnExactCountWeak.f spec_CountWeak.f impl_CountWeak.f
      rw [e, e']; rfl
  · have e : spec_l1In.f a 0 10 = some false := by unfold spec_l1In.f; rw [if_neg h0]
    have e' : impl_within.f a 0 10 = some false := by unfold impl_within.f; rw [if_neg h0]
    unfold laws_FnExactCountWeak.f spec_CountWeak.f impl_CountWeak.f
    rw [e, e']; rfl

end Go.Proofs.Ythhnfeebacnibaa.Pure
