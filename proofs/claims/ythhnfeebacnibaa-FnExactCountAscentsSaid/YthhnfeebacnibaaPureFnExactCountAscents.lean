/- CountAscents answers what the reference answers, for every number. Conditions: none. -/
import Derived.Test.YthhnfeebacnibaaQImplCountascents
import Derived.Test.YthhnfeebacnibaaQImplWithin
import Derived.Test.YthhnfeebacnibaaQLawsFnexactcountascents
import Derived.Test.YthhnfeebacnibaaQSpecCountascents
import Derived.Test.YthhnfeebacnibaaXAsccount
namespace Go.Proofs.Ythhnfeebacnibaa.Pure
open Go.RowKit Go.Proofs.Ythhnfeebacnibaa.Q Go.Proofs.YthhnfeebacnibaaW.PrintWords Go.Proofs.YthhnfeebacnibaaW.PrintLast
set_option linter.unusedVariables false
set_option linter.unusedSimpArgs false

theorem FnExactCountAscents : laws_FnExactCountAscents.Pure := by
  intro a hw
  refine Ev.at1 ?_
  unfold laws_FnExactCountAscents.f spec_CountAscents.f impl_CountAscents.f
  by_cases h : 0 ≤ a ∧ a ≤ 12
  · obtain ⟨n, rfl⟩ : ∃ n : Nat, a = n := ⟨a.toNat, by omega⟩
    refine Ev.bind (Ev.bindc (spec_in _ _ _) (Ev.pos (by simpa using h) (Ev.bind (all_ev (by omega)) (Ev.ret rfl)))) ?_
    refine Ev.bindc (a := (impl_within.f (n : Int) 0 12).bind _) (x := (wys n (-1) 0, true)) ?_ (Ev.pos rfl (Ev.neg (by simp) (Ev.ret rfl)))
    rw [impl_in, Option.bind_some, if_pos (by simpa using h), ways_f (by omega)]; rfl
  · refine Ev.bind (Ev.bindc (spec_in _ _ _) (Ev.neg (by simpa using h) (Ev.ret rfl))) ?_
    refine Ev.bindc (a := (impl_within.f a 0 12).bind _) (x := (0, false)) ?_ (Ev.pos rfl (Ev.neg (by simp) (Ev.ret rfl)))
    rw [impl_in, Option.bind_some, if_neg (by simpa using h)]

end Go.Proofs.Ythhnfeebacnibaa.Pure
