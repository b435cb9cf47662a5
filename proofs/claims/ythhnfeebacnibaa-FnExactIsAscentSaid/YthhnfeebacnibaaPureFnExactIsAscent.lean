/- IsAscent answers what the reference answers, for every list of at most 2^20 numbers (longer ones the statement lets pass). Conditions: none. -/
import Derived.Test.YthhnfeebacnibaaQLawsFnexactisascent
import Derived.Test.YthhnfeebacnibaaQSpecIsascent
import Derived.Test.YthhnfeebacnibaaXCopies
import Derived.Test.YthhnfeebacnibaaXAscent
namespace Go.Proofs.Ythhnfeebacnibaa.Pure
open Go.RowKit Go.Proofs.Ythhnfeebacnibaa.Q Go.Proofs.YthhnfeebacnibaaW.PrintWords Go.Proofs.YthhnfeebacnibaaW.PrintLast
set_option linter.unusedVariables false
set_option linter.unusedSimpArgs false

theorem FnExactIsAscent : laws_FnExactIsAscent.Pure := by
  intro l h1 h2 h3
  refine Ev.at1 ?_
  unfold laws_FnExactIsAscent.f spec_IsAscent.f
  by_cases hb : (l.length : Int) > 1048576
  · exact Ev.pos hb (Ev.ret rfl)
  · have hl : l.length ≤ 1048576 := by omega
    refine Ev.neg hb (Ev.bind (toIntS l hl) (Ev.bind (Ev.bind (good_spec l) (Ev.ret rfl)) (Ev.bind (toIntS l hl) (Ev.bind (isAscent_impl l) ?_))))
    refine Ev.neg (by simp) (Ev.bind (toIntS l hl) (Ev.bind (eqIntS_same l hl) (Ev.pos rfl (Ev.ret rfl))))

end Go.Proofs.Ythhnfeebacnibaa.Pure
