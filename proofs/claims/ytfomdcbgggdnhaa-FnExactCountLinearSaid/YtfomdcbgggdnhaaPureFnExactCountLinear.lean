/- CountLinear answers what the reference answers, for every list of at most 2^20 numbers (longer ones the statement lets pass). Conditions: none. -/
import Derived.Test.YtfomdcbgggdnhaaQLawsFnexactcountlinear
import Derived.Test.YtfomdcbgggdnhaaXCopies
import Derived.Test.YtfomdcbgggdnhaaXLinear
namespace Go.Proofs.Ytfomdcbgggdnhaa.Pure
open Go.RowKit Go.Proofs.Ytfomdcbgggdnhaa.Q Go.Proofs.YtfomdcbgggdnhaaW.PrintWords Go.Proofs.YtfomdcbgggdnhaaW.PrintLast
set_option linter.unusedVariables false
set_option linter.unusedSimpArgs false

theorem FnExactCountLinear : laws_FnExactCountLinear.Pure := by
 intro l h1 h2 h3
 refine Ev.at1 ?_
 unfold laws_FnExactCountLinear.f
 by_cases hb : (l.length : Int) > 1048576
 ·exact Ev.pos hb (Ev.ret rfl)
 have hl : l.length ≤ 1048576 := by omega
 obtain ⟨⟨x, b⟩, hi, hs⟩ := CountLinear_both l hl
 refine Ev.neg hb (Ev.bind (toIntS l hl) (Ev.bind hs (Ev.bind (toIntS l hl) (Ev.bind hi (Ev.pos rfl (Ev.shift ?_))))))
 simp only [laws_FnExactCountLinear.j0]
 exact Ev.neg (by simp) (Ev.bind (toIntS l hl) (Ev.bind (eqIntS_same l hl) (Ev.pos rfl (Ev.ret rfl))))

end Go.Proofs.Ytfomdcbgggdnhaa.Pure
