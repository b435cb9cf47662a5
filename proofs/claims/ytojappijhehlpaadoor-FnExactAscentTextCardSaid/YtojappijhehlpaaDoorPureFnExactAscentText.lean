/- AscentText answers what the reference answers, for every list of at most 2^20 numbers (longer ones the statement lets pass). Condition: the listed variables, tied to the program's text by the card. -/
import Derived.Test.YtojappijhehlpaaDoorQImplAscenttext
import Derived.Test.YtojappijhehlpaaDoorQLawsFnexactascenttext
import Derived.Test.YtojappijhehlpaaDoorQSpecAscenttext
import Derived.Test.YtojappijhehlpaaDoorXCopies
import Derived.Test.YtojappijhehlpaaDoorXAsctext
namespace Go.Proofs.YtojappijhehlpaaDoor.Pure
open Go.RowKit Go.Proofs.YtojappijhehlpaaDoor.Q Go.Proofs.YtojappijhehlpaaDoorW.PrintWords Go.Proofs.YtojappijhehlpaaDoorW.PrintLast
set_option linter.unusedVariables false
set_option linter.unusedSimpArgs false

theorem FnExactAscentText (l : List Int) (_ : l.length ≤ maxLen) (_ : ∀ x ∈ l, (Lit.int .i64 x).wf = true) : ∃ k, laws_FnExactAscentText.f k l = some true := by
 refine Ev.at1 ?_
 unfold laws_FnExactAscentText.f
 by_cases hb : (l.length : Int) > 1048576
 ·exact Ev.pos hb (Ev.ret rfl)
 have hl : l.length ≤ 1048576 := by omega
 obtain ⟨t, b, hi, hs⟩ : ∃ t b, Ev (fun k => impl_AscentText.f k l) (t, b) ∧ Ev (fun k => spec_AscentText.f k l) (t, b) := by
  unfold impl_AscentText.f spec_AscentText.f
  by_cases h : isAsc l = true
  ·have hp := asc_short h
   exact ⟨jt l, true, Ev.bind (isAscent_impl l) (Ev.pos h (Ev.bind (itext_ev hp) (Ev.ret rfl))), Ev.bind (good_spec l) (Ev.pos h (Ev.bind (asText_ev hp) (Ev.ret rfl)))⟩
  ·exact ⟨⟨#[]⟩, false, Ev.bind (isAscent_impl l) (Ev.neg h (Ev.ret rfl)), Ev.bind (good_spec l) (Ev.neg h (Ev.ret rfl))⟩
 refine Ev.neg hb (Ev.bind (toIntS l hl) (Ev.bind hs (Ev.bind (toIntS l hl) (Ev.bind hi (Ev.pos rfl (Ev.shift ?_))))))
 simp only [laws_FnExactAscentText.j0]
 exact Ev.neg (by simp) (Ev.bind (toIntS l hl) (Ev.bind (eqIntS_same l hl) (Ev.pos rfl (Ev.ret rfl))))

end Go.Proofs.YtojappijhehlpaaDoor.Pure
