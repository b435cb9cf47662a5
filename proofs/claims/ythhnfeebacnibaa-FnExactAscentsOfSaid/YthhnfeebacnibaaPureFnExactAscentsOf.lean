/- AscentsOf answers what the reference answers, for every list of at most 2^20 numbers (longer ones the statement lets pass). Conditions: none. -/
import Derived.Test.YthhnfeebacnibaaQImplAscentsof
import Derived.Test.YthhnfeebacnibaaQLawsFnexactascentsof
import Derived.Test.YthhnfeebacnibaaQSpecAscentsof
import Derived.Test.YthhnfeebacnibaaXCopies
import Derived.Test.YthhnfeebacnibaaXAscent
namespace Go.Proofs.Ythhnfeebacnibaa.Pure
open Go.RowKit Go.Proofs.Ythhnfeebacnibaa.Q Go.Proofs.YthhnfeebacnibaaW.PrintWords Go.Proofs.YthhnfeebacnibaaW.PrintLast
set_option linter.unusedVariables false
set_option linter.unusedSimpArgs false

theorem ascentsOf_spec (l : List Int) : Ev (fun k => spec_AscentsOf.f k l) (if isAsc l then (ascUpto l l.length, true) else (0, false)) := by
  unfold spec_AscentsOf.f
  refine Ev.bind (good_spec l) ?_
  by_cases h : isAsc l = true
  · rw [if_pos h]; exact Ev.pos h (Ev.bind (ascents_spec l (by have := isAsc_len h; omega)) (Ev.ret rfl))
  · rw [if_neg h]; exact Ev.neg h (Ev.ret rfl)
theorem ascentsOf_impl (l : List Int) : Ev (fun k => impl_AscentsOf.f k l) (if isAsc l then (ascUpto l l.length, true) else (0, false)) := by
  unfold impl_AscentsOf.f
  refine Ev.bind (isAscent_impl l) ?_
  by_cases h : isAsc l = true
  · rw [if_pos h]; exact Ev.pos h (Ev.bind (ascents_impl l (by have := isAsc_len h; omega)) (Ev.ret rfl))
  · rw [if_neg h]; exact Ev.neg h (Ev.ret rfl)
theorem FnExactAscentsOf : laws_FnExactAscentsOf.Pure := by
  intro l h1 h2 h3
  refine Ev.at1 ?_
  unfold laws_FnExactAscentsOf.f
  by_cases hb : (l.length : Int) > 1048576
  · exact Ev.pos hb (Ev.ret rfl)
  · have hl : l.length ≤ 1048576 := by omega
    refine Ev.neg hb (Ev.bind (toIntS l hl) (Ev.bind (ascentsOf_spec l) (Ev.bind (toIntS l hl) (Ev.bind (ascentsOf_impl l) ?_))))
    refine Ev.pos rfl ?_
    refine Ev.shift ?_
    simp only [laws_FnExactAscentsOf.j0]
    exact Ev.neg (by simp) (Ev.bind (toIntS l hl) (Ev.bind (eqIntS_same l hl) (Ev.pos rfl (Ev.ret rfl))))

end Go.Proofs.Ythhnfeebacnibaa.Pure
