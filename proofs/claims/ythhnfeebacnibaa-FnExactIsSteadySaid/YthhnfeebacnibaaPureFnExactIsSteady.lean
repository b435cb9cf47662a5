/- IsSteady answers what the reference answers, for every list of at most 2^20 numbers (longer ones the statement lets pass). Conditions: none. -/
import Derived.Test.YthhnfeebacnibaaQImplIssteady
import Derived.Test.YthhnfeebacnibaaQLawsFnexactissteady
import Derived.Test.YthhnfeebacnibaaQSpecIssteady
import Derived.Test.YthhnfeebacnibaaXCopies
import Derived.Test.YthhnfeebacnibaaXAscent
import Derived.Test.YthhnfeebacnibaaXModify
import Derived.Test.YthhnfeebacnibaaXEqual
namespace Go.Proofs.Ythhnfeebacnibaa.Pure
open Go.RowKit Go.Proofs.Ythhnfeebacnibaa.Q Go.Proofs.YthhnfeebacnibaaW.PrintWords Go.Proofs.YthhnfeebacnibaaW.PrintLast
set_option linter.unusedVariables false
set_option linter.unusedSimpArgs false

theorem steady_both (l : List Int) : ∃ r, Ev (fun k => impl_IsSteady.f k l) r ∧ Ev (fun k => spec_IsSteady.f k l) r := by
  unfold impl_IsSteady.f spec_IsSteady.f
  by_cases h : isAsc l = true
  · have hl := isAsc_len h
    have hs : (st l (l.length - 1)).length ≤ 1048576 := by rw [st_length]; omega
    exact ⟨_, Ev.bind (isAscent_impl l) (Ev.pos h (Ev.bind (modified_ev l hl) (Ev.bind (equal_impl _ l hs) (Ev.ret rfl)))), Ev.bind (good_spec l) (Ev.pos h (Ev.bind (modify_ev l hl) (Ev.bind (equal_spec _ l hs) (Ev.ret rfl))))⟩
  · exact ⟨(false, false), Ev.bind (isAscent_impl l) (Ev.neg h (Ev.ret rfl)), Ev.bind (good_spec l) (Ev.neg h (Ev.ret rfl))⟩
theorem FnExactIsSteady : laws_FnExactIsSteady.Pure := by
  intro l h1 h2 h3
  refine Ev.at1 ?_
  unfold laws_FnExactIsSteady.f
  by_cases hb : (l.length : Int) > 1048576
  · exact Ev.pos hb (Ev.ret rfl)
  · have hl : l.length ≤ 1048576 := by omega
    obtain ⟨⟨x, b⟩, hi, hs⟩ := steady_both l
    refine Ev.neg hb (Ev.bind (toIntS l hl) (Ev.bind hs (Ev.bind (toIntS l hl) (Ev.bind hi (Ev.neg (by simp) ?_)))))
    refine Ev.shift ?_
    simp only [laws_FnExactIsSteady.j0]
    exact Ev.neg (by simp) (Ev.bind (toIntS l hl) (Ev.bind (eqIntS_same l hl) (Ev.pos rfl (Ev.ret rfl))))

end Go.Proofs.Ythhnfeebacnibaa.Pure
