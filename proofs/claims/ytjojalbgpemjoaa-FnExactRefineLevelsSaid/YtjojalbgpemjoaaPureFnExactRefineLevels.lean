/- RefineLevels answers what the reference answers, for every two lists of at most 2^20 numbers each (longer ones the statement lets pass). Conditions: none. -/
import Derived.Test.YtjojalbgpemjoaaQLawsFnexactrefinelevels
import Derived.Test.YtjojalbgpemjoaaXCopies
import Derived.Test.YtjojalbgpemjoaaXMarks
import Derived.Test.YtjojalbgpemjoaaXRefine
namespace Go.Proofs.Ytjojalbgpemjoaa.Pure
open Go.RowKit Go.Proofs.Ytjojalbgpemjoaa.Q Go.Proofs.YtjojalbgpemjoaaW.PrintWords Go.Proofs.YtjojalbgpemjoaaW.PrintLast
set_option linter.unusedVariables false
set_option linter.unusedSimpArgs false

theorem FnExactRefineLevels : laws_FnExactRefineLevels.Pure := by
  intro l m h1 h2 h3 h4 h5 h6
  refine Ev.at1 ?_
  unfold laws_FnExactRefineLevels.f
  by_cases hb : (l.length : Int) > 1048576
  · exact Ev.pos hb (Ev.ret rfl)
  by_cases hb2 : (m.length : Int) > 1048576
  · exact Ev.neg hb (Ev.pos hb2 (Ev.ret rfl))
  have hl : l.length ≤ 1048576 := by omega
  have hm : m.length ≤ 1048576 := by omega
  obtain ⟨⟨x, b⟩, hi, hs, hx⟩ := RefineLevels_both l m hl hm
  replace hx : x.length ≤ 1000 := hx
  refine Ev.neg hb (Ev.neg hb2 (Ev.bind (toIntS l hl) (Ev.bind (toIntS m hm) (Ev.bind hs (Ev.bind (toIntS l hl) (Ev.bind (toIntS m hm) (Ev.bind hi ?_)))))))
  have ex := eqIntS_same x (by omega)
  have mx := markIntS x (by omega) 1 (by omega) (by omega)
  have gx := heldIntS x.length (by omega) 1 (by omega) (by omega)
  refine Ev.bind ex (Ev.pos rfl (Ev.shift ?_))
  simp only [laws_FnExactRefineLevels.j0]
  refine Ev.neg (by simp) (Ev.bind (toIntS l hl) (Ev.bind (eqIntS_same l hl) (Ev.pos rfl (Ev.bind (toIntS m hm) (Ev.bind (eqIntS_same m hm) (Ev.pos rfl (Ev.bind (markIntS l hl 1 (by omega) (by omega)) (Ev.bind (markIntS m hm _ (by simp; omega) (by simp; omega)) ?_))))))))
  refine Ev.neg (by simp; omega) (Ev.bind ex (Ev.pos rfl (Ev.shift ?_)))
  simp only [laws_FnExactRefineLevels.j1]
  refine Ev.neg (by simp) (Ev.bind mx (Ev.bind gx (Ev.neg (by omega) (Ev.pos rfl ?_))))
  refine Ev.bind (toIntS l hl) (Ev.bind (toIntS m hm) (Ev.bind hi (Ev.bind ex (Ev.pos rfl (Ev.shift ?_)))))
  simp only [laws_FnExactRefineLevels.j2]
  exact Ev.neg (by simp) (Ev.bind gx (Ev.neg (by omega) (Ev.pos rfl (Ev.ret rfl))))

end Go.Proofs.Ytjojalbgpemjoaa.Pure
