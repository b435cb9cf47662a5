/- MirrorLevels answers what the reference answers, for every list of at most 2^20 numbers (longer ones the statement lets pass). Conditions: none. -/
import Derived.Test.YtjojalbgpemjoaaQLawsFnexactmirrorlevels
import Derived.Test.YtjojalbgpemjoaaXCopies
import Derived.Test.YtjojalbgpemjoaaXMarks
import Derived.Test.YtjojalbgpemjoaaXMirror
namespace Go.Proofs.Ytjojalbgpemjoaa.Pure
open Go.RowKit Go.Proofs.Ytjojalbgpemjoaa.Q Go.Proofs.YtjojalbgpemjoaaW.PrintWords Go.Proofs.YtjojalbgpemjoaaW.PrintLast
set_option linter.unusedVariables false
set_option linter.unusedSimpArgs false

theorem FnExactMirrorLevels : laws_FnExactMirrorLevels.Pure := by
  intro l h1 h2 h3
  refine Ev.at1 ?_
  unfold laws_FnExactMirrorLevels.f
  by_cases hb : (l.length : Int) > 1048576
  · exact Ev.pos hb (Ev.ret rfl)
  · have hl : l.length ≤ 1048576 := by omega
    obtain ⟨⟨x, b⟩, hi, hs, hx⟩ := MirrorLevels_both l hl
    replace hx : x.length ≤ 1000 := hx
    refine Ev.neg hb (Ev.bind (toIntS l hl) (Ev.bind hs (Ev.bind (toIntS l hl) (Ev.bind hi ?_))))
    have ex := eqIntS_same x (by omega)
    have mx := markIntS x (by omega) 1 (by omega) (by omega)
    have gx := heldIntS x.length (by omega) 1 (by omega) (by omega)
    refine Ev.bind ex (Ev.pos rfl ?_)
    refine Ev.shift ?_
    simp only [laws_FnExactMirrorLevels.j0]
    refine Ev.neg (by simp) (Ev.bind (toIntS l hl) (Ev.bind (eqIntS_same l hl) (Ev.pos rfl (Ev.bind (markIntS l hl 1 (by omega) (by omega)) ?_))))
    refine Ev.neg (by simp; omega) (Ev.bind ex (Ev.pos rfl ?_))
    refine Ev.shift ?_
    simp only [laws_FnExactMirrorLevels.j1]
    refine Ev.neg (by simp) (Ev.bind mx (Ev.bind gx (Ev.neg (by omega) (Ev.pos rfl ?_))))
    refine Ev.bind (toIntS l hl) (Ev.bind hi (Ev.bind ex (Ev.pos rfl ?_)))
    refine Ev.shift ?_
    simp only [laws_FnExactMirrorLevels.j2]
    exact Ev.neg (by simp) (Ev.bind gx (Ev.neg (by omega) (Ev.pos rfl (Ev.ret rfl))))

end Go.Proofs.Ytjojalbgpemjoaa.Pure
