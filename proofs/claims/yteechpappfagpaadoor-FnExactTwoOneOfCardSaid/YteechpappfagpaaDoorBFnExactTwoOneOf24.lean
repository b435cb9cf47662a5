import Derived.Test.YteechpappfagpaaDoorBFnExactTwoOneOf19
import Derived.Test.YteechpappfagpaaDoorBFnExactTwoOneOf20
import Derived.Test.YteechpappfagpaaDoorBFnExactTwoOneOf21
import Derived.Test.YteechpappfagpaaDoorBFnExactTwoOneOf23
/- TwoOneOf answers what the reference answers, for every order whose list has at most 2^20 numbers (longer ones the statement lets pass). Condition: the listed variables, tied to the program's text by the card. -/
namespace Go.Proofs.YteechpappfagpaaDoor.Pure
open Go.RowKit Go.Proofs.YteechpappfagpaaDoor.Q Go.Proofs.YteechpappfagpaaDoorW.PrintWords Go.Proofs.YteechpappfagpaaDoorW.PrintLast
set_option linter.unusedVariables false
set_option linter.unusedSimpArgs false

theorem FnExactTwoOneOf (n : Int) (L : List Int) (_ : (Lit.int .i64 n).wf = true) (hL : L.length ≤ maxLen) (_ : ∀ x ∈ L, (Lit.int .i64 x).wf = true) : ∃ k, laws_FnExactTwoOneOf.f k n L = some true := by
  refine Ev.at1 ?_
  unfold laws_FnExactTwoOneOf.f
  by_cases h1 : (1048576 : Int) < L.length
  · exact Ev.bindc (szOrder_big n L 1048576 (by omega) hL h1) (Ev.pos (by omega) (Ev.ret rfl))
  refine Ev.bindc (szOrder_fit n L 1048576 (by omega) (by omega)) (Ev.neg (by omega) ?_)
  have hl : L.length ≤ 1048576 := by omega
  obtain ⟨⟨x, b⟩, hi, hs, hx⟩ := TwoOneOf_both n L hl
  replace hx : x.length ≤ 1000 := hx
  have ex := eqIntS_same x (by omega)
  have mx := markIntS x (by omega) 1 (by omega) (by omega)
  have gx := heldIntS x.length (by omega) 1 (by omega) (by omega)
  refine (Ev.bind (toOrder n L hl) (Ev.bind hs (Ev.bind (toOrder n L hl) (Ev.bind hi (Ev.bind ex (Ev.pos rfl (Ev.shift ?_)))))))
  simp only [laws_FnExactTwoOneOf.j0]
  refine Ev.neg (by simp) (Ev.bind (toOrder n L hl) (Ev.bind (eqOrder_same n L hl) (Ev.pos rfl (Ev.bind (markOrder n L hl 1 (by omega) (by omega)) ?_))))
  refine Ev.neg (by simp; omega) (Ev.bind ex (Ev.pos rfl (Ev.shift ?_)))
  simp only [laws_FnExactTwoOneOf.j1]
  refine Ev.neg (by simp) (Ev.bind mx (Ev.bind gx (Ev.neg (by omega) (Ev.pos rfl ?_))))
  refine (Ev.bind (toOrder n L hl) (Ev.bind hi (Ev.bind ex (Ev.pos rfl (Ev.shift ?_)))))
  simp only [laws_FnExactTwoOneOf.j2]
  exact Ev.neg (by simp) (Ev.bind gx (Ev.neg (by omega) (Ev.pos rfl (Ev.ret rfl))))

end Go.Proofs.YteechpappfagpaaDoor.Pure
