import Derived.Test.YtmdldleodieooaaQLawsEqintss
import Derived.Test.YtmdldleodieooaaXEqints
namespace Go.Proofs.Ytmdldleodieooaa.Pure
open Go.RowKit Go.Proofs.Ytmdldleodieooaa.Q Go.Proofs.YtmdldleodieooaaW.PrintWords Go.Proofs.YtmdldleodieooaaW.PrintLast
set_option linter.unusedVariables false
set_option linter.unusedSimpArgs false

theorem rdL_lt (L : List (List Int)) (i : Nat) (h : i < L.length) : rd_L1 L (i : Int) = L[i] := by simp [rd_L1, h]
theorem dropL (L : List (List Int)) (i : Nat) (h : i < L.length) : L.drop i = rd_L1 L (i : Int) :: L.drop (i + 1) := by
 rw [rdL_lt L i h]; exact List.drop_eq_getElem_cons h
/-- few rows, and none too long -/
def rowsP (L : List (List Int)) : Prop := L.length ≤ 1048576 ∧ ∀ r ∈ L, r.length ≤ 1048576
theorem rowsP.at {L : List (List Int)} (h : rowsP L) {i : Nat} (hi : i < L.length) : (rd_L1 L (i : Int)).length ≤ 1048576 := by
 rw [rdL_lt L i hi]; exact h.2 _ (List.getElem_mem _)
theorem set_prefixL {l m : List (List Int)} {i : Nat} (hm : m.length = l.length) (hi : i < l.length) (h : m.take i = l.take i) : (m.set i (rd_L1 l (i : Int))).take (i + 1) = l.take (i + 1) := by
 apply List.ext_getElem?
 intro j
 by_cases hj : j < i + 1
 ·rw [List.getElem?_take_of_lt hj, List.getElem?_take_of_lt hj]
  by_cases e : j = i
  ·subst e; rw [List.getElem?_set_self (by omega), rdL_lt l j hi]; simp [hi]
  ·rw [List.getElem?_set_ne (by omega)]
   have := congrArg (fun t => t[j]?) h
   rwa [List.getElem?_take_of_lt (by omega), List.getElem?_take_of_lt (by omega)] at this
 ·rw [List.getElem?_eq_none (by simp; omega), List.getElem?_eq_none (by simp; omega)]
theorem eqSS_l (L : List (List Int)) (h : rowsP L) (d : Nat) : ∀ (i : Nat), i + d = L.length → Ev (fun k => laws_eqIntSS.l0 k L L (i : Int)) true := by
 have hL := h.1
 induction d with
 | zero =>
  intro i hi
  refine Ev.shift ?_
  simp only [laws_eqIntSS.l0]
  exact Ev.neg (by omega) (Ev.ret rfl)
 | succ d ih =>
  intro i hi
  refine Ev.shift ?_
  simp only [laws_eqIntSS.l0]
  refine Ev.pos (by omega) (Ev.pos (by omega) (Ev.pos (by omega) (Ev.bind (eqIntS_same _ (h.at (by omega))) (Ev.pos rfl ?_))))
  rw [wrap64_id (by omega) (by omega), cast1]
  exact ih (i + 1) (by omega)
theorem eqSS_same (L : List (List Int)) (h : rowsP L) : Ev (fun k => laws_eqIntSS.f k L L) true := by
 unfold laws_eqIntSS.f
 exact Ev.pos rfl (eqSS_l L h L.length 0 (by omega))

end Go.Proofs.Ytmdldleodieooaa.Pure
