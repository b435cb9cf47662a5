import Derived.Test.YteechpappfagpaaDoorBFnExactDoesRefine4
import Derived.Test.YteechpappfagpaaDoorBFnExactDoesRefine10
import Derived.Test.YteechpappfagpaaDoorBFnExactDoesRefine11
import Derived.Test.YteechpappfagpaaDoorBFnExactDoesRefine13
import Derived.Test.YteechpappfagpaaDoorBFnExactDoesRefine14
namespace Go.Proofs.YteechpappfagpaaDoor.Pure
open Go.RowKit Go.Proofs.YteechpappfagpaaDoor.Q Go.Proofs.YteechpappfagpaaDoorW.PrintWords Go.Proofs.YteechpappfagpaaDoorW.PrintLast
set_option linter.unusedVariables false
set_option linter.unusedSimpArgs false

def refP (L M : List Int) (i : Nat) : Prop := ∀ m : Nat, m < M.length → i ≤ m → andN (rd M (m : Int)) (rd L (m : Int)) = 0
instance (L M : List Int) (i : Nat) : Decidable (refP L M i) := by unfold refP; infer_instance
theorem refP_split {L M : List Int} {i : Nat} (hi : i < M.length) : refP L M i ↔ andN (rd M (i : Int)) (rd L (i : Int)) = 0 ∧ refP L M (i + 1) := by
  unfold refP
  constructor
  · intro h; exact ⟨h i hi (Nat.le_refl _), fun m h1 h2 => h m h1 (by omega)⟩
  · rintro ⟨h1, h2⟩ m h3 h4
    by_cases e : m = i
    · subst e; exact h1
    · exact h2 m h3 (by omega)
theorem refine_l (n : Int) (L M : List Int) (hl : L.length ≤ 10) (he : M.length = L.length) (d : Nat) : ∀ i : Nat, i + d = M.length → Ev (fun k => impl_DoesRefine.l0 k M (M.length : Int) (i : Int) n L) (decide (refP L M i), true) := by
  induction d with
  | zero =>
    intro i hi
    refine Ev.shift ?_
    simp only [impl_DoesRefine.l0]
    refine Ev.neg (by omega) (Ev.ret ?_)
    rw [decide_eq_true (show refP L M i from fun m h1 h2 => by omega)]
  | succ d ih =>
    intro i hi
    refine Ev.shift ?_
    simp only [impl_DoesRefine.l0]
    refine Ev.pos (by omega) (Ev.pos (by omega) (Ev.pos (by omega) (Ev.pos (by omega) ?_)))
    rw [wrap64_id (by omega) (by omega), cast1]
    by_cases hc : Go.bits .andNot .i64 (rd M (i : Int)) (rd L (i : Int)) = 0
    · refine Ev.pos hc (Ev.eq (ih (i + 1) (by omega)) ?_)
      congr 1
      rw [Bool.eq_iff_iff, decide_eq_true_iff, decide_eq_true_iff, refP_split (i := i) (by omega)]
      exact ⟨fun h => ⟨hc, h⟩, fun h => h.2⟩
    · refine Ev.neg hc (Ev.ret ?_)
      rw [decide_eq_false (fun h => hc ((refP_split (by omega)).1 h).1)]
theorem refineS_l (n : Int) (L M : List Int) (hl : L.length ≤ 10) (he : M.length = L.length) (d : Nat) : ∀ i : Nat, i + d = M.length → Ev (fun k => spec_DoesRefine.l0 k M (M.length : Int) (i : Int) n L) (decide (refP L M i), true) := by
  induction d with
  | zero =>
    intro i hi
    refine Ev.shift ?_
    simp only [spec_DoesRefine.l0]
    refine Ev.neg (by omega) (Ev.ret ?_)
    rw [decide_eq_true (show refP L M i from fun m h1 h2 => by omega)]
  | succ d ih =>
    intro i hi
    refine Ev.shift ?_
    simp only [spec_DoesRefine.l0]
    refine Ev.pos (by omega) (Ev.pos (by omega) (Ev.pos (by omega) (Ev.pos (by omega) ?_)))
    rw [wrap64_id (by omega) (by omega), cast1]
    by_cases hc : Go.bits .andNot .i64 (rd M (i : Int)) (rd L (i : Int)) = 0
    · refine Ev.pos hc (Ev.eq (ih (i + 1) (by omega)) ?_)
      congr 1
      rw [Bool.eq_iff_iff, decide_eq_true_iff, decide_eq_true_iff, refP_split (i := i) (by omega)]
      exact ⟨fun h => ⟨hc, h⟩, fun h => h.2⟩
    · refine Ev.neg hc (Ev.ret ?_)
      rw [decide_eq_false (fun h => hc ((refP_split (by omega)).1 h).1)]
theorem DoesRefine_both (n : Int) (L : List Int) (m : Int) (M : List Int) (hL : L.length ≤ 1048576) (hM : M.length ≤ 1048576) : ∃ r, Ev (fun k => impl_DoesRefine.f k n L m M) r ∧ Ev (fun k => spec_DoesRefine.f k n L m M) r := by
  have hno : Ev (fun k => spec_DoesRefine.j0 k true n L m M) (false, false) := by
    refine Ev.shift ?_
    simp only [spec_DoesRefine.j0]
    exact Ev.pos trivial (Ev.ret rfl)
  unfold impl_DoesRefine.f spec_DoesRefine.f impl_areOrders.f
  by_cases h1 : orderP n L
  · by_cases h2 : orderP m M
    · by_cases he : n = m
      · have e1 := h1.1.2.1
        have e2 := h2.1.2.1
        have e3 := h1.1.1
        refine ⟨(decide (refP L M 0), true), ?_, ?_⟩
        · exact Ev.bind (Ev.bind (isOrder_ev n L hL) (Ev.pos (by simpa using h1) (Ev.bind (isOrder_ev m M hM) (Ev.pos (by simpa using h2) (Ev.ret rfl))))) (Ev.pos (by simpa using he) (refine_l n L M (by omega) (by omega) M.length 0 (by omega)))
        · refine Ev.bind (orGood_ev n L hL) (Ev.pos (by simpa using h1) (Ev.bind (orGood_ev m M hM) (Ev.pos (by simpa using h2) (Ev.shift ?_))))
          simp only [spec_DoesRefine.j0]
          exact Ev.neg (by simp [he]) (refineS_l n L M (by omega) (by omega) M.length 0 (by omega))
      · refine ⟨(false, false), ?_, ?_⟩
        · exact Ev.bind (Ev.bind (isOrder_ev n L hL) (Ev.pos (by simpa using h1) (Ev.bind (isOrder_ev m M hM) (Ev.pos (by simpa using h2) (Ev.ret rfl))))) (Ev.neg (by simpa using he) (Ev.ret rfl))
        · refine Ev.bind (orGood_ev n L hL) (Ev.pos (by simpa using h1) (Ev.bind (orGood_ev m M hM) (Ev.pos (by simpa using h2) (Ev.shift ?_))))
          simp only [spec_DoesRefine.j0]
          exact Ev.pos (by simp [he]) (Ev.ret rfl)
    · refine ⟨(false, false), ?_, ?_⟩
      · exact Ev.bind (Ev.bind (isOrder_ev n L hL) (Ev.pos (by simpa using h1) (Ev.bind (isOrder_ev m M hM) (Ev.neg (by simpa using h2) (Ev.ret rfl))))) (Ev.neg (by simp) (Ev.ret rfl))
      · exact Ev.bind (orGood_ev n L hL) (Ev.pos (by simpa using h1) (Ev.bind (orGood_ev m M hM) (Ev.neg (by simpa using h2) hno)))
  · refine ⟨(false, false), ?_, ?_⟩
    · exact Ev.bind (Ev.bind (isOrder_ev n L hL) (Ev.neg (by simpa using h1) (Ev.ret rfl))) (Ev.neg (by simp) (Ev.ret rfl))
    · exact Ev.bind (orGood_ev n L hL) (Ev.neg (by simpa using h1) hno)

end Go.Proofs.YteechpappfagpaaDoor.Pure

/- DoesRefine answers what the reference answers, for every two orders whose lists have at most 2^20 numbers together (longer ones the statement lets pass). Condition: the listed variables, tied to the program's text by the card. -/
namespace Go.Proofs.YteechpappfagpaaDoor.Pure
open Go.RowKit Go.Proofs.YteechpappfagpaaDoor.Q Go.Proofs.YteechpappfagpaaDoorW.PrintWords Go.Proofs.YteechpappfagpaaDoorW.PrintLast
set_option linter.unusedVariables false
set_option linter.unusedSimpArgs false

theorem FnExactDoesRefine (n : Int) (L : List Int) (_ : (Lit.int .i64 n).wf = true) (hL : L.length ≤ maxLen) (_ : ∀ x ∈ L, (Lit.int .i64 x).wf = true) (m : Int) (M : List Int) (_ : (Lit.int .i64 m).wf = true) (hM : M.length ≤ maxLen) (_ : ∀ x ∈ M, (Lit.int .i64 x).wf = true) : ∃ k, laws_FnExactDoesRefine.f k n L m M = some true := by
  refine Ev.at1 ?_
  unfold laws_FnExactDoesRefine.f
  by_cases h1 : (1048576 : Int) < L.length
  · exact Ev.bindc (szOrder_big n L 1048576 (by omega) hL h1) (Ev.pos (by omega) (Ev.ret rfl))
  refine Ev.bindc (szOrder_fit n L 1048576 (by omega) (by omega)) (Ev.neg (by omega) ?_)
  by_cases h2 : (1048576 : Int) - L.length < M.length
  · exact Ev.bindc (szOrder_big m M _ (by omega) hM h2) (Ev.pos (by omega) (Ev.ret rfl))
  refine Ev.bindc (szOrder_fit m M _ (by omega) (by omega)) (Ev.neg (by omega) ?_)
  have hl : L.length ≤ 1048576 := by omega
  have hm : M.length ≤ 1048576 := by omega
  obtain ⟨⟨a, b⟩, hi, hs⟩ := DoesRefine_both n L m M hl hm
  refine Ev.bind (toOrder n L hl) (Ev.bind (toOrder m M hm) (Ev.bind hs (Ev.bind (toOrder n L hl) (Ev.bind (toOrder m M hm) (Ev.bind hi (Ev.neg (by simp) (Ev.shift ?_)))))))
  simp only [laws_FnExactDoesRefine.j0]
  exact Ev.neg (by simp) (Ev.bind (toOrder n L hl) (Ev.bind (eqOrder_same n L hl) (Ev.pos rfl (Ev.bind (toOrder m M hm) (Ev.bind (eqOrder_same m M hm) (Ev.pos rfl (Ev.ret rfl)))))))

end Go.Proofs.YteechpappfagpaaDoor.Pure
