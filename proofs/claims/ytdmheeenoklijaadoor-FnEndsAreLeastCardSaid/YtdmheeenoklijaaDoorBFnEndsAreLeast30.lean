import Derived.Test.YtdmheeenoklijaaDoorBFnEndsAreLeast18
import Derived.Test.YtdmheeenoklijaaDoorBFnEndsAreLeast29
namespace Go.Proofs.YtdmheeenoklijaaDoor.Pure
open Go.RowKit Go.Proofs.YtdmheeenoklijaaDoor.Q Go.Proofs.YtdmheeenoklijaaDoorW.PrintWords Go.Proofs.YtdmheeenoklijaaDoorW.PrintLast
set_option linter.unusedVariables false
set_option linter.unusedSimpArgs false
-- the statements' own comparisons
theorem pSame_l (l m : List Int) (hlm : l.length = m.length) (hl : l.length ≤ 1048576) (d : Nat) : ∀ i : Nat, i + d = l.length → Ev (fun k => laws_pSame.l0 k l m (l.length : Int) (i : Int)) (l.drop i == m.drop i) := by
 induction d with
 | zero =>
  intro i hi
  refine Ev.shift ?_
  simp only [laws_pSame.l0]
  refine Ev.neg (by omega) (Ev.ret ?_)
  rw [List.drop_of_length_le (by omega), List.drop_of_length_le (by omega)]; rfl
 | succ d ih =>
  intro i hi
  have e := ih (i + 1) (by omega)
  have f1 : (i : Int) < l.length := by omega
  have f2 : (i : Int) < m.length := by omega
  refine Ev.shift ?_
  simp only [laws_pSame.l0]
  refine Ev.pos f1 (Ev.pos (by omega) (Ev.pos f1 (Ev.pos f2 ?_)))
  rw [wrap64_id (by omega) (by omega), cast1, drop_rd l i (by omega), drop_rd m i (by omega)]
  by_cases hc : rd l (i : Int) = rd m (i : Int)
  ·refine Ev.pos hc (Ev.eq e ?_)
   rw [hc]; simp
  ·refine Ev.neg hc (Ev.ret ?_)
   symm; rw [beq_eq_false_iff_ne]; intro h; exact hc (List.cons.inj h).1
theorem pSame_ev (l m : List Int) (hl : l.length ≤ 1048576) : Ev (fun k => laws_pSame.f k l m) (l == m) := by
 unfold laws_pSame.f
 by_cases h : (l.length : Int) = m.length
 ·refine Ev.pos h ?_
  simpa using pSame_l l m (by omega) hl l.length 0 (by omega)
 ·refine Ev.neg h (Ev.ret ?_)
  symm; rw [beq_eq_false_iff_ne]; intro e; exact h (by rw [e])
theorem pSameOrder_ev (n : Int) (l : List Int) (n' : Int) (m : List Int) (hl : l.length ≤ 1048576) : Ev (fun k => laws_pSameOrder.f k n l n' m) (decide (n = n') && (l == m)) := by
 unfold laws_pSameOrder.f
 by_cases h : n = n'
 ·exact Ev.pos h (Ev.bind (pSame_ev l m hl) (Ev.ret (by simp [h])))
 ·exact Ev.neg h (Ev.ret (by simp [h]))
theorem pSameOrder_self (n : Int) (l : List Int) (hl : l.length ≤ 1048576) : Ev (fun k => laws_pSameOrder.f k n l n l) true := Ev.eq (pSameOrder_ev n l n l hl) (by simp)
end Go.Proofs.YtdmheeenoklijaaDoor.Pure
/- Ends represent their order, and each end of other intervals that represent it and do not begin below 0 is at least as great, for every two strings of bytes. Condition: the listed variables, tied to the program's text by the card. -/
namespace Go.Proofs.YtdmheeenoklijaaDoor.Pure
open Go.RowKit Go.Proofs.YtdmheeenoklijaaDoor.Q Go.Proofs.YtdmheeenoklijaaDoorW.PrintWords Go.Proofs.YtdmheeenoklijaaDoorW.PrintLast
set_option linter.unusedVariables false
set_option linter.unusedSimpArgs false
section
variable {l : List S39} {L : List Int}
theorem least_l1 (hl : ivsP l) (hL : L = rel (ivLt l) l.length) {lo : Int} (h0 : lo ≤ 0) (h1 : -1000 ≤ lo) (hlo : ∀ i : Nat, i < l.length → lo ≤ (rd_T39 l (i : Int)).f0) (d : Nat) : ∀ i : Nat, i + d = l.length → Ev (fun k => laws_FnEndsAreLeast.l1 k l (ens L) lo (ens L) (l.length : Int) (i : Int)) true := by
 have h10 := hl.2
 have hP := ivs_ivP hl
 have eL : L.length = l.length := by rw [hL, rel_length]
 have hP' : ivP (l.length : Int) L := by rw [hL]; exact hP
 induction d with
 | zero =>
  intro i hi
  obtain ⟨b, b1, b2⟩ := iLeast_ev hl
  obtain ⟨c, c1, c2⟩ := pSameIv_ev l (ens L) (by omega)
  refine Ev.shift ?_
  simp only [laws_FnEndsAreLeast.l1]
  refine Ev.neg (by omega) (Ev.bind b1 (Ev.pos rfl (Ev.bind c1 (Ev.ret ?_))))
  rw [← hL] at b2
  rw [beq_iff_eq, Bool.eq_iff_iff, b2, c2]
  exact eq_comm
 | succ d ih =>
  intro i hi
  have hi' : i < L.length := by omega
  have this := ih (i + 1) (by omega)
  have hv := hl.1 i (by omega)
  have hab : ∀ i j, i < L.length → j < L.length → (lt L i j = true ↔ (rd_T39 l (i : Int)).f1 < (rd_T39 l (j : Int)).f0) := fun i j hi hj => by
   rw [eL] at hi hj
   rw [hL, rel_lt h10 hi]
   simp only [hj, decide_true, Bool.true_and]
   unfold ivLt; rw [decide_eq_true_iff]
  have g1 := lam_least hP'.lam (a := fun i => (rd_T39 l (i : Int)).f0) (b := fun i => (rd_T39 l (i : Int)).f1) (lo := lo) hab (fun i hi => hlo i (by omega)) (lvc L i) i hi' rfl
  have g2 := rho_least (ord_lt hP'.1) hP'.lam (a := fun i => (rd_T39 l (i : Int)).f0) (b := fun i => (rd_T39 l (i : Int)).f1) (lo := lo) hab (fun i hi => hlo i (by omega)) hi'
  try dsimp only at g1 g2
  refine Ev.shift ?_
  simp only [laws_FnEndsAreLeast.l1]
  rw [ens_rd L hi', wrap64_id (x := (rd_T39 l (i : Int)).f0 - lo) (by omega) (by omega), wrap64_id (x := (rd_T39 l (i : Int)).f1 - lo) (by omega) (by omega), wrap64_id (x := (i : Int) + 1) (by omega) (by omega), cast1]
  try dsimp only
  exact Ev.pos (by omega) (Ev.pos (by omega) (Ev.pos (by rw [ens_length]; omega) (Ev.pos (by omega) (Ev.neg (by omega) (Ev.neg (by omega) this)))))
theorem least_l0 (hl : ivsP l) (hL : L = rel (ivLt l) l.length) (d : Nat) : ∀ (i : Nat) (lo : Int), i + d = l.length → lo ≤ 0 → -1000 ≤ lo → (∀ m : Nat, m < i → lo ≤ (rd_T39 l (m : Int)).f0) → Ev (fun k => laws_FnEndsAreLeast.l0 k l (ens L) lo l (l.length : Int) (i : Int)) true := by
 have h10 := hl.2
 have eL : L.length = l.length := by rw [hL, rel_length]
 induction d with
 | zero =>
  intro i lo hi h0 h1 hlo
  refine Ev.shift ?_
  simp only [laws_FnEndsAreLeast.l0]
  refine Ev.neg (by omega) ?_
  rw [ens_length, eL]
  exact least_l1 hl hL h0 h1 (fun m hm => hlo m (by omega)) l.length 0 (by omega)
 | succ d ih =>
  intro i lo hi h0 h1 hlo
  have hv := hl.1 i (by omega)
  refine Ev.shift ?_
  simp only [laws_FnEndsAreLeast.l0]
  rw [wrap64_id (by omega) (by omega), cast1]
  refine Ev.pos (by omega) (Ev.pos (by omega) (Ev.pos (by omega) ?_))
  by_cases hc : (rd_T39 l (i : Int)).f0 < lo
  ·refine Ev.pos hc (ih (i + 1) _ (by omega) (by omega) (by omega) (fun m hm => ?_))
   by_cases e : m = i
   ·subst e; exact Int.le_refl _
   ·have := hlo m (by omega); omega
  ·refine Ev.neg hc (ih (i + 1) lo (by omega) h0 h1 (fun m hm => ?_))
   by_cases e : m = i
   ·subst e; omega
   ·exact hlo m (by omega)
end
theorem FnEndsAreLeast (l0 : List Int) (hm0 : l0.length ≤ maxLen) (hw0 : ∀ x ∈ l0, (Lit.int .u8 x).wf = true) (l1 : List Int) (hm1 : l1.length ≤ maxLen) (hw1 : ∀ x ∈ l1, (Lit.int .u8 x).wf = true) : ∃ k, laws_FnEndsAreLeast.f k l0 l1 = some true := by
 refine Ev.at1 ?_
 unfold laws_FnEndsAreLeast.f
 obtain ⟨b, hb⟩ := big_f l0 l1 hm0
 refine Ev.bindc hb ?_
 by_cases hbt : b = true
 ·exact Ev.pos hbt (Ev.ret rfl)
 refine Ev.neg hbt ?_
 obtain ⟨l, a, s, e, hlen, _, _⟩ := intervals_d (bytesP.of hw0) 0 7 (a := 0) ⟨by omega, by omega⟩ (by omega) (by omega)
 have hd : Ev (fun k => spec_DrawOrderOfIntervals.f k l0) l := by unfold spec_DrawOrderOfIntervals.f; exact Ev.bind e (Ev.ret rfl)
 obtain ⟨p, p1, p2⟩ := areIv_ev l (by omega)
 obtain ⟨q, q1, q2⟩ := ivGood_ev l (by omega)
 refine Ev.bind hd ?_
 by_cases hl : ivsP l
 ·have hP := ivs_ivP hl
  have hp := p2.2 hl
  have hq := q2.2 hl
  subst hp hq
  have io : Ev (fun k => impl_OrderOfIntervals.f k l) ((l.length : Int), rel (ivLt l) l.length, true) := by
   unfold impl_OrderOfIntervals.f; exact Ev.bind p1 (Ev.pos rfl (Ev.bind (orderOf_ev l (by omega)) (Ev.ret rfl)))
  have so : Ev (fun k => spec_OrderOfIntervals.f k l) ((l.length : Int), rel (ivLt l) l.length, true) := by
   unfold spec_OrderOfIntervals.f; exact Ev.bind q1 (Ev.pos rfl (Ev.bind (ivOrder_ev l (by omega)) (Ev.ret rfl)))
  have hLl : (rel (ivLt l) l.length).length ≤ 1048576 := by rw [rel_length]; omega
  have hr := ens_rel hP
  have er : rel (ivLt (ens (rel (ivLt l) l.length))) (ens (rel (ivLt l) l.length)).length = rel (ivLt l) l.length := by rw [ens_length]; exact hr
  obtain ⟨c, c1, c2⟩ := iLeast_ev (ens_ivsP hP)
  rw [er] at c2
  have hc := c2.2 rfl
  subst hc
  refine Ev.bind io (Ev.bind so (Ev.neg (by simp) (Ev.bind (pSameOrder_self _ _ hLl) (Ev.pos rfl (Ev.bind p1 (Ev.shift ?_))))))
  simp only [laws_FnEndsAreLeast.j0]
  refine Ev.neg (by simp) (Ev.pos ⟨⟩ (Ev.bind (iEndsOf_yes hP hLl) (Ev.bind (sEndsOf_yes hP hLl) (Ev.bind (iRep_yes (ens_ivsP hP) hP.1 er) (Ev.bind c1 (Ev.pos rfl (Ev.pos rfl (Ev.pos rfl (Ev.pos rfl (Ev.pos rfl (Ev.pos rfl (Ev.bind (pSameIv_self _ (by rw [ens_length, rel_length]; omega)) (Ev.shift ?_))))))))))))) 
  simp only [laws_FnEndsAreLeast.j1]
  exact Ev.neg (by simp) (least_l0 hl rfl l.length 0 0 (by omega) (by omega) (by omega) (fun m hm => by omega))
 ·have hp : ¬ p = true := fun g => hl (p2.1 g)
  have hq : ¬ q = true := fun g => hl (q2.1 g)
  have io : Ev (fun k => impl_OrderOfIntervals.f k l) (0, [], false) := by
   unfold impl_OrderOfIntervals.f; exact Ev.bind p1 (Ev.neg hp (Ev.ret rfl))
  have so : Ev (fun k => spec_OrderOfIntervals.f k l) (0, [], false) := by
   unfold spec_OrderOfIntervals.f; exact Ev.bind q1 (Ev.neg hq (Ev.ret rfl))
  refine Ev.bind io (Ev.bind so (Ev.neg (by simp) (Ev.bind (pSameOrder_self _ _ (by simp)) (Ev.pos rfl (Ev.bind p1 (Ev.shift ?_))))))
  simp only [laws_FnEndsAreLeast.j0]
  exact Ev.neg (by simp [hp]) (Ev.neg (by simp) (Ev.ret rfl))
end Go.Proofs.YtdmheeenoklijaaDoor.Pure
