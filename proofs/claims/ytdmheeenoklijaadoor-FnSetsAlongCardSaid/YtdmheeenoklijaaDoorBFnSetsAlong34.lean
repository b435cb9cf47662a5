import Derived.Test.YtdmheeenoklijaaDoorBFnSetsAlong33
namespace Go.Proofs.YtdmheeenoklijaaDoor.Pure
open Go.RowKit Go.Proofs.YtdmheeenoklijaaDoor.Q Go.Proofs.YtdmheeenoklijaaDoorW.PrintWords Go.Proofs.YtdmheeenoklijaaDoorW.PrintLast
set_option linter.unusedVariables false
set_option linter.unusedSimpArgs false
def ivP (n : Int) (L : List Int) : Prop := orderP n L ∧ No22 L.length (lt L)
theorem look22_iff {L : List Int} : (∀ a, a < L.length → ∀ b, b < L.length → ∀ c, c < L.length → ∀ d, d < L.length → ¬ bad22 L a b c d) ↔ No22 L.length (lt L) := by
 constructor
 ·intro h a b c d ha hb hc hd h1 h2 h3 h4
  exact h a ha b hb c hc d hd ⟨h1, h2, h3, h4⟩
 ·intro h a ha b hb c hc d hd g
  exact h a b c d ha hb hc hd g.1 g.2.1 g.2.2.1 g.2.2.2
theorem iIsInt_ev (n : Int) (L : List Int) (hL : L.length ≤ 1048576) : ∃ b, Ev (fun k => impl_isInterval.f k n L) b ∧ (b = true ↔ ivP n L) := by
 unfold impl_isInterval.f
 by_cases h : orderP n L
 ·obtain ⟨x, x1, x2⟩ := twoTwo_ev h.1
  refine ⟨x == [], Ev.bind (isOrder_ev n L hL) (Ev.pos (by simpa using h) (Ev.bind x1 (Ev.ret rfl))), ?_⟩
  rw [beq_iff_eq, x2, look22_iff]
  exact ⟨fun g => ⟨h, g.1⟩, fun g => ⟨g.2, trivial⟩⟩
 ·exact ⟨false, Ev.bind (isOrder_ev n L hL) (Ev.neg (by simpa using h) (Ev.ret rfl)), ⟨fun g => (by cases g), fun g => (h g.1).elim⟩⟩
theorem refuses_f {n : Int} {L : List Int} (h : relP n L) {a b c d : Nat} (ha : a < L.length) (hb : b < L.length) (hc : c < L.length) (hd : d < L.length) : ∃ r, spec_ivRefuses.f n L (a : Int) (b : Int) (c : Int) (d : Int) = some r ∧ (r = true ↔ bad22 L a b c d) := by
 have h10 : L.length ≤ 10 := by have := h.1; have := h.2.1; omega
 have sa := h.set ha
 have sc := h.set hc
 unfold spec_ivRefuses.f bad22
 rw [if_pos (by omega), if_pos (by omega), orHas_f sa.1 sa.2 (by omega), Option.bind_some]
 by_cases c1 : lt L a b = true
 ·rw [if_pos (show bit (rd L (a : Int)) b = true from c1), if_pos (by omega), if_pos (by omega), orHas_f sc.1 sc.2 (by omega), Option.bind_some]
  by_cases c2 : lt L c d = true
  ·rw [if_pos (show bit (rd L (c : Int)) d = true from c2), orHas_f sc.1 sc.2 (by omega), Option.bind_some]
   by_cases c3 : lt L c b = true
   ·exact ⟨false, if_pos c3, by simp [c3]⟩
   ·rw [if_neg (show ¬ bit (rd L (c : Int)) b = true from c3), orHas_f sa.1 sa.2 (by omega), Option.bind_some]
    refine ⟨_, rfl, ?_⟩
    show (!(lt L a d)) = true ↔ _
    simp [c1, c2, c3]
  ·exact ⟨false, if_neg c2, by simp [c2]⟩
 ·exact ⟨false, if_neg c1, by simp [c1]⟩
theorem sTwoTwo_ev {n : Int} {L : List Int} (h : relP n L) : ∃ x, Ev (fun k => spec_ivTwoTwo.f k n L) x ∧ (x.2 = false ↔ (∀ a, a < L.length → ∀ b, b < L.length → ∀ c, c < L.length → ∀ d, d < L.length → ¬ bad22 L a b c d) ∧ True) := by
 have e1 := h.2.1
 have e3 := h.1
 unfold spec_ivTwoTwo.f
 refine loopN (fun x : List Int × Bool => x.2 = false) L.length _ True (fun (a : Nat) k => spec_ivTwoTwo.l0 k (a : Int) n L) ⟨([], false), ?_, by simp⟩ (fun a ha R hR => ?_)
 ·refine Ev.shift ?_
  simp only [spec_ivTwoTwo.l0]
  exact Ev.neg (by omega) (Ev.ret rfl)
 ·have := loopN (fun x : List Int × Bool => x.2 = false) L.length R (fun (b : Nat) k => spec_ivTwoTwo.l1 k (a : Int) (b : Int) n L) (by
   obtain ⟨x, h1, h2⟩ := hR
   refine ⟨x, Ev.shift ?_, h2⟩
   simp only [spec_ivTwoTwo.l1]
   refine Ev.neg (by omega) ?_
   rw [wrap64_id (by omega) (by omega), cast1]
   exact h1) (good := fun b => ∀ c, c < L.length → ∀ d, d < L.length → ¬ bad22 L a b c d) (fun b hb R hR => ?_)
  ·obtain ⟨x, h1, h2⟩ := this
   refine ⟨x, Ev.shift ?_, h2⟩
   simp only [spec_ivTwoTwo.l0]
   exact Ev.pos (by omega) h1
  ·have := loopN (fun x : List Int × Bool => x.2 = false) L.length R (fun (c : Nat) k => spec_ivTwoTwo.l2 k (a : Int) (b : Int) (c : Int) n L) (by
    obtain ⟨x, h1, h2⟩ := hR
    refine ⟨x, Ev.shift ?_, h2⟩
    simp only [spec_ivTwoTwo.l2]
    refine Ev.neg (by omega) ?_
    rw [wrap64_id (by omega) (by omega), cast1]
    exact h1) (good := fun c => ∀ d, d < L.length → ¬ bad22 L a b c d) (fun c hc R hR => ?_)
   ·obtain ⟨x, h1, h2⟩ := this
    refine ⟨x, Ev.shift ?_, h2⟩
    simp only [spec_ivTwoTwo.l1]
    exact Ev.pos (by omega) h1
   ·have := loopN (fun x : List Int × Bool => x.2 = false) L.length R (fun (d : Nat) k => spec_ivTwoTwo.l3 k (a : Int) (b : Int) (c : Int) (d : Int) n L) (by
     obtain ⟨x, h1, h2⟩ := hR
     refine ⟨x, Ev.shift ?_, h2⟩
     simp only [spec_ivTwoTwo.l3]
     refine Ev.neg (by omega) ?_
     rw [wrap64_id (by omega) (by omega), cast1]
     exact h1) (good := fun d => ¬ bad22 L a b c d) (fun d hd R hR => ?_)
    ·obtain ⟨x, h1, h2⟩ := this
     refine ⟨x, Ev.shift ?_, h2⟩
     simp only [spec_ivTwoTwo.l2]
     exact Ev.pos (by omega) h1
    ·obtain ⟨x, h1, h2⟩ := hR
     obtain ⟨q, q1, q2⟩ := refuses_f h ha hb hc hd
     have w := wrap64_id (x := (d : Int) + 1) (by omega) (by omega)
     by_cases hq : q = true
     ·refine ⟨([(a : Int), (b : Int), (c : Int), (d : Int)], true), Ev.shift ?_, ⟨fun r => (by cases r), fun r => (r.1 (q2.1 hq)).elim⟩⟩
      simp only [spec_ivTwoTwo.l3]
      exact Ev.pos (by omega) (Ev.bindc q1 (Ev.pos hq (Ev.ret rfl)))
     ·refine ⟨x, Ev.shift ?_, h2.trans ⟨fun r => ⟨fun hb => hq (q2.2 hb), r⟩, fun r => r.2⟩⟩
      simp only [spec_ivTwoTwo.l3]
      rw [w, cast1]
      exact Ev.pos (by omega) (Ev.bindc q1 (Ev.neg hq h1))
theorem sIsInt_ev (n : Int) (L : List Int) (hL : L.length ≤ 1048576) : ∃ b, Ev (fun k => spec_ivGoodOrder.f k n L) b ∧ (b = true ↔ ivP n L) := by
 unfold spec_ivGoodOrder.f spec_ivIs.f
 by_cases h : orderP n L
 ·obtain ⟨x, x1, x2⟩ := sTwoTwo_ev h.1
  refine ⟨!x.2, Ev.bind (orGood_ev n L hL) (Ev.pos (by simpa using h) (Ev.bind (Ev.bind x1 (Ev.ret rfl)) (Ev.ret rfl))), ?_⟩
  rw [Bool.not_eq_true', x2, look22_iff]
  exact ⟨fun g => ⟨h, g.1⟩, fun g => ⟨g.2, trivial⟩⟩
 ·exact ⟨false, Ev.bind (orGood_ev n L hL) (Ev.neg (by simpa using h) (Ev.ret rfl)), ⟨fun g => (by cases g), fun g => (h g.1).elim⟩⟩
end Go.Proofs.YtdmheeenoklijaaDoor.Pure
namespace Go.Proofs.YtdmheeenoklijaaDoor.Pure
set_option linter.unusedVariables false
set_option linter.unusedSimpArgs false
-- plain
structure Mag (n : Nat) (lam : Nat → Nat) (K : Nat) : Prop where
 lt : ∀ i, i < n → lam i < K
 cov : ∀ t, t < K → ∃ i, i < n ∧ lam i = t
section
variable {n : Nat} {r : Nat → Nat → Bool} {lam lam2 : Nat → Nat} {K K2 : Nat}
end
end Go.Proofs.YtdmheeenoklijaaDoor.Pure
namespace Go.Proofs.YtdmheeenoklijaaDoor.Pure
open Go.RowKit Go.Proofs.YtdmheeenoklijaaDoor.Q Go.Proofs.YtdmheeenoklijaaDoorW.PrintWords Go.Proofs.YtdmheeenoklijaaDoorW.PrintLast
set_option linter.unusedVariables false
set_option linter.unusedSimpArgs false
def low (D : List Int) (x : Int) : Int := ((D.filter fun y => decide (y < x)).length : Int)
def lev (l : List Int) : List Int := l.map (low (dif l))
theorem rising_rd {D : List Int} (h : D.Pairwise (· < ·)) {i j : Nat} (hij : i < j) (hj : j < D.length) : rd D (i : Int) < rd D (j : Int) := by
 rw [rd_lt D i (by omega), rd_lt D j hj]
 exact List.pairwise_iff_getElem.1 h i j (by omega) hj hij
theorem put_l (D : List Int) (x : Int) (h : D.Pairwise (· < ·)) (hD : D.length ≤ 1048576) (d : Nat) : ∀ (i : Nat), i + d = D.length → (∀ m : Nat, m < i → rd D (m : Int) < x) →
  ∃ r, Ev (fun k => spec_l1Put.l0 k D x i) r ∧ r.Pairwise (· < ·) ∧ (∀ y, y ∈ r ↔ y = x ∨ y ∈ D) ∧ r.length ≤ D.length + 1 := by
 have ins : ∀ i : Nat, i ≤ D.length → (∀ m : Nat, m < i → rd D (m : Int) < x) → (∀ m : Nat, i ≤ m → m < D.length → x < rd D (m : Int)) → (D.take i ++ [x] ++ D.drop i).Pairwise (· < ·) ∧ (∀ y, y ∈ D.take i ++ [x] ++ D.drop i ↔ y = x ∨ y ∈ D) ∧ (D.take i ++ [x] ++ D.drop i).length ≤ D.length + 1 := by
  intro i hi h1 h2
  have a : ∀ y ∈ D.take i, y < x := by
   intro y hy
   obtain ⟨j, hj, rfl⟩ := List.mem_iff_getElem.1 hy
   rw [List.length_take] at hj
   have := h1 j (by omega)
   rw [rd_lt D j (by omega)] at this
   simpa using this
  have b : ∀ y ∈ D.drop i, x < y := by
   intro y hy
   obtain ⟨j, hj, rfl⟩ := List.mem_iff_getElem.1 hy
   rw [List.length_drop] at hj
   have := h2 (i + j) (by omega) (by omega)
   rw [rd_lt D _ (by omega)] at this
   simpa using this
  refine ⟨?_, fun y => ?_, by simp; omega⟩
  ·rw [List.pairwise_append, List.pairwise_append]
   refine ⟨⟨h.sublist (List.take_sublist _ _), by simp, fun y hy z hz => ?_⟩, h.sublist (List.drop_sublist _ _), fun y hy z hz => ?_⟩
   ·rw [List.mem_singleton] at hz; subst hz; exact a y hy
   ·rw [List.mem_append, List.mem_singleton] at hy
    rcases hy with hy | rfl
    ·have := a y hy; have := b z hz; omega
    ·exact b z hz
  ·conv => rhs; rw [← List.take_append_drop i D]
   simp only [List.mem_append, List.mem_singleton]
   constructor
   ·rintro ((h | h) | h)
    ·exact .inr (.inl h)
    ·exact .inl h
    ·exact .inr (.inr h)
   ·rintro (h | h | h)
    ·exact .inl (.inr h)
    ·exact .inl (.inl h)
    ·exact .inr h
 induction d with
 | zero =>
  intro i hi h1
  refine ⟨_, Ev.shift ?_, ins i (by omega) h1 (fun m a b => by omega)⟩
  simp only [spec_l1Put.l0, Option.bind_some, List.nil_append, List.length_nil]
  refine Ev.neg (by omega) (Ev.pos (by omega) (Ev.pos (by omega) (Ev.pos (by simp; omega) (Ev.pos (by simp; omega) (Ev.pos (by simp; omega) (Ev.ret (by simp)))))))
 | succ d ih =>
  intro i hi h1
  by_cases hc : rd D (i : Int) < x
  ·obtain ⟨r, hr, hq⟩ := ih (i + 1) (by omega) (fun m hm => by
    by_cases e : m = i
    ·subst e; exact hc
    ·exact h1 m (by omega))
   refine ⟨r, Ev.shift ?_, hq⟩
   simp only [spec_l1Put.l0]
   refine Ev.pos (by omega) (Ev.pos (by omega) (Ev.pos hc ?_))
   rw [wrap64_id (by omega) (by omega), cast1]
   exact hr
  ·by_cases he : rd D (i : Int) = x
   ·refine ⟨D, Ev.shift ?_, h, fun y => ⟨fun hy => .inr hy, fun hy => hy.elim (fun e => by rw [e, ← he, rd_lt D i (by omega)]; exact List.getElem_mem _) id⟩, by omega⟩
    simp only [spec_l1Put.l0]
    exact Ev.pos (by omega) (Ev.pos (by omega) (Ev.neg hc (Ev.pos he (Ev.ret rfl))))
   ·refine ⟨_, Ev.shift ?_, ins i (by omega) h1 (fun m a b => by
     by_cases e : i = m
     ·subst e; omega
     ·have := rising_rd h (show i < m by omega) b; omega)⟩
    simp only [spec_l1Put.l0, Option.bind_some, List.nil_append, List.length_nil]
    refine Ev.pos (by omega) (Ev.pos (by omega) (Ev.neg hc (Ev.neg he (Ev.pos (by omega) (Ev.pos (by simp; omega) (Ev.pos (by simp; omega) (Ev.pos (by simp; omega) (Ev.ret (by simp)))))))))
theorem below_l {n : Int} {L : List Int} (h : relP n L) (i : Nat) (hi : i < L.length) (d : Nat) : ∀ (j : Nat), j + d = L.length → Ev (fun k => spec_orBelow.l0 k (i : Int) (rowf (fun j => lt L j i) j) L (L.length : Int) (j : Int)) (rowf (fun j => lt L j i) L.length) := by
 have e1 := h.2.1
 have e3 := h.1
 induction d with
 | zero =>
  intro j hj
  refine Ev.shift ?_
  simp only [spec_orBelow.l0]
  exact Ev.neg (by omega) (Ev.ret (by rw [show j = L.length by omega]))
 | succ d ih =>
  intro j hj
  have := ih (j + 1) (by omega)
  rw [rowf_succ] at this
  refine Ev.shift ?_
  simp only [spec_orBelow.l0]
  refine Ev.pos (by omega) (Ev.pos (by omega) (Ev.pos (by omega) (Ev.bindc (orHas_f (h.set (i := j) (by omega)).1 (h.set (i := j) (by omega)).2 (by omega)) ?_)))
  rw [wrap64_id (by omega) (by omega), cast1]
  by_cases hb : bit (rd L (j : Int)) i = true
  ·rw [if_pos (show lt L j i = true from hb)] at this
   exact Ev.pos hb this
  ·rw [if_neg (show ¬ lt L j i = true from hb)] at this
   exact Ev.neg hb this
theorem below_ev {n : Int} {L : List Int} (h : relP n L) {i : Nat} (hi : i < L.length) : Ev (fun k => spec_orBelow.f k n L (i : Int)) (rowf (fun j => lt L j i) L.length) := by
 unfold spec_orBelow.f
 exact below_l h i hi L.length 0 (by omega)
theorem put_ev (D : List Int) (x : Int) (h : D.Pairwise (· < ·)) (hD : D.length ≤ 1048576) : ∃ r, Ev (fun k => spec_l1Put.f k D x) r ∧ r.Pairwise (· < ·) ∧ (∀ y, y ∈ r ↔ y = x ∨ y ∈ D) ∧ r.length ≤ D.length + 1 := by
 unfold spec_l1Put.f
 exact put_l D x h hD D.length 0 (by omega) (fun m hm => by omega)
theorem sets_l {n : Int} {L : List Int} (h : relP n L) (R : List Int) (hR : Ev (fun k => spec_ivLevels.l1 k (dif (dns L)) [] (L.length : Int) 0 n L) R) (d : Nat) :
  ∀ (i : Nat) (D : List Int), i + d = L.length → D.Pairwise (· < ·) → D.length ≤ i → (∀ y, y ∈ D ↔ ∃ j, j < i ∧ dn L j = y) → Ev (fun k => spec_ivLevels.l0 k D (L.length : Int) (i : Int) n L) R := by
 have e1 := h.2.1
 have e3 := h.1
 induction d with
 | zero =>
  intro i D hi hp hl hm
  have e : D = dif (dns L) := rising_ext hp (dif_sorted _) fun y => by
   rw [hm, mem_difs]; rw [show i = L.length by omega]
  subst e
  refine Ev.shift ?_
  simp only [spec_ivLevels.l0]
  exact Ev.neg (by omega) hR
 | succ d ih =>
  intro i D hi hp hl hm
  obtain ⟨r, r1, r2, r3, r4⟩ := put_ev D (dn L i) hp (by omega)
  have := ih (i + 1) r (by omega) r2 (by omega) (fun y => by
   rw [r3, hm]
   constructor
   ·rintro (rfl | ⟨j, hj, e⟩)
    ·exact ⟨i, by omega, rfl⟩
    ·exact ⟨j, by omega, e⟩
   ·rintro ⟨j, hj, e⟩
    by_cases ej : j = i
    ·subst ej; exact .inl e.symm
    ·exact .inr ⟨j, by omega, e⟩)
  refine Ev.shift ?_
  simp only [spec_ivLevels.l0]
  refine Ev.pos (by omega) (Ev.bind (below_ev h (i := i) (by omega) : Ev _ (dn L i)) (Ev.bind r1 ?_))
  rw [wrap64_id (by omega) (by omega), cast1]
  exact this
theorem slevels_in {n : Int} {L : List Int} (h : relP n L) (i : Nat) (hi : i < L.length) (D x5 : List Int) (hD : D.length ≤ 1000) (h5 : x5.length ≤ 1000) (R : List Int) (hR : Ev (fun k => spec_ivLevels.l1 k D (x5 ++ [(D.countP (below1 (dn L i)) : Int)]) (L.length : Int) ((i + 1 : Nat) : Int) n L) R) (d : Nat) :
  ∀ q : Nat, q + d = D.length → Ev (fun k => spec_ivLevels.l2 k D x5 (i : Int) ((D.take q).countP (below1 (dn L i)) : Int) (L.length : Int) (i : Int) D (D.length : Int) (q : Int) n L) R := by
 have e1 := h.2.1
 have e3 := h.1
 induction d with
 | zero =>
  intro q hq
  refine Ev.shift ?_
  simp only [spec_ivLevels.l2]
  refine Ev.neg (by omega) (Ev.pos (by omega) ?_)
  rw [wrap64_id (by omega) (by omega), cast1, List.take_of_length_le (by omega)]
  exact hR
 | succ d ih =>
  intro q hq
  have hc := List.countP_le_length (p := below1 (dn L i)) (l := D.take q)
  have hl : (D.take q).length ≤ q := by simp; omega
  have hn : (D.take (q + 1)).countP (below1 (dn L i)) = (D.take q).countP (below1 (dn L i)) + if below1 (dn L i) (rd D (q : Int)) = true then 1 else 0 := by
   rw [List.take_succ_eq_append_getElem (show q < D.length by omega), List.countP_append, List.countP_singleton, rd_lt D q (by omega)]
  have hb : below1 (dn L i) (rd D (q : Int)) = decide (rd D (q : Int) ≠ dn L i ∧ Go.bits .andNot .i64 (rd D (q : Int)) (dn L i) = 0) := rfl
  have be := (below_ev h hi : Ev _ (dn L i))
  refine Ev.shift ?_
  simp only [spec_ivLevels.l2]
  refine Ev.pos (by omega) (Ev.pos (by omega) (Ev.pos (by omega) (Ev.bind be ?_)))
  rw [wrap64_id (x := (q : Int) + 1) (by omega) (by omega), wrap64_id (x := ((D.take q).countP (below1 (dn L i)) : Int) + 1) (by omega) (by omega), cast1]
  have := ih (q + 1) (by omega)
  rw [hn, hb] at this
  by_cases h1 : rd D (q : Int) = dn L i
  ·rw [if_neg (by simp [h1])] at this
   exact Ev.pos h1 this
  ·refine Ev.neg h1 (Ev.bind be ?_)
   by_cases h2 : Go.bits .andNot .i64 (rd D (q : Int)) (dn L i) = 0
   ·rw [if_pos (by simp [h1, h2])] at this
    rw [cast1]
    exact Ev.pos h2 this
   ·rw [if_neg (by simp [h2])] at this
    exact Ev.neg h2 this
theorem slevels_out {n : Int} {L : List Int} (h : relP n L) (d : Nat) : ∀ i : Nat, i + d = L.length → Ev (fun k => spec_ivLevels.l1 k (dif (dns L)) ((lvs L).take i) (L.length : Int) (i : Int) n L) (lvs L) := by
 have e1 := h.2.1
 have e3 := h.1
 have e2 := dif_length (dns L)
 rw [dns_length] at e2
 have el := lvs_length L
 induction d with
 | zero =>
  intro i hi
  refine Ev.shift ?_
  simp only [spec_ivLevels.l1]
  exact Ev.neg (by omega) (Ev.ret (List.take_of_length_le (by omega)))
 | succ d ih =>
  intro i hi
  have := ih (i + 1) (by omega)
  rw [List.take_succ_eq_append_getElem (show i < (lvs L).length by omega), show (lvs L)[i] = (lvc L i : Int) by simp [lvs_eq]] at this
  refine Ev.shift ?_
  simp only [spec_ivLevels.l1]
  refine Ev.pos (by omega) ?_
  exact slevels_in h i (by omega) (dif (dns L)) ((lvs L).take i) (by omega) (by simp; omega) _ this (dif (dns L)).length 0 (by omega)
theorem slevels_ev {n : Int} {L : List Int} (h : relP n L) : Ev (fun k => spec_ivLevels.f k n L) (lvs L) := by
 unfold spec_ivLevels.f
 have := slevels_out h L.length 0 (by omega)
 exact sets_l h _ (by simpa using this) L.length 0 [] (by omega) List.Pairwise.nil (by simp) (fun y => by simp)
def ens (L : List Int) : List S39 := (List.range L.length).map fun i => ⟨(lvc L i : Int), (rho L.length (lt L) (lvc L) i : Int)⟩
theorem ens_length (L : List Int) : (ens L).length = L.length := by simp [ens]
theorem ens_rd (L : List Int) {i : Nat} (hi : i < L.length) : rd_T39 (ens L) (i : Int) = ⟨(lvc L i : Int), (rho L.length (lt L) (lvc L) i : Int)⟩ := by
 rw [rdIv_lt _ i (by rw [ens_length]; exact hi)]; simp [ens]
theorem lvs_rd (L : List Int) {i : Nat} (hi : i < L.length) : rd (lvs L) (i : Int) = lvc L i := by
 rw [rd_lt _ i (by rw [lvs_length]; exact hi)]; simp [lvs_eq]
def rhoU (L : List Int) (i j : Nat) : Nat := (List.range j).foldl (fun m j => if lt L i j = true then m else max m (lvc L j)) (lvc L i)
theorem rhoU_succ (L : List Int) (i j : Nat) : rhoU L i (j + 1) = if lt L i j = true then rhoU L i j else max (rhoU L i j) (lvc L j) := by
 simp [rhoU, List.range_succ, List.foldl_append]
theorem mx_nat (a b : Nat) : mx (a : Int) (b : Int) = ((max a b : Nat) : Int) := by unfold mx; split <;> omega
theorem ends_l1 {n : Int} {L : List Int} (h : relP n L) (i : Nat) (hi : i < L.length) (x3 : List S39) (hx : x3.length ≤ 1000) (R : List S39)
  (hR : Ev (fun k => impl_Order_ends.l0 k (x3 ++ [⟨(lvc L i : Int), (rhoU L i L.length : Int)⟩]) (lvs L) (lvs L) (L.length : Int) ((i + 1 : Nat) : Int) n L) R) (d : Nat) :
  ∀ j : Nat, j + d = L.length → Ev (fun k => impl_Order_ends.l1 k x3 (lvs L) (i : Int) (lvc L i : Int) (rhoU L i j : Int) (lvs L) (L.length : Int) (i : Int) (lvs L) (L.length : Int) (j : Int) n L) R := by
 have e1 := h.2.1
 have e3 := h.1
 induction d with
 | zero =>
  intro j hj
  obtain rfl : j = L.length := by omega
  refine Ev.shift ?_
  simp only [impl_Order_ends.l1]
  refine Ev.neg (by omega) (Ev.pos (by omega) ?_)
  rw [wrap64_id (by omega) (by omega), cast1]
  exact hR
 | succ d ih =>
  intro j hj
  have := ih (j + 1) (by omega)
  rw [rhoU_succ] at this
  refine Ev.shift ?_
  simp only [impl_Order_ends.l1]
  refine Ev.pos (by omega) (Ev.pos (by omega) (Ev.pos (by rw [lvs_length]; omega) (Ev.bindc (better_lt h hi (by omega)) ?_)))
  rw [wrap64_id (x := (j : Int) + 1) (by omega) (by omega), cast1, lvs_rd L (show j < L.length by omega), mx_nat]
  by_cases hb : lt L i j = true
  ·rw [if_pos hb] at this; exact Ev.pos hb this
  ·rw [if_neg hb] at this; exact Ev.neg hb this
theorem ends_l0 {n : Int} {L : List Int} (h : relP n L) (d : Nat) : ∀ i : Nat, i + d = L.length → Ev (fun k => impl_Order_ends.l0 k ((ens L).take i) (lvs L) (lvs L) (L.length : Int) (i : Int) n L) (ens L) := by
 have e1 := h.2.1
 have e3 := h.1
 induction d with
 | zero =>
  intro i hi
  refine Ev.shift ?_
  simp only [impl_Order_ends.l0]
  exact Ev.neg (by omega) (Ev.ret (List.take_of_length_le (by rw [ens_length]; omega)))
 | succ d ih =>
  intro i hi
  have := ih (i + 1) (by omega)
  rw [takeIv (ens L) i (by rw [ens_length]; omega), ens_rd L (show i < L.length by omega)] at this
  refine Ev.shift ?_
  simp only [impl_Order_ends.l0]
  refine Ev.pos (by omega) (Ev.pos (by omega) (Ev.pos (by rw [lvs_length]; omega) ?_))
  rw [lvs_rd L (show i < L.length by omega), lvs_length]
  exact ends_l1 h i (by omega) ((ens L).take i) (by simp [ens_length]; omega) _ this L.length 0 (by omega)
theorem iEnds_ev {n : Int} {L : List Int} (h : relP n L) : Ev (fun k => impl_Order_ends.f k n L) (ens L) := by
 unfold impl_Order_ends.f
 refine Ev.bind (olevels_ev h) ?_
 rw [lvs_length]
 have := ends_l0 h L.length 0 (by omega)
 simpa using this
theorem mostI_f (a b : Nat) : spec_l1Most.f (a : Int) (b : Int) = some ((max a b : Nat) : Int) := by
 unfold spec_l1Most.f
 split
 ·exact congrArg some (by omega)
 ·exact congrArg some (by omega)
theorem sends_l1 {n : Int} {L : List Int} (h : relP n L) (i : Nat) (hi : i < L.length) (x4 : List S39) (hx : x4.length ≤ 1000) (R : List S39)
  (hR : Ev (fun k => spec_ivEnds.l0 k (lvs L) (x4 ++ [⟨(lvc L i : Int), (rhoU L i L.length : Int)⟩]) (lvs L) (L.length : Int) ((i + 1 : Nat) : Int) n L) R) (d : Nat) :
  ∀ j : Nat, j + d = L.length → Ev (fun k => spec_ivEnds.l1 k (lvs L) x4 (i : Int) (lvs L) (L.length : Int) (i : Int) (lvs L) (L.length : Int) (j : Int) n L (lvc L i : Int) (rhoU L i j : Int)) R := by
 have e1 := h.2.1
 have e3 := h.1
 induction d with
 | zero =>
  intro j hj
  obtain rfl : j = L.length := by omega
  refine Ev.shift ?_
  simp only [spec_ivEnds.l1]
  refine Ev.neg (by omega) (Ev.pos (by omega) ?_)
  rw [wrap64_id (by omega) (by omega), cast1]
  exact hR
 | succ d ih =>
  intro j hj
  have := ih (j + 1) (by omega)
  have si := h.set hi
  rw [rhoU_succ] at this
  refine Ev.shift ?_
  simp only [spec_ivEnds.l1]
  refine Ev.pos (by omega) (Ev.pos (by omega) (Ev.pos (by rw [lvs_length]; omega) (Ev.pos (by omega) (Ev.pos (by omega) (Ev.bindc (orHas_f si.1 si.2 (by omega)) ?_)))))
  rw [wrap64_id (x := (j : Int) + 1) (by omega) (by omega), cast1, lvs_rd L (show j < L.length by omega)]
  by_cases hb : lt L i j = true
  ·rw [if_pos hb] at this; exact Ev.pos hb this
  ·rw [if_neg hb] at this; exact Ev.neg hb (Ev.bindc (mostI_f _ _) this)
theorem sends_l0 {n : Int} {L : List Int} (h : relP n L) (d : Nat) : ∀ i : Nat, i + d = L.length → Ev (fun k => spec_ivEnds.l0 k (lvs L) ((ens L).take i) (lvs L) (L.length : Int) (i : Int) n L) (ens L) := by
 have e1 := h.2.1
 have e3 := h.1
 induction d with
 | zero =>
  intro i hi
  refine Ev.shift ?_
  simp only [spec_ivEnds.l0]
  exact Ev.neg (by omega) (Ev.ret (List.take_of_length_le (by rw [ens_length]; omega)))
 | succ d ih =>
  intro i hi
  have := ih (i + 1) (by omega)
  rw [takeIv (ens L) i (by rw [ens_length]; omega), ens_rd L (show i < L.length by omega)] at this
  refine Ev.shift ?_
  simp only [spec_ivEnds.l0]
  refine Ev.pos (by omega) (Ev.pos (by omega) (Ev.pos (by rw [lvs_length]; omega) ?_))
  rw [lvs_rd L (show i < L.length by omega), lvs_length]
  exact sends_l1 h i (by omega) ((ens L).take i) (by simp [ens_length]; omega) _ this L.length 0 (by omega)
theorem sEnds_ev {n : Int} {L : List Int} (h : relP n L) : Ev (fun k => spec_ivEnds.f k n L) (ens L) := by
 unfold spec_ivEnds.f
 refine Ev.bind (slevels_ev h) ?_
 rw [lvs_length]
 have := sends_l0 h L.length 0 (by omega)
 simpa using this
end Go.Proofs.YtdmheeenoklijaaDoor.Pure
namespace Go.Proofs.YtdmheeenoklijaaDoor.Q
open Go.RowKit Go.Proofs.YtdmheeenoklijaaDoorW.PrintWords Go.Proofs.YtdmheeenoklijaaDoorW.PrintLast Go.Proofs.YtdmheeenoklijaaDoorW.PrintMore
attribute [local go_sem] max2_int min2_int max_two min_two max_three min_three max_four min_four neB_f
set_option linter.unusedVariables false
set_option maxHeartbeats 8000000
set_option maxRecDepth 100000
set_option linter.unusedSimpArgs false
theorem eqA39 (d : Nat) (w : World) (x0 y0 : Int) (x1 y1 : Int) :
  (Op.equalIn (d + 2) 39 (.agg #[.int .i64 x0, .int .i64 x1]) (.agg #[.int .i64 y0, .int .i64 y1])).run Tryd.prog w = .ok (x0 == y0 && (x1 == y1)) w := by
 refine eqA_of Tryd.underlying39 (by kernel_rfl) ?_
 refine eqf_cons (by rfl) (by go_simp; rfl) (by go_simp; rfl) (by go_simp) ?_
 exact eqf_last (by rfl) (by go_simp; rfl) (by go_simp; rfl) (by go_simp)
end Go.Proofs.YtdmheeenoklijaaDoor.Q
