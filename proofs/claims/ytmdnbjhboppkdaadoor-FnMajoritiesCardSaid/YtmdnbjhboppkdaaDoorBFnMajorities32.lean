import Derived.Test.YtmdnbjhboppkdaaDoorBFnMajorities25
import Derived.Test.YtmdnbjhboppkdaaDoorBFnMajorities31
/- A pair is told by the majority of voters, mean levels refine what all voters agree on, and one voter decides alone, for every two strings of bytes. Condition: the listed variables, tied to the program's text by the card. -/
namespace Go.Proofs.YtmdnbjhboppkdaaDoor.Pure
open Go.RowKit Go.Proofs.YtmdnbjhboppkdaaDoor.Q Go.Proofs.YtmdnbjhboppkdaaDoorW.PrintWords Go.Proofs.YtmdnbjhboppkdaaDoorW.PrintLast
set_option linter.unusedVariables false
set_option linter.unusedSimpArgs false
theorem dist_law {c : List Int} (hc : bytesP c) : Ev (fun k => laws_FnMajorities.j4 k c) true := by
 obtain ⟨n, L, m, M, a, s, hd, hL, hM⟩ := both_d hc
 have hd2 : Ev (fun k => spec_DrawPairDistance.f k c) (n, L, m, M) := by unfold spec_DrawPairDistance.f spec_DrawDoesRefine.f; exact Ev.bind (Ev.bind hd (Ev.ret rfl)) (Ev.ret rfl)
 obtain ⟨r, hi, hs⟩ := PairDistance_both n L m M (by omega) (by omega)
 refine Ev.shift ?_
 simp only [laws_FnMajorities.j4]
 by_cases h : orderP n L ∧ orderP m M ∧ n = m
 ·obtain ⟨h1, h2, he⟩ := h
  have e1 := h1.1.2.1
  have e2 := h2.1.2.1
  have hv := idist_ev h1 h2 he (by omega) (by omega)
  have hw := idist_ev h2 h1 he.symm (by omega) (by omega)
  rw [show M.length = L.length by omega, di_swap M L] at hw
  obtain rfl := Ev.uniq hi hv
  have hz := dist_zero h1 h2 he
  refine Ev.bind hd2 (Ev.bind hi (Ev.bind hs (Ev.neg (by simp) (Ev.pos rfl (Ev.pos rfl (Ev.bind hw (Ev.pos rfl (Ev.pos rfl (Ev.bind (vOrder_ev n L m M (show L.length ≤ 1048576 by omega)) (Ev.ret ?_))))))))))
  rw [beq_iff_eq, Bool.eq_iff_iff]
  simp [he, hz]
 ·have hv := idist_no h (by omega) (by omega)
  obtain rfl := Ev.uniq hi hv
  exact Ev.bind hd2 (Ev.bind hi (Ev.bind hs (Ev.neg (by simp) (Ev.pos rfl (Ev.neg (by simp) (Ev.ret rfl))))))
section
variable {L : List (List Int)} {c : List Int}
theorem maj_l2 (hv : votP L) {i j : Nat} (hi : i < (rd_L2 L 0).length) (hj : j < (rd_L2 L 0).length) (hR : Ev (fun k => laws_FnMajorities.l1 k c L (lev (vsum L)) (i : Int) ((rd_L2 L 0).length : Int) (i : Int) ((rd_L2 L 0).length : Int) ((j + 1 : Nat) : Int) ((rd_L2 L 0).length : Int) (rel (majP L) (rd_L2 L 0).length)) true) (d : Nat) :
  ∀ (q : Nat) (x y : Int), q + d = L.length → 0 ≤ x → x ≤ q → 0 ≤ y → y ≤ q → x + moreV i j (L.drop q) = moreV i j L → y + lessV i j (L.drop q) = lessV i j L → Ev (fun k => laws_FnMajorities.l2 k c L (lev (vsum L)) (i : Int) (j : Int) x y ((rd_L2 L 0).length : Int) (i : Int) ((rd_L2 L 0).length : Int) (j : Int) L (L.length : Int) (q : Int) ((rd_L2 L 0).length : Int) (rel (majP L) (rd_L2 L 0).length)) true := by
 have hL := hv.1
 have h10 := (hv.row (q := 0) (by omega)).2.1
 rw [show ((0 : Nat) : Int) = 0 from rfl] at h10
 induction d with
 | zero =>
  intro q x y hq x0 x1 y0 y1 hx hy
  rw [List.drop_of_length_le (by omega)] at hx hy
  simp only [moreV, lessV, Int.add_zero] at hx hy
  have hrel : relP ((rd_L2 L 0).length : Int) (rel (majP L) (rd_L2 L 0).length) := rel_relP rfl h10 _
  have hb := IsBetter_ev hrel (i := i) (j := j) (by rw [rel_length]; exact hi) (by rw [rel_length]; exact hj)
  rw [rel_lt h10 hi] at hb
  have hl := vsum_length hv
  refine Ev.shift ?_
  simp only [laws_FnMajorities.l2]
  rw [wrap64_id (x := (j : Int) + 1) (by omega) (by omega), cast1]
  refine Ev.neg (by omega) (Ev.bind hb (Ev.pos rfl (Ev.neg ?_ ?_)))
  ·have := majD_eq i j L
   have e : majP L i j = decide (x > y) := by unfold majP; rw [decide_eq_decide]; omega
   simp [hj, e]
  ·by_cases h0 : y = 0
   ·obtain ⟨m1, m2⟩ := mean_law hv hi hj (by omega)
    refine Ev.pos h0 (Ev.pos (by omega) (Ev.pos (by rw [lev_length]; omega) (Ev.pos (by omega) (Ev.pos (by rw [lev_length]; omega) (Ev.neg m1 ?_)))))
    by_cases hp : x > 0
    ·exact Ev.pos hp (Ev.neg (m2 (by omega)) hR)
    ·exact Ev.neg hp hR
   ·exact Ev.neg h0 hR
 | succ d ih =>
  intro q x y hq x0 x1 y0 y1 hx hy
  have hr := hv.row (q := q) (by omega)
  rw [dropL L q (by omega)] at hx hy
  simp only [moreV, lessV] at hx hy
  refine Ev.shift ?_
  simp only [laws_FnMajorities.l2]
  rw [wrap64_id (x := (q : Int) + 1) (by omega) (by omega), cast1, wrap64_id (x := x + 1) (by omega) (by omega), wrap64_id (x := y + 1) (by omega) (by omega)]
  refine Ev.pos (by omega) (Ev.pos (by omega) (Ev.pos (by omega) (Ev.pos (by omega) (Ev.pos (by omega) (Ev.pos (by omega) (Ev.pos (by omega) ?_))))))
  by_cases g1 : rd (rd_L2 L (q : Int)) (j : Int) > rd (rd_L2 L (q : Int)) (i : Int)
  ·rw [if_pos g1] at hx
   rw [if_neg (by omega)] at hy
   exact Ev.pos g1 (Ev.neg (by omega) (ih (q + 1) (x + 1) y (by omega) (by omega) (by omega) (by omega) (by omega) (by omega) (by omega)))
  ·rw [if_neg g1] at hx
   by_cases g2 : rd (rd_L2 L (q : Int)) (j : Int) < rd (rd_L2 L (q : Int)) (i : Int)
   ·rw [if_pos g2] at hy
    exact Ev.neg g1 (Ev.pos g2 (ih (q + 1) x (y + 1) (by omega) (by omega) (by omega) (by omega) (by omega) (by omega) (by omega)))
   ·rw [if_neg g2] at hy
    exact Ev.neg g1 (Ev.neg g2 (ih (q + 1) x y (by omega) (by omega) (by omega) (by omega) (by omega) (by omega) (by omega)))
theorem maj_l1 (hv : votP L) {i : Nat} (hi : i < (rd_L2 L 0).length) (hR : Ev (fun k => laws_FnMajorities.l0 k c L (lev (vsum L)) ((rd_L2 L 0).length : Int) ((i + 1 : Nat) : Int) ((rd_L2 L 0).length : Int) (rel (majP L) (rd_L2 L 0).length)) true) (d : Nat) :
  ∀ j : Nat, j + d = (rd_L2 L 0).length → Ev (fun k => laws_FnMajorities.l1 k c L (lev (vsum L)) (i : Int) ((rd_L2 L 0).length : Int) (i : Int) ((rd_L2 L 0).length : Int) (j : Int) ((rd_L2 L 0).length : Int) (rel (majP L) (rd_L2 L 0).length)) true := by
 have hL := hv.1
 have h10 := (hv.row (q := 0) (by omega)).2.1
 rw [show ((0 : Nat) : Int) = 0 from rfl] at h10
 induction d with
 | zero =>
  intro j hj
  refine Ev.shift ?_
  simp only [laws_FnMajorities.l1]
  rw [wrap64_id (x := (i : Int) + 1) (by omega) (by omega), cast1]
  exact Ev.neg (by omega) hR
 | succ d ih =>
  intro j hj
  refine Ev.shift ?_
  simp only [laws_FnMajorities.l1]
  exact Ev.pos (by omega) (maj_l2 hv hi (by omega) (ih (j + 1) (by omega)) L.length 0 0 0 (by omega) (by omega) (by omega) (by omega) (by omega) (by rw [List.drop_zero, Int.zero_add]) (by rw [List.drop_zero, Int.zero_add]))
theorem maj_l0 (hv : votP L) (hR : Ev (fun k => laws_FnMajorities.j4 k c) true) (d : Nat) :
  ∀ i : Nat, i + d = (rd_L2 L 0).length → Ev (fun k => laws_FnMajorities.l0 k c L (lev (vsum L)) ((rd_L2 L 0).length : Int) (i : Int) ((rd_L2 L 0).length : Int) (rel (majP L) (rd_L2 L 0).length)) true := by
 have hl := vsum_length hv
 induction d with
 | zero =>
  intro i hi
  refine Ev.shift ?_
  simp only [laws_FnMajorities.l0]
  exact Ev.neg (by omega) hR
 | succ d ih =>
  intro i hi
  refine Ev.shift ?_
  simp only [laws_FnMajorities.l0]
  rw [lev_length, hl]
  exact Ev.pos (by omega) (maj_l1 hv (by omega) (ih (i + 1) (by omega)) (rd_L2 L 0).length 0 (by omega))
end
theorem FnMajorities (l0 : List Int) (hm0 : l0.length ≤ maxLen) (hw0 : ∀ x ∈ l0, (Lit.int .u8 x).wf = true) (l1 : List Int) (hm1 : l1.length ≤ maxLen) (hw1 : ∀ x ∈ l1, (Lit.int .u8 x).wf = true) : ∃ k, laws_FnMajorities.f k l0 l1 = some true := by
 refine Ev.at1 ?_
 unfold laws_FnMajorities.f
 obtain ⟨b, hb⟩ := big_f l0 l1 hm0
 refine Ev.bindc hb ?_
 by_cases hbt : b = true
 ·exact Ev.pos hbt (Ev.ret rfl)
 refine Ev.neg hbt ?_
 obtain ⟨L, hd, hr⟩ := drawVoters (bytesP.of hw0)
 have J5 := dist_law (bytesP.of hw1)
 by_cases hv : votP L
 ·have hL := hv.1
  have h10 := (hv.row (q := 0) (by omega)).2.1
  rw [show ((0 : Nat) : Int) = 0 from rfl] at h10
  have hl := vsum_length hv
  obtain ⟨a1, a2⟩ := major_yes hr hv
  obtain ⟨m1, m2⟩ := mean_yes hr hv
  have hrel : relP ((rd_L2 L 0).length : Int) (rel (majP L) (rd_L2 L 0).length) := rel_relP rfl h10 _
  have hlv := lev_lvl (vsum L) (by omega)
  have J0 : Ev (fun k => laws_FnMajorities.j0 k l1 L (lev (vsum L)) false ((rd_L2 L 0).length : Int) (rel (majP L) (rd_L2 L 0).length)) true := by
   refine Ev.shift ?_
   simp only [laws_FnMajorities.j0]
   rw [lev_length, hl]
   exact Ev.neg (by simp) (maj_l0 hv J5 (rd_L2 L 0).length 0 (by omega))
  refine Ev.bind hd (Ev.bind a1 (Ev.bind a2 (Ev.bind m1 (Ev.bind m2 (Ev.neg (by simp) (Ev.bind (vOrder_self _ _ (show (rel (majP L) (rd_L2 L 0).length).length ≤ 1048576 by rw [rel_length]; omega)) (Ev.pos rfl (Ev.neg (by simp) (Ev.bind (vSame_ev _ _ (show (lev (vsum L)).length ≤ 1048576 by rw [lev_length]; omega)) (Ev.pos (by simp) (Ev.neg (by simp) (Ev.pos rfl (Ev.bind (isRelation_ev _ _ (show (rel (majP L) (rd_L2 L 0).length).length ≤ 1048576 by rw [rel_length]; omega)) (Ev.pos (by simpa using hrel) (Ev.bind (levels_impl _ (show (lev (vsum L)).length ≤ 1048576 by rw [lev_length]; omega)) (Ev.pos (by simpa using hlv) ?_))))))))))))))))
  by_cases h1 : (L.length : Int) = 1
  ·refine Ev.pos h1 (Ev.pos (by omega) (Ev.bind (vSame_ev _ _ (show (lev (vsum L)).length ≤ 1048576 by rw [lev_length]; omega)) ?_))
   have e1 : (lev (vsum L) == rd_L2 L 0) = true := by rw [mean_one hv (by omega)]; simp
   simp only [e1, Bool.not_true]
   exact J0
  ·exact Ev.neg h1 J0
 ·obtain ⟨a1, a2⟩ := major_no hr hv
  obtain ⟨m1, m2⟩ := mean_no hr hv
  exact Ev.bind hd (Ev.bind a1 (Ev.bind a2 (Ev.bind m1 (Ev.bind m2 (Ev.neg (by simp) (Ev.bind (vOrder_self 0 [] (by simp)) (Ev.pos rfl (Ev.neg (by simp) (Ev.bind (vSame_ev [] [] (by simp)) (Ev.pos (by simp) (Ev.neg (by simp) (Ev.neg (by simp) J5))))))))))))
end Go.Proofs.YtmdnbjhboppkdaaDoor.Pure
