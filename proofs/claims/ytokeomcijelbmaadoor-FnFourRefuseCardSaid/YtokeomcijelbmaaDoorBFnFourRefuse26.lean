import Derived.Test.YtokeomcijelbmaaDoorBFnFourRefuse20
import Derived.Test.YtokeomcijelbmaaDoorBFnFourRefuse25
namespace Go.Proofs.YtokeomcijelbmaaDoor.Pure
open Go.RowKit Go.Proofs.YtokeomcijelbmaaDoor.Q Go.Proofs.YtokeomcijelbmaaDoorW.PrintWords Go.Proofs.YtokeomcijelbmaaDoorW.PrintLast
set_option linter.unusedVariables false
set_option linter.unusedSimpArgs false
def ens (L : List Int) : List S57 := (List.range L.length).map fun i => ⟨(lvc L i : Int), (rho L.length (lt L) (lvc L) i : Int)⟩
theorem ens_length (L : List Int) : (ens L).length = L.length := by simp [ens]
theorem ens_rd (L : List Int) {i : Nat} (hi : i < L.length) : rd_T57 (ens L) (i : Int) = ⟨(lvc L i : Int), (rho L.length (lt L) (lvc L) i : Int)⟩ := by
 rw [rdIv_lt _ i (by rw [ens_length]; exact hi)]; simp [ens]
theorem lvs_rd (L : List Int) {i : Nat} (hi : i < L.length) : rd (lvs L) (i : Int) = lvc L i := by
 rw [rd_lt _ i (by rw [lvs_length]; exact hi)]; simp [lvs_eq]
def rhoU (L : List Int) (i j : Nat) : Nat := (List.range j).foldl (fun m j => if lt L i j = true then m else max m (lvc L j)) (lvc L i)
theorem rhoU_succ (L : List Int) (i j : Nat) : rhoU L i (j + 1) = if lt L i j = true then rhoU L i j else max (rhoU L i j) (lvc L j) := by
 simp [rhoU, List.range_succ, List.foldl_append]
theorem mx_nat (a b : Nat) : mx (a : Int) (b : Int) = ((max a b : Nat) : Int) := by unfold mx; split <;> omega
theorem ends_l1 {n : Int} {L : List Int} (h : relP n L) (i : Nat) (hi : i < L.length) (x3 : List S57) (hx : x3.length ≤ 1000) (R : List S57)
  (hR : Ev (fun k => impl_Order_ends.l0 k (x3 ++ [⟨(lvc L i : Int), (rhoU L i L.length : Int)⟩]) (lvs L) (lvs L) (L.length : Int) ((i + 1 : Nat) : Int) n L) R) (d : Nat) :
  ∀ j : Nat, j + d = L.length → Ev (fun k => impl_Order_ends.l1 k x3 (lvs L) (i : Int) (lvc L i : Int) (rhoU L i j : Int) (lvs L) (L.length : Int) (i : Int) (lvs L) (L.length : Int) (j : Int) n L) R := by
 have e1 := h.2.1
 have e3 := h.1
 induction d with
 | zero =>
  intro j hj
  obtain rfl : j = L.length := by omega
  refine Ev.shift ?_
  simp only [impl_Order_ends.l1]
  refine Ev.neg (by omega) (Ev.pos (by omega) ?_)
  rw [wrap64_id (by omega) (by omega), cast1]
  exact hR
 | succ d ih =>
  intro j hj
  have := ih (j + 1) (by omega)
  rw [rhoU_succ] at this
  refine Ev.shift ?_
  simp only [impl_Order_ends.l1]
  refine Ev.pos (by omega) (Ev.pos (by omega) (Ev.pos (by rw [lvs_length]; omega) (Ev.bindc (better_lt h hi (by omega)) ?_)))
  rw [wrap64_id (x := (j : Int) + 1) (by omega) (by omega), cast1, lvs_rd L (show j < L.length by omega), mx_nat]
  by_cases hb : lt L i j = true
  ·rw [if_pos hb] at this; exact Ev.pos hb this
  ·rw [if_neg hb] at this; exact Ev.neg hb this
theorem ends_l0 {n : Int} {L : List Int} (h : relP n L) (d : Nat) : ∀ i : Nat, i + d = L.length → Ev (fun k => impl_Order_ends.l0 k ((ens L).take i) (lvs L) (lvs L) (L.length : Int) (i : Int) n L) (ens L) := by
 have e1 := h.2.1
 have e3 := h.1
 induction d with
 | zero =>
  intro i hi
  refine Ev.shift ?_
  simp only [impl_Order_ends.l0]
  exact Ev.neg (by omega) (Ev.ret (List.take_of_length_le (by rw [ens_length]; omega)))
 | succ d ih =>
  intro i hi
  have := ih (i + 1) (by omega)
  rw [takeIv (ens L) i (by rw [ens_length]; omega), ens_rd L (show i < L.length by omega)] at this
  refine Ev.shift ?_
  simp only [impl_Order_ends.l0]
  refine Ev.pos (by omega) (Ev.pos (by omega) (Ev.pos (by rw [lvs_length]; omega) ?_))
  rw [lvs_rd L (show i < L.length by omega), lvs_length]
  exact ends_l1 h i (by omega) ((ens L).take i) (by simp [ens_length]; omega) _ this L.length 0 (by omega)
theorem iEnds_ev {n : Int} {L : List Int} (h : relP n L) : Ev (fun k => impl_Order_ends.f k n L) (ens L) := by
 unfold impl_Order_ends.f
 refine Ev.bind (olevels_ev h) ?_
 rw [lvs_length]
 have := ends_l0 h L.length 0 (by omega)
 simpa using this
def ivsP (l : List S57) : Prop := (∀ i : Nat, i < l.length → -1000 ≤ (rd_T57 l (i : Int)).f0 ∧ (rd_T57 l (i : Int)).f0 ≤ (rd_T57 l (i : Int)).f1 ∧ (rd_T57 l (i : Int)).f1 ≤ 1000) ∧ l.length ≤ 10
def ivLt (l : List S57) (i j : Nat) : Bool := decide ((rd_T57 l (i : Int)).f1 < (rd_T57 l (j : Int)).f0)
def mir (L : List Int) : List Int := rel (fun i j => lt L j i) L.length
end Go.Proofs.YtokeomcijelbmaaDoor.Pure
namespace Go.Proofs.YtokeomcijelbmaaDoor.Pure
open Go.RowKit Go.Proofs.YtokeomcijelbmaaDoor.Q Go.Proofs.YtokeomcijelbmaaDoorW.PrintWords Go.Proofs.YtokeomcijelbmaaDoorW.PrintLast
set_option linter.unusedVariables false
set_option linter.unusedSimpArgs false
end Go.Proofs.YtokeomcijelbmaaDoor.Pure
namespace Go.Proofs.YtokeomcijelbmaaDoor.Pure
open Go.RowKit Go.Proofs.YtokeomcijelbmaaDoor.Q Go.Proofs.YtokeomcijelbmaaDoorW.PrintWords Go.Proofs.YtokeomcijelbmaaDoorW.PrintLast
set_option linter.unusedVariables false
set_option linter.unusedSimpArgs false
theorem ivP.len {n : Int} {L : List Int} (h : ivP n L) : L.length ≤ 10 := by have := h.1.1.1; have := h.1.1.2.1; omega
theorem ivP.lam {n : Int} {L : List Int} (h : ivP n L) : Lam L.length (lt L) (lvc L) := lvc_lam h.1.1 h.2
theorem ivP.mag {n : Int} {L : List Int} (h : ivP n L) : Mag L.length (lvc L) (mag L) := ⟨(mag_facts h.1.1 h.2).1, (mag_facts h.1.1 h.2).2.1⟩
theorem iEndsOf_yes {n : Int} {L : List Int} (h : ivP n L) (hL : L.length ≤ 1048576) : Ev (fun k => impl_EndsOf.f k n L) (ens L, true) := by
 obtain ⟨b, b1, b2⟩ := iIsInt_ev n L hL
 unfold impl_EndsOf.f
 exact Ev.bind b1 (Ev.pos (b2.2 h) (Ev.bind (iEnds_ev h.1.1) (Ev.ret rfl)))
theorem iEndsOf_no {n : Int} {L : List Int} (h : ¬ ivP n L) (hL : L.length ≤ 1048576) : Ev (fun k => impl_EndsOf.f k n L) ([], false) := by
 obtain ⟨b, b1, b2⟩ := iIsInt_ev n L hL
 unfold impl_EndsOf.f
 exact Ev.bind b1 (Ev.neg (fun g => h (b2.1 g)) (Ev.ret rfl))
def low (D : List Int) (x : Int) : Int := ((D.filter fun y => decide (y < x)).length : Int)
def lev (l : List Int) : List Int := l.map (low (dif l))
end Go.Proofs.YtokeomcijelbmaaDoor.Pure
namespace Go.Proofs.YtokeomcijelbmaaDoor.Pure
open Go.RowKit Go.Proofs.YtokeomcijelbmaaDoor.Q Go.Proofs.YtokeomcijelbmaaDoorW.PrintWords Go.Proofs.YtokeomcijelbmaaDoorW.PrintLast
set_option linter.unusedVariables false
set_option linter.unusedSimpArgs false
end Go.Proofs.YtokeomcijelbmaaDoor.Pure
namespace Go.Proofs.YtokeomcijelbmaaDoor.Pure
open Go.RowKit Go.Proofs.YtokeomcijelbmaaDoor.Q Go.Proofs.YtokeomcijelbmaaDoorW.PrintWords Go.Proofs.YtokeomcijelbmaaDoorW.PrintLast
set_option linter.unusedVariables false
set_option linter.unusedSimpArgs false
end Go.Proofs.YtokeomcijelbmaaDoor.Pure
namespace Go.Proofs.YtokeomcijelbmaaDoor.Pure
open Go.RowKit Go.Proofs.YtokeomcijelbmaaDoor.Q Go.Proofs.YtokeomcijelbmaaDoorW.PrintWords Go.Proofs.YtokeomcijelbmaaDoorW.PrintLast
set_option linter.unusedVariables false
set_option linter.unusedSimpArgs false
end Go.Proofs.YtokeomcijelbmaaDoor.Pure
namespace Go.Proofs.YtokeomcijelbmaaDoor.Pure
open Go.RowKit Go.Proofs.YtokeomcijelbmaaDoor.Q Go.Proofs.YtokeomcijelbmaaDoorW.PrintWords Go.Proofs.YtokeomcijelbmaaDoorW.PrintLast
set_option linter.unusedVariables false
set_option linter.unusedSimpArgs false
end Go.Proofs.YtokeomcijelbmaaDoor.Pure
namespace Go.Proofs.YtokeomcijelbmaaDoor.Pure
open Go.RowKit Go.Proofs.YtokeomcijelbmaaDoor.Q Go.Proofs.YtokeomcijelbmaaDoorW.PrintWords Go.Proofs.YtokeomcijelbmaaDoorW.PrintLast
set_option linter.unusedVariables false
set_option linter.unusedSimpArgs false
end Go.Proofs.YtokeomcijelbmaaDoor.Pure
namespace Go.Proofs.YtokeomcijelbmaaDoor.Pure
open Go.RowKit Go.Proofs.YtokeomcijelbmaaDoor.Q Go.Proofs.YtokeomcijelbmaaDoorW.PrintWords Go.Proofs.YtokeomcijelbmaaDoorW.PrintLast
set_option linter.unusedVariables false
set_option linter.unusedSimpArgs false
end Go.Proofs.YtokeomcijelbmaaDoor.Pure
namespace Go.Proofs.YtokeomcijelbmaaDoor.Pure
open Go.RowKit Go.Proofs.YtokeomcijelbmaaDoor.Q Go.Proofs.YtokeomcijelbmaaDoorW.PrintWords Go.Proofs.YtokeomcijelbmaaDoorW.PrintLast
set_option linter.unusedVariables false
set_option linter.unusedSimpArgs false
theorem iMag_yes {n : Int} {L : List Int} (h : ivP n L) (hL : L.length ≤ 1048576) : Ev (fun k => impl_MagnitudeOf.f k n L) ((mag L : Int), true) := by
 obtain ⟨b, b1, b2⟩ := iIsInt_ev n L hL
 unfold impl_MagnitudeOf.f impl_Order_magnitude.f
 exact Ev.bind b1 (Ev.pos (b2.2 h) (Ev.bind (Ev.bind (olevels_ev h.1.1) (Ev.bindc (different_f (lvs L) (by rw [lvs_length]; omega)) (Ev.ret rfl))) (Ev.ret rfl)))
def inT (L : List Int) (t i : Nat) : Bool := decide (lvc L i ≤ t ∧ t ≤ rho L.length (lt L) (lvc L) i)
def sal (L : List Int) : List Int := (List.range (mag L)).map fun t => rowf (inT L t) L.length
theorem sal_length (L : List Int) : (sal L).length = mag L := by simp [sal]
theorem sal_rd (L : List Int) {t : Nat} (ht : t < mag L) : rd (sal L) (t : Int) = rowf (inT L t) L.length := by
 rw [rd_lt _ t (by rw [sal_length]; exact ht)]; simp [sal]
theorem magL (L : List Int) : mag L ≤ L.length := by
 have := dif_length (lvs L)
 rw [lvs_length] at this; exact this
section
variable {n : Int} {L : List Int}
theorem along_l1 (h : ivP n L) (t : Nat) (ht : t < mag L) (x3 : List Int) (hx : x3.length ≤ 1000) (R : List Int) (hR : Ev (fun k => impl_Order_setsAlong.l0 k (x3 ++ [rowf (inT L t) L.length]) (ens L) (mag L : Int) ((t + 1 : Nat) : Int)) R) (d : Nat) :
  ∀ i : Nat, i + d = L.length → Ev (fun k => impl_Order_setsAlong.l1 k x3 (ens L) (t : Int) (rowf (inT L t) i) (mag L : Int) (t : Int) (ens L) (L.length : Int) (i : Int)) R := by
 have h10 := h.len
 have hm := magL L
 induction d with
 | zero =>
  intro i hi
  obtain rfl : i = L.length := by omega
  refine Ev.shift ?_
  simp only [impl_Order_setsAlong.l1]
  refine Ev.neg (by omega) (Ev.pos (by omega) ?_)
  rw [wrap64_id (by omega) (by omega), cast1]
  exact hR
 | succ d ih =>
  intro i hi
  have hi' : i < L.length := by omega
  have := ih (i + 1) (by omega)
  rw [rowf_succ] at this
  refine Ev.shift ?_
  simp only [impl_Order_setsAlong.l1]
  rw [ens_rd L hi', wrap64_id (by omega) (by omega), cast1]
  refine Ev.pos (by omega) (Ev.pos (by omega) (Ev.pos (by rw [ens_length]; omega) (Ev.bindc (impl_in _ _ _) ?_)))
  dsimp only
  by_cases hc : inT L t i = true
  ·rw [if_pos hc] at this
   unfold inT at hc; rw [decide_eq_true_iff] at hc
   exact Ev.pos (by rw [decide_eq_true_iff]; omega) this
  ·rw [if_neg hc] at this
   unfold inT at hc; rw [decide_eq_true_iff] at hc
   exact Ev.neg (by rw [decide_eq_true_iff]; omega) this
theorem along_l0 (h : ivP n L) (d : Nat) : ∀ t : Nat, t + d = mag L → Ev (fun k => impl_Order_setsAlong.l0 k ((sal L).take t) (ens L) (mag L : Int) (t : Int)) (sal L) := by
 have h10 := h.len
 have hm := magL L
 induction d with
 | zero =>
  intro t ht
  refine Ev.shift ?_
  simp only [impl_Order_setsAlong.l0]
  exact Ev.neg (by omega) (Ev.ret (List.take_of_length_le (by rw [sal_length]; omega)))
 | succ d ih =>
  intro t ht
  have := ih (t + 1) (by omega)
  rw [List.take_succ_eq_append_getElem (by rw [sal_length]; omega), ← rd_lt _ t (by rw [sal_length]; omega), sal_rd L (by omega)] at this
  refine Ev.shift ?_
  simp only [impl_Order_setsAlong.l0]
  refine Ev.pos (by omega) ?_
  rw [ens_length]
  exact along_l1 h t (by omega) ((sal L).take t) (by simp [sal_length]; omega) _ this L.length 0 (by omega)
theorem iAlong_yes (h : ivP n L) (hL : L.length ≤ 1048576) : Ev (fun k => impl_SetsAlong.f k n L) (sal L, true) := by
 obtain ⟨b, b1, b2⟩ := iIsInt_ev n L hL
 have mg : Ev (fun k => impl_Order_magnitude.f k n L) (mag L : Int) := by
  unfold impl_Order_magnitude.f
  exact Ev.bind (olevels_ev h.1.1) (Ev.bindc (different_f (lvs L) (by rw [lvs_length]; omega)) (Ev.ret rfl))
 unfold impl_SetsAlong.f impl_Order_setsAlong.f
 refine Ev.bind b1 (Ev.pos (b2.2 h) (Ev.bind (Ev.bind (iEnds_ev h.1.1) (Ev.bind mg ?_)) (Ev.ret rfl)))
 have := along_l0 h (mag L) 0 (by omega)
 simpa using this
theorem iAlong_no (h : ¬ ivP n L) (hL : L.length ≤ 1048576) : Ev (fun k => impl_SetsAlong.f k n L) ([], false) := by
 obtain ⟨b, b1, b2⟩ := iIsInt_ev n L hL
 unfold impl_SetsAlong.f
 exact Ev.bind b1 (Ev.neg (fun g => h (b2.1 g)) (Ev.ret rfl))
end
-- a set asked by the statements
theorem pIn_all : ∀ x : Fin 1024, ∀ j : Fin 10, laws_pIn.f (x.val : Int) (j.val : Int) = some (bit (x.val : Int) j.val) := by decide +kernel
theorem pIn_f {x : Int} (h0 : 0 ≤ x) (h1 : x < 1024) {j : Nat} (hj : j < 10) : laws_pIn.f x (j : Int) = some (bit x j) := by
 obtain ⟨m, rfl⟩ : ∃ m : Nat, x = m := ⟨x.toNat, by omega⟩
 exact pIn_all ⟨m, by omega⟩ ⟨j, hj⟩
-- the statements' own comparisons
theorem pSame_l (l m : List Int) (hlm : l.length = m.length) (hl : l.length ≤ 1048576) (d : Nat) : ∀ i : Nat, i + d = l.length → Ev (fun k => laws_pSame.l0 k l m (l.length : Int) (i : Int)) (l.drop i == m.drop i) := by
 induction d with
 | zero =>
  intro i hi
  refine Ev.shift ?_
  simp only [laws_pSame.l0]
  refine Ev.neg (by omega) (Ev.ret ?_)
  rw [List.drop_of_length_le (by omega), List.drop_of_length_le (by omega)]; rfl
 | succ d ih =>
  intro i hi
  have e := ih (i + 1) (by omega)
  have f1 : (i : Int) < l.length := by omega
  have f2 : (i : Int) < m.length := by omega
  refine Ev.shift ?_
  simp only [laws_pSame.l0]
  refine Ev.pos f1 (Ev.pos (by omega) (Ev.pos f1 (Ev.pos f2 ?_)))
  rw [wrap64_id (by omega) (by omega), cast1, drop_rd l i (by omega), drop_rd m i (by omega)]
  by_cases hc : rd l (i : Int) = rd m (i : Int)
  ·refine Ev.pos hc (Ev.eq e ?_)
   rw [hc]; simp
  ·refine Ev.neg hc (Ev.ret ?_)
   symm; rw [beq_eq_false_iff_ne]; intro h; exact hc (List.cons.inj h).1
theorem pSame_ev (l m : List Int) (hl : l.length ≤ 1048576) : Ev (fun k => laws_pSame.f k l m) (l == m) := by
 unfold laws_pSame.f
 by_cases h : (l.length : Int) = m.length
 ·refine Ev.pos h ?_
  simpa using pSame_l l m (by omega) hl l.length 0 (by omega)
 ·refine Ev.neg h (Ev.ret ?_)
  symm; rw [beq_eq_false_iff_ne]; intro e; exact h (by rw [e])
end Go.Proofs.YtokeomcijelbmaaDoor.Pure
/- An order is an interval order or has four elements that refuse it, and only in the first case it has levels and ends, for every two strings of bytes. Condition: the listed variables, tied to the program's text by the card. -/
namespace Go.Proofs.YtokeomcijelbmaaDoor.Pure
open Go.RowKit Go.Proofs.YtokeomcijelbmaaDoor.Q Go.Proofs.YtokeomcijelbmaaDoorW.PrintWords Go.Proofs.YtokeomcijelbmaaDoorW.PrintLast
set_option linter.unusedVariables false
set_option linter.unusedSimpArgs false
section
variable {n : Int} {L : List Int}
theorem iLow_yes (h : ivP n L) (hL : L.length ≤ 1048576) : Ev (fun k => impl_LowerLevels.f k n L) (lvs L, true) := by
 obtain ⟨b, b1, b2⟩ := iIsInt_ev n L hL
 unfold impl_LowerLevels.f
 exact Ev.bind b1 (Ev.pos (b2.2 h) (Ev.bind (olevels_ev h.1.1) (Ev.ret rfl)))
theorem iLow_no (h : ¬ ivP n L) (hL : L.length ≤ 1048576) : Ev (fun k => impl_LowerLevels.f k n L) ([], false) := by
 obtain ⟨b, b1, b2⟩ := iIsInt_ev n L hL
 unfold impl_LowerLevels.f
 exact Ev.bind b1 (Ev.neg (fun g => h (b2.1 g)) (Ev.ret rfl))
theorem iMag_no (h : ¬ ivP n L) (hL : L.length ≤ 1048576) : Ev (fun k => impl_MagnitudeOf.f k n L) (0, false) := by
 obtain ⟨b, b1, b2⟩ := iIsInt_ev n L hL
 unfold impl_MagnitudeOf.f
 exact Ev.bind b1 (Ev.neg (fun g => h (b2.1 g)) (Ev.ret rfl))
theorem iInt_of (h : orderP n L) (hL : L.length ≤ 1048576) : (findP (fit4 L) L.length 4 []).isNone = true ↔ ivP n L := by
 obtain ⟨b, b1, b2⟩ := iIsInt_ev n L hL
 have : Ev (fun k => impl_isInterval.f k n L) ((findP (fit4 L) L.length 4 []).getD [] == []) := by
  unfold impl_isInterval.f
  exact Ev.bind (isOrder_ev n L hL) (Ev.pos (by simpa using h) (Ev.bind (twoTwo_find h.1) (Ev.ret rfl)))
 have e := Ev.uniq b1 this
 rw [← b2, e]
 cases hf : findP (fit4 L) L.length 4 [] with
 | none => simp
 | some r =>
  obtain ⟨s, h1, h2, _⟩ := findP_sound _ _ _ hf
  have : r ≠ [] := by rw [h1]; intro e; simp at e; rw [e] at h2; cases h2
  simp [this]
theorem iFour (h : orderP n L) (hL : L.length ≤ 1048576) : Ev (fun k => impl_TwoTwoOf.f k n L) ((findP (fit4 L) L.length 4 []).getD [], (findP (fit4 L) L.length 4 []).isSome) := by
 unfold impl_TwoTwoOf.f
 refine Ev.bind (isOrder_ev n L hL) (Ev.pos (by simpa using h) (Ev.bind (twoTwo_find h.1) (Ev.ret ?_)))
 cases hf : findP (fit4 L) L.length 4 [] with
 | none => rfl
 | some r =>
  obtain ⟨s, h1, h2, _⟩ := findP_sound _ _ _ hf
  have : r ≠ [] := by rw [h1]; intro e; simp at e; rw [e] at h2; cases h2
  simp [this]
theorem sFour (h : orderP n L) (hL : L.length ≤ 1048576) : Ev (fun k => spec_TwoTwoOf.f k n L) ((findP (fit4 L) L.length 4 []).getD [], (findP (fit4 L) L.length 4 []).isSome) := by
 unfold spec_TwoTwoOf.f
 refine Ev.bind (orGood_ev n L hL) (Ev.pos (by simpa using h) (Ev.bind (sTwo_find h.1) (Ev.ret ?_)))
 cases hf : findP (fit4 L) L.length 4 [] <;> rfl
theorem fourTail (h : orderP n L) {r : List Int} (hr : findP (fit4 L) L.length 4 [] = some r) : Ev (fun k => laws_FnFourRefuse.j0 k r true false n L) true := by
 have h1 := h.1.1
 have h2 := h.1.2.1
 obtain ⟨s, g1, g2, g3, g4⟩ := findP_sound _ _ _ hr
 rw [List.nil_append] at g1
 subst g1
 obtain ⟨a, b, c, d, rfl⟩ := len4 g2
 have hA := g3 a (by simp); have hB := g3 b (by simp); have hC := g3 c (by simp); have hD := g3 d (by simp)
 obtain ⟨A, rfl⟩ : ∃ m : Nat, a = m := ⟨a.toNat, by omega⟩
 obtain ⟨B, rfl⟩ : ∃ m : Nat, b = m := ⟨b.toNat, by omega⟩
 obtain ⟨C, rfl⟩ : ∃ m : Nat, c = m := ⟨c.toNat, by omega⟩
 obtain ⟨D, rfl⟩ : ∃ m : Nat, d = m := ⟨d.toNat, by omega⟩
 have hb : bad22 L A B C D := by
  rw [← b4_iff]
  have g4 : true = true ∧ true = true ∧ true = true ∧ b4 L (A : Int).toNat (B : Int).toNat (C : Int).toNat (D : Int).toNat = true ∧ True := g4
  simpa using g4
 have sA := h.1.set (show A < L.length by omega)
 have sC := h.1.set (show C < L.length by omega)
 have e1 := pIn_f sA.1 sA.2 (show B < 10 by omega)
 have e2 := pIn_f sC.1 sC.2 (show D < 10 by omega)
 have e3 := pIn_f sA.1 sA.2 (show D < 10 by omega)
 have e4 := pIn_f sC.1 sC.2 (show B < 10 by omega)
 rw [show bit (rd L (A : Int)) B = true from hb.1] at e1
 rw [show bit (rd L (C : Int)) D = true from hb.2.1] at e2
 rw [show bit (rd L (A : Int)) D = false from hb.2.2.2] at e3
 rw [show bit (rd L (C : Int)) B = false from hb.2.2.1] at e4
 have hp := find_same (f := fit4 L) (g := fitP L pat4) (N := L.length) (m := 4) (fun t ht hx => four_pairs h ht hx)
 have hrel : relP 4 pat4 := by decide +kernel
 have hfind : Ev (fun k => impl_FindPattern.f k n L 4 [2, 0, 8, 0]) ([(A : Int), B, C, D], true) := by
  refine Ev.eq (iFind n L 4 pat4 (by omega) (by decide)) ?_
  unfold findRes
  rw [if_pos ⟨h.1, hrel, by omega⟩, show pat4.length = 4 from rfl, ← hp, hr]
  rfl
 have q0 : rd [(A : Int), B, C, D] 0 = A := rfl
 have q1 : rd [(A : Int), B, C, D] 1 = B := rfl
 have q2 : rd [(A : Int), B, C, D] 2 = C := rfl
 have q3 : rd [(A : Int), B, C, D] 3 = D := rfl
 refine Ev.shift ?_
 simp only [laws_FnFourRefuse.j0]
 rw [q0, q1, q2, q3]
 refine Ev.neg (by simp) (Ev.pos trivial (Ev.pos (by simp) (Ev.pos (by simp) (Ev.pos (by simp) (Ev.pos (by simp) (Ev.pos (by omega) (Ev.pos (by omega) (Ev.bindc e1 (Ev.pos rfl (Ev.pos (by omega) (Ev.pos (by omega) (Ev.bindc e2 (Ev.pos rfl (Ev.bindc e3 (Ev.neg (by simp) (Ev.bindc e4 (Ev.neg (by simp) (Ev.bind hfind (Ev.pos rfl ?_)))))))))))))))))))
 exact Ev.bind (pSame_ev _ _ (by simp)) (Ev.ret (by simp))
end
theorem FnFourRefuse (l0 : List Int) (hm0 : l0.length ≤ maxLen) (hw0 : ∀ x ∈ l0, (Lit.int .u8 x).wf = true) (l1 : List Int) (hm1 : l1.length ≤ maxLen) (hw1 : ∀ x ∈ l1, (Lit.int .u8 x).wf = true) : ∃ k, laws_FnFourRefuse.f k l0 l1 = some true := by
 refine Ev.at1 ?_
 unfold laws_FnFourRefuse.f
 obtain ⟨b, hb⟩ := big_f l0 l1 hm0
 refine Ev.bindc hb ?_
 by_cases hbt : b = true
 ·exact Ev.pos hbt (Ev.ret rfl)
 refine Ev.neg hbt ?_
 obtain ⟨n, L, a', s', he, hn, h2, h3⟩ := anyOrder_d (bytesP.of hw0) (a := 0) 0 7 (by omega) (by omega) ⟨by omega, by omega⟩
 have hl : L.length ≤ 10 := hn.2.1
 have hL : L.length ≤ 1048576 := by omega
 have hd : Ev (fun k => spec_DrawTwoTwoOf.f k l0) (n, L) := by
  unfold spec_DrawTwoTwoOf.f
  exact Ev.bind he (Ev.ret rfl)
 refine Ev.bind hd ?_
 by_cases h : orderP n L
 ·have hiv := iInt_of h hL
  obtain ⟨bi, bi1, bi2⟩ := iIsInt_ev n L hL
  have hint : Ev (fun k => impl_IsIntervalOrder.f k n L) (bi, true) := by
   unfold impl_IsIntervalOrder.f
   exact Ev.bind (isOrder_ev n L hL) (Ev.pos (by simpa using h) (Ev.bind bi1 (Ev.ret rfl)))
  have hord := isOrder_ev n L hL
  rw [decide_eq_true h] at hord
  refine Ev.bind (iFour h hL) (Ev.bind (sFour h hL) (Ev.neg (by simp) ?_))
  cases hf : findP (fit4 L) L.length 4 [] with
  | none =>
   have hp : ivP n L := hiv.1 (by rw [hf]; rfl)
   have ebi : bi = true := bi2.2 hp
   subst ebi
   refine Ev.bind (pSame_ev _ _ (by simp)) (Ev.pos (by simp) (Ev.bind hint (Ev.bind (iLow_yes hp hL) (Ev.bind (iEndsOf_yes hp hL) (Ev.bind (iMag_yes hp hL) (Ev.bind (iAlong_yes hp hL) (Ev.bind hord (Ev.neg (by simp) (Ev.pos rfl (Ev.neg (by simp) (Ev.neg (by simp) (Ev.neg (by simp) (Ev.neg (by simp) (Ev.shift ?_))))))))))))))
   simp only [laws_FnFourRefuse.j0]
   exact Ev.neg (by simp) (Ev.neg (by simp) (Ev.ret rfl))
  | some r =>
   have hp : ¬ ivP n L := fun g => by have := hiv.2 g; rw [hf] at this; cases this
   have ebi : bi = false := by
    cases bi
    ·rfl
    ·exact absurd (bi2.1 rfl) hp
   subst ebi
   have hrl : r.length ≤ 1048576 := by
    obtain ⟨s, g1, g2, _⟩ := findP_sound _ _ _ hf
    rw [g1]; simp; omega
   exact Ev.bind (pSame_ev r r hrl) (Ev.pos (by simp) (Ev.bind hint (Ev.bind (iLow_no hp hL) (Ev.bind (iEndsOf_no hp hL) (Ev.bind (iMag_no hp hL) (Ev.bind (iAlong_no hp hL) (Ev.bind hord (Ev.neg (by simp) (Ev.pos rfl (Ev.neg (by simp) (Ev.neg (by simp) (Ev.neg (by simp) (Ev.neg (by simp) (fourTail h hf))))))))))))))
 ·have hp : ¬ ivP n L := fun g => h g.1
  have hord := isOrder_ev n L hL
  rw [decide_eq_false h] at hord
  have i1 : Ev (fun k => impl_TwoTwoOf.f k n L) ([], false) := by
   unfold impl_TwoTwoOf.f
   exact Ev.bind (isOrder_ev n L hL) (Ev.neg (by simpa using h) (Ev.ret rfl))
  have i2 : Ev (fun k => spec_TwoTwoOf.f k n L) ([], false) := by
   unfold spec_TwoTwoOf.f
   exact Ev.bind (orGood_ev n L hL) (Ev.neg (by simpa using h) (Ev.ret rfl))
  have i3 : Ev (fun k => impl_IsIntervalOrder.f k n L) (false, false) := by
   unfold impl_IsIntervalOrder.f
   exact Ev.bind (isOrder_ev n L hL) (Ev.neg (by simpa using h) (Ev.ret rfl))
  refine Ev.bind i1 (Ev.bind i2 (Ev.neg (by simp) (Ev.bind (pSame_ev [] [] (by simp)) (Ev.pos (by simp) (Ev.bind i3 (Ev.bind (iLow_no hp hL) (Ev.bind (iEndsOf_no hp hL) (Ev.bind (iMag_no hp hL) (Ev.bind (iAlong_no hp hL) (Ev.bind hord (Ev.neg (by simp) (Ev.neg (by simp) (Ev.neg (by simp) (Ev.neg (by simp) (Ev.neg (by simp) (Ev.neg (by simp) (Ev.shift ?_)))))))))))))))))
  simp only [laws_FnFourRefuse.j0]
  exact Ev.neg (by simp) (Ev.neg (by simp) (Ev.ret rfl))
end Go.Proofs.YtokeomcijelbmaaDoor.Pure
