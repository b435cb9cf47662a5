import Derived.Test.YtlfjnllnddpgoaaDoorBFnStretchedIntervals5
import Derived.Test.YtlfjnllnddpgoaaDoorBFnStretchedIntervals24
import Derived.Test.YtlfjnllnddpgoaaDoorBFnStretchedIntervals28
import Derived.Test.YtlfjnllnddpgoaaDoorBFnStretchedIntervals33
namespace Go.Proofs.YtlfjnllnddpgoaaDoor.Pure
open Go.RowKit Go.Proofs.YtlfjnllnddpgoaaDoor.Q Go.Proofs.YtlfjnllnddpgoaaDoorW.PrintWords Go.Proofs.YtlfjnllnddpgoaaDoorW.PrintLast
set_option linter.unusedVariables false
set_option linter.unusedSimpArgs false
def ens (L : List Int) : List S37 := (List.range L.length).map fun i => ⟨(lvc L i : Int), (rho L.length (lt L) (lvc L) i : Int)⟩
theorem ens_length (L : List Int) : (ens L).length = L.length := by simp [ens]
theorem ens_rd (L : List Int) {i : Nat} (hi : i < L.length) : rd_T37 (ens L) (i : Int) = ⟨(lvc L i : Int), (rho L.length (lt L) (lvc L) i : Int)⟩ := by
 rw [rdIv_lt _ i (by rw [ens_length]; exact hi)]; simp [ens]
theorem lvs_rd (L : List Int) {i : Nat} (hi : i < L.length) : rd (lvs L) (i : Int) = lvc L i := by
 rw [rd_lt _ i (by rw [lvs_length]; exact hi)]; simp [lvs_eq]
def rhoU (L : List Int) (i j : Nat) : Nat := (List.range j).foldl (fun m j => if lt L i j = true then m else max m (lvc L j)) (lvc L i)
theorem rhoU_succ (L : List Int) (i j : Nat) : rhoU L i (j + 1) = if lt L i j = true then rhoU L i j else max (rhoU L i j) (lvc L j) := by
 simp [rhoU, List.range_succ, List.foldl_append]
theorem mx_nat (a b : Nat) : mx (a : Int) (b : Int) = ((max a b : Nat) : Int) := by unfold mx; split <;> omega
theorem ends_l1 {n : Int} {L : List Int} (h : relP n L) (i : Nat) (hi : i < L.length) (x3 : List S37) (hx : x3.length ≤ 1000) (R : List S37)
  (hR : Ev (fun k => impl_Order_ends.l0 k (x3 ++ [⟨(lvc L i : Int), (rhoU L i L.length : Int)⟩]) (lvs L) (lvs L) (L.length : Int) ((i + 1 : Nat) : Int) n L) R) (d : Nat) :
  ∀ j : Nat, j + d = L.length → Ev (fun k => impl_Order_ends.l1 k x3 (lvs L) (i : Int) (lvc L i : Int) (rhoU L i j : Int) (lvs L) (L.length : Int) (i : Int) (lvs L) (L.length : Int) (j : Int) n L) R := by
 have e1 := h.2.1
 have e3 := h.1
 induction d with
 | zero =>
  intro j hj
  obtain rfl : j = L.length := by omega
  refine Ev.shift ?_
  simp only [impl_Order_ends.l1]
  refine Ev.neg (by omega) (Ev.pos (by omega) ?_)
  rw [wrap64_id (by omega) (by omega), cast1]
  exact hR
 | succ d ih =>
  intro j hj
  have := ih (j + 1) (by omega)
  rw [rhoU_succ] at this
  refine Ev.shift ?_
  simp only [impl_Order_ends.l1]
  refine Ev.pos (by omega) (Ev.pos (by omega) (Ev.pos (by rw [lvs_length]; omega) (Ev.bindc (better_lt h hi (by omega)) ?_)))
  rw [wrap64_id (x := (j : Int) + 1) (by omega) (by omega), cast1, lvs_rd L (show j < L.length by omega), mx_nat]
  by_cases hb : lt L i j = true
  ·rw [if_pos hb] at this; exact Ev.pos hb this
  ·rw [if_neg hb] at this; exact Ev.neg hb this
theorem ends_l0 {n : Int} {L : List Int} (h : relP n L) (d : Nat) : ∀ i : Nat, i + d = L.length → Ev (fun k => impl_Order_ends.l0 k ((ens L).take i) (lvs L) (lvs L) (L.length : Int) (i : Int) n L) (ens L) := by
 have e1 := h.2.1
 have e3 := h.1
 induction d with
 | zero =>
  intro i hi
  refine Ev.shift ?_
  simp only [impl_Order_ends.l0]
  exact Ev.neg (by omega) (Ev.ret (List.take_of_length_le (by rw [ens_length]; omega)))
 | succ d ih =>
  intro i hi
  have := ih (i + 1) (by omega)
  rw [takeIv (ens L) i (by rw [ens_length]; omega), ens_rd L (show i < L.length by omega)] at this
  refine Ev.shift ?_
  simp only [impl_Order_ends.l0]
  refine Ev.pos (by omega) (Ev.pos (by omega) (Ev.pos (by rw [lvs_length]; omega) ?_))
  rw [lvs_rd L (show i < L.length by omega), lvs_length]
  exact ends_l1 h i (by omega) ((ens L).take i) (by simp [ens_length]; omega) _ this L.length 0 (by omega)
theorem iEnds_ev {n : Int} {L : List Int} (h : relP n L) : Ev (fun k => impl_Order_ends.f k n L) (ens L) := by
 unfold impl_Order_ends.f
 refine Ev.bind (olevels_ev h) ?_
 rw [lvs_length]
 have := ends_l0 h L.length 0 (by omega)
 simpa using this
theorem orderP_of {n : Int} {L : List Int} (h : relP n L) (h1 : ∀ i, i < L.length → lt L i i = false) (h2 : ∀ i j m, i < L.length → j < L.length → lt L i j = true → lt L j m = true → lt L i m = true) : orderP n L :=
 ⟨h, fun m hm => ⟨h1 m hm, fun j hj => by
  obtain ⟨j', rfl, hj', hb⟩ := h.bits hm hj
  exact (andNot_zero (h.set hj') (h.set hm)).2 fun q _ hb2 => h2 m j' q hm hj' hb hb2⟩⟩
theorem rel_relP {n : Int} {N : Nat} (hn : n = N) (h10 : N ≤ 10) (p : Nat → Nat → Bool) : relP n (rel p N) := by
 subst hn
 refine ⟨⟨by omega, by omega⟩, by rw [rel_length], fun x hx => ?_⟩
 obtain ⟨i, hi, rfl⟩ := List.mem_iff_getElem.1 hx
 rw [rel_length] at hi
 rw [← rd_lt _ i (by rw [rel_length]; exact hi)]
 have hs := rel_set (p := p) h10 hi
 refine ⟨hs.1, ?_⟩
 rw [full_pow h10]
 obtain ⟨a, ha, hlt⟩ := hs.nat
 rw [ha]
 have : a < 2 ^ N := by
  refine Nat.lt_pow_two_of_testBit a fun m hm => ?_
  have := rel_lt (p := p) h10 hi m
  unfold lt at this
  rw [ha, bit_nat] at this
  rw [this]; simp; omega
 have h2 : ((2 ^ N : Nat) : Int) = (2 : Int) ^ N := by simp
 omega
def mir (L : List Int) : List Int := rel (fun i j => lt L j i) L.length
theorem rel_self {n : Int} {L : List Int} (h : relP n L) {p : Nat → Nat → Bool} (hp : ∀ i j, i < L.length → j < L.length → p i j = lt L i j) : rel p L.length = L := by
 have h10 : L.length ≤ 10 := by have := h.1; have := h.2.1; omega
 have hr := rel_relP h.2.1.symm h10 p
 refine rel_ext (rel_length _ _) (fun i hi => hr.set hi) (fun i hi => h.set hi) (fun i j hi hj => ?_)
 rw [rel_length] at hi
 rw [rel_lt h10 hi]
 by_cases hjl : j < L.length
 ·rw [hp i j hi hjl]; simp [hjl]
 ·have e2 : lt L i j = false := by
   cases hb : lt L i j
   ·rfl
   ·have := h.lt_len hi hb; omega
  rw [e2]; simp [hjl]
theorem ivP.len {n : Int} {L : List Int} (h : ivP n L) : L.length ≤ 10 := by have := h.1.1.1; have := h.1.1.2.1; omega
theorem ivP.lam {n : Int} {L : List Int} (h : ivP n L) : Lam L.length (lt L) (lvc L) := lvc_lam h.1.1 h.2
theorem ivP.mag {n : Int} {L : List Int} (h : ivP n L) : Mag L.length (lvc L) (mag L) := ⟨(mag_facts h.1.1 h.2).1, (mag_facts h.1.1 h.2).2.1⟩
theorem iEndsOf_yes {n : Int} {L : List Int} (h : ivP n L) (hL : L.length ≤ 1048576) : Ev (fun k => impl_EndsOf.f k n L) (ens L, true) := by
 obtain ⟨b, b1, b2⟩ := iIsInt_ev n L hL
 unfold impl_EndsOf.f
 exact Ev.bind b1 (Ev.pos (b2.2 h) (Ev.bind (iEnds_ev h.1.1) (Ev.ret rfl)))
theorem rho_le10 {n : Int} {L : List Int} (h : ivP n L) {i : Nat} (hi : i < L.length) : rho L.length (lt L) (lvc L) i ≤ 10 := by
 obtain ⟨j, hj, _, e⟩ := rho_at (lam := lvc L) (ord_lt h.1) hi
 have := lvc_le L j; have := h.len
 omega
theorem ens_ivsP {n : Int} {L : List Int} (h : ivP n L) : ivsP (ens L) := by
 refine ⟨fun i hi => ?_, by rw [ens_length]; exact h.len⟩
 rw [ens_length] at hi
 rw [ens_rd L hi]
 have := rho_le10 h hi
 have := rho_own (n := L.length) (r := lt L) (lam := lvc L) i
 dsimp only
 omega
theorem ens_rel {n : Int} {L : List Int} (h : ivP n L) : rel (ivLt (ens L)) L.length = L := by
 refine rel_self h.1.1 fun i j hi hj => ?_
 rw [Bool.eq_iff_iff, rho_lt (ord_lt h.1) h.lam hi hj]
 unfold ivLt
 rw [ens_rd L hi, ens_rd L hj, decide_eq_true_iff]
 dsimp only
 omega
theorem ivs_ivP {l : List S37} (hl : ivsP l) : ivP (l.length : Int) (rel (ivLt l) l.length) := by
 have h10 := hl.2
 have hr : relP (l.length : Int) (rel (ivLt l) l.length) := rel_relP rfl h10 _
 have hb : ∀ i j, i < l.length → j < l.length → lt (rel (ivLt l) l.length) i j = ivLt l i j := fun i j hi hj => by rw [rel_lt h10 hi]; simp [hj]
 refine ⟨orderP_of hr (fun i hi => ?_) (fun i j m hi hj h1 h2 => ?_), fun a b c d ha hb' hc hd h1 h2 h3 h4 => ?_⟩
 ·rw [rel_length] at hi
  rw [hb i i hi hi]
  have := hl.1 i hi
  unfold ivLt; rw [decide_eq_false_iff_not]; omega
 ·have hm : m < l.length := by have := hr.lt_len hj h2; rwa [rel_length] at this
  rw [rel_length] at hi hj
  rw [hb i j hi hj] at h1; rw [hb j m hj hm] at h2; rw [hb i m hi hm]
  have := hl.1 j hj
  unfold ivLt at *
  rw [decide_eq_true_iff] at *
  omega
 ·rw [rel_length] at ha hb' hc hd
  rw [hb a b ha hb'] at h1; rw [hb c d hc hd] at h2; rw [hb c b hc hb'] at h3; rw [hb a d ha hd] at h4
  unfold ivLt at *
  rw [decide_eq_true_iff] at h1 h2
  rw [decide_eq_false_iff_not] at h3 h4
  omega
theorem ivDiff (x y : S37) : ((!((x.f0) == (y.f0)) || (!((x.f1) == (y.f1)))) = true) ↔ x ≠ y := by
 obtain ⟨a, b⟩ := x
 obtain ⟨c, d⟩ := y
 simp only [Bool.or_eq_true, Bool.not_eq_true', beq_eq_false_iff_ne, ne_eq]
 constructor
 ·rintro (h | h) e
  ·injection e with e1 e2; exact h e1
  ·injection e with e1 e2; exact h e2
 ·intro h
  by_cases e1 : a = c
  ·exact .inr fun e2 => h (by rw [e1, e2])
  ·exact .inl e1
theorem pSameIv_l (l m : List S37) (hlm : l.length = m.length) (hl : l.length ≤ 1000) (d : Nat) : ∀ i : Nat, i + d = l.length → ∃ b, Ev (fun k => laws_pSameIntervals.l0 k l m (l.length : Int) (i : Int)) b ∧ (b = true ↔ l.drop i = m.drop i) := by
 induction d with
 | zero =>
  intro i hi
  refine ⟨true, Ev.shift ?_, ?_⟩
  ·simp only [laws_pSameIntervals.l0]; exact Ev.neg (by omega) (Ev.ret rfl)
  ·rw [List.drop_of_length_le (by omega), List.drop_of_length_le (by omega)]; simp
 | succ d ih =>
  intro i hi
  obtain ⟨b, b1, b2⟩ := ih (i + 1) (by omega)
  rw [dropIv l i (by omega), dropIv m i (by omega)]
  by_cases hc : rd_T37 l (i : Int) = rd_T37 m (i : Int)
  ·refine ⟨b, Ev.shift ?_, ?_⟩
   ·simp only [laws_pSameIntervals.l0]
    refine Ev.pos (by omega) (Ev.pos (by omega) (Ev.pos (by omega) (Ev.pos (by omega) (Ev.neg (fun h => (ivDiff _ _).1 h hc) ?_))))
    rw [wrap64_id (by omega) (by omega), cast1]
    exact b1
   ·rw [b2, hc]; simp
  ·refine ⟨false, Ev.shift ?_, ?_⟩
   ·simp only [laws_pSameIntervals.l0]
    exact Ev.pos (by omega) (Ev.pos (by omega) (Ev.pos (by omega) (Ev.pos (by omega) (Ev.pos ((ivDiff _ _).2 hc) (Ev.ret rfl)))))
   ·simp [hc]
theorem pSameIv_ev (l m : List S37) (hl : l.length ≤ 1000) : ∃ b, Ev (fun k => laws_pSameIntervals.f k l m) b ∧ (b = true ↔ l = m) := by
 unfold laws_pSameIntervals.f
 by_cases h : (l.length : Int) = m.length
 ·obtain ⟨b, b1, b2⟩ := pSameIv_l l m (by omega) hl l.length 0 (by omega)
  exact ⟨b, Ev.pos h (by simpa using b1), by simpa using b2⟩
 ·exact ⟨false, Ev.neg h (Ev.ret rfl), ⟨fun g => (by cases g), fun g => (h (by rw [g])).elim⟩⟩
theorem pSameIv_self (l : List S37) (hl : l.length ≤ 1000) : Ev (fun k => laws_pSameIntervals.f k l l) true := by
 obtain ⟨b, b1, b2⟩ := pSameIv_ev l l hl
 rwa [b2.2 rfl] at b1
def ste (p q e : Int) : Int := if e > p then e + q else e
theorem ste_lt {p q : Int} (hq : 0 ≤ q) (x y : Int) : ste p q x < ste p q y ↔ x < y := by
 unfold ste; split <;> split <;> omega
theorem istr_f {p q e : Int} (h1 : -1000 ≤ e ∧ e ≤ 1000) (hq : 0 ≤ q ∧ q ≤ 1000) : impl_StretchIntervals_1.f e p q = some (ste p q e) := by
 unfold impl_StretchIntervals_1.f ste
 split
 ·rw [wrap64_id (by omega) (by omega)]
 ·rfl
theorem sstr_f {p q e : Int} (h1 : -1000 ≤ e ∧ e ≤ 1000) (hq : 0 ≤ q ∧ q ≤ 1000) : spec_ivStretched.f e p q = some (ste p q e) := by
 unfold spec_ivStretched.f ste
 split
 ·rw [wrap64_id (by omega) (by omega)]
 ·rfl
def strl (l : List S37) (p q : Int) : List S37 := (List.range l.length).map fun (i : Nat) => ⟨ste p q (rd_T37 l (i : Int)).f0, ste p q (rd_T37 l (i : Int)).f1⟩
theorem strl_length (l : List S37) (p q : Int) : (strl l p q).length = l.length := by simp [strl]
theorem strl_rd (l : List S37) (p q : Int) {i : Nat} (hi : i < l.length) : rd_T37 (strl l p q) (i : Int) = ⟨ste p q (rd_T37 l (i : Int)).f0, ste p q (rd_T37 l (i : Int)).f1⟩ := by
 rw [rdIv_lt _ i (by rw [strl_length]; exact hi)]; simp [strl]
theorem strl_rel (l : List S37) {p q : Int} (hq : 0 ≤ q) : rel (ivLt (strl l p q)) l.length = rel (ivLt l) l.length := rel_congr fun i j hi hj => by
 unfold ivLt
 rw [strl_rd l p q hi, strl_rd l p q hj, decide_eq_decide]
 exact ste_lt hq _ _
def strP (l : List S37) (p q : Int) : Prop := ivsP l ∧ (-1000 ≤ p ∧ p ≤ 1000) ∧ (0 ≤ q ∧ q ≤ 1000)
section
variable {l : List S37} {p q : Int}
theorem istr_l (h : strP l p q) {R : List S37 × Bool} (hR : Ev (fun k => (impl_AreIntervals.f k (strl l p q)).bind fun t => if t = true then some (strl l p q, true) else some (([] : List S37), false)) R) (d : Nat) :
  ∀ i : Nat, i + d = l.length → Ev (fun k => impl_StretchIntervals.l0 k ((strl l p q).take i) l (l.length : Int) (i : Int) p q) R := by
 have h10 := h.1.2
 induction d with
 | zero =>
  intro i hi
  refine Ev.shift ?_
  simp only [impl_StretchIntervals.l0]
  refine Ev.neg (by omega) ?_
  rw [List.take_of_length_le (by rw [strl_length]; omega)]
  exact hR
 | succ d ih =>
  intro i hi
  have := ih (i + 1) (by omega)
  have hv := h.1.1 i (by omega)
  rw [takeIv (strl l p q) i (by rw [strl_length]; omega), strl_rd l p q (by omega)] at this
  refine Ev.shift ?_
  simp only [impl_StretchIntervals.l0]
  refine Ev.pos (by omega) (Ev.pos (by omega) (Ev.pos (by omega) (Ev.bindc (istr_f (by omega) h.2.2) (Ev.bindc (istr_f (by omega) h.2.2) (Ev.pos (by rw [List.length_take, strl_length]; omega) ?_)))))
  rw [wrap64_id (by omega) (by omega), cast1]
  exact this
theorem sstr_l (h : strP l p q) {R : List S37 × Bool} (hR : Ev (fun k => (spec_ivGood.f k (strl l p q)).bind fun t => if t = true then some (strl l p q, true) else some (([] : List S37), false)) R) (d : Nat) :
  ∀ i : Nat, i + d = l.length → Ev (fun k => spec_StretchIntervals.l0 k p q ((strl l p q).take i) l (l.length : Int) (i : Int)) R := by
 have h10 := h.1.2
 induction d with
 | zero =>
  intro i hi
  refine Ev.shift ?_
  simp only [spec_StretchIntervals.l0]
  refine Ev.neg (by omega) ?_
  rw [List.take_of_length_le (by rw [strl_length]; omega)]
  exact hR
 | succ d ih =>
  intro i hi
  have := ih (i + 1) (by omega)
  have hv := h.1.1 i (by omega)
  rw [takeIv (strl l p q) i (by rw [strl_length]; omega), strl_rd l p q (by omega)] at this
  refine Ev.shift ?_
  simp only [spec_StretchIntervals.l0]
  refine Ev.pos (by omega) (Ev.pos (by omega) (Ev.pos (by omega) (Ev.bindc (sstr_f (by omega) h.2.2) (Ev.bindc (sstr_f (by omega) h.2.2) (Ev.pos (by rw [List.length_take, strl_length]; omega) ?_)))))
  rw [wrap64_id (by omega) (by omega), cast1]
  exact this
theorem istr_in (h : strP l p q) {R : List S37 × Bool} (hR : Ev (fun k => (impl_AreIntervals.f k (strl l p q)).bind fun t => if t = true then some (strl l p q, true) else some (([] : List S37), false)) R) : Ev (fun k => impl_StretchIntervals.f k l p q) R := by
 have h10 := h.1.2
 obtain ⟨b, b1, b2⟩ := areIv_ev l (by omega)
 unfold impl_StretchIntervals.f
 refine Ev.bind b1 (Ev.pos (b2.2 h.1) (Ev.bindc (impl_in p (-1000) 1000) (Ev.pos (decide_eq_true h.2.1) (Ev.bindc (impl_in q 0 1000) (Ev.shift ?_)))))
 simp only [impl_StretchIntervals.j0]
 refine Ev.neg (by have := h.2.2; simp; omega) ?_
 have := istr_l h hR l.length 0 (by omega)
 simpa using this
theorem sstr_in (h : strP l p q) {R : List S37 × Bool} (hR : Ev (fun k => (spec_ivGood.f k (strl l p q)).bind fun t => if t = true then some (strl l p q, true) else some (([] : List S37), false)) R) : Ev (fun k => spec_StretchIntervals.f k l p q) R := by
 have h10 := h.1.2
 obtain ⟨b, b1, b2⟩ := ivGood_ev l (by omega)
 unfold spec_StretchIntervals.f
 refine Ev.bind b1 (Ev.pos (b2.2 h.1) (Ev.bindc (spec_in p (-1000) 1000) (Ev.pos (decide_eq_true h.2.1) (Ev.bindc (spec_in q 0 1000) (Ev.shift ?_)))))
 simp only [spec_StretchIntervals.j0]
 refine Ev.neg (by have := h.2.2; simp; omega) ?_
 have := sstr_l h hR l.length 0 (by omega)
 simpa using this
theorem istr_yes (h : strP l p q) (h2 : ivsP (strl l p q)) : Ev (fun k => impl_StretchIntervals.f k l p q) (strl l p q, true) := by
 obtain ⟨b, b1, b2⟩ := areIv_ev (strl l p q) (by rw [strl_length]; have := h.1.2; omega)
 exact istr_in h (Ev.bind b1 (Ev.pos (b2.2 h2) (Ev.ret rfl)))
theorem sstr_yes (h : strP l p q) (h2 : ivsP (strl l p q)) : Ev (fun k => spec_StretchIntervals.f k l p q) (strl l p q, true) := by
 obtain ⟨b, b1, b2⟩ := ivGood_ev (strl l p q) (by rw [strl_length]; have := h.1.2; omega)
 exact sstr_in h (Ev.bind b1 (Ev.pos (b2.2 h2) (Ev.ret rfl)))
theorem istr_no (h : ¬ (strP l p q ∧ ivsP (strl l p q))) (hl : l.length ≤ 1000) : Ev (fun k => impl_StretchIntervals.f k l p q) ([], false) := by
 by_cases hs : strP l p q
 ·obtain ⟨b, b1, b2⟩ := areIv_ev (strl l p q) (by rw [strl_length]; omega)
  exact istr_in hs (Ev.bind b1 (Ev.neg (fun hb => h ⟨hs, b2.1 hb⟩) (Ev.ret rfl)))
 obtain ⟨b, b1, b2⟩ := areIv_ev l hl
 unfold impl_StretchIntervals.f
 refine Ev.bind b1 ?_
 by_cases hb : b = true
 ·refine Ev.pos hb (Ev.bindc (impl_in p (-1000) 1000) ?_)
  by_cases hp : -1000 ≤ p ∧ p ≤ 1000
  ·refine Ev.pos (decide_eq_true hp) (Ev.bindc (impl_in q 0 1000) (Ev.shift ?_))
   simp only [impl_StretchIntervals.j0]
   exact Ev.pos (by rw [decide_eq_false (fun hq => hs ⟨b2.1 hb, hp, hq⟩)]; rfl) (Ev.ret rfl)
  ·refine Ev.neg (by rw [decide_eq_false hp]; simp) (Ev.shift ?_)
   simp only [impl_StretchIntervals.j0]
   exact Ev.pos (by trivial) (Ev.ret rfl)
 ·refine Ev.neg hb (Ev.shift ?_)
  simp only [impl_StretchIntervals.j0]
  exact Ev.pos (by trivial) (Ev.ret rfl)
theorem sstr_no (h : ¬ (strP l p q ∧ ivsP (strl l p q))) (hl : l.length ≤ 1000) : Ev (fun k => spec_StretchIntervals.f k l p q) ([], false) := by
 by_cases hs : strP l p q
 ·obtain ⟨b, b1, b2⟩ := ivGood_ev (strl l p q) (by rw [strl_length]; omega)
  exact sstr_in hs (Ev.bind b1 (Ev.neg (fun hb => h ⟨hs, b2.1 hb⟩) (Ev.ret rfl)))
 obtain ⟨b, b1, b2⟩ := ivGood_ev l hl
 unfold spec_StretchIntervals.f
 refine Ev.bind b1 ?_
 by_cases hb : b = true
 ·refine Ev.pos hb (Ev.bindc (spec_in p (-1000) 1000) ?_)
  by_cases hp : -1000 ≤ p ∧ p ≤ 1000
  ·refine Ev.pos (decide_eq_true hp) (Ev.bindc (spec_in q 0 1000) (Ev.shift ?_))
   simp only [spec_StretchIntervals.j0]
   exact Ev.pos (by rw [decide_eq_false (fun hq => hs ⟨b2.1 hb, hp, hq⟩)]; rfl) (Ev.ret rfl)
  ·refine Ev.neg (by rw [decide_eq_false hp]; simp) (Ev.shift ?_)
   simp only [spec_StretchIntervals.j0]
   exact Ev.pos (by trivial) (Ev.ret rfl)
 ·refine Ev.neg hb (Ev.shift ?_)
  simp only [spec_StretchIntervals.j0]
  exact Ev.pos (by trivial) (Ev.ret rfl)
end
def low (D : List Int) (x : Int) : Int := ((D.filter fun y => decide (y < x)).length : Int)
def lev (l : List Int) : List Int := l.map (low (dif l))
theorem rising_rd {D : List Int} (h : D.Pairwise (· < ·)) {i j : Nat} (hij : i < j) (hj : j < D.length) : rd D (i : Int) < rd D (j : Int) := by
 rw [rd_lt D i (by omega), rd_lt D j hj]
 exact List.pairwise_iff_getElem.1 h i j (by omega) hj hij
theorem put_l (D : List Int) (x : Int) (h : D.Pairwise (· < ·)) (hD : D.length ≤ 1048576) (d : Nat) : ∀ (i : Nat), i + d = D.length → (∀ m : Nat, m < i → rd D (m : Int) < x) →
  ∃ r, Ev (fun k => spec_l1Put.l0 k D x i) r ∧ r.Pairwise (· < ·) ∧ (∀ y, y ∈ r ↔ y = x ∨ y ∈ D) ∧ r.length ≤ D.length + 1 := by
 have ins : ∀ i : Nat, i ≤ D.length → (∀ m : Nat, m < i → rd D (m : Int) < x) → (∀ m : Nat, i ≤ m → m < D.length → x < rd D (m : Int)) → (D.take i ++ [x] ++ D.drop i).Pairwise (· < ·) ∧ (∀ y, y ∈ D.take i ++ [x] ++ D.drop i ↔ y = x ∨ y ∈ D) ∧ (D.take i ++ [x] ++ D.drop i).length ≤ D.length + 1 := by
  intro i hi h1 h2
  have a : ∀ y ∈ D.take i, y < x := by
   intro y hy
   obtain ⟨j, hj, rfl⟩ := List.mem_iff_getElem.1 hy
   rw [List.length_take] at hj
   have := h1 j (by omega)
   rw [rd_lt D j (by omega)] at this
   simpa using this
  have b : ∀ y ∈ D.drop i, x < y := by
   intro y hy
   obtain ⟨j, hj, rfl⟩ := List.mem_iff_getElem.1 hy
   rw [List.length_drop] at hj
   have := h2 (i + j) (by omega) (by omega)
   rw [rd_lt D _ (by omega)] at this
   simpa using this
  refine ⟨?_, fun y => ?_, by simp; omega⟩
  ·rw [List.pairwise_append, List.pairwise_append]
   refine ⟨⟨h.sublist (List.take_sublist _ _), by simp, fun y hy z hz => ?_⟩, h.sublist (List.drop_sublist _ _), fun y hy z hz => ?_⟩
   ·rw [List.mem_singleton] at hz; subst hz; exact a y hy
   ·rw [List.mem_append, List.mem_singleton] at hy
    rcases hy with hy | rfl
    ·have := a y hy; have := b z hz; omega
    ·exact b z hz
  ·conv => rhs; rw [← List.take_append_drop i D]
   simp only [List.mem_append, List.mem_singleton]
   constructor
   ·rintro ((h | h) | h)
    ·exact .inr (.inl h)
    ·exact .inl h
    ·exact .inr (.inr h)
   ·rintro (h | h | h)
    ·exact .inl (.inr h)
    ·exact .inl (.inl h)
    ·exact .inr h
 induction d with
 | zero =>
  intro i hi h1
  refine ⟨_, Ev.shift ?_, ins i (by omega) h1 (fun m a b => by omega)⟩
  simp only [spec_l1Put.l0, Option.bind_some, List.nil_append, List.length_nil]
  refine Ev.neg (by omega) (Ev.pos (by omega) (Ev.pos (by omega) (Ev.pos (by simp; omega) (Ev.pos (by simp; omega) (Ev.pos (by simp; omega) (Ev.ret (by simp)))))))
 | succ d ih =>
  intro i hi h1
  by_cases hc : rd D (i : Int) < x
  ·obtain ⟨r, hr, hq⟩ := ih (i + 1) (by omega) (fun m hm => by
    by_cases e : m = i
    ·subst e; exact hc
    ·exact h1 m (by omega))
   refine ⟨r, Ev.shift ?_, hq⟩
   simp only [spec_l1Put.l0]
   refine Ev.pos (by omega) (Ev.pos (by omega) (Ev.pos hc ?_))
   rw [wrap64_id (by omega) (by omega), cast1]
   exact hr
  ·by_cases he : rd D (i : Int) = x
   ·refine ⟨D, Ev.shift ?_, h, fun y => ⟨fun hy => .inr hy, fun hy => hy.elim (fun e => by rw [e, ← he, rd_lt D i (by omega)]; exact List.getElem_mem _) id⟩, by omega⟩
    simp only [spec_l1Put.l0]
    exact Ev.pos (by omega) (Ev.pos (by omega) (Ev.neg hc (Ev.pos he (Ev.ret rfl))))
   ·refine ⟨_, Ev.shift ?_, ins i (by omega) h1 (fun m a b => by
     by_cases e : i = m
     ·subst e; omega
     ·have := rising_rd h (show i < m by omega) b; omega)⟩
    simp only [spec_l1Put.l0, Option.bind_some, List.nil_append, List.length_nil]
    refine Ev.pos (by omega) (Ev.pos (by omega) (Ev.neg hc (Ev.neg he (Ev.pos (by omega) (Ev.pos (by simp; omega) (Ev.pos (by simp; omega) (Ev.pos (by simp; omega) (Ev.ret (by simp)))))))))
theorem below_l {n : Int} {L : List Int} (h : relP n L) (i : Nat) (hi : i < L.length) (d : Nat) : ∀ (j : Nat), j + d = L.length → Ev (fun k => spec_orBelow.l0 k (i : Int) (rowf (fun j => lt L j i) j) L (L.length : Int) (j : Int)) (rowf (fun j => lt L j i) L.length) := by
 have e1 := h.2.1
 have e3 := h.1
 induction d with
 | zero =>
  intro j hj
  refine Ev.shift ?_
  simp only [spec_orBelow.l0]
  exact Ev.neg (by omega) (Ev.ret (by rw [show j = L.length by omega]))
 | succ d ih =>
  intro j hj
  have := ih (j + 1) (by omega)
  rw [rowf_succ] at this
  refine Ev.shift ?_
  simp only [spec_orBelow.l0]
  refine Ev.pos (by omega) (Ev.pos (by omega) (Ev.pos (by omega) (Ev.bindc (orHas_f (h.set (i := j) (by omega)).1 (h.set (i := j) (by omega)).2 (by omega)) ?_)))
  rw [wrap64_id (by omega) (by omega), cast1]
  by_cases hb : bit (rd L (j : Int)) i = true
  ·rw [if_pos (show lt L j i = true from hb)] at this
   exact Ev.pos hb this
  ·rw [if_neg (show ¬ lt L j i = true from hb)] at this
   exact Ev.neg hb this
theorem below_ev {n : Int} {L : List Int} (h : relP n L) {i : Nat} (hi : i < L.length) : Ev (fun k => spec_orBelow.f k n L (i : Int)) (rowf (fun j => lt L j i) L.length) := by
 unfold spec_orBelow.f
 exact below_l h i hi L.length 0 (by omega)
theorem put_ev (D : List Int) (x : Int) (h : D.Pairwise (· < ·)) (hD : D.length ≤ 1048576) : ∃ r, Ev (fun k => spec_l1Put.f k D x) r ∧ r.Pairwise (· < ·) ∧ (∀ y, y ∈ r ↔ y = x ∨ y ∈ D) ∧ r.length ≤ D.length + 1 := by
 unfold spec_l1Put.f
 exact put_l D x h hD D.length 0 (by omega) (fun m hm => by omega)
theorem sets_l {n : Int} {L : List Int} (h : relP n L) (R : List Int) (hR : Ev (fun k => spec_ivLevels.l1 k (dif (dns L)) [] (L.length : Int) 0 n L) R) (d : Nat) :
  ∀ (i : Nat) (D : List Int), i + d = L.length → D.Pairwise (· < ·) → D.length ≤ i → (∀ y, y ∈ D ↔ ∃ j, j < i ∧ dn L j = y) → Ev (fun k => spec_ivLevels.l0 k D (L.length : Int) (i : Int) n L) R := by
 have e1 := h.2.1
 have e3 := h.1
 induction d with
 | zero =>
  intro i D hi hp hl hm
  have e : D = dif (dns L) := rising_ext hp (dif_sorted _) fun y => by
   rw [hm, mem_difs]; rw [show i = L.length by omega]
  subst e
  refine Ev.shift ?_
  simp only [spec_ivLevels.l0]
  exact Ev.neg (by omega) hR
 | succ d ih =>
  intro i D hi hp hl hm
  obtain ⟨r, r1, r2, r3, r4⟩ := put_ev D (dn L i) hp (by omega)
  have := ih (i + 1) r (by omega) r2 (by omega) (fun y => by
   rw [r3, hm]
   constructor
   ·rintro (rfl | ⟨j, hj, e⟩)
    ·exact ⟨i, by omega, rfl⟩
    ·exact ⟨j, by omega, e⟩
   ·rintro ⟨j, hj, e⟩
    by_cases ej : j = i
    ·subst ej; exact .inl e.symm
    ·exact .inr ⟨j, by omega, e⟩)
  refine Ev.shift ?_
  simp only [spec_ivLevels.l0]
  refine Ev.pos (by omega) (Ev.bind (below_ev h (i := i) (by omega) : Ev _ (dn L i)) (Ev.bind r1 ?_))
  rw [wrap64_id (by omega) (by omega), cast1]
  exact this
theorem slevels_in {n : Int} {L : List Int} (h : relP n L) (i : Nat) (hi : i < L.length) (D x5 : List Int) (hD : D.length ≤ 1000) (h5 : x5.length ≤ 1000) (R : List Int) (hR : Ev (fun k => spec_ivLevels.l1 k D (x5 ++ [(D.countP (below1 (dn L i)) : Int)]) (L.length : Int) ((i + 1 : Nat) : Int) n L) R) (d : Nat) :
  ∀ q : Nat, q + d = D.length → Ev (fun k => spec_ivLevels.l2 k D x5 (i : Int) ((D.take q).countP (below1 (dn L i)) : Int) (L.length : Int) (i : Int) D (D.length : Int) (q : Int) n L) R := by
 have e1 := h.2.1
 have e3 := h.1
 induction d with
 | zero =>
  intro q hq
  refine Ev.shift ?_
  simp only [spec_ivLevels.l2]
  refine Ev.neg (by omega) (Ev.pos (by omega) ?_)
  rw [wrap64_id (by omega) (by omega), cast1, List.take_of_length_le (by omega)]
  exact hR
 | succ d ih =>
  intro q hq
  have hc := List.countP_le_length (p := below1 (dn L i)) (l := D.take q)
  have hl : (D.take q).length ≤ q := by simp; omega
  have hn : (D.take (q + 1)).countP (below1 (dn L i)) = (D.take q).countP (below1 (dn L i)) + if below1 (dn L i) (rd D (q : Int)) = true then 1 else 0 := by
   rw [List.take_succ_eq_append_getElem (show q < D.length by omega), List.countP_append, List.countP_singleton, rd_lt D q (by omega)]
  have hb : below1 (dn L i) (rd D (q : Int)) = decide (rd D (q : Int) ≠ dn L i ∧ Go.bits .andNot .i64 (rd D (q : Int)) (dn L i) = 0) := rfl
  have be := (below_ev h hi : Ev _ (dn L i))
  refine Ev.shift ?_
  simp only [spec_ivLevels.l2]
  refine Ev.pos (by omega) (Ev.pos (by omega) (Ev.pos (by omega) (Ev.bind be ?_)))
  rw [wrap64_id (x := (q : Int) + 1) (by omega) (by omega), wrap64_id (x := ((D.take q).countP (below1 (dn L i)) : Int) + 1) (by omega) (by omega), cast1]
  have := ih (q + 1) (by omega)
  rw [hn, hb] at this
  by_cases h1 : rd D (q : Int) = dn L i
  ·rw [if_neg (by simp [h1])] at this
   exact Ev.pos h1 this
  ·refine Ev.neg h1 (Ev.bind be ?_)
   by_cases h2 : Go.bits .andNot .i64 (rd D (q : Int)) (dn L i) = 0
   ·rw [if_pos (by simp [h1, h2])] at this
    rw [cast1]
    exact Ev.pos h2 this
   ·rw [if_neg (by simp [h2])] at this
    exact Ev.neg h2 this
theorem slevels_out {n : Int} {L : List Int} (h : relP n L) (d : Nat) : ∀ i : Nat, i + d = L.length → Ev (fun k => spec_ivLevels.l1 k (dif (dns L)) ((lvs L).take i) (L.length : Int) (i : Int) n L) (lvs L) := by
 have e1 := h.2.1
 have e3 := h.1
 have e2 := dif_length (dns L)
 rw [dns_length] at e2
 have el := lvs_length L
 induction d with
 | zero =>
  intro i hi
  refine Ev.shift ?_
  simp only [spec_ivLevels.l1]
  exact Ev.neg (by omega) (Ev.ret (List.take_of_length_le (by omega)))
 | succ d ih =>
  intro i hi
  have := ih (i + 1) (by omega)
  rw [List.take_succ_eq_append_getElem (show i < (lvs L).length by omega), show (lvs L)[i] = (lvc L i : Int) by simp [lvs_eq]] at this
  refine Ev.shift ?_
  simp only [spec_ivLevels.l1]
  refine Ev.pos (by omega) ?_
  exact slevels_in h i (by omega) (dif (dns L)) ((lvs L).take i) (by omega) (by simp; omega) _ this (dif (dns L)).length 0 (by omega)
theorem slevels_ev {n : Int} {L : List Int} (h : relP n L) : Ev (fun k => spec_ivLevels.f k n L) (lvs L) := by
 unfold spec_ivLevels.f
 have := slevels_out h L.length 0 (by omega)
 exact sets_l h _ (by simpa using this) L.length 0 [] (by omega) List.Pairwise.nil (by simp) (fun y => by simp)
end Go.Proofs.YtlfjnllnddpgoaaDoor.Pure
