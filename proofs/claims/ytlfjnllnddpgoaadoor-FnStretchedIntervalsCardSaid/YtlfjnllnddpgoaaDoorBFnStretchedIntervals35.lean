import Derived.Test.YtlfjnllnddpgoaaDoorBFnStretchedIntervals29
import Derived.Test.YtlfjnllnddpgoaaDoorBFnStretchedIntervals34
namespace Go.Proofs.YtlfjnllnddpgoaaDoor.Pure
open Go.RowKit Go.Proofs.YtlfjnllnddpgoaaDoor.Q Go.Proofs.YtlfjnllnddpgoaaDoorW.PrintWords Go.Proofs.YtlfjnllnddpgoaaDoorW.PrintLast
set_option linter.unusedVariables false
set_option linter.unusedSimpArgs false
theorem mostI_f (a b : Nat) : spec_l1Most.f (a : Int) (b : Int) = some ((max a b : Nat) : Int) := by
 unfold spec_l1Most.f
 split
 ·exact congrArg some (by omega)
 ·exact congrArg some (by omega)
theorem sends_l1 {n : Int} {L : List Int} (h : relP n L) (i : Nat) (hi : i < L.length) (x4 : List S37) (hx : x4.length ≤ 1000) (R : List S37)
  (hR : Ev (fun k => spec_ivEnds.l0 k (lvs L) (x4 ++ [⟨(lvc L i : Int), (rhoU L i L.length : Int)⟩]) (lvs L) (L.length : Int) ((i + 1 : Nat) : Int) n L) R) (d : Nat) :
  ∀ j : Nat, j + d = L.length → Ev (fun k => spec_ivEnds.l1 k (lvs L) x4 (i : Int) (lvs L) (L.length : Int) (i : Int) (lvs L) (L.length : Int) (j : Int) n L (lvc L i : Int) (rhoU L i j : Int)) R := by
 have e1 := h.2.1
 have e3 := h.1
 induction d with
 | zero =>
  intro j hj
  obtain rfl : j = L.length := by omega
  refine Ev.shift ?_
  simp only [spec_ivEnds.l1]
  refine Ev.neg (by omega) (Ev.pos (by omega) ?_)
  rw [wrap64_id (by omega) (by omega), cast1]
  exact hR
 | succ d ih =>
  intro j hj
  have := ih (j + 1) (by omega)
  have si := h.set hi
  rw [rhoU_succ] at this
  refine Ev.shift ?_
  simp only [spec_ivEnds.l1]
  refine Ev.pos (by omega) (Ev.pos (by omega) (Ev.pos (by rw [lvs_length]; omega) (Ev.pos (by omega) (Ev.pos (by omega) (Ev.bindc (orHas_f si.1 si.2 (by omega)) ?_)))))
  rw [wrap64_id (x := (j : Int) + 1) (by omega) (by omega), cast1, lvs_rd L (show j < L.length by omega)]
  by_cases hb : lt L i j = true
  ·rw [if_pos hb] at this; exact Ev.pos hb this
  ·rw [if_neg hb] at this; exact Ev.neg hb (Ev.bindc (mostI_f _ _) this)
theorem sends_l0 {n : Int} {L : List Int} (h : relP n L) (d : Nat) : ∀ i : Nat, i + d = L.length → Ev (fun k => spec_ivEnds.l0 k (lvs L) ((ens L).take i) (lvs L) (L.length : Int) (i : Int) n L) (ens L) := by
 have e1 := h.2.1
 have e3 := h.1
 induction d with
 | zero =>
  intro i hi
  refine Ev.shift ?_
  simp only [spec_ivEnds.l0]
  exact Ev.neg (by omega) (Ev.ret (List.take_of_length_le (by rw [ens_length]; omega)))
 | succ d ih =>
  intro i hi
  have := ih (i + 1) (by omega)
  rw [takeIv (ens L) i (by rw [ens_length]; omega), ens_rd L (show i < L.length by omega)] at this
  refine Ev.shift ?_
  simp only [spec_ivEnds.l0]
  refine Ev.pos (by omega) (Ev.pos (by omega) (Ev.pos (by rw [lvs_length]; omega) ?_))
  rw [lvs_rd L (show i < L.length by omega), lvs_length]
  exact sends_l1 h i (by omega) ((ens L).take i) (by simp [ens_length]; omega) _ this L.length 0 (by omega)
theorem sEnds_ev {n : Int} {L : List Int} (h : relP n L) : Ev (fun k => spec_ivEnds.f k n L) (ens L) := by
 unfold spec_ivEnds.f
 refine Ev.bind (slevels_ev h) ?_
 rw [lvs_length]
 have := sends_l0 h L.length 0 (by omega)
 simpa using this
section
variable {n : Int} {L : List Int} {x y : Int}
def inl (L : List Int) (x y : Int) : List S37 := ens L ++ [⟨x, y⟩]
theorem inl_length (L : List Int) (x y : Int) : (inl L x y).length = L.length + 1 := by simp [inl, ens_length]
theorem inl_rd (L : List Int) (x y : Int) {i : Nat} (hi : i < L.length) : rd_T37 (inl L x y) (i : Int) = rd_T37 (ens L) (i : Int) := by
 rw [rdIv_lt _ i (by rw [inl_length]; omega), rdIv_lt _ i (by rw [ens_length]; exact hi)]
 simp only [inl]
 rw [List.getElem_append_left]
theorem inl_last (L : List Int) (x y : Int) : rd_T37 (inl L x y) (L.length : Int) = ⟨x, y⟩ := by
 rw [rdIv_lt _ _ (by rw [inl_length]; omega)]
 simp only [inl]
 rw [List.getElem_append_right (by rw [ens_length]; omega)]
 simp [ens_length]
def insP (n : Int) (L : List Int) (x y : Int) : Prop := ivP n L ∧ ivsP [(⟨x, y⟩ : S37)] ∧ n ≠ 10
theorem insP.nn (h : insP n L x y) : n = L.length := h.1.1.1.2.1.symm
theorem insP.len (h : insP n L x y) : L.length ≤ 9 := by have := h.nn; have := h.1.len; have := h.2.2; omega
theorem one_iv (h : ivsP [(⟨x, y⟩ : S37)]) : -1000 ≤ x ∧ x ≤ y ∧ y ≤ 1000 := by
 have := h.1 0 (by simp)
 rw [rdIv_lt _ 0 (by simp)] at this
 exact this
theorem inl_ivsP (h : insP n L x y) : ivsP (inl L x y) := by
 refine ⟨fun i hi => ?_, by rw [inl_length]; have := h.len; omega⟩
 rw [inl_length] at hi
 by_cases e : i = L.length
 ·subst e
  rw [inl_last]
  exact one_iv h.2.1
 ·rw [inl_rd L x y (by omega)]
  exact (ens_ivsP h.1).1 i (by rw [ens_length]; omega)
theorem iIns_yes (h : insP n L x y) : Ev (fun k => impl_InsertInterval.f k n L x y) (((L.length + 1 : Nat) : Int), rel (ivLt (inl L x y)) (L.length + 1), true) := by
 have h9 := h.len
 obtain ⟨b, b1, b2⟩ := iIsInt_ev n L (by omega)
 obtain ⟨c, c1, c2⟩ := areIv_ev [(⟨x, y⟩ : S37)] (by simp)
 have o := orderOf_ev (inl L x y) (by rw [inl_length]; omega)
 rw [inl_length] at o
 unfold impl_InsertInterval.f
 refine Ev.bind b1 (Ev.pos (b2.2 h.1) (Ev.bind c1 (Ev.pos (c2.2 h.2.1) (Ev.shift ?_))))
 simp only [impl_InsertInterval.j0]
 exact Ev.neg (by simpa using h.2.2) (Ev.bind (iEnds_ev h.1.1.1) (Ev.bindc rfl (Ev.pos (by rw [ens_length]; simp; omega) (Ev.bind o (Ev.ret rfl)))))
theorem sIns_yes (h : insP n L x y) : Ev (fun k => spec_InsertInterval.f k n L x y) (((L.length + 1 : Nat) : Int), rel (ivLt (inl L x y)) (L.length + 1), true) := by
 have h9 := h.len
 obtain ⟨b, b1, b2⟩ := sIsInt_ev n L (by omega)
 obtain ⟨c, c1, c2⟩ := ivGood_ev [(⟨x, y⟩ : S37)] (by simp)
 have o := ivOrder_ev (inl L x y) (by rw [inl_length]; omega)
 rw [inl_length] at o
 unfold spec_InsertInterval.f
 refine Ev.bind b1 (Ev.pos (b2.2 h.1) (Ev.bind c1 (Ev.pos (c2.2 h.2.1) (Ev.shift ?_))))
 simp only [spec_InsertInterval.j0]
 exact Ev.neg (by simpa using h.2.2) (Ev.bind (sEnds_ev h.1.1.1) (Ev.bindc rfl (Ev.pos (by rw [ens_length]; simp; omega) (Ev.bind o (Ev.ret rfl)))))
theorem iIns_no (h : ¬ insP n L x y) (hL : L.length ≤ 1048576) : Ev (fun k => impl_InsertInterval.f k n L x y) (0, [], false) := by
 obtain ⟨b, b1, b2⟩ := iIsInt_ev n L hL
 obtain ⟨c, c1, c2⟩ := areIv_ev [(⟨x, y⟩ : S37)] (by simp)
 unfold impl_InsertInterval.f
 refine Ev.bind b1 ?_
 by_cases hb : b = true
 ·refine Ev.pos hb (Ev.bind c1 ?_)
  by_cases hc : c = true
  ·refine Ev.pos hc (Ev.shift ?_)
   simp only [impl_InsertInterval.j0]
   exact Ev.pos (by have e10 : n = 10 := Decidable.byContradiction fun e => h ⟨b2.1 hb, c2.1 hc, e⟩; simp [e10]) (Ev.ret rfl)
  ·refine Ev.neg hc (Ev.shift ?_)
   simp only [impl_InsertInterval.j0]
   exact Ev.pos (by trivial) (Ev.ret rfl)
 ·refine Ev.neg hb (Ev.shift ?_)
  simp only [impl_InsertInterval.j0]
  exact Ev.pos (by trivial) (Ev.ret rfl)
theorem sIns_no (h : ¬ insP n L x y) (hL : L.length ≤ 1048576) : Ev (fun k => spec_InsertInterval.f k n L x y) (0, [], false) := by
 obtain ⟨b, b1, b2⟩ := sIsInt_ev n L hL
 obtain ⟨c, c1, c2⟩ := ivGood_ev [(⟨x, y⟩ : S37)] (by simp)
 unfold spec_InsertInterval.f
 refine Ev.bind b1 ?_
 by_cases hb : b = true
 ·refine Ev.pos hb (Ev.bind c1 ?_)
  by_cases hc : c = true
  ·refine Ev.pos hc (Ev.shift ?_)
   simp only [spec_InsertInterval.j0]
   exact Ev.pos (by have e10 : n = 10 := Decidable.byContradiction fun e => h ⟨b2.1 hb, c2.1 hc, e⟩; simp [e10]) (Ev.ret rfl)
  ·refine Ev.neg hc (Ev.shift ?_)
   simp only [spec_InsertInterval.j0]
   exact Ev.pos (by trivial) (Ev.ret rfl)
 ·refine Ev.neg hb (Ev.shift ?_)
  simp only [spec_InsertInterval.j0]
  exact Ev.pos (by trivial) (Ev.ret rfl)
end
theorem iota_rd {m i : Nat} (h : i < m) : rd (iota m) (i : Int) = i := by
 rw [rd_lt _ i (by rw [iota_length]; exact h)]; simp [iota]
theorem rising_l (m : Nat) (hm : m ≤ 1000) (d : Nat) : ∀ i : Nat, i + d = m → 1 ≤ i → Ev (fun k => impl_isIncreasing.l0 k (iota m) (i : Int)) true := by
 induction d with
 | zero =>
  intro i hi h1
  refine Ev.shift ?_
  simp only [impl_isIncreasing.l0]
  exact Ev.neg (by rw [iota_length]; omega) (Ev.ret rfl)
 | succ d ih =>
  intro i hi h1
  have := ih (i + 1) (by omega) (by omega)
  refine Ev.shift ?_
  simp only [impl_isIncreasing.l0]
  rw [wrap64_id (x := (i : Int) - 1) (by omega) (by omega), wrap64_id (x := (i : Int) + 1) (by omega) (by omega), cast1, show (i : Int) - 1 = ((i - 1 : Nat) : Int) by omega, iota_rd (show i - 1 < m by omega), iota_rd (show i < m by omega)]
  exact Ev.pos (by rw [iota_length]; omega) (Ev.pos (by omega) (Ev.pos (by rw [iota_length]; omega) (Ev.pos (by omega) (Ev.neg (by omega) this))))
theorem rising_ev (m : Nat) (hm : m ≤ 1000) : Ev (fun k => impl_isIncreasing.f k (iota m)) true := by
 unfold impl_isIncreasing.f
 by_cases h : m = 0
 ·subst h
  refine Ev.shift ?_
  simp only [impl_isIncreasing.l0]
  exact Ev.neg (by rw [iota_length]; omega) (Ev.ret rfl)
 ·exact rising_l m hm (m - 1) 1 (by omega) (by omega)
theorem partOf_ev {n : Int} {L : List Int} (h : relP n L) {m : Nat} (hm : m ≤ L.length) : Ev (fun k => impl_PartOf.f k n L (iota m)) ((m : Int), rel (lt L) m, true) := by
 have hn := h.2.1
 have h10 := h.1.2
 unfold impl_PartOf.f
 refine Ev.bind (isRelation_ev n L (by omega)) (Ev.pos (by simpa using h) ?_)
 have hh : Ev (fun k => impl_Order_has.f k n L (iota m)) true := by
  unfold impl_Order_has.f
  rw [wrap64_id (x := n - 1) (by omega) (by omega)]
  refine Ev.bind (allWithin_ev 0 (n - 1) (iota m) (by rw [iota_length]; omega)) (Ev.ret ?_)
  rw [decide_eq_true_iff]
  intro x hx
  rw [mem_iota] at hx
  omega
 refine Ev.bind hh (Ev.pos rfl (Ev.bind (rising_ev m (by omega)) (Ev.pos rfl ?_)))
 have hp : Ev (fun k => impl_Order_part.f k n L (iota m)) ((m : Int), rel (lt L) m) := by
  unfold impl_Order_part.f
  rw [iota_length]
  refine Ev.bind (relation_ev (lt L) m (by omega) (fun _ u0_ u1_ => impl_Order_part_1.f u0_ u1_ n L (iota m)) (fun i j hi hj => ?_)) (Ev.ret rfl)
  refine Ev.const ?_
  have hr := h.row (show i < L.length by omega)
  unfold impl_Order_part_1.f
  rw [if_pos (by omega), if_pos (by rw [iota_length]; omega), if_pos (by omega), if_pos (by rw [iota_length]; omega), iota_rd hi, iota_rd hj, better_f n L (by omega) ⟨hr.1, hr.2.1⟩ (by omega)]
  rfl
 exact Ev.bind hp (Ev.ret rfl)
-- the statements' own comparisons
theorem pSame_l (l m : List Int) (hlm : l.length = m.length) (hl : l.length ≤ 1048576) (d : Nat) : ∀ i : Nat, i + d = l.length → Ev (fun k => laws_pSame.l0 k l m (l.length : Int) (i : Int)) (l.drop i == m.drop i) := by
 induction d with
 | zero =>
  intro i hi
  refine Ev.shift ?_
  simp only [laws_pSame.l0]
  refine Ev.neg (by omega) (Ev.ret ?_)
  rw [List.drop_of_length_le (by omega), List.drop_of_length_le (by omega)]; rfl
 | succ d ih =>
  intro i hi
  have e := ih (i + 1) (by omega)
  have f1 : (i : Int) < l.length := by omega
  have f2 : (i : Int) < m.length := by omega
  refine Ev.shift ?_
  simp only [laws_pSame.l0]
  refine Ev.pos f1 (Ev.pos (by omega) (Ev.pos f1 (Ev.pos f2 ?_)))
  rw [wrap64_id (by omega) (by omega), cast1, drop_rd l i (by omega), drop_rd m i (by omega)]
  by_cases hc : rd l (i : Int) = rd m (i : Int)
  ·refine Ev.pos hc (Ev.eq e ?_)
   rw [hc]; simp
  ·refine Ev.neg hc (Ev.ret ?_)
   symm; rw [beq_eq_false_iff_ne]; intro h; exact hc (List.cons.inj h).1
theorem pSame_ev (l m : List Int) (hl : l.length ≤ 1048576) : Ev (fun k => laws_pSame.f k l m) (l == m) := by
 unfold laws_pSame.f
 by_cases h : (l.length : Int) = m.length
 ·refine Ev.pos h ?_
  simpa using pSame_l l m (by omega) hl l.length 0 (by omega)
 ·refine Ev.neg h (Ev.ret ?_)
  symm; rw [beq_eq_false_iff_ne]; intro e; exact h (by rw [e])
theorem pSameOrder_ev (n : Int) (l : List Int) (n' : Int) (m : List Int) (hl : l.length ≤ 1048576) : Ev (fun k => laws_pSameOrder.f k n l n' m) (decide (n = n') && (l == m)) := by
 unfold laws_pSameOrder.f
 by_cases h : n = n'
 ·exact Ev.pos h (Ev.bind (pSame_ev l m hl) (Ev.ret (by simp [h])))
 ·exact Ev.neg h (Ev.ret (by simp [h]))
theorem pSameOrder_self (n : Int) (l : List Int) (hl : l.length ≤ 1048576) : Ev (fun k => laws_pSameOrder.f k n l n l) true := Ev.eq (pSameOrder_ev n l n l hl) (by simp)
-- a set asked by the statements
theorem pIn_all : ∀ x : Fin 1024, ∀ j : Fin 10, laws_pIn.f (x.val : Int) (j.val : Int) = some (bit (x.val : Int) j.val) := by decide +kernel
theorem pIn_f {x : Int} (h0 : 0 ≤ x) (h1 : x < 1024) {j : Nat} (hj : j < 10) : laws_pIn.f x (j : Int) = some (bit x j) := by
 obtain ⟨m, rfl⟩ : ∃ m : Nat, x = m := ⟨x.toNat, by omega⟩
 exact pIn_all ⟨m, by omega⟩ ⟨j, hj⟩
end Go.Proofs.YtlfjnllnddpgoaaDoor.Pure
/- Stretched intervals represent the same order, and an inserted interval leaves the order of the others, for every two strings of bytes. Condition: the listed variables, tied to the program's text by the card. -/
namespace Go.Proofs.YtlfjnllnddpgoaaDoor.Pure
open Go.RowKit Go.Proofs.YtlfjnllnddpgoaaDoor.Q Go.Proofs.YtlfjnllnddpgoaaDoorW.PrintWords Go.Proofs.YtlfjnllnddpgoaaDoorW.PrintLast
set_option linter.unusedVariables false
set_option linter.unusedSimpArgs false
section
variable {n : Int} {L : List Int} {x y : Int}
theorem inl_lt (h : insP n L x y) {i j : Nat} (hi : i < L.length + 1) (hj : j < L.length + 1) : lt (rel (ivLt (inl L x y)) (L.length + 1)) i j = ivLt (inl L x y) i j := by
 rw [rel_lt (by have := h.len; omega) hi]; simp [hj]
theorem inl_old (h : insP n L x y) {i j : Nat} (hi : i < L.length) (hj : j < L.length) : lt (rel (ivLt (inl L x y)) (L.length + 1)) i j = lt L i j := by
 have h9 := h.len
 rw [inl_lt h (by omega) (by omega)]
 have e := ens_rel h.1
 have : lt L i j = ivLt (ens L) i j := by
  conv => lhs; rw [← e]
  rw [rel_lt (by omega) hi]; simp [hj]
 rw [this]
 unfold ivLt
 rw [inl_rd L x y hi, inl_rd L x y hj]
theorem ins_pin (h : insP n L x y) {i j : Nat} (hi : i < L.length + 1) (hj : j < L.length + 1) : laws_pIn.f (rd (rel (ivLt (inl L x y)) (L.length + 1)) (i : Int)) (j : Int) = some (ivLt (inl L x y) i j) := by
 have h9 := h.len
 have hs := rel_set (p := ivLt (inl L x y)) (show L.length + 1 ≤ 10 by omega) hi
 rw [pIn_f hs.1 hs.2 (by omega)]
 exact congrArg some (inl_lt h hi hj)
theorem ins_l1 (h : insP n L x y) (d : Nat) : ∀ i : Nat, i + d = L.length → Ev (fun k => laws_FnStretchedIntervals.l1 k (ens L) (L.length : Int) (i : Int) (L.length : Int) L x y ((L.length + 1 : Nat) : Int) (rel (ivLt (inl L x y)) (L.length + 1))) true := by
 have h9 := h.len
 induction d with
 | zero =>
  intro i hi
  refine Ev.shift ?_
  simp only [laws_FnStretchedIntervals.l1]
  exact Ev.neg (by omega) (Ev.ret rfl)
 | succ d ih =>
  intro i hi
  have := ih (i + 1) (by omega)
  have a1 : ivLt (inl L x y) i L.length = decide ((rd_T37 (ens L) (i : Int)).f1 < x) := by unfold ivLt; rw [inl_rd L x y (by omega), inl_last]
  have a2 : ivLt (inl L x y) L.length i = decide (y < (rd_T37 (ens L) (i : Int)).f0) := by unfold ivLt; rw [inl_last, inl_rd L x y (by omega)]
  refine Ev.shift ?_
  simp only [laws_FnStretchedIntervals.l1]
  rw [wrap64_id (x := (i : Int) + 1) (by omega) (by omega), cast1]
  refine Ev.pos (by omega) (Ev.pos (by omega) (Ev.pos (by rw [ens_length]; omega) (Ev.pos (by rw [rel_length]; omega) (Ev.bindc (ins_pin h (by omega) (by omega)) (Ev.neg (by rw [a1]; simp) (Ev.pos (by omega) (Ev.pos (by rw [rel_length]; omega) (Ev.bindc (ins_pin h (by omega) (by omega)) (Ev.neg (by rw [a2]; simp) this)))))))))
theorem iota_succ (m : Nat) : iota (m + 1) = iota m ++ [(m : Int)] := by
 unfold iota; rw [List.range_succ, List.map_append]; rfl
theorem ins_l0 (h : insP n L x y) (d : Nat) : ∀ i : Nat, i + d = L.length → Ev (fun k => laws_FnStretchedIntervals.l0 k (iota i) (i : Int) (L.length : Int) L x y ((L.length + 1 : Nat) : Int) (rel (ivLt (inl L x y)) (L.length + 1))) true := by
 have h9 := h.len
 induction d with
 | zero =>
  intro i hi
  obtain rfl : i = L.length := by omega
  have hI := inl_ivsP h
  have hP := ivs_ivP hI
  rw [inl_length] at hP
  have hrl : (rel (ivLt (inl L x y)) (L.length + 1)).length ≤ 1048576 := by rw [rel_length]; omega
  have p1 := partOf_ev hP.1.1 (m := L.length) (by rw [rel_length]; omega)
  have hn := h.nn
  subst hn
  rw [rel_self h.1.1.1 (p := lt (rel (ivLt (inl L x y)) (L.length + 1))) fun i j hi hj => inl_old h hi hj] at p1
  obtain ⟨b, b1, b2⟩ := iIsInt_ev ((L.length + 1 : Nat) : Int) _ hrl
  have hb := b2.2 hP
  subst hb
  have q1 : Ev (fun k => impl_IsIntervalOrder.f k ((L.length + 1 : Nat) : Int) (rel (ivLt (inl L x y)) (L.length + 1))) (true, true) := by
   unfold impl_IsIntervalOrder.f
   exact Ev.bind (isOrder_ev _ _ hrl) (Ev.pos (by simpa using hP.1) (Ev.bind b1 (Ev.ret rfl)))
  refine Ev.shift ?_
  simp only [laws_FnStretchedIntervals.l0]
  refine Ev.neg (by omega) (Ev.bind p1 (Ev.bind q1 (Ev.bind (iEndsOf_yes h.1 (by omega)) (Ev.pos rfl (Ev.pos rfl (Ev.pos rfl (Ev.pos rfl (Ev.bind (pSameOrder_self _ _ (show L.length ≤ 1048576 by omega)) (Ev.shift ?_)))))))))
  simp only [laws_FnStretchedIntervals.j4]
  refine Ev.neg (by simp) ?_
  rw [ens_length]
  exact ins_l1 h L.length 0 (by omega)
 | succ d ih =>
  intro i hi
  have := ih (i + 1) (by omega)
  rw [iota_succ] at this
  refine Ev.shift ?_
  simp only [laws_FnStretchedIntervals.l0]
  refine Ev.pos (by omega) (Ev.pos (by rw [iota_length]; omega) ?_)
  rw [wrap64_id (by omega) (by omega), cast1]
  exact this
theorem ins_law {c : List Int} (hc : bytesP c) : Ev (fun k => laws_FnStretchedIntervals.j1 k c) true := by
 obtain ⟨n, L, x, y, hd, hL⟩ := drawInsert_d hc
 refine Ev.shift ?_
 simp only [laws_FnStretchedIntervals.j1]
 refine Ev.bind hd ?_
 by_cases h : insP n L x y
 ·refine Ev.bind (iIns_yes h) (Ev.bind (sIns_yes h) (Ev.neg (by simp) (Ev.bind (pSameOrder_self _ _ (show (rel (ivLt (inl L x y)) (L.length + 1)).length ≤ 1048576 by rw [rel_length]; omega)) (Ev.shift ?_))))
  simp only [laws_FnStretchedIntervals.j2]
  refine Ev.neg (by simp) (Ev.pos (by trivial) ?_)
  have hn := h.nn
  subst hn
  exact ins_l0 h L.length 0 (by omega)
 ·refine Ev.bind (iIns_no h (show L.length ≤ 1048576 by omega)) (Ev.bind (sIns_no h (show L.length ≤ 1048576 by omega)) (Ev.neg (by simp) (Ev.bind (pSameOrder_self 0 [] (by simp)) (Ev.shift ?_))))
  simp only [laws_FnStretchedIntervals.j2]
  exact Ev.neg (by simp) (Ev.neg (by simp) (Ev.ret rfl))
end
theorem FnStretchedIntervals (l0 : List Int) (hm0 : l0.length ≤ maxLen) (hw0 : ∀ x ∈ l0, (Lit.int .u8 x).wf = true) (l1 : List Int) (hm1 : l1.length ≤ maxLen) (hw1 : ∀ x ∈ l1, (Lit.int .u8 x).wf = true) : ∃ k, laws_FnStretchedIntervals.f k l0 l1 = some true := by
 refine Ev.at1 ?_
 unfold laws_FnStretchedIntervals.f
 obtain ⟨b, hb⟩ := big_f l0 l1 hm0
 refine Ev.bindc hb ?_
 by_cases hbt : b = true
 ·exact Ev.pos hbt (Ev.ret rfl)
 refine Ev.neg hbt ?_
 obtain ⟨l, p, q, hd, hlen⟩ := drawStretch_d (bytesP.of hw0)
 have J1 := ins_law (bytesP.of hw1)
 refine Ev.bind hd ?_
 by_cases h : strP l p q ∧ ivsP (strl l p q)
 ·obtain ⟨h1, h2⟩ := h
  have h10 := h1.1.2
  have io : ∀ m : List S37, ivsP m → Ev (fun k => impl_OrderOfIntervals.f k m) ((m.length : Int), rel (ivLt m) m.length, true) := fun m hm => by
   have := hm.2
   obtain ⟨b, b1, b2⟩ := areIv_ev m (by omega)
   unfold impl_OrderOfIntervals.f
   exact Ev.bind b1 (Ev.pos (b2.2 hm) (Ev.bind (orderOf_ev m (by omega)) (Ev.ret rfl)))
  have io2 := io _ h2
  rw [strl_length, strl_rel l h1.2.2.1] at io2
  refine Ev.bind (istr_yes h1 h2) (Ev.bind (sstr_yes h1 h2) (Ev.neg (by simp) (Ev.bind (pSameIv_self _ (show (strl l p q).length ≤ 1000 by rw [strl_length]; omega)) (Ev.shift ?_))))
  simp only [laws_FnStretchedIntervals.j0]
  exact Ev.neg (by simp) (Ev.pos (by trivial) (Ev.bind (io l h1.1) (Ev.bind io2 (Ev.pos rfl (Ev.pos rfl (Ev.bind (pSameOrder_self _ _ (show (rel (ivLt l) l.length).length ≤ 1048576 by rw [rel_length]; omega)) (Ev.pos rfl J1)))))))
 ·refine Ev.bind (istr_no h (show l.length ≤ 1000 by omega)) (Ev.bind (sstr_no h (show l.length ≤ 1000 by omega)) (Ev.neg (by simp) (Ev.bind (pSameIv_self [] (by simp)) (Ev.shift ?_))))
  simp only [laws_FnStretchedIntervals.j0]
  exact Ev.neg (by simp) (Ev.neg (by simp) J1)
end Go.Proofs.YtlfjnllnddpgoaaDoor.Pure
