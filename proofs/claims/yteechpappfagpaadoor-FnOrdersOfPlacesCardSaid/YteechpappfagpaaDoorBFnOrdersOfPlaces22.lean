import Derived.Test.YteechpappfagpaaDoorBFnOrdersOfPlaces2
import Derived.Test.YteechpappfagpaaDoorBFnOrdersOfPlaces3
import Derived.Test.YteechpappfagpaaDoorBFnOrdersOfPlaces5
import Derived.Test.YteechpappfagpaaDoorBFnOrdersOfPlaces6
import Derived.Test.YteechpappfagpaaDoorBFnOrdersOfPlaces7
import Derived.Test.YteechpappfagpaaDoorBFnOrdersOfPlaces8
import Derived.Test.YteechpappfagpaaDoorBFnOrdersOfPlaces11
import Derived.Test.YteechpappfagpaaDoorBFnOrdersOfPlaces14
import Derived.Test.YteechpappfagpaaDoorBFnOrdersOfPlaces15
import Derived.Test.YteechpappfagpaaDoorBFnOrdersOfPlaces16
import Derived.Test.YteechpappfagpaaDoorBFnOrdersOfPlaces17
import Derived.Test.YteechpappfagpaaDoorBFnOrdersOfPlaces20
import Derived.Test.YteechpappfagpaaDoorBFnOrdersOfPlaces21
namespace Go.Proofs.YteechpappfagpaaDoor.Pure
open Go.RowKit Go.Proofs.YteechpappfagpaaDoor.Q Go.Proofs.YteechpappfagpaaDoorW.PrintWords Go.Proofs.YteechpappfagpaaDoorW.PrintLast
set_option linter.unusedVariables false
set_option linter.unusedSimpArgs false

theorem orderP_of {n : Int} {L : List Int} (h : relP n L) (h1 : ∀ i, i < L.length → lt L i i = false) (h2 : ∀ i j m, i < L.length → j < L.length → lt L i j = true → lt L j m = true → lt L i m = true) : orderP n L :=
  ⟨h, fun m hm => ⟨h1 m hm, fun j hj => by
    obtain ⟨j', rfl, hj', hb⟩ := h.bits hm hj
    exact (andNot_zero (h.set hj') (h.set hm)).2 fun q _ hb2 => h2 m j' q hm hj' hb hb2⟩⟩
theorem rel_relP {n : Int} {N : Nat} (hn : n = N) (h10 : N ≤ 10) (p : Nat → Nat → Bool) : relP n (rel p N) := by
  subst hn
  refine ⟨⟨by omega, by omega⟩, by rw [rel_length], fun x hx => ?_⟩
  obtain ⟨i, hi, rfl⟩ := List.mem_iff_getElem.1 hx
  rw [rel_length] at hi
  rw [← rd_lt _ i (by rw [rel_length]; exact hi)]
  have hs := rel_set (p := p) h10 hi
  refine ⟨hs.1, ?_⟩
  rw [full_pow h10]
  obtain ⟨a, ha, hlt⟩ := hs.nat
  rw [ha]
  have : a < 2 ^ N := by
    refine Nat.lt_pow_two_of_testBit a fun m hm => ?_
    have := rel_lt (p := p) h10 hi m
    unfold lt at this
    rw [ha, bit_nat] at this
    rw [this]; simp; omega
  have h2 : ((2 ^ N : Nat) : Int) = (2 : Int) ^ N := by simp
  omega
/-- the mirrored rows -/
def mir (L : List Int) : List Int := rel (fun i j => lt L j i) L.length
theorem mir_length (L : List Int) : (mir L).length = L.length := rel_length _ _
theorem mir_relP {n : Int} {L : List Int} (h : relP n L) : relP n (mir L) := rel_relP h.2.1.symm (by have := h.1; have := h.2.1; omega) _
theorem mir_lt {n : Int} {L : List Int} (h : relP n L) {i j : Nat} (hi : i < L.length) (hj : j < L.length) : lt (mir L) i j = lt L j i := by
  have h1 := h.1; have h2 := h.2.1
  unfold mir; rw [rel_lt (by omega) hi]; simp [hj]
theorem mir_mir {n : Int} {L : List Int} (h : relP n L) : mir (mir L) = L := by
  have h1 := h.1; have h2 := h.2.1
  have hm := mir_relP h
  have hmm := mir_relP hm
  refine rel_ext (by rw [mir_length, mir_length]) (fun i hi => hmm.set hi) (fun i hi => h.set hi) (fun i j hi hj => ?_)
  rw [mir_length, mir_length] at hi
  by_cases hjl : j < L.length
  · rw [mir_lt hm (by rw [mir_length]; exact hi) (by rw [mir_length]; exact hjl), mir_lt h hjl hi]
  · have e1 : lt (mir (mir L)) i j = false := by
      cases hb : lt (mir (mir L)) i j
      · rfl
      · have := hmm.lt_len (by rw [mir_length, mir_length]; exact hi) hb; rw [mir_length, mir_length] at this; omega
    have e2 : lt L i j = false := by
      cases hb : lt L i j
      · rfl
      · have := h.lt_len hi hb; omega
    rw [e1, e2]
theorem mir_order {n : Int} {L : List Int} (h : orderP n L) : orderP n (mir L) := by
  have hm := mir_relP h.1
  refine orderP_of hm (fun i hi => ?_) (fun i j m hi hj h1 h2 => ?_)
  · rw [mir_length] at hi; rw [mir_lt h.1 hi hi]; exact h.irr hi
  · have hml := hm.lt_len hj h2
    rw [mir_length] at hi hj hml
    rw [mir_lt h.1 hi hj] at h1
    rw [mir_lt h.1 hj hml] at h2
    rw [mir_lt h.1 hi hml]
    exact h.trans hml h2 h1
theorem mir_order_iff {n : Int} {L : List Int} (h : relP n L) : orderP n (mir L) ↔ orderP n L :=
  ⟨fun h2 => by have := mir_order h2; rwa [mir_mir h] at this, mir_order⟩

end Go.Proofs.YteechpappfagpaaDoor.Pure

namespace Go.Proofs.YteechpappfagpaaDoor.Pure
open Go.RowKit Go.Proofs.YteechpappfagpaaDoor.Q Go.Proofs.YteechpappfagpaaDoorW.PrintWords Go.Proofs.YteechpappfagpaaDoorW.PrintLast
set_option linter.unusedVariables false
set_option linter.unusedSimpArgs false

-- the statements' own comparisons
theorem vSame_l (l m : List Int) (hlm : l.length = m.length) (hl : l.length ≤ 1048576) (d : Nat) : ∀ i : Nat, i + d = l.length → Ev (fun k => laws_vSame.l0 k l m (l.length : Int) (i : Int)) (l.drop i == m.drop i) := by
  induction d with
  | zero =>
    intro i hi
    refine Ev.shift ?_
    simp only [laws_vSame.l0]
    refine Ev.neg (by omega) (Ev.ret ?_)
    rw [List.drop_of_length_le (by omega), List.drop_of_length_le (by omega)]; rfl
  | succ d ih =>
    intro i hi
    have e := ih (i + 1) (by omega)
    have f1 : (i : Int) < l.length := by omega
    have f2 : (i : Int) < m.length := by omega
    refine Ev.shift ?_
    simp only [laws_vSame.l0]
    refine Ev.pos f1 (Ev.pos (by omega) (Ev.pos f1 (Ev.pos f2 ?_)))
    rw [wrap64_id (by omega) (by omega), cast1, drop_rd l i (by omega), drop_rd m i (by omega)]
    by_cases hc : rd l (i : Int) = rd m (i : Int)
    · refine Ev.pos hc (Ev.eq e ?_)
      rw [hc]; simp
    · refine Ev.neg hc (Ev.ret ?_)
      symm; rw [beq_eq_false_iff_ne]; intro h; exact hc (List.cons.inj h).1
theorem vSame_ev (l m : List Int) (hl : l.length ≤ 1048576) : Ev (fun k => laws_vSame.f k l m) (l == m) := by
  unfold laws_vSame.f
  by_cases h : (l.length : Int) = m.length
  · refine Ev.pos h ?_
    simpa using vSame_l l m (by omega) hl l.length 0 (by omega)
  · refine Ev.neg h (Ev.ret ?_)
    symm; rw [beq_eq_false_iff_ne]; intro e; exact h (by rw [e])
theorem vOrder_ev (n : Int) (l : List Int) (n' : Int) (m : List Int) (hl : l.length ≤ 1048576) : Ev (fun k => laws_vOrder.f k n l n' m) (decide (n = n') && (l == m)) := by
  unfold laws_vOrder.f
  by_cases h : n = n'
  · exact Ev.pos h (Ev.bind (vSame_ev l m hl) (Ev.ret (by simp [h])))
  · exact Ev.neg h (Ev.ret (by simp [h]))
theorem vOrder_self (n : Int) (l : List Int) (hl : l.length ≤ 1048576) : Ev (fun k => laws_vOrder.f k n l n l) true := Ev.eq (vOrder_ev n l n l hl) (by simp)

end Go.Proofs.YteechpappfagpaaDoor.Pure

namespace Go.Proofs.YteechpappfagpaaDoor.Pure
open Go.RowKit Go.Proofs.YteechpappfagpaaDoor.Q Go.Proofs.YteechpappfagpaaDoorW.PrintWords Go.Proofs.YteechpappfagpaaDoorW.PrintLast
set_option linter.unusedVariables false
set_option linter.unusedSimpArgs false

-- orders of places, by a threshold
def plc (t : Int) (P : List Int) (i j : Nat) : Bool := decide (rd P (j : Int) - rd P (i : Int) ≥ t)
/-- places that are let in -/
def plcP (t : Int) (P : List Int) : Prop := (1 ≤ t ∧ t ≤ 10) ∧ P.length ≤ 10 ∧ ∀ x ∈ P, 0 ≤ x ∧ x ≤ 1000
theorem plcP.rd {t : Int} {P : List Int} (h : plcP t P) {i : Nat} (hi : i < P.length) : 0 ≤ rd P (i : Int) ∧ rd P (i : Int) ≤ 1000 := by
  rw [rd_lt P i hi]; exact h.2.2 _ (List.getElem_mem _)
def pord (t : Int) (P : List Int) : List Int := rel (plc t P) P.length
theorem pord_length (t : Int) (P : List Int) : (pord t P).length = P.length := rel_length _ _
theorem pord_lt {t : Int} {P : List Int} (h : plcP t P) {i j : Nat} (hi : i < P.length) (hj : j < P.length) : lt (pord t P) i j = plc t P i j := by
  unfold pord; rw [rel_lt (by have := h.2.1; omega) hi]; simp [hj]
theorem pord_relP {t : Int} {P : List Int} (h : plcP t P) : relP (P.length : Int) (pord t P) := rel_relP rfl h.2.1 _
theorem plc_iff {t : Int} {P : List Int} {i j : Nat} : plc t P i j = true ↔ rd P (j : Int) - rd P (i : Int) ≥ t := by unfold plc; exact decide_eq_true_iff
theorem pord_order {t : Int} {P : List Int} (h : plcP t P) : orderP (P.length : Int) (pord t P) := by
  have ht := h.1
  refine orderP_of (pord_relP h) (fun i hi => ?_) (fun i j m hi hj h1 h2 => ?_)
  · rw [pord_length] at hi
    rw [pord_lt h hi hi]
    unfold plc; simp; omega
  · have hm := (pord_relP h).lt_len hj h2
    rw [pord_length] at hi hj hm
    rw [pord_lt h hi hj, plc_iff] at h1
    rw [pord_lt h hj hm, plc_iff] at h2
    rw [pord_lt h hi hm, plc_iff]
    omega
theorem placed_ev {t : Int} {P : List Int} (h : plcP t P) : Ev (fun k => impl_placed.f k t P) ((P.length : Int), pord t P) := by
  have hl := h.2.1
  have ht := h.1
  unfold impl_placed.f
  refine Ev.bind (relation_ev (plc t P) P.length (by omega) (fun _ u0_ u1_ => impl_placed_1.f u0_ u1_ P t) (fun i j hi hj => Ev.const ?_)) (Ev.ret rfl)
  have hi' := h.rd hi
  have hj' := h.rd hj
  unfold impl_placed_1.f
  rw [if_pos (by omega), if_pos (by omega), if_pos (by omega), if_pos (by omega), wrap64_id (by omega) (by omega)]
  rfl
theorem iOrderOfPlaces_ev {t : Int} {P : List Int} (h : plcP t P) : Ev (fun k => impl_OrderOfPlaces.f k t P) ((P.length : Int), pord t P, true) := by
  have hl := h.2.1
  unfold impl_OrderOfPlaces.f
  refine Ev.bindc (impl_in _ _ _) (Ev.pos (by simpa using h.1) (Ev.neg (by omega) (Ev.bind (allWithin_ev 0 1000 P (by omega)) (Ev.pos (by simpa using h.2.2) (Ev.bind (placed_ev h) (Ev.ret rfl))))))
theorem iOrderOfPlaces_no {t : Int} {P : List Int} (hl : P.length ≤ 1048576) (h : ¬ plcP t P) : Ev (fun k => impl_OrderOfPlaces.f k t P) (0, [], false) := by
  unfold impl_OrderOfPlaces.f
  refine Ev.bindc (impl_in _ _ _) ?_
  by_cases h1 : 1 ≤ t ∧ t ≤ 10
  · refine Ev.pos (by simpa using h1) ?_
    by_cases h2 : (P.length : Int) > 10
    · exact Ev.pos h2 (Ev.ret rfl)
    · refine Ev.neg h2 (Ev.bind (allWithin_ev 0 1000 P hl) (Ev.neg ?_ (Ev.ret rfl)))
      simp only [decide_eq_true_eq]
      exact fun h3 => h ⟨h1, by omega, h3⟩
  · exact Ev.neg (by simpa using h1) (Ev.ret rfl)
theorem sOrder_l1 {t : Int} {P : List Int} (h : plcP t P) (rows : List Int) (i : Nat) (hi : i < P.length) (R : Int × List Int × Bool) (hk : Ev (fun k => spec_OrderOfPlaces.l0 k t P P (P.length : Int) ((i + 1 : Nat) : Int) (P.length : Int) (rows ++ [rowf (plc t P i) P.length])) R) (hr : rows.length < 1000) (d : Nat) :
    ∀ j : Nat, j + d = P.length → Ev (fun k => spec_OrderOfPlaces.l1 k t P (rd P (i : Int)) (rowf (plc t P i) j) P (P.length : Int) (i : Int) P (P.length : Int) (j : Int) (P.length : Int) rows) R := by
  have hl := h.2.1
  have ht := h.1
  have hxi := h.rd hi
  induction d with
  | zero =>
    intro j hj
    obtain rfl : j = P.length := by omega
    refine Ev.shift ?_
    simp only [spec_OrderOfPlaces.l1]
    refine Ev.neg (by omega) (Ev.pos (by omega) ?_)
    rw [wrap64_id (by omega) (by omega), cast1]; exact hk
  | succ d ih =>
    intro j hj
    have e := ih (j + 1) (by omega)
    have hxj := h.rd (i := j) (by omega)
    rw [rowf_succ] at e
    have f1 : (j : Int) < P.length := by omega
    refine Ev.shift ?_
    simp only [spec_OrderOfPlaces.l1]
    refine Ev.pos f1 (Ev.pos (by omega) (Ev.pos f1 ?_))
    rw [wrap64_id (x := (j : Int) + 1) (by omega) (by omega), wrap64_id (x := rd P (i : Int) + t) (by omega) (by omega), cast1]
    by_cases hc : rd P (j : Int) ≥ rd P (i : Int) + t
    · rw [if_pos (plc_iff.2 (by omega))] at e
      exact Ev.pos hc e
    · rw [if_neg (fun h2 => hc (by have := plc_iff.1 h2; omega))] at e
      exact Ev.neg hc e
theorem sOrder_l0 {t : Int} {P : List Int} (h : plcP t P) (d : Nat) : ∀ i : Nat, i + d = P.length → Ev (fun k => spec_OrderOfPlaces.l0 k t P P (P.length : Int) (i : Int) (P.length : Int) ((pord t P).take i)) ((P.length : Int), pord t P, true) := by
  have hl := h.2.1
  induction d with
  | zero =>
    intro i hi
    refine Ev.shift ?_
    simp only [spec_OrderOfPlaces.l0]
    exact Ev.neg (by omega) (Ev.ret (by rw [List.take_of_length_le (by rw [pord_length]; omega)]))
  | succ d ih =>
    intro i hi
    have e := ih (i + 1) (by omega)
    rw [List.take_succ_eq_append_getElem (by rw [pord_length]; omega), ← rd_lt _ i (by rw [pord_length]; omega)] at e
    rw [show rd (pord t P) (i : Int) = rowf (plc t P i) P.length from rel_get _ _ i (by omega)] at e
    refine Ev.shift ?_
    simp only [spec_OrderOfPlaces.l0]
    exact Ev.pos (by omega) (Ev.pos (by omega) (Ev.pos (by omega) (sOrder_l1 h _ i (by omega) _ e (by rw [List.length_take, pord_length]; omega) P.length 0 (by omega))))
theorem sOrderOfPlaces_ev {t : Int} {P : List Int} (h : plcP t P) : Ev (fun k => spec_OrderOfPlaces.f k t P) ((P.length : Int), pord t P, true) := by
  have hl := h.2.1
  have hs : spec_seThreshold.f t = some true := by unfold spec_seThreshold.f; rw [spec_in]; simp [h.1]
  unfold spec_OrderOfPlaces.f
  refine Ev.bindc hs (Ev.pos rfl (Ev.neg (by omega) (Ev.bind (l1All_ev 0 1000 P (by omega)) (Ev.shift ?_))))
  simp only [spec_OrderOfPlaces.j0]
  exact Ev.neg (by simpa using h.2.2) (sOrder_l0 h P.length 0 (by omega))
theorem sOrderOfPlaces_no {t : Int} {P : List Int} (hl : P.length ≤ 1048576) (h : ¬ plcP t P) : Ev (fun k => spec_OrderOfPlaces.f k t P) (0, [], false) := by
  have hs : spec_seThreshold.f t = some (decide (1 ≤ t ∧ t ≤ 10)) := by unfold spec_seThreshold.f; rw [spec_in]; rfl
  unfold spec_OrderOfPlaces.f
  refine Ev.bindc hs ?_
  by_cases h1 : 1 ≤ t ∧ t ≤ 10
  · refine Ev.pos (by simpa using h1) ?_
    by_cases h2 : (P.length : Int) > 10
    · refine Ev.pos h2 (Ev.shift ?_)
      simp only [spec_OrderOfPlaces.j0]
      exact Ev.pos (by simp) (Ev.ret rfl)
    · refine Ev.neg h2 (Ev.bind (l1All_ev 0 1000 P hl) (Ev.shift ?_))
      simp only [spec_OrderOfPlaces.j0]
      refine Ev.pos ?_ (Ev.ret rfl)
      simp only [Bool.not_eq_true', decide_eq_false_iff_not]
      exact fun h3 => h ⟨h1, by omega, h3⟩
  · refine Ev.neg (by simpa using h1) (Ev.shift ?_)
    simp only [spec_OrderOfPlaces.j0]
    exact Ev.pos (by simp) (Ev.ret rfl)
theorem freeP_true {L : List Int} {i j : Nat} : freeP L i j = true ↔ lt L i j = false ∧ lt L j i = false ∧ j ≠ i := by
  unfold freeP; simp [Bool.and_eq_true]; exact and_assoc
/-- orders of places are semiorders -/
theorem pord_semi {t : Int} {P : List Int} (h : plcP t P) : Ev (fun k => impl_isSemi.f k (P.length : Int) (pord t P)) true := by
  have ho := pord_order h
  have hr := ho.1
  have hl := h.2.1
  have ht := h.1
  obtain ⟨x, hx, hx2⟩ := twoTwo_ev hr
  obtain ⟨y, hy, hy2⟩ := threeOne_ev hr
  have ex : x = [] := hx2.2 ⟨fun a ha b hb c hc d hd hbad => by
    rw [pord_length] at ha hb hc hd
    obtain ⟨h1, h2, h3, h4⟩ := hbad
    rw [pord_lt h ha hb, plc_iff] at h1
    rw [pord_lt h hc hd, plc_iff] at h2
    rw [pord_lt h hc hb] at h3
    rw [pord_lt h ha hd] at h4
    unfold plc at h3 h4
    simp only [decide_eq_false_iff_not] at h3 h4
    omega, trivial⟩
  have ey : y = [] := hy2.2 fun a ha q hq b hb p hp c hc => by
    rw [pord_length] at ha
    obtain ⟨b', eb, hbl, hab⟩ := row_el hr (by rw [pord_length]; exact ha) hq
    obtain rfl : b = b' := by rw [eb] at hb; omega
    obtain ⟨c', ec, hcl, hbc⟩ := row_el hr hbl hp
    obtain rfl : c = c' := by rw [ec] at hc; omega
    have hs := and3_set hr (a := a) (b := b) (c := c) (by rw [pord_length]; exact ha) hbl hcl
    rw [pord_length] at hbl hcl
    rw [set_eq_zero hs.1]
    intro d _
    rw [hs.2]
    cases hd : (decide (d < (pord t P).length) && freeP (pord t P) a d && freeP (pord t P) b d && freeP (pord t P) c d)
    · rfl
    · exfalso
      simp only [Bool.and_eq_true, decide_eq_true_eq, freeP_true] at hd
      obtain ⟨⟨⟨hd0, h1⟩, h2⟩, h3⟩ := hd
      rw [pord_length] at hd0
      rw [pord_lt h ha hbl, plc_iff] at hab
      rw [pord_lt h hbl hcl, plc_iff] at hbc
      have e1 := h1.1; have e2 := h3.2.1
      rw [pord_lt h ha hd0] at e1
      rw [pord_lt h hd0 hcl] at e2
      unfold plc at e1 e2
      simp only [decide_eq_false_iff_not] at e1 e2
      omega
  have hI : Ev (fun k => impl_isInterval.f k (P.length : Int) (pord t P)) true := by
    unfold impl_isInterval.f
    exact Ev.bind (isOrder_ev _ _ (by rw [pord_length]; omega)) (Ev.pos (by simpa using ho) (Ev.bind hx (Ev.ret (by rw [ex]; rfl))))
  unfold impl_isSemi.f
  exact Ev.bind hI (Ev.pos rfl (Ev.bind hy (Ev.ret (by rw [ey]; rfl))))

end Go.Proofs.YteechpappfagpaaDoor.Pure

namespace Go.Proofs.YteechpappfagpaaDoor.Pure
open Go.RowKit Go.Proofs.YteechpappfagpaaDoor.Q Go.Proofs.YteechpappfagpaaDoorW.PrintWords Go.Proofs.YteechpappfagpaaDoorW.PrintLast
set_option linter.unusedVariables false
set_option linter.unusedSimpArgs false

theorem sEqual_l (l m : List Int) (hlm : l.length = m.length) (hl : l.length ≤ 1048576) (d : Nat) : ∀ i : Nat, i + d = l.length → Ev (fun k => slices_Equal_int_int.l0 k l m (l.length : Int) (i : Int)) (l.drop i == m.drop i) := by
  induction d with
  | zero =>
    intro i hi
    refine Ev.shift ?_
    simp only [slices_Equal_int_int.l0]
    refine Ev.neg (by omega) (Ev.ret ?_)
    rw [List.drop_of_length_le (by omega), List.drop_of_length_le (by omega)]; rfl
  | succ d ih =>
    intro i hi
    have e := ih (i + 1) (by omega)
    have f1 : (i : Int) < l.length := by omega
    have f2 : (i : Int) < m.length := by omega
    refine Ev.shift ?_
    simp only [slices_Equal_int_int.l0]
    refine Ev.pos f1 (Ev.pos (by omega) (Ev.pos f1 (Ev.pos f2 ?_)))
    rw [wrap64_id (by omega) (by omega), cast1, drop_rd l i (by omega), drop_rd m i (by omega)]
    by_cases hc : rd l (i : Int) = rd m (i : Int)
    · refine Ev.pos hc (Ev.eq e ?_)
      rw [hc]; simp
    · refine Ev.neg hc (Ev.ret ?_)
      symm; rw [beq_eq_false_iff_ne]; intro h; exact hc (List.cons.inj h).1
theorem sEqual_ev (l m : List Int) (hl : l.length ≤ 1048576) : Ev (fun k => slices_Equal_int_int.f k l m) (l == m) := by
  unfold slices_Equal_int_int.f
  by_cases h : (l.length : Int) = m.length
  · refine Ev.pos h ?_
    simpa using sEqual_l l m (by omega) hl l.length 0 (by omega)
  · refine Ev.neg h (Ev.ret ?_)
    symm; rw [beq_eq_false_iff_ne]; intro e; exact h (by rw [e])

end Go.Proofs.YteechpappfagpaaDoor.Pure

/- Numbers with a threshold make a semiorder of which they are places, and places may be moved together, for every two strings of bytes. Condition: the listed variables, tied to the program's text by the card. -/
namespace Go.Proofs.YteechpappfagpaaDoor.Pure
open Go.RowKit Go.Proofs.YteechpappfagpaaDoor.Q Go.Proofs.YteechpappfagpaaDoorW.PrintWords Go.Proofs.YteechpappfagpaaDoorW.PrintLast
set_option linter.unusedVariables false
set_option linter.unusedSimpArgs false

theorem threshold_d {c : List Int} (hc : bytesP c) {a : Int} (s : Int) (h0 : 0 ≤ a) (h1 : a ≤ 1000000) : Drw (spec_l1Cur_threshold.f c a s) (fun x => -1 ≤ x ∧ x ≤ 11) a 4 := by
  unfold spec_l1Cur_threshold.f
  obtain ⟨b, a1, s1, e, _, h2, h3⟩ := one_d hc (a := a) s 12 h0 (by omega) (by omega)
  rw [e, Option.bind_some]
  dsimp only
  by_cases hb : b = true
  · rw [if_pos hb]
    obtain ⟨x, a2, s2, e2, hx, h4, h5⟩ := among_d hc (a := a1) s1 [(-1), 0, 10, 11] (by omega) (by omega) (by simp)
    rw [e2, Option.bind_some]
    refine ⟨_, _, _, rfl, ?_, by dsimp only; omega, by dsimp only; omega⟩
    simp at hx; dsimp only; omega
  · rw [if_neg hb]
    obtain ⟨x, a2, s2, e2, hx, h4, h5⟩ := pick_d hc (a := a1) s1 5 (by omega) (by omega) (by omega)
    rw [e2, Option.bind_some]
    refine ⟨_, _, _, rfl, ?_, by dsimp only; omega, by dsimp only; omega⟩
    dsimp only
    rw [wrap64_id (by omega) (by omega)]; omega
theorem drawPl_l1 {c : List Int} (hc : bytesP c) (d : Nat) : ∀ (P : List Int) (a s : Int), 11 - P.length ≤ d → P.length ≤ 20 → 0 ≤ a → a + 2 * d ≤ 10000 → ∃ t Q, Ev (fun k => spec_DrawOrderOfPlaces.l1 k P c a s) (t, Q) ∧ Q.length ≤ 20 := by
  induction d with
  | zero =>
    intro P a s hd hP h0 h1
    obtain ⟨b, a1, s1, e, hb, h2, h3⟩ := pick_d hc (a := a) s 2 h0 (by omega) (by omega)
    obtain ⟨t, a2, s2, e2, _⟩ := threshold_d hc (a := a1) s1 (by omega) (by omega)
    have f : ¬ (P.length : Int) < wrap64 (10 + b) := by rw [wrap64_id (by omega) (by omega)]; omega
    refine ⟨t, P, Ev.shift ?_, hP⟩
    simp only [spec_DrawOrderOfPlaces.l1]
    exact Ev.bindc e (Ev.neg f (Ev.bindc e2 (Ev.ret rfl)))
  | succ d ih =>
    intro P a s hd hP h0 h1
    obtain ⟨b, a1, s1, e, hb, h2, h3⟩ := pick_d hc (a := a) s 2 h0 (by omega) (by omega)
    by_cases f : (P.length : Int) < wrap64 (10 + b)
    · have f' := f
      rw [wrap64_id (by omega) (by omega)] at f'
      obtain ⟨t, Q, he, hQ⟩ := ih (P ++ [3]) a1 s1 (by simp; omega) (by simp; omega) (by omega) (by omega)
      refine ⟨t, Q, Ev.shift ?_, hQ⟩
      simp only [spec_DrawOrderOfPlaces.l1]
      exact Ev.bindc e (Ev.pos f (Ev.pos (by omega) he))
    · obtain ⟨t, a2, s2, e2, _⟩ := threshold_d hc (a := a1) s1 (by omega) (by omega)
      refine ⟨t, P, Ev.shift ?_, hP⟩
      simp only [spec_DrawOrderOfPlaces.l1]
      exact Ev.bindc e (Ev.neg f (Ev.bindc e2 (Ev.ret rfl)))
theorem drawPl_l0 {c : List Int} (hc : bytesP c) (d : Nat) : ∀ (P : List Int) (a s : Int), P.length + d ≤ 7 → 0 ≤ a → a + 4 * d ≤ 1000 → ∃ t Q, Ev (fun k => spec_DrawOrderOfPlaces.l0 k P (d : Int) c a s) (t, Q) ∧ Q.length ≤ 20 := by
  induction d with
  | zero =>
    intro P a s hP h0 h1
    obtain ⟨b, a1, s1, e, hb, h2, h3⟩ := pick_d hc (a := a) s 16 h0 (by omega) (by omega)
    by_cases b0 : b = 0
    · obtain ⟨x, a2, s2, e2, hx, h4, h5⟩ := among_d hc (a := a1) s1 [(-1), 1001, 4611686018427387904] (by omega) (by omega) (by simp)
      obtain ⟨t, a3, s3, e3, _⟩ := threshold_d hc (a := a2) s2 (by omega) (by omega)
      refine ⟨t, P ++ [x], Ev.shift ?_, by simp; omega⟩
      simp only [spec_DrawOrderOfPlaces.l0]
      exact Ev.neg (by omega) (Ev.bindc e (Ev.pos b0 (Ev.bindc e2 (Ev.pos (by omega) (Ev.bindc e3 (Ev.ret rfl))))))
    by_cases b1 : b = 1
    · obtain ⟨t, Q, he, hQ⟩ := drawPl_l1 hc 11 P a1 s1 (by omega) (by omega) (by omega) (by omega)
      refine ⟨t, Q, Ev.shift ?_, hQ⟩
      simp only [spec_DrawOrderOfPlaces.l0]
      exact Ev.neg (by omega) (Ev.bindc e (Ev.neg b0 (Ev.pos b1 he)))
    · obtain ⟨t, a3, s3, e3, _⟩ := threshold_d hc (a := a1) s1 (by omega) (by omega)
      refine ⟨t, P, Ev.shift ?_, by omega⟩
      simp only [spec_DrawOrderOfPlaces.l0]
      exact Ev.neg (by omega) (Ev.bindc e (Ev.neg b0 (Ev.neg b1 (Ev.bindc e3 (Ev.ret rfl)))))
  | succ d ih =>
    intro P a s hP h0 h1
    obtain ⟨m, a1, s1, e, hm, h2, h3⟩ := among_d hc (a := a) s [5, 12, 1001] h0 (by omega) (by simp)
    have hm1 : 1 ≤ m := by simp at hm; omega
    obtain ⟨x, a2, s2, e2, hx, h4, h5⟩ := pick_d hc (a := a1) s1 m (by omega) (by omega) hm1
    obtain ⟨t, Q, he, hQ⟩ := ih (P ++ [x]) a2 s2 (by simp; omega) (by omega) (by omega)
    refine ⟨t, Q, Ev.shift ?_, hQ⟩
    simp only [spec_DrawOrderOfPlaces.l0]
    refine Ev.pos (by omega) (Ev.bindc e (Ev.bindc e2 (Ev.pos (by omega) ?_)))
    have ed : wrap64 ((d + 1 : Nat) - 1 : Int) = (d : Int) := by rw [wrap64_id (by omega) (by omega)]; omega
    rw [ed]; exact he
theorem vNumber_l {m : List Int} (hb : bytesP m) (hm : m.length ≤ 140737488351232) (d : Nat) : ∀ (i : Nat) (x : Int), i + d = m.length → 0 ≤ x → x < 1000003 → ∃ r, Ev (fun k => laws_vNumber.l0 k x m (m.length : Int) (i : Int)) r ∧ 0 ≤ r ∧ r < 1000003 := by
  induction d with
  | zero =>
    intro i x hi h0 h1
    refine ⟨x, Ev.shift ?_, h0, h1⟩
    simp only [laws_vNumber.l0]
    exact Ev.neg (by omega) (Ev.ret rfl)
  | succ d ih =>
    intro i x hi h0 h1
    have f1 : (i : Int) < m.length := by omega
    have hr := hb.rd (i := (i : Int)) (by omega) f1
    obtain ⟨r, he, h2, h3⟩ := ih (i + 1) (Int.tmod (31 * x + rd m (i : Int)) 1000003) (by omega) (Int.tmod_nonneg _ (by omega)) (Int.tmod_lt_of_pos _ (by omega))
    refine ⟨r, Ev.shift ?_, h2, h3⟩
    simp only [laws_vNumber.l0]
    refine Ev.pos f1 (Ev.pos (by omega) (Ev.pos f1 ?_))
    rw [wrap64_id (x := 31 * x) (by omega) (by omega), wrap64_id (x := rd m (i : Int)) (by omega) (by omega), wrap64_id (x := 31 * x + rd m (i : Int)) (by omega) (by omega), wrap64_id (x := (i : Int) + 1) (by omega) (by omega), cast1]
    exact he
theorem moved_l {t : Int} {P : List Int} (h : plcP t P) (add : Int) (h0 : 0 ≤ add) (h1 : add < 50) (d : Nat) : ∀ i : Nat, i + d = P.length → (∀ x ∈ P.take i, x + add ≤ 1000) →
    Ev (fun k => laws_FnOrdersOfPlaces.l0 k t add ((P.take i).map (· + add)) P (P.length : Int) (i : Int) (P.length : Int) (pord t P)) true := by
  have hl := h.2.1
  induction d with
  | zero =>
    intro i hi hx
    rw [List.take_of_length_le (by omega)] at hx ⊢
    have hq : plcP t (P.map (· + add)) := ⟨h.1, by simpa using hl, fun y hy => by
      obtain ⟨x, hxm, rfl⟩ := List.mem_map.1 hy
      have := hx x hxm; have := h.2.2 x hxm; omega⟩
    have ep : pord t (P.map (· + add)) = pord t P := by
      unfold pord
      rw [List.length_map]
      refine rel_congr fun i j hi hj => ?_
      unfold plc
      rw [rd_lt _ i (by simpa using hi), rd_lt _ j (by simpa using hj), rd_lt P i hi, rd_lt P j hj]
      simp only [List.getElem_map]
      rw [decide_eq_decide]; omega
    have hi2 := iOrderOfPlaces_ev hq
    rw [ep, List.length_map] at hi2
    refine Ev.shift ?_
    simp only [laws_FnOrdersOfPlaces.l0]
    exact Ev.neg (by omega) (Ev.bind hi2 (Ev.pos rfl (Ev.bind (vOrder_self _ _ (by rw [pord_length]; omega)) (Ev.ret rfl))))
  | succ d ih =>
    intro i hi hx
    have hr := h.rd (i := i) (by omega)
    have f1 : (i : Int) < P.length := by omega
    refine Ev.shift ?_
    simp only [laws_FnOrdersOfPlaces.l0]
    refine Ev.pos f1 (Ev.pos (by omega) (Ev.pos f1 ?_))
    rw [wrap64_id (x := rd P (i : Int) + add) (by omega) (by omega), wrap64_id (x := (i : Int) + 1) (by omega) (by omega), cast1]
    by_cases hc : rd P (i : Int) + add > 1000
    · exact Ev.pos hc (Ev.ret rfl)
    · refine Ev.neg hc (Ev.pos (by rw [List.length_map, List.length_take]; omega) ?_)
      have et : P.take (i + 1) = P.take i ++ [rd P (i : Int)] := by rw [List.take_succ_eq_append_getElem (by omega), rd_lt P i (by omega)]
      have e := ih (i + 1) (by omega) (fun x hxm => by
        rw [et] at hxm
        rcases List.mem_append.1 hxm with hxm | hxm
        · exact hx x hxm
        · rw [List.mem_singleton] at hxm; subst hxm; omega)
      rw [et, List.map_append] at e
      exact e
theorem FnOrdersOfPlaces (l0 : List Int) (hm0 : l0.length ≤ maxLen) (hw0 : ∀ x ∈ l0, (Lit.int .u8 x).wf = true) (l1 : List Int) (hm1 : l1.length ≤ maxLen) (hw1 : ∀ x ∈ l1, (Lit.int .u8 x).wf = true) : ∃ k, laws_FnOrdersOfPlaces.f k l0 l1 = some true := by
  refine Ev.at1 ?_
  unfold laws_FnOrdersOfPlaces.f
  obtain ⟨b, hb, hbig⟩ := big_fit l0 l1 hm0
  refine Ev.bindc hb ?_
  by_cases hbt : b = true
  · exact Ev.pos hbt (Ev.ret rfl)
  refine Ev.neg hbt ?_
  have hl1 := hbig hbt
  have hbytes := bytesP.of hw0
  obtain ⟨x, a1, s1, e, hx, h2, h3⟩ := pick_d hbytes (a := 0) 0 8 (by omega) (by omega) (by omega)
  obtain ⟨N, rfl⟩ : ∃ N : Nat, x = N := ⟨x.toNat, by omega⟩
  obtain ⟨t, P, he, hP⟩ := drawPl_l0 hbytes N [] a1 s1 (by simp; omega) (by omega) (by omega)
  have hd : Ev (fun k => spec_DrawOrderOfPlaces.f k l0) (t, P) := by
    unfold spec_DrawOrderOfPlaces.f
    exact Ev.bindc e he
  refine Ev.bind hd ?_
  by_cases h : plcP t P
  · have hpl : (pord t P).length ≤ 1048576 := by rw [pord_length]; omega
    refine Ev.bind (iOrderOfPlaces_ev h) (Ev.bind (sOrderOfPlaces_ev h) (Ev.neg (by simp) (Ev.bind (vOrder_self _ (pord t P) hpl) (Ev.shift ?_))))
    simp only [laws_FnOrdersOfPlaces.j0]
    have ho := pord_order h
    have hsemi : Ev (fun k => impl_IsSemiorder.f k (P.length : Int) (pord t P)) (true, true) := by
      unfold impl_IsSemiorder.f
      exact Ev.bind (isOrder_ev _ _ hpl) (Ev.pos (by simpa using ho) (Ev.bind (pord_semi h) (Ev.ret rfl)))
    have hthr : Ev (fun k => impl_isThreshold.f k (P.length : Int) (pord t P) t) true := by
      unfold impl_isThreshold.f
      exact Ev.bind (isOrder_ev _ _ hpl) (Ev.pos (by simpa using ho) (Ev.bindc (impl_in _ _ _) (Ev.ret (by simpa using h.1))))
    have hsame : Ev (fun k => impl_Order_same.f k (P.length : Int) (pord t P) (P.length : Int) (pord t P)) true := by
      unfold impl_Order_same.f
      exact Ev.pos rfl (Ev.bind (sEqual_ev _ _ hpl) (Ev.ret (by simp)))
    have hpls : Ev (fun k => impl_Order_isPlaces.f k (P.length : Int) (pord t P) t P) true := by
      unfold impl_Order_isPlaces.f
      exact Ev.bind (allWithin_ev 0 1000 P (by omega)) (Ev.pos (by simpa using h.2.2) (Ev.bind (placed_ev h) (Ev.bind hsame (Ev.ret rfl))))
    have hisp : Ev (fun k => impl_IsPlaces.f k (P.length : Int) (pord t P) t P) (true, true) := by
      unfold impl_IsPlaces.f
      exact Ev.bind hthr (Ev.pos rfl (Ev.bind hpls (Ev.ret rfl)))
    refine Ev.neg (by simp) (Ev.pos (by simp) (Ev.bind hsemi (Ev.bind hisp (Ev.pos rfl (Ev.pos rfl (Ev.pos rfl (Ev.shift ?_)))))))
    simp only [laws_FnOrdersOfPlaces.j1]
    obtain ⟨r, hr, hr0, hr1⟩ := vNumber_l (bytesP.of hw1) (by omega) l1.length 0 0 (by omega) (by omega) (by omega)
    have hv : Ev (fun k => laws_vNumber.f k l1) r := by
      unfold laws_vNumber.f
      exact hr
    refine Ev.neg (by simp) (Ev.bind hv ?_)
    have hq := moved_l h (Int.tmod r 50) (Int.tmod_nonneg _ hr0) (Int.tmod_lt_of_pos _ (by omega)) P.length 0 (by omega) (fun x hx => by simp at hx)
    simpa using hq
  · refine Ev.bind (iOrderOfPlaces_no (show P.length ≤ 1048576 by omega) h) (Ev.bind (sOrderOfPlaces_no (show P.length ≤ 1048576 by omega) h) (Ev.neg (by simp) (Ev.bind (vOrder_self 0 [] (by simp)) (Ev.shift ?_))))
    simp only [laws_FnOrdersOfPlaces.j0]
    exact Ev.neg (by simp) (Ev.neg (by simp) (Ev.ret rfl))

end Go.Proofs.YteechpappfagpaaDoor.Pure
