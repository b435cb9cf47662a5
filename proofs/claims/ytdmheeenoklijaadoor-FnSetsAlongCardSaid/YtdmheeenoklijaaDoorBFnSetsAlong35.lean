import Derived.Test.YtdmheeenoklijaaDoorBFnSetsAlong26
import Derived.Test.YtdmheeenoklijaaDoorBFnSetsAlong34
namespace Go.Proofs.YtdmheeenoklijaaDoor.Q
open Go.RowKit Go.Proofs.YtdmheeenoklijaaDoorW.PrintWords Go.Proofs.YtdmheeenoklijaaDoorW.PrintLast Go.Proofs.YtdmheeenoklijaaDoorW.PrintMore
attribute [local go_sem] max2_int min2_int max_two min_two max_three min_three max_four min_four neB_f
set_option linter.unusedVariables false
set_option maxHeartbeats 8000000
set_option maxRecDepth 100000
set_option linter.unusedSimpArgs false
attribute [local go_sem high] eqA39
def laws_pSameIntervals.l0 : Nat → List (S39) → List (S39) → Int → Int → Option (Bool)
 | 0, _, _, _, _ => none
 | k + 1, x0, x1, x12, x13 => if x13 < x12 then (if 0 ≤ x13 then (if x13 < (x0.length : Int) then (if x13 < (x1.length : Int) then (if (!(((rd_T39 x0 x13).f0) == ((rd_T39 x1 x13).f0)) || (!(((rd_T39 x0 x13).f1) == ((rd_T39 x1 x13).f1)))) = true then (some false) else (laws_pSameIntervals.l0 k x0 x1 x12 (wrap64 (x13 + 1)))) else (none)) else (none)) else (none)) else (some true)
def laws_pSameIntervals.f (k : Nat) (l0 : List (S39)) (l1 : List (S39)) : Option (Bool) := if (l0.length : Int) = (l1.length : Int) then (laws_pSameIntervals.l0 k l0 l1 (l0.length : Int) 0) else (some false)
theorem laws_pSameIntervals.mono_l : ∀ k, (∀ y0 y1 y2 y3, LeO (laws_pSameIntervals.l0 k y0 y1 y2 y3) (laws_pSameIntervals.l0 (k + 1) y0 y1 y2 y3))
 | 0 => fun _ _ _ _ r h => by simp [laws_pSameIntervals.l0] at h
 | k + 1 => by
  have ih0 := laws_pSameIntervals.mono_l k
  ·intro y0 y1 y2 y3
   unfold laws_pSameIntervals.l0
   repeat' (with_reducible first|apply ih0|apply LeO.refl|apply LeO.none|apply LeO.ite|apply LeO.bind|intro)
theorem laws_pSameIntervals.mono : ∀ a0 a1 k, LeO (laws_pSameIntervals.f k a0 a1) (laws_pSameIntervals.f (k + 1) a0 a1) := by
 intro a0 a1 k
 have ih0 := laws_pSameIntervals.mono_l k
 unfold laws_pSameIntervals.f
 repeat' (with_reducible first|apply ih0|apply LeO.refl|apply LeO.none|apply LeO.ite|apply LeO.bind|intro)
theorem laws_pSameIntervals.calls (k : Nat) (A0 : Option Addr) (c0 : Nat) (l0 : List (S39)) (A1 : Option Addr) (c1 : Nat) (l1 : List (S39)) (r : Bool) (w : World) (hr0 : Kd.C k39 w A0 l0.length l0) (hc0 : l0.length ≤ c0) (hr1 : Kd.C k39 w A1 l1.length l1) (hc1 : l1.length ≤ c1) (h : laws_pSameIntervals.f k l0 l1 = some r) :
  Calls Tryd.prog 10 #[.slice A0 l0.length c0, .slice A1 l1.length c1] w fun e w' => e = .returned (.bool r) ∧ Drawn0 w w' := by
 have hu39 := Tryd.underlying39
 have HR0 := mkA hr0
 have HC0 := mkA hc0
 clear hr0 hc0
 have HR1 := mkA hr1
 have HC1 := mkA hc1
 clear hr1 hc1
 have H := h
 clear h
 unfold laws_pSameIntervals.f at H
 rcases iteP H with ⟨c3, H⟩ | ⟨c3, H⟩
 ·have c3b0 := beq_iff_eq.mpr c3
  have c3b1 := bne_eq_false_iff_eq.mpr c3
  have c3b2 : (l0.length == l1.length) = true := by first | simpa using c3 | (simp at c3 ⊢; omega)
  clear c3
  have H' := mkA H
  clear H
  go_enter Tryd.func10, Tryd.ntmps10
  go_wp2
  repeat (go_quiet (fail); try go_wp2)
  go_loopg [13] k (fun kq v13 w' => ∃ (x13_1 : Int), v13 = .int .i64 x13_1 ∧ Fc (laws_pSameIntervals.l0 kq l0 l1 (l0.length : Int) x13_1 = some r) ∧ Fc (kq ≤ k) ∧ Drawn0 w w')
  case atStart => exact ⟨(0), eqS, H', ⟨Nat.le_refl _⟩, by repeat (first | exact Drawn0.refl _ | apply Drawn0.step)⟩
  case round =>
   clear H'
   try clear c1
   try clear c3
   try clear c3b0
   try clear c3b1
   try clear c3b2
   obtain ⟨x13_1, rfl, HA, HK1, ⟨m1, rfl⟩⟩ := hrel
   cases gk with
   | zero => exact absurd HA.out (by simp [laws_pSameIntervals.l0])
   | succ k1 =>
    have H := HA.out
    clear HA
    simp only [laws_pSameIntervals.l0] at H
    rcases iteE H with ⟨c4b0, H⟩ | ⟨c4b0, H⟩
    ·obtain ⟨c5b0, H⟩ := itND H
     obtain ⟨c6b0, H⟩ := itND H
     obtain ⟨c7b0, H⟩ := itND H
     rcases iteP H with ⟨c8, H⟩ | ⟨c8, H⟩
     ·have c8b0 : (!(((rd_T39 l0 x13_1).f0) == ((rd_T39 l1 x13_1).f0)) || (!(((rd_T39 l0 x13_1).f1) == ((rd_T39 l1 x13_1).f1)))) = true := c8
      clear c8
      obtain rfl := Option.some.inj H
      have p645 : 0 ≤ (x13_1 : Int) := ofd
      have q645 : x13_1 < (l0.length : Int) := ofd
      obtain ⟨ad645, e645, hx645_0, hx645_1⟩ := at_T39 HR0.out x13_1 p645 q645
      cases e645
      replace p645 := eq_true p645
      replace q645 := eq_true q645
      have p646 : 0 ≤ (x13_1 : Int) := ofd
      have q646 : x13_1 < (l1.length : Int) := ofd
      obtain ⟨ad646, e646, hx646_0, hx646_1⟩ := at_T39 HR1.out x13_1 p646 q646
      cases e646
      replace p646 := eq_true p646
      replace q646 := eq_true q646
      go_wp2
      repeat (go_quiet (fail); try go_wp2)
      go_ret
      exact ⟨eqS, drE⟩
     ·have c8b0 : (!(((rd_T39 l0 x13_1).f0) == ((rd_T39 l1 x13_1).f0)) || (!(((rd_T39 l0 x13_1).f1) == ((rd_T39 l1 x13_1).f1)))) = false := by simpa using c8
      clear c8
      have H' := mkA H
      clear H
      have p645 : 0 ≤ (x13_1 : Int) := ofd
      have q645 : x13_1 < (l0.length : Int) := ofd
      obtain ⟨ad645, e645, hx645_0, hx645_1⟩ := at_T39 HR0.out x13_1 p645 q645
      cases e645
      replace p645 := eq_true p645
      replace q645 := eq_true q645
      have p646 : 0 ≤ (x13_1 : Int) := ofd
      have q646 : x13_1 < (l1.length : Int) := ofd
      obtain ⟨ad646, e646, hx646_0, hx646_1⟩ := at_T39 HR1.out x13_1 p646 q646
      cases e646
      replace p646 := eq_true p646
      replace q646 := eq_true q646
      go_wp2
      repeat (go_quiet (fail); try go_wp2)
      go_roundg k1
      case measure => have := HK1.out; omega
      case rel => exact ⟨(wrap64 (x13_1 + 1)), eqS, H', ⟨by have := HK1.out; omega⟩, by repeat (first | exact Drawn0.refl _ | apply Drawn0.step)⟩
    ·obtain rfl := Option.some.inj H
     go_wp2
     repeat (go_quiet (fail); try go_wp2)
     go_ret
     exact ⟨eqS, drE⟩
 ·have c3b0 := beq_eq_false_iff_ne.mpr c3
  have c3b1 := bne_iff_ne.mpr c3
  have c3b2 : (l0.length == l1.length) = false := by first | simpa using c3 | (simp at c3 ⊢; omega)
  obtain rfl := Option.some.inj H
  go_enter Tryd.func10, Tryd.ntmps10
  go_wp2
  repeat (go_quiet (fail); try go_wp2)
  go_ret
  exact ⟨eqS, drE⟩
end Go.Proofs.YtdmheeenoklijaaDoor.Q
namespace Go.Proofs.YtdmheeenoklijaaDoor.Pure
open Go.RowKit Go.Proofs.YtdmheeenoklijaaDoor.Q Go.Proofs.YtdmheeenoklijaaDoorW.PrintWords Go.Proofs.YtdmheeenoklijaaDoorW.PrintLast
set_option linter.unusedVariables false
set_option linter.unusedSimpArgs false
end Go.Proofs.YtdmheeenoklijaaDoor.Pure
namespace Go.Proofs.YtdmheeenoklijaaDoor.Pure
open Go.RowKit Go.Proofs.YtdmheeenoklijaaDoor.Q Go.Proofs.YtdmheeenoklijaaDoorW.PrintWords Go.Proofs.YtdmheeenoklijaaDoorW.PrintLast
set_option linter.unusedVariables false
set_option linter.unusedSimpArgs false
def mir (L : List Int) : List Int := rel (fun i j => lt L j i) L.length
end Go.Proofs.YtdmheeenoklijaaDoor.Pure
namespace Go.Proofs.YtdmheeenoklijaaDoor.Pure
open Go.RowKit Go.Proofs.YtdmheeenoklijaaDoor.Q Go.Proofs.YtdmheeenoklijaaDoorW.PrintWords Go.Proofs.YtdmheeenoklijaaDoorW.PrintLast
set_option linter.unusedVariables false
set_option linter.unusedSimpArgs false
end Go.Proofs.YtdmheeenoklijaaDoor.Pure
namespace Go.Proofs.YtdmheeenoklijaaDoor.Pure
open Go.RowKit Go.Proofs.YtdmheeenoklijaaDoor.Q Go.Proofs.YtdmheeenoklijaaDoorW.PrintWords Go.Proofs.YtdmheeenoklijaaDoorW.PrintLast
set_option linter.unusedVariables false
set_option linter.unusedSimpArgs false
end Go.Proofs.YtdmheeenoklijaaDoor.Pure
namespace Go.Proofs.YtdmheeenoklijaaDoor.Pure
open Go.RowKit Go.Proofs.YtdmheeenoklijaaDoor.Q Go.Proofs.YtdmheeenoklijaaDoorW.PrintWords Go.Proofs.YtdmheeenoklijaaDoorW.PrintLast
set_option linter.unusedVariables false
set_option linter.unusedSimpArgs false
theorem ivP.len {n : Int} {L : List Int} (h : ivP n L) : L.length ≤ 10 := by have := h.1.1.1; have := h.1.1.2.1; omega
theorem ivP.lam {n : Int} {L : List Int} (h : ivP n L) : Lam L.length (lt L) (lvc L) := lvc_lam h.1.1 h.2
theorem ivP.mag {n : Int} {L : List Int} (h : ivP n L) : Mag L.length (lvc L) (mag L) := ⟨(mag_facts h.1.1 h.2).1, (mag_facts h.1.1 h.2).2.1⟩
theorem iEndsOf_yes {n : Int} {L : List Int} (h : ivP n L) (hL : L.length ≤ 1048576) : Ev (fun k => impl_EndsOf.f k n L) (ens L, true) := by
 obtain ⟨b, b1, b2⟩ := iIsInt_ev n L hL
 unfold impl_EndsOf.f
 exact Ev.bind b1 (Ev.pos (b2.2 h) (Ev.bind (iEnds_ev h.1.1) (Ev.ret rfl)))
theorem iMag_yes {n : Int} {L : List Int} (h : ivP n L) (hL : L.length ≤ 1048576) : Ev (fun k => impl_MagnitudeOf.f k n L) ((mag L : Int), true) := by
 obtain ⟨b, b1, b2⟩ := iIsInt_ev n L hL
 unfold impl_MagnitudeOf.f impl_Order_magnitude.f
 exact Ev.bind b1 (Ev.pos (b2.2 h) (Ev.bind (Ev.bind (olevels_ev h.1.1) (Ev.bindc (different_f (lvs L) (by rw [lvs_length]; omega)) (Ev.ret rfl))) (Ev.ret rfl)))
def inT (L : List Int) (t i : Nat) : Bool := decide (lvc L i ≤ t ∧ t ≤ rho L.length (lt L) (lvc L) i)
def sal (L : List Int) : List Int := (List.range (mag L)).map fun t => rowf (inT L t) L.length
theorem sal_length (L : List Int) : (sal L).length = mag L := by simp [sal]
theorem sal_rd (L : List Int) {t : Nat} (ht : t < mag L) : rd (sal L) (t : Int) = rowf (inT L t) L.length := by
 rw [rd_lt _ t (by rw [sal_length]; exact ht)]; simp [sal]
theorem magL (L : List Int) : mag L ≤ L.length := by
 have := dif_length (lvs L)
 rw [lvs_length] at this; exact this
section
variable {n : Int} {L : List Int}
theorem along_l1 (h : ivP n L) (t : Nat) (ht : t < mag L) (x3 : List Int) (hx : x3.length ≤ 1000) (R : List Int) (hR : Ev (fun k => impl_Order_setsAlong.l0 k (x3 ++ [rowf (inT L t) L.length]) (ens L) (mag L : Int) ((t + 1 : Nat) : Int)) R) (d : Nat) :
  ∀ i : Nat, i + d = L.length → Ev (fun k => impl_Order_setsAlong.l1 k x3 (ens L) (t : Int) (rowf (inT L t) i) (mag L : Int) (t : Int) (ens L) (L.length : Int) (i : Int)) R := by
 have h10 := h.len
 have hm := magL L
 induction d with
 | zero =>
  intro i hi
  obtain rfl : i = L.length := by omega
  refine Ev.shift ?_
  simp only [impl_Order_setsAlong.l1]
  refine Ev.neg (by omega) (Ev.pos (by omega) ?_)
  rw [wrap64_id (by omega) (by omega), cast1]
  exact hR
 | succ d ih =>
  intro i hi
  have hi' : i < L.length := by omega
  have := ih (i + 1) (by omega)
  rw [rowf_succ] at this
  refine Ev.shift ?_
  simp only [impl_Order_setsAlong.l1]
  rw [ens_rd L hi', wrap64_id (by omega) (by omega), cast1]
  refine Ev.pos (by omega) (Ev.pos (by omega) (Ev.pos (by rw [ens_length]; omega) (Ev.bindc (impl_in _ _ _) ?_)))
  dsimp only
  by_cases hc : inT L t i = true
  ·rw [if_pos hc] at this
   unfold inT at hc; rw [decide_eq_true_iff] at hc
   exact Ev.pos (by rw [decide_eq_true_iff]; omega) this
  ·rw [if_neg hc] at this
   unfold inT at hc; rw [decide_eq_true_iff] at hc
   exact Ev.neg (by rw [decide_eq_true_iff]; omega) this
theorem along_l0 (h : ivP n L) (d : Nat) : ∀ t : Nat, t + d = mag L → Ev (fun k => impl_Order_setsAlong.l0 k ((sal L).take t) (ens L) (mag L : Int) (t : Int)) (sal L) := by
 have h10 := h.len
 have hm := magL L
 induction d with
 | zero =>
  intro t ht
  refine Ev.shift ?_
  simp only [impl_Order_setsAlong.l0]
  exact Ev.neg (by omega) (Ev.ret (List.take_of_length_le (by rw [sal_length]; omega)))
 | succ d ih =>
  intro t ht
  have := ih (t + 1) (by omega)
  rw [List.take_succ_eq_append_getElem (by rw [sal_length]; omega), ← rd_lt _ t (by rw [sal_length]; omega), sal_rd L (by omega)] at this
  refine Ev.shift ?_
  simp only [impl_Order_setsAlong.l0]
  refine Ev.pos (by omega) ?_
  rw [ens_length]
  exact along_l1 h t (by omega) ((sal L).take t) (by simp [sal_length]; omega) _ this L.length 0 (by omega)
theorem iAlong_yes (h : ivP n L) (hL : L.length ≤ 1048576) : Ev (fun k => impl_SetsAlong.f k n L) (sal L, true) := by
 obtain ⟨b, b1, b2⟩ := iIsInt_ev n L hL
 have mg : Ev (fun k => impl_Order_magnitude.f k n L) (mag L : Int) := by
  unfold impl_Order_magnitude.f
  exact Ev.bind (olevels_ev h.1.1) (Ev.bindc (different_f (lvs L) (by rw [lvs_length]; omega)) (Ev.ret rfl))
 unfold impl_SetsAlong.f impl_Order_setsAlong.f
 refine Ev.bind b1 (Ev.pos (b2.2 h) (Ev.bind (Ev.bind (iEnds_ev h.1.1) (Ev.bind mg ?_)) (Ev.ret rfl)))
 have := along_l0 h (mag L) 0 (by omega)
 simpa using this
theorem iAlong_no (h : ¬ ivP n L) (hL : L.length ≤ 1048576) : Ev (fun k => impl_SetsAlong.f k n L) ([], false) := by
 obtain ⟨b, b1, b2⟩ := iIsInt_ev n L hL
 unfold impl_SetsAlong.f
 exact Ev.bind b1 (Ev.neg (fun g => h (b2.1 g)) (Ev.ret rfl))
theorem sAlong_no (h : ¬ ivP n L) (hL : L.length ≤ 1048576) : Ev (fun k => spec_SetsAlong.f k n L) ([], false) := by
 obtain ⟨b, b1, b2⟩ := sIsInt_ev n L hL
 unfold spec_SetsAlong.f
 exact Ev.bind b1 (Ev.neg (fun g => h (b2.1 g)) (Ev.ret rfl))
theorem mostZ_f (a b : Int) : spec_l1Most.f a b = some (max a b) := by
 unfold spec_l1Most.f
 split
 ·exact congrArg some (by omega)
 ·exact congrArg some (by omega)
theorem most_l (l : List Int) (hl : l.length ≤ 1000) (d : Nat) : ∀ (i : Nat) (m : Int), i + d = l.length → ∃ r, Ev (fun k => spec_ivMost.l0 k m l (l.length : Int) (i : Int)) r ∧ m ≤ r ∧ (∀ q : Nat, i ≤ q → q < l.length → rd l (q : Int) ≤ r) ∧ (r = m ∨ ∃ q : Nat, q < l.length ∧ r = rd l (q : Int)) := by
 induction d with
 | zero =>
  intro i m hi
  refine ⟨m, Ev.shift ?_, Int.le_refl _, fun q h1 h2 => by omega, .inl rfl⟩
  simp only [spec_ivMost.l0]
  exact Ev.neg (by omega) (Ev.ret rfl)
 | succ d ih =>
  intro i m hi
  obtain ⟨r, r1, r2, r3, r4⟩ := ih (i + 1) (max m (rd l (i : Int))) (by omega)
  refine ⟨r, Ev.shift ?_, by omega, fun q h1 h2 => ?_, ?_⟩
  ·simp only [spec_ivMost.l0]
   refine Ev.pos (by omega) (Ev.pos (by omega) (Ev.pos (by omega) (Ev.bindc (mostZ_f _ _) ?_)))
   rw [wrap64_id (by omega) (by omega), cast1]
   exact r1
  ·by_cases e : q = i
   ·subst e; omega
   ·exact r3 q (by omega) h2
  ·rcases r4 with r4 | r4
   ·by_cases hc : rd l (i : Int) ≤ m
    ·exact .inl (by omega)
    ·exact .inr ⟨i, by omega, by omega⟩
   ·exact .inr r4
theorem most_mag (h : ivP n L) : Ev (fun k => spec_ivMost.f k (lvs L)) ((mag L : Int) - 1) := by
 have h10 := h.len
 have el := lvs_length L
 obtain ⟨r, r1, r2, r3, r4⟩ := most_l (lvs L) (by omega) (lvs L).length 0 (-1) (by omega)
 have e : r = (mag L : Int) - 1 := by
  have hK := h.mag
  have up : r ≤ (mag L : Int) - 1 := by
   rcases r4 with r4 | ⟨q, hq, r4⟩
   ·omega
   ·rw [lvs_rd L (by omega)] at r4
    have := hK.lt q (by omega); omega
  by_cases h0 : mag L = 0
  ·omega
  ·obtain ⟨i, hi, ei⟩ := hK.cov (mag L - 1) (by omega)
   have := r3 i (Nat.zero_le _) (by omega)
   rw [lvs_rd L hi] at this
   omega
 unfold spec_ivMost.f
 rw [← e]
 exact r1
theorem salong_l1 (h : ivP n L) (t : Nat) (ht : t < mag L) (x4 : List Int) (hx : x4.length ≤ 1000) (R : List Int × Bool) (hR : Ev (fun k => spec_SetsAlong.l0 k (x4 ++ [rowf (inT L t) L.length]) ((t + 1 : Nat) : Int) n L) R) (d : Nat) :
  ∀ i : Nat, i + d = L.length → Ev (fun k => spec_SetsAlong.l1 k x4 (t : Int) (rowf (inT L t) i) (ens L) (L.length : Int) (i : Int) n L) R := by
 have h10 := h.len
 have hm := magL L
 induction d with
 | zero =>
  intro i hi
  obtain rfl : i = L.length := by omega
  refine Ev.shift ?_
  simp only [spec_SetsAlong.l1]
  refine Ev.neg (by omega) (Ev.pos (by omega) ?_)
  rw [wrap64_id (by omega) (by omega), cast1]
  exact hR
 | succ d ih =>
  intro i hi
  have hi' : i < L.length := by omega
  have := ih (i + 1) (by omega)
  rw [rowf_succ] at this
  refine Ev.shift ?_
  simp only [spec_SetsAlong.l1]
  rw [ens_rd L hi', wrap64_id (by omega) (by omega), cast1]
  refine Ev.pos (by omega) (Ev.pos (by omega) (Ev.pos (by rw [ens_length]; omega) (Ev.bindc (spec_in _ _ _) ?_)))
  dsimp only
  by_cases hc : inT L t i = true
  ·rw [if_pos hc] at this
   unfold inT at hc; rw [decide_eq_true_iff] at hc
   exact Ev.pos (by rw [decide_eq_true_iff]; omega) this
  ·rw [if_neg hc] at this
   unfold inT at hc; rw [decide_eq_true_iff] at hc
   exact Ev.neg (by rw [decide_eq_true_iff]; omega) this
theorem salong_l0 (h : ivP n L) (d : Nat) : ∀ t : Nat, t + d = mag L → Ev (fun k => spec_SetsAlong.l0 k ((sal L).take t) (t : Int) n L) (sal L, true) := by
 have h10 := h.len
 have hm := magL L
 induction d with
 | zero =>
  intro t ht
  refine Ev.shift ?_
  simp only [spec_SetsAlong.l0]
  exact Ev.bind (slevels_ev h.1.1) (Ev.bind (most_mag h) (Ev.neg (by omega) (Ev.ret (by rw [List.take_of_length_le (by rw [sal_length]; omega)]))))
 | succ d ih =>
  intro t ht
  have := ih (t + 1) (by omega)
  rw [List.take_succ_eq_append_getElem (by rw [sal_length]; omega), ← rd_lt _ t (by rw [sal_length]; omega), sal_rd L (by omega)] at this
  refine Ev.shift ?_
  simp only [spec_SetsAlong.l0]
  refine Ev.bind (slevels_ev h.1.1) (Ev.bind (most_mag h) (Ev.pos (by omega) (Ev.bind (sEnds_ev h.1.1) ?_)))
  rw [ens_length]
  exact salong_l1 h t (by omega) ((sal L).take t) (by simp [sal_length]; omega) _ this L.length 0 (by omega)
theorem sAlong_yes (h : ivP n L) (hL : L.length ≤ 1048576) : Ev (fun k => spec_SetsAlong.f k n L) (sal L, true) := by
 obtain ⟨b, b1, b2⟩ := sIsInt_ev n L hL
 unfold spec_SetsAlong.f
 refine Ev.bind b1 (Ev.pos (b2.2 h) ?_)
 have := salong_l0 h (mag L) 0 (by omega)
 simpa using this
end
theorem has1_ev {n : Int} {L : List Int} {i : Nat} (hn : n ≤ 10) (hi : (i : Int) < n) : Ev (fun k => impl_Order_has.f k n L [(i : Int)]) true := by
 unfold impl_Order_has.f
 rw [wrap64_id (by omega) (by omega)]
 exact Ev.bind (allWithin_ev 0 (n - 1) [(i : Int)] (by simp)) (Ev.ret (by simp; omega))
theorem IndifferentTo_ev {n : Int} {L : List Int} (h : relP n L) {i : Nat} (hi : i < L.length) : Ev (fun k => impl_IndifferentTo.f k n L (i : Int)) (rd (rel (freeP L) L.length) (i : Int), true) := by
 have h1 := h.1; have h2 := h.2.1
 unfold impl_IndifferentTo.f
 refine Ev.bind (isRelation_ev n L (by omega)) (Ev.pos (by simpa using h) (Ev.bind (has1_ev (by omega) (by omega)) (Ev.pos rfl (Ev.bind (near_ev h) ?_))))
 exact Ev.pos (by omega) (Ev.pos (by rw [rel_length]; omega) (Ev.ret rfl))
end Go.Proofs.YtdmheeenoklijaaDoor.Pure
