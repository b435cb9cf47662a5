import Derived.Test.YtdmheeenoklijaaDoorBFnMirroredEnds24
import Derived.Test.YtdmheeenoklijaaDoorBFnMirroredEnds30
namespace Go.Proofs.YtdmheeenoklijaaDoor.Pure
open Go.RowKit Go.Proofs.YtdmheeenoklijaaDoor.Q Go.Proofs.YtdmheeenoklijaaDoorW.PrintWords Go.Proofs.YtdmheeenoklijaaDoorW.PrintLast
set_option linter.unusedVariables false
set_option linter.unusedSimpArgs false
theorem mostI_f (a b : Nat) : spec_l1Most.f (a : Int) (b : Int) = some ((max a b : Nat) : Int) := by
 unfold spec_l1Most.f
 split
 ·exact congrArg some (by omega)
 ·exact congrArg some (by omega)
theorem sends_l1 {n : Int} {L : List Int} (h : relP n L) (i : Nat) (hi : i < L.length) (x4 : List S39) (hx : x4.length ≤ 1000) (R : List S39)
  (hR : Ev (fun k => spec_ivEnds.l0 k (lvs L) (x4 ++ [⟨(lvc L i : Int), (rhoU L i L.length : Int)⟩]) (lvs L) (L.length : Int) ((i + 1 : Nat) : Int) n L) R) (d : Nat) :
  ∀ j : Nat, j + d = L.length → Ev (fun k => spec_ivEnds.l1 k (lvs L) x4 (i : Int) (lvs L) (L.length : Int) (i : Int) (lvs L) (L.length : Int) (j : Int) n L (lvc L i : Int) (rhoU L i j : Int)) R := by
 have e1 := h.2.1
 have e3 := h.1
 induction d with
 | zero =>
  intro j hj
  obtain rfl : j = L.length := by omega
  refine Ev.shift ?_
  simp only [spec_ivEnds.l1]
  refine Ev.neg (by omega) (Ev.pos (by omega) ?_)
  rw [wrap64_id (by omega) (by omega), cast1]
  exact hR
 | succ d ih =>
  intro j hj
  have := ih (j + 1) (by omega)
  have si := h.set hi
  rw [rhoU_succ] at this
  refine Ev.shift ?_
  simp only [spec_ivEnds.l1]
  refine Ev.pos (by omega) (Ev.pos (by omega) (Ev.pos (by rw [lvs_length]; omega) (Ev.pos (by omega) (Ev.pos (by omega) (Ev.bindc (orHas_f si.1 si.2 (by omega)) ?_)))))
  rw [wrap64_id (x := (j : Int) + 1) (by omega) (by omega), cast1, lvs_rd L (show j < L.length by omega)]
  by_cases hb : lt L i j = true
  ·rw [if_pos hb] at this; exact Ev.pos hb this
  ·rw [if_neg hb] at this; exact Ev.neg hb (Ev.bindc (mostI_f _ _) this)
theorem sends_l0 {n : Int} {L : List Int} (h : relP n L) (d : Nat) : ∀ i : Nat, i + d = L.length → Ev (fun k => spec_ivEnds.l0 k (lvs L) ((ens L).take i) (lvs L) (L.length : Int) (i : Int) n L) (ens L) := by
 have e1 := h.2.1
 have e3 := h.1
 induction d with
 | zero =>
  intro i hi
  refine Ev.shift ?_
  simp only [spec_ivEnds.l0]
  exact Ev.neg (by omega) (Ev.ret (List.take_of_length_le (by rw [ens_length]; omega)))
 | succ d ih =>
  intro i hi
  have := ih (i + 1) (by omega)
  rw [takeIv (ens L) i (by rw [ens_length]; omega), ens_rd L (show i < L.length by omega)] at this
  refine Ev.shift ?_
  simp only [spec_ivEnds.l0]
  refine Ev.pos (by omega) (Ev.pos (by omega) (Ev.pos (by rw [lvs_length]; omega) ?_))
  rw [lvs_rd L (show i < L.length by omega), lvs_length]
  exact sends_l1 h i (by omega) ((ens L).take i) (by simp [ens_length]; omega) _ this L.length 0 (by omega)
theorem sEnds_ev {n : Int} {L : List Int} (h : relP n L) : Ev (fun k => spec_ivEnds.f k n L) (ens L) := by
 unfold spec_ivEnds.f
 refine Ev.bind (slevels_ev h) ?_
 rw [lvs_length]
 have := sends_l0 h L.length 0 (by omega)
 simpa using this
theorem ivDiff (x y : S39) : ((!((x.f0) == (y.f0)) || (!((x.f1) == (y.f1)))) = true) ↔ x ≠ y := by
 obtain ⟨a, b⟩ := x
 obtain ⟨c, d⟩ := y
 simp only [Bool.or_eq_true, Bool.not_eq_true', beq_eq_false_iff_ne, ne_eq]
 constructor
 ·rintro (h | h) e
  ·injection e with e1 e2; exact h e1
  ·injection e with e1 e2; exact h e2
 ·intro h
  by_cases e1 : a = c
  ·exact .inr fun e2 => h (by rw [e1, e2])
  ·exact .inl e1
theorem pSameIv_l (l m : List S39) (hlm : l.length = m.length) (hl : l.length ≤ 1000) (d : Nat) : ∀ i : Nat, i + d = l.length → ∃ b, Ev (fun k => laws_pSameIntervals.l0 k l m (l.length : Int) (i : Int)) b ∧ (b = true ↔ l.drop i = m.drop i) := by
 induction d with
 | zero =>
  intro i hi
  refine ⟨true, Ev.shift ?_, ?_⟩
  ·simp only [laws_pSameIntervals.l0]; exact Ev.neg (by omega) (Ev.ret rfl)
  ·rw [List.drop_of_length_le (by omega), List.drop_of_length_le (by omega)]; simp
 | succ d ih =>
  intro i hi
  obtain ⟨b, b1, b2⟩ := ih (i + 1) (by omega)
  rw [dropIv l i (by omega), dropIv m i (by omega)]
  by_cases hc : rd_T39 l (i : Int) = rd_T39 m (i : Int)
  ·refine ⟨b, Ev.shift ?_, ?_⟩
   ·simp only [laws_pSameIntervals.l0]
    refine Ev.pos (by omega) (Ev.pos (by omega) (Ev.pos (by omega) (Ev.pos (by omega) (Ev.neg (fun h => (ivDiff _ _).1 h hc) ?_))))
    rw [wrap64_id (by omega) (by omega), cast1]
    exact b1
   ·rw [b2, hc]; simp
  ·refine ⟨false, Ev.shift ?_, ?_⟩
   ·simp only [laws_pSameIntervals.l0]
    exact Ev.pos (by omega) (Ev.pos (by omega) (Ev.pos (by omega) (Ev.pos (by omega) (Ev.pos ((ivDiff _ _).2 hc) (Ev.ret rfl)))))
   ·simp [hc]
theorem pSameIv_ev (l m : List S39) (hl : l.length ≤ 1000) : ∃ b, Ev (fun k => laws_pSameIntervals.f k l m) b ∧ (b = true ↔ l = m) := by
 unfold laws_pSameIntervals.f
 by_cases h : (l.length : Int) = m.length
 ·obtain ⟨b, b1, b2⟩ := pSameIv_l l m (by omega) hl l.length 0 (by omega)
  exact ⟨b, Ev.pos h (by simpa using b1), by simpa using b2⟩
 ·exact ⟨false, Ev.neg h (Ev.ret rfl), ⟨fun g => (by cases g), fun g => (h (by rw [g])).elim⟩⟩
theorem pSameIv_self (l : List S39) (hl : l.length ≤ 1000) : Ev (fun k => laws_pSameIntervals.f k l l) true := by
 obtain ⟨b, b1, b2⟩ := pSameIv_ev l l hl
 rwa [b2.2 rfl] at b1
theorem orderP_of {n : Int} {L : List Int} (h : relP n L) (h1 : ∀ i, i < L.length → lt L i i = false) (h2 : ∀ i j m, i < L.length → j < L.length → lt L i j = true → lt L j m = true → lt L i m = true) : orderP n L :=
 ⟨h, fun m hm => ⟨h1 m hm, fun j hj => by
  obtain ⟨j', rfl, hj', hb⟩ := h.bits hm hj
  exact (andNot_zero (h.set hj') (h.set hm)).2 fun q _ hb2 => h2 m j' q hm hj' hb hb2⟩⟩
theorem rel_relP {n : Int} {N : Nat} (hn : n = N) (h10 : N ≤ 10) (p : Nat → Nat → Bool) : relP n (rel p N) := by
 subst hn
 refine ⟨⟨by omega, by omega⟩, by rw [rel_length], fun x hx => ?_⟩
 obtain ⟨i, hi, rfl⟩ := List.mem_iff_getElem.1 hx
 rw [rel_length] at hi
 rw [← rd_lt _ i (by rw [rel_length]; exact hi)]
 have hs := rel_set (p := p) h10 hi
 refine ⟨hs.1, ?_⟩
 rw [full_pow h10]
 obtain ⟨a, ha, hlt⟩ := hs.nat
 rw [ha]
 have : a < 2 ^ N := by
  refine Nat.lt_pow_two_of_testBit a fun m hm => ?_
  have := rel_lt (p := p) h10 hi m
  unfold lt at this
  rw [ha, bit_nat] at this
  rw [this]; simp; omega
 have h2 : ((2 ^ N : Nat) : Int) = (2 : Int) ^ N := by simp
 omega
def mir (L : List Int) : List Int := rel (fun i j => lt L j i) L.length
theorem mir_length (L : List Int) : (mir L).length = L.length := rel_length _ _
theorem mir_relP {n : Int} {L : List Int} (h : relP n L) : relP n (mir L) := rel_relP h.2.1.symm (by have := h.1; have := h.2.1; omega) _
theorem mir_lt {n : Int} {L : List Int} (h : relP n L) {i j : Nat} (hi : i < L.length) (hj : j < L.length) : lt (mir L) i j = lt L j i := by
 have h1 := h.1; have h2 := h.2.1
 unfold mir; rw [rel_lt (by omega) hi]; simp [hj]
theorem mir_order {n : Int} {L : List Int} (h : orderP n L) : orderP n (mir L) := by
 have hm := mir_relP h.1
 refine orderP_of hm (fun i hi => ?_) (fun i j m hi hj h1 h2 => ?_)
 ·rw [mir_length] at hi; rw [mir_lt h.1 hi hi]; exact h.irr hi
 ·have hml := hm.lt_len hj h2
  rw [mir_length] at hi hj hml
  rw [mir_lt h.1 hi hj] at h1
  rw [mir_lt h.1 hj hml] at h2
  rw [mir_lt h.1 hi hml]
  exact h.trans hml h2 h1
theorem rel_self {n : Int} {L : List Int} (h : relP n L) {p : Nat → Nat → Bool} (hp : ∀ i j, i < L.length → j < L.length → p i j = lt L i j) : rel p L.length = L := by
 have h10 : L.length ≤ 10 := by have := h.1; have := h.2.1; omega
 have hr := rel_relP h.2.1.symm h10 p
 refine rel_ext (rel_length _ _) (fun i hi => hr.set hi) (fun i hi => h.set hi) (fun i j hi hj => ?_)
 rw [rel_length] at hi
 rw [rel_lt h10 hi]
 by_cases hjl : j < L.length
 ·rw [hp i j hi hjl]; simp [hjl]
 ·have e2 : lt L i j = false := by
   cases hb : lt L i j
   ·rfl
   ·have := h.lt_len hi hb; omega
  rw [e2]; simp [hjl]
theorem sEqual_l (l m : List Int) (hlm : l.length = m.length) (hl : l.length ≤ 1048576) (d : Nat) : ∀ i : Nat, i + d = l.length → Ev (fun k => slices_Equal_int_int.l0 k l m (l.length : Int) (i : Int)) (l.drop i == m.drop i) := by
 induction d with
 | zero =>
  intro i hi
  refine Ev.shift ?_
  simp only [slices_Equal_int_int.l0]
  refine Ev.neg (by omega) (Ev.ret ?_)
  rw [List.drop_of_length_le (by omega), List.drop_of_length_le (by omega)]; rfl
 | succ d ih =>
  intro i hi
  have e := ih (i + 1) (by omega)
  have f1 : (i : Int) < l.length := by omega
  have f2 : (i : Int) < m.length := by omega
  refine Ev.shift ?_
  simp only [slices_Equal_int_int.l0]
  refine Ev.pos f1 (Ev.pos (by omega) (Ev.pos f1 (Ev.pos f2 ?_)))
  rw [wrap64_id (by omega) (by omega), cast1, drop_rd l i (by omega), drop_rd m i (by omega)]
  by_cases hc : rd l (i : Int) = rd m (i : Int)
  ·refine Ev.pos hc (Ev.eq e ?_)
   rw [hc]; simp
  ·refine Ev.neg hc (Ev.ret ?_)
   symm; rw [beq_eq_false_iff_ne]; intro h; exact hc (List.cons.inj h).1
theorem sEqual_ev (l m : List Int) (hl : l.length ≤ 1048576) : Ev (fun k => slices_Equal_int_int.f k l m) (l == m) := by
 unfold slices_Equal_int_int.f
 by_cases h : (l.length : Int) = m.length
 ·refine Ev.pos h ?_
  simpa using sEqual_l l m (by omega) hl l.length 0 (by omega)
 ·refine Ev.neg h (Ev.ret ?_)
  symm; rw [beq_eq_false_iff_ne]; intro e; exact h (by rw [e])
theorem ivP.len {n : Int} {L : List Int} (h : ivP n L) : L.length ≤ 10 := by have := h.1.1.1; have := h.1.1.2.1; omega
theorem ivP.lam {n : Int} {L : List Int} (h : ivP n L) : Lam L.length (lt L) (lvc L) := lvc_lam h.1.1 h.2
theorem ivP.mag {n : Int} {L : List Int} (h : ivP n L) : Mag L.length (lvc L) (mag L) := ⟨(mag_facts h.1.1 h.2).1, (mag_facts h.1.1 h.2).2.1⟩
theorem iEndsOf_yes {n : Int} {L : List Int} (h : ivP n L) (hL : L.length ≤ 1048576) : Ev (fun k => impl_EndsOf.f k n L) (ens L, true) := by
 obtain ⟨b, b1, b2⟩ := iIsInt_ev n L hL
 unfold impl_EndsOf.f
 exact Ev.bind b1 (Ev.pos (b2.2 h) (Ev.bind (iEnds_ev h.1.1) (Ev.ret rfl)))
theorem iEndsOf_no {n : Int} {L : List Int} (h : ¬ ivP n L) (hL : L.length ≤ 1048576) : Ev (fun k => impl_EndsOf.f k n L) ([], false) := by
 obtain ⟨b, b1, b2⟩ := iIsInt_ev n L hL
 unfold impl_EndsOf.f
 exact Ev.bind b1 (Ev.neg (fun g => h (b2.1 g)) (Ev.ret rfl))
theorem sEndsOf_yes {n : Int} {L : List Int} (h : ivP n L) (hL : L.length ≤ 1048576) : Ev (fun k => spec_EndsOf.f k n L) (ens L, true) := by
 obtain ⟨b, b1, b2⟩ := sIsInt_ev n L hL
 unfold spec_EndsOf.f
 exact Ev.bind b1 (Ev.pos (b2.2 h) (Ev.bind (sEnds_ev h.1.1) (Ev.ret rfl)))
theorem sEndsOf_no {n : Int} {L : List Int} (h : ¬ ivP n L) (hL : L.length ≤ 1048576) : Ev (fun k => spec_EndsOf.f k n L) ([], false) := by
 obtain ⟨b, b1, b2⟩ := sIsInt_ev n L hL
 unfold spec_EndsOf.f
 exact Ev.bind b1 (Ev.neg (fun g => h (b2.1 g)) (Ev.ret rfl))
theorem iMag_yes {n : Int} {L : List Int} (h : ivP n L) (hL : L.length ≤ 1048576) : Ev (fun k => impl_MagnitudeOf.f k n L) ((mag L : Int), true) := by
 obtain ⟨b, b1, b2⟩ := iIsInt_ev n L hL
 unfold impl_MagnitudeOf.f impl_Order_magnitude.f
 exact Ev.bind b1 (Ev.pos (b2.2 h) (Ev.bind (Ev.bind (olevels_ev h.1.1) (Ev.bindc (different_f (lvs L) (by rw [lvs_length]; omega)) (Ev.ret rfl))) (Ev.ret rfl)))
theorem rho_le10 {n : Int} {L : List Int} (h : ivP n L) {i : Nat} (hi : i < L.length) : rho L.length (lt L) (lvc L) i ≤ 10 := by
 obtain ⟨j, hj, _, e⟩ := rho_at (lam := lvc L) (ord_lt h.1) hi
 have := lvc_le L j; have := h.len
 omega
theorem ens_ivsP {n : Int} {L : List Int} (h : ivP n L) : ivsP (ens L) := by
 refine ⟨fun i hi => ?_, by rw [ens_length]; exact h.len⟩
 rw [ens_length] at hi
 rw [ens_rd L hi]
 have := rho_le10 h hi
 have := rho_own (n := L.length) (r := lt L) (lam := lvc L) i
 dsimp only
 omega
theorem iRep_yes {n : Int} {M : List Int} {l : List S39} (hl : ivsP l) (hM : orderP n M) (e : rel (ivLt l) l.length = M) : Ev (fun k => impl_DoRepresent.f k l n M) (true, true) := by
 have e1 := hM.1.2.1
 have e0 := hM.1.1
 have h10 := hl.2
 have el : M.length = l.length := by rw [← e, rel_length]
 obtain ⟨b, b1, b2⟩ := areIv_ev l (by omega)
 unfold impl_DoRepresent.f
 refine Ev.bind b1 (Ev.pos (b2.2 hl) (Ev.bind (isOrder_ev n M (by omega)) (Ev.shift ?_)))
 simp only [impl_DoRepresent.j0]
 refine Ev.neg (by simp [hM]) (Ev.bind (orderOf_ev l (by omega)) (Ev.bind ?_ (Ev.ret rfl)))
 unfold impl_Order_same.f
 rw [e]
 exact Ev.pos (by dsimp only; omega) (Ev.bind (sEqual_ev M M (by omega)) (Ev.ret (by simp)))
end Go.Proofs.YtdmheeenoklijaaDoor.Pure
/- Ends of the mirrored order are those of the order, seen from the other side, for every two strings of bytes. Condition: the listed variables, tied to the program's text by the card. -/
namespace Go.Proofs.YtdmheeenoklijaaDoor.Pure
open Go.RowKit Go.Proofs.YtdmheeenoklijaaDoor.Q Go.Proofs.YtdmheeenoklijaaDoorW.PrintWords Go.Proofs.YtdmheeenoklijaaDoorW.PrintLast
set_option linter.unusedVariables false
set_option linter.unusedSimpArgs false
theorem Lam.congr {n : Nat} {r r2 : Nat → Nat → Bool} {lam : Nat → Nat} (h : Lam n r lam) (hq : ∀ i j, i < n → j < n → r i j = r2 i j) : Lam n r2 lam := by
 refine ⟨fun i j hi hj => ?_, h.cov⟩
 rw [h.lt i j hi hj]
 constructor
 ·rintro ⟨x, hx, h1, h2⟩
  exact ⟨x, hx, by rw [← hq x j hx hj]; exact h1, by rw [← hq x i hx hi]; exact h2⟩
 ·rintro ⟨x, hx, h1, h2⟩
  exact ⟨x, hx, by rw [hq x j hx hj]; exact h1, by rw [hq x i hx hi]; exact h2⟩
theorem rho_congr {n : Nat} {r r2 : Nat → Nat → Bool} {lam : Nat → Nat} {i : Nat} (hq : ∀ j, j < n → r i j = r2 i j) : rho n r lam i = rho n r2 lam i := by
 unfold rho
 have : ∀ d, d ≤ n → ∀ m : Nat, (List.range d).foldl (fun m j => if r i j = true then m else max m (lam j)) m = (List.range d).foldl (fun m j => if r2 i j = true then m else max m (lam j)) m := by
  intro d
  induction d with
  | zero => intro _ m; rfl
  | succ d ih => intro hd m; rw [List.range_succ, List.foldl_append, List.foldl_append, ih (by omega), List.foldl_cons, List.foldl_nil, List.foldl_cons, List.foldl_nil, hq d (by omega)]
 exact this n (Nat.le_refl _) _
section
variable {n : Int} {L : List Int}
theorem mir_ivP (h : ivP n L) : ivP n (mir L) := by
 refine ⟨mir_order h.1, fun a b c d ha hb hc hd h1 h2 h3 h4 => ?_⟩
 rw [mir_length] at ha hb hc hd
 rw [mir_lt h.1.1 ha hb] at h1; rw [mir_lt h.1.1 hc hd] at h2; rw [mir_lt h.1.1 hc hb] at h3; rw [mir_lt h.1.1 ha hd] at h4
 exact h.2 b a d c hb ha hd hc h1 h2 h4 h3
theorem mir_lam2 (h : ivP n L) : Lam L.length (fun i j => lt L j i) (lvc (mir L)) := by
 have := (mir_ivP h).lam
 rw [mir_length] at this
 exact this.congr fun i j hi hj => mir_lt h.1.1 hi hj
theorem mir_end (h : ivP n L) {i : Nat} (hi : i < L.length) : (lvc (mir L) i : Int) = (mag L : Int) - 1 - rho L.length (lt L) (lvc L) i ∧ (rho (mir L).length (lt (mir L)) (lvc (mir L)) i : Int) = (mag L : Int) - 1 - lvc L i := by
 refine ⟨miv_lam (ord_lt h.1) h.lam h.mag (mir_lam2 h) hi, ?_⟩
 rw [mir_length, rho_congr (r2 := fun i j => lt L j i) (fun j hj => mir_lt h.1.1 hi hj)]
 exact miv_rho (ord_lt h.1) h.lam h.mag (mir_lam2 h) hi
theorem mir_magq (h : ivP n L) : mag (mir L) = mag L := by
 have := (mir_ivP h).mag
 rw [mir_length] at this
 exact miv_mag (ord_lt h.1) h.lam h.mag (mir_lam2 h) this
theorem mag_le (L : List Int) : mag L ≤ L.length := by
 have := dif_length (lvs L)
 rw [lvs_length] at this; exact this
def turn (L : List Int) : List S39 := (List.range L.length).map fun i => ⟨-(rho L.length (lt L) (lvc L) i : Int), -(lvc L i : Int)⟩
theorem turn_length (L : List Int) : (turn L).length = L.length := by simp [turn]
theorem turn_rd (L : List Int) {i : Nat} (hi : i < L.length) : rd_T39 (turn L) (i : Int) = ⟨-(rho L.length (lt L) (lvc L) i : Int), -(lvc L i : Int)⟩ := by
 rw [rdIv_lt _ i (by rw [turn_length]; exact hi)]; simp [turn]
theorem turn_l (h : ivP n L) (d : Nat) : ∀ i : Nat, i + d = L.length → Ev (fun k => impl_MirrorIntervals.l0 k ((turn L).take i) (ens L) (L.length : Int) (i : Int)) (turn L, true) := by
 have h10 := h.len
 induction d with
 | zero =>
  intro i hi
  refine Ev.shift ?_
  simp only [impl_MirrorIntervals.l0]
  exact Ev.neg (by omega) (Ev.ret (by rw [List.take_of_length_le (by rw [turn_length]; omega)]))
 | succ d ih =>
  intro i hi
  have := ih (i + 1) (by omega)
  have hi' : i < L.length := by omega
  have b1 := rho_le10 h hi'
  have b2 := lvc_le L i
  rw [takeIv (turn L) i (by rw [turn_length]; omega), turn_rd L hi'] at this
  refine Ev.shift ?_
  simp only [impl_MirrorIntervals.l0]
  refine Ev.pos (by omega) (Ev.pos (by omega) (Ev.pos (by rw [ens_length]; omega) (Ev.pos (by simp [turn_length]; omega) ?_)))
  rw [ens_rd L hi']
  dsimp only
  rw [wrap64_id (by omega) (by omega), wrap64_id (by omega) (by omega), wrap64_id (by omega) (by omega), cast1]
  exact this
theorem iTurn (h : ivP n L) : Ev (fun k => impl_MirrorIntervals.f k (ens L)) (turn L, true) := by
 have h10 := h.len
 obtain ⟨b, b1, b2⟩ := areIv_ev (ens L) (by rw [ens_length]; omega)
 unfold impl_MirrorIntervals.f
 refine Ev.bind b1 (Ev.pos (b2.2 (ens_ivsP h)) ?_)
 rw [ens_length]
 have := turn_l h L.length 0 (by omega)
 simpa using this
theorem turn_ivsP (h : ivP n L) : ivsP (turn L) := by
 refine ⟨fun i hi => ?_, by rw [turn_length]; exact h.len⟩
 rw [turn_length] at hi
 rw [turn_rd L hi]
 have := rho_le10 h hi
 have := rho_own (n := L.length) (r := lt L) (lam := lvc L) i
 dsimp only
 omega
theorem turn_rel (h : ivP n L) : rel (ivLt (turn L)) (turn L).length = mir L := by
 rw [turn_length, ← mir_length L]
 refine rel_self (mir_relP h.1.1) fun i j hi hj => ?_
 rw [mir_length] at hi hj
 rw [mir_lt h.1.1 hi hj, Bool.eq_iff_iff, rho_lt (ord_lt h.1) h.lam hj hi]
 unfold ivLt
 rw [turn_rd L hi, turn_rd L hj, decide_eq_true_iff]
 dsimp only
 omega
theorem mir_loop (h : ivP n L) (d : Nat) : ∀ i : Nat, i + d = L.length → Ev (fun k => laws_FnMirroredEnds.l0 k (ens L) (ens (mir L)) (mag L : Int) (lvs L) (ens L) (L.length : Int) (i : Int) n (mir L)) true := by
 have h10 := h.len
 have hm := mag_le L
 induction d with
 | zero =>
  intro i hi
  refine Ev.shift ?_
  simp only [laws_FnMirroredEnds.l0]
  exact Ev.neg (by omega) (Ev.bind (iTurn h) (Ev.bind (iRep_yes (turn_ivsP h) (mir_order h.1) (turn_rel h)) (Ev.pos rfl (Ev.pos rfl (Ev.ret rfl)))))
 | succ d ih =>
  intro i hi
  have hi' : i < L.length := by omega
  obtain ⟨g1, g2⟩ := mir_end h hi'
  have b1 := rho_le10 h hi'
  have b2 := lvc_le L i
  have := ih (i + 1) (by omega)
  refine Ev.shift ?_
  simp only [laws_FnMirroredEnds.l0]
  refine Ev.pos (by omega) (Ev.pos (by omega) (Ev.pos (by rw [ens_length]; omega) (Ev.pos (by rw [ens_length, mir_length]; omega) ?_)))
  rw [ens_rd L hi', ens_rd (mir L) (by rw [mir_length]; exact hi'), lvs_rd L hi']
  dsimp only
  rw [wrap64_id (x := (mag L : Int) - 1) (by omega) (by omega), wrap64_id (x := (mag L : Int) - 1 - (rho L.length (lt L) (lvc L) i : Int)) (by omega) (by omega), wrap64_id (x := (mag L : Int) - 1 - (lvc L i : Int)) (by omega) (by omega), wrap64_id (x := (i : Int) + 1) (by omega) (by omega), cast1]
  exact Ev.pos g1 (Ev.pos g2 (Ev.pos (by rw [lvs_length]; omega) (Ev.pos rfl this)))
theorem iLower_yes (h : ivP n L) (hL : L.length ≤ 1048576) : Ev (fun k => impl_LowerLevels.f k n L) (lvs L, true) := by
 obtain ⟨b, b1, b2⟩ := iIsInt_ev n L hL
 unfold impl_LowerLevels.f
 exact Ev.bind b1 (Ev.pos (b2.2 h) (Ev.bind (olevels_ev h.1.1) (Ev.ret rfl)))
end
theorem FnMirroredEnds (l0 : List Int) (hm0 : l0.length ≤ maxLen) (hw0 : ∀ x ∈ l0, (Lit.int .u8 x).wf = true) (l1 : List Int) (hm1 : l1.length ≤ maxLen) (hw1 : ∀ x ∈ l1, (Lit.int .u8 x).wf = true) : ∃ k, laws_FnMirroredEnds.f k l0 l1 = some true := by
 refine Ev.at1 ?_
 unfold laws_FnMirroredEnds.f
 obtain ⟨b, hb⟩ := big_f l0 l1 hm0
 refine Ev.bindc hb ?_
 by_cases hbt : b = true
 ·exact Ev.pos hbt (Ev.ret rfl)
 refine Ev.neg hbt ?_
 obtain ⟨n, L, a, s, e, hL⟩ := ended_d (bytesP.of hw0) 0 7 (a := 0) ⟨by omega, by omega⟩ (by omega) (by omega)
 have hd : Ev (fun k => spec_DrawEndsOf.f k l0) (n, L) := by unfold spec_DrawEndsOf.f; exact Ev.bind e (Ev.ret rfl)
 have hl : L.length ≤ 1048576 := by omega
 by_cases h : ivP n L
 ·have hM := mir_ivP h
  have hlM : (mir L).length ≤ 1048576 := by rw [mir_length]; exact hl
  have mo : Ev (fun k => impl_MirrorOf.f k n L) (n, mir L, true) := by
   unfold impl_MirrorOf.f
   exact Ev.bind (isRelation_ev n L hl) (Ev.pos (by simpa using h.1.1) (Ev.bind (mirror_ev h.1.1) (Ev.ret rfl)))
  have mg := iMag_yes hM hlM
  rw [mir_magq h] at mg
  refine Ev.bind hd (Ev.bind (iEndsOf_yes h hl) (Ev.bind (sEndsOf_yes h hl) (Ev.neg (by simp) (Ev.bind (pSameIv_self (ens L) (by rw [ens_length]; omega)) (Ev.shift ?_)))))
  simp only [laws_FnMirroredEnds.j0]
  refine Ev.neg (by simp) (Ev.pos ⟨⟩ (Ev.bind mo (Ev.bind (iEndsOf_yes hM hlM) (Ev.bind (iMag_yes h hl) (Ev.bind mg (Ev.bind (iLower_yes h hl) (Ev.pos rfl (Ev.pos rfl (Ev.pos rfl (Ev.pos rfl (Ev.pos rfl (Ev.pos rfl (Ev.shift ?_)))))))))))))
  simp only [laws_FnMirroredEnds.j1]
  refine Ev.neg (by simp [ens_length, mir_length]) ?_
  rw [ens_length]
  exact mir_loop h L.length 0 (by omega)
 ·refine Ev.bind hd (Ev.bind (iEndsOf_no h hl) (Ev.bind (sEndsOf_no h hl) (Ev.neg (by simp) (Ev.bind (pSameIv_self [] (by simp)) (Ev.shift ?_)))))
  simp only [laws_FnMirroredEnds.j0]
  exact Ev.neg (by simp) (Ev.neg (by simp) (Ev.ret rfl))
end Go.Proofs.YtdmheeenoklijaaDoor.Pure
