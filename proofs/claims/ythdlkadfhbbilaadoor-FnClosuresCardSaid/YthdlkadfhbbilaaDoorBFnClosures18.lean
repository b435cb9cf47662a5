import Derived.Test.YthdlkadfhbbilaaDoorBFnClosures9
import Derived.Test.YthdlkadfhbbilaaDoorBFnClosures17
namespace Go.Proofs.YthdlkadfhbbilaaDoor.Pure
open Go.RowKit Go.Proofs.YthdlkadfhbbilaaDoor.Q Go.Proofs.YthdlkadfhbbilaaDoorW.PrintWords Go.Proofs.YthdlkadfhbbilaaDoorW.PrintLast
set_option linter.unusedVariables false
set_option linter.unusedSimpArgs false
section
variable {n : Int} {L : List Int}
theorem lt_same {M : List Int} (h : relP n L) (hm : relP n M) (hq : ∀ i j, i < L.length → j < L.length → lt L i j = lt M i j) : L = M := by
 have e : L.length = M.length := by have := h.2.1; have := hm.2.1; omega
 rw [← rel_self h (p := lt L) (fun _ _ _ _ => rfl), ← rel_self hm (p := lt L) (fun i j hi hj => hq i j (by omega) (by omega)), e]
theorem clo_fix (h : relP n L) (ht : ∀ a m b, a < L.length → m < L.length → lt L a m = true → lt L m b = true → lt L a b = true) : clo L = L := by
 refine lt_same (clo_relP h) h fun i j hi hj => ?_
 rw [clo_length] at hi
 rw [Bool.eq_iff_iff]
 exact ⟨fun hb => clo_least h ht (fun _ _ _ g => g) hi hb, fun hb => clo_more h hi hb⟩
theorem clo_clo (h : relP n L) : clo (clo L) = clo L := clo_fix (clo_relP h) fun a m b ha _ h1 h2 => clo_trans h (by rwa [clo_length] at ha) h1 h2
theorem clo_order (h : orderP n L) : clo L = L := clo_fix h.1 fun a m b ha hm h1 h2 => h.trans ha h1 h2
theorem clo_orderP (h : relP n L) : orderP n (clo L) ↔ ∀ i, i < L.length → lt (clo L) i i = false := by
 constructor
 ·intro g i hi; exact g.irr (by rwa [clo_length])
 ·intro g
  exact orderP_of (clo_relP h) (fun i hi => g i (by rwa [clo_length] at hi)) (fun i j m hi hj h1 h2 => clo_trans h (by rwa [clo_length] at hi) h1 h2)
def covB (L : List Int) (i j : Nat) : Bool := lt L i j && !(List.range L.length).any (fun m => lt L i m && lt L m j)
def cov (L : List Int) : List Int := rel (covB L) L.length
theorem cov_length (L : List Int) : (cov L).length = L.length := rel_length _ _
theorem covB_iff {i j : Nat} : covB L i j = true ↔ lt L i j = true ∧ ∀ m, m < L.length → lt L i m = true → lt L m j = false := by
 unfold covB
 simp only [Bool.and_eq_true, Bool.not_eq_true', List.any_eq_false, List.mem_range]
 constructor
 ·rintro ⟨h1, h2⟩
  refine ⟨h1, fun m hm h3 => ?_⟩
  have := h2 m hm
  rw [h3] at this; simpa using this
 ·rintro ⟨h1, h2⟩
  refine ⟨h1, fun m hm h3 => ?_⟩
  have := h2 m hm h3.1
  rw [this] at h3; simp at h3
theorem cov_relP (h : relP n L) : relP n (cov L) := rel_relP h.2.1.symm (by have := h.1; have := h.2.1; omega) _
theorem cov_lt (h : relP n L) {i j : Nat} (hi : i < L.length) (hj : j < L.length) : lt (cov L) i j = covB L i j := by
 unfold cov
 rw [rel_lt (by have := h.1; have := h.2.1; omega) hi]; simp [hj]
theorem cov_up (h : orderP n L) : ∀ c i j, i < L.length → j < L.length → lt L i j = true → (List.range L.length).countP (fun m => lt L i m && lt L m j) = c → lt (clo (cov L)) i j = true := by
 intro c
 induction c using Nat.strongRecOn with
 | ind c ih =>
  intro i j hi hj hb hc
  by_cases hx : covB L i j = true
  ·exact clo_more (cov_relP h.1) (by rwa [cov_length]) (by rw [cov_lt h.1 hi hj]; exact hx)
  ·have hm : ∃ m, m < L.length ∧ lt L i m = true ∧ lt L m j = true := by
    refine Classical.byContradiction fun hn => hx (covB_iff.2 ⟨hb, fun m hm h1 => ?_⟩)
    cases hg : lt L m j
    ·rfl
    ·exact (hn ⟨m, hm, h1, hg⟩).elim
   obtain ⟨m, hm, h1, h2⟩ := hm
   have l1 := cnt_lt (n := L.length) (p := fun x => lt L i x && lt L x m) (q := fun x => lt L i x && lt L x j) (fun x hx h3 => by
    simp only [Bool.and_eq_true] at h3 ⊢
    exact ⟨h3.1, h.trans hx h3.2 h2⟩) ⟨m, hm, by simp [h1, h2], by simp [h.irr hm]⟩
   have l2 := cnt_lt (n := L.length) (p := fun x => lt L m x && lt L x j) (q := fun x => lt L i x && lt L x j) (fun x hx h3 => by
    simp only [Bool.and_eq_true] at h3 ⊢
    exact ⟨h.trans hi h1 h3.1, h3.2⟩) ⟨m, hm, by simp [h1, h2], by simp [h.irr hm]⟩
   have g1 := ih _ (by omega) i m hi hm h1 rfl
   have g2 := ih _ (by omega) m j hm hj h2 rfl
   exact clo_trans (cov_relP h.1) (by rwa [cov_length]) g1 g2
theorem clo_cov (h : orderP n L) : clo (cov L) = L := by
 refine lt_same (clo_relP (cov_relP h.1)) h.1 fun i j hi hj => ?_
 rw [clo_length, cov_length] at hi hj
 rw [Bool.eq_iff_iff]
 refine ⟨fun hb => clo_least (cov_relP h.1) (t := lt L) (fun a m b ha hm h1 h2 => ?_) (fun a b ha h1 => ?_) (by rwa [cov_length]) hb, fun hb => cov_up h _ i j hi hj hb rfl⟩
 ·rw [cov_length] at ha; exact h.trans ha h1 h2
 ·rw [cov_length] at ha
  have hb : b < L.length := by have := (cov_relP h.1).lt_len (by rwa [cov_length]) h1; rwa [cov_length] at this
  rw [cov_lt h.1 ha hb] at h1
  exact (covB_iff.1 h1).1
theorem cov_less (h : orderP n L) {M : List Int} (hM : relP n M) {i j : Nat} (hi : i < L.length) (hc : covB L i j = true) (hl : ∀ a b, a < L.length → lt M a b = true → covB L a b = true ∧ ¬ (a = i ∧ b = j)) : lt (clo M) i j = false := by
 cases hb : lt (clo M) i j
 ·rfl
 ·have e : M.length = L.length := by have := h.1.2.1; have := hM.2.1; omega
  have := clo_least hM (t := fun a b => lt L a b && decide (¬ (a = i ∧ b = j))) (fun a m b ha hm h1 h2 => by
   simp only [Bool.and_eq_true, decide_eq_true_eq] at h1 h2 ⊢
   rw [e] at ha hm
   refine ⟨h.trans ha h1.1 h2.1, ?_⟩
   rintro ⟨rfl, rfl⟩
   have := (covB_iff.1 hc).2 m hm h1.1
   rw [h2.1] at this; cases this) (fun a b ha h1 => by
   rw [e] at ha
   have := hl a b ha h1
   simp only [Bool.and_eq_true, decide_eq_true_eq]
   exact ⟨(covB_iff.1 this.1).1, this.2⟩) (by omega) hb
  simp at this
end
theorem mirror_ev {n : Int} {L : List Int} (h : relP n L) : Ev (fun k => impl_Order_mirror.f k n L) (n, rel (fun i j => lt L j i) L.length) := by
 have e1 := h.2.1
 have e3 := h.1
 unfold impl_Order_mirror.f
 have hrel := relation_ev (fun i j => lt L j i) L.length (by omega) (fun _ u0_ u1_ => impl_Order_mirror_1.f u0_ u1_ n L) (fun i j hi hj => Ev.const (by
  unfold impl_Order_mirror_1.f
  rw [better_f n L hj (h.set hj) (by omega), Option.bind_some]; rfl))
 rw [e1] at hrel
 exact Ev.bind hrel (Ev.ret rfl)
theorem bitsOf_len (x : Int) : (bitsOf x).length ≤ 10 := by
 have := List.length_filter_le (bit x) (List.range 10)
 simpa [bitsOf] using this
theorem better_lt {n : Int} {L : List Int} (h : relP n L) {i j : Nat} (hi : i < L.length) (hj : j < L.length) : impl_Order_better.f n L (i : Int) (j : Int) = some (lt L i j) :=
 better_f n L hi ⟨(h.row hi).1, (h.row hi).2.1⟩ (by have := h.1; have := h.2.1; omega)
theorem row_el {n : Int} {L : List Int} (h : relP n L) {i q : Nat} (hi : i < L.length) (hq : q < (bitsOf (rd L (i : Int))).length) : ∃ j : Nat, rd (bitsOf (rd L (i : Int))) (q : Int) = j ∧ j < L.length ∧ lt L i j = true := by
 obtain ⟨j, h1, h2, h3⟩ := h.bits (i := i) hi (j := rd (bitsOf (rd L (i : Int))) (q : Int)) (by rw [rd_lt _ q hq]; exact List.getElem_mem _)
 exact ⟨j, h1, h2, h3⟩
theorem iclose_l1 (N : Nat) (hN : N ≤ 10) (L0 : List Int) (k : Nat) (hk : k < N) (R : Int × List Int) (d : Nat) : ∀ (i : Nat) (L : List Int), relP (N : Int) L → L.length = N → i + d = N → (∀ M, relP (N : Int) M → M.length = N → M = (List.range' i d).foldl (fun M i => wst M k i) L → Ev (fun q => impl_Order_closed.l0 q (N : Int) ((k + 1 : Nat) : Int) (N : Int) L0 (N : Int) M) R) →
  Ev (fun q => impl_Order_closed.l1 q (k : Int) (N : Int) (k : Int) (N : Int) (i : Int) (N : Int) L0 (N : Int) L) R := by
 induction d with
 | zero =>
  intro i L hL hl hi hR
  refine Ev.shift ?_
  simp only [impl_Order_closed.l1]
  refine Ev.neg (by omega) ?_
  rw [wrap64_id (by omega) (by omega), cast1]
  exact hR L hL hl rfl
 | succ d ih =>
  intro i L hL hl hi hR
  refine Ev.shift ?_
  simp only [impl_Order_closed.l1]
  refine Ev.pos (by omega) (Ev.bindc (better_lt hL (by omega) (by omega)) ?_)
  rw [wrap64_id (x := (i : Int) + 1) (by omega) (by omega), cast1]
  have hw := wst_relP hL (k := k) (i := i) (by omega) (by omega)
  have hwl := wst_length L k i
  have hgo := ih (i + 1) (wst L k i) hw (by omega) (by omega) (fun M hM hMl e => hR M hM hMl (by rw [List.range'_succ, List.foldl_cons]; exact e))
  unfold wst at hgo
  by_cases hb : lt L i k = true
  ·rw [if_pos hb] at hgo
   refine Ev.pos hb (Ev.pos (by omega) (Ev.pos (by omega) (Ev.pos (by omega) (Ev.pos (by omega) ?_))))
   rw [Int.toNat_natCast]; exact hgo
  ·rw [if_neg hb] at hgo
   exact Ev.neg hb hgo
theorem iclose_l0 (N : Nat) (hN : N ≤ 10) (L : List Int) (hL : relP (N : Int) L) (hl : L.length = N) (d : Nat) : ∀ k : Nat, k + d = N → Ev (fun q => impl_Order_closed.l0 q (N : Int) (k : Int) (N : Int) L (N : Int) (wsh k L)) ((N : Int), wsh N L) := by
 induction d with
 | zero =>
  intro k hk
  refine Ev.shift ?_
  simp only [impl_Order_closed.l0]
  exact Ev.neg (by omega) (Ev.ret (by rw [show k = N by omega]))
 | succ d ih =>
  intro k hk
  have hw := wsh_relP hL k (by omega)
  have hwl := wsh_length k L
  refine Ev.shift ?_
  simp only [impl_Order_closed.l0]
  refine Ev.pos (by omega) ?_
  refine iclose_l1 N hN L k (by omega) _ N 0 (wsh k L) hw (by omega) (by omega) (fun M hM hMl e => ?_)
  have := ih (k + 1) (by omega)
  rw [wsh, wrow_fold, hwl, hl] at this
  rw [e]; exact this
section
variable {n : Int} {L : List Int}
theorem iClose_ev (h : relP n L) : Ev (fun k => impl_CloseRelation.f k n L) (n, clo L, true) := by
 have h1 := h.1
 have h2 := h.2.1
 have hc : Ev (fun k => impl_Order_closed.f k n L) (n, clo L) := by
  unfold impl_Order_closed.f
  refine Ev.bindc (x := L) (by unfold slices_Clone_int_int.f; rw [if_pos (by omega)]) ?_
  subst h2
  exact iclose_l0 L.length (by omega) L h rfl L.length 0 (by omega)
 unfold impl_CloseRelation.f
 exact Ev.bind (isRelation_ev n L (by omega)) (Ev.pos (by simpa using h) (Ev.bind hc (Ev.ret rfl)))
theorem iClose_no (hl : L.length ≤ 1048576) (h : ¬ relP n L) : Ev (fun k => impl_CloseRelation.f k n L) (0, [], false) := by
 unfold impl_CloseRelation.f
 exact Ev.bind (isRelation_ev n L hl) (Ev.neg (by simpa using h) (Ev.ret rfl))
theorem cov1_ev (h : relP n L) {i j : Nat} (hi : i < L.length) (hj : j < L.length) : Ev (fun k => impl_CoversOf_1.f k (i : Int) (j : Int) n L) (covB L i j) := by
 have h10 : L.length ≤ 10 := by have := h.1; have := h.2.1; omega
 have hm := rel_set (p := fun i j => lt L j i) (n := L.length) h10 hj
 have ha := set_and (h.set hi) hm
 unfold impl_CoversOf_1.f
 refine Ev.pos (by omega) (Ev.pos (by omega) (Ev.bind (mirror_ev h) (Ev.pos (by omega) (Ev.pos (by rw [rel_length]; omega) (Ev.bindc (better_lt h hi hj) ?_)))))
 by_cases hb : lt L i j = true
 ·refine Ev.pos hb (Ev.ret ?_)
  rw [Bool.eq_iff_iff, beq_iff_eq, covB_iff, set_eq_zero ha.1]
  have e : ∀ m, bit (Go.bits .and .i64 (rd L (i : Int)) (rd (rel (fun i j => lt L j i) L.length) (j : Int))) m = (lt L i m && (decide (m < L.length) && lt L m j)) := fun m => by
   rw [ha.2 m, show bit (rd (rel (fun i j => lt L j i) L.length) (j : Int)) m = (decide (m < L.length) && lt L m j) from rel_lt h10 hj m]; rfl
  constructor
  ·intro g
   refine ⟨hb, fun m hm h1 => ?_⟩
   have := g m (by omega)
   rw [e m, h1] at this
   simpa [hm] using this
  ·rintro ⟨_, g⟩ m hm
   rw [e m]
   cases h1 : lt L i m
   ·rfl
   ·have hml := h.lt_len hi h1
    have := g m hml h1
    simp [this]
 ·refine Ev.neg hb (Ev.ret ?_)
  unfold covB; simp [hb]
theorem iCovers_yes (h : orderP n L) (hL : L.length ≤ 1048576) : Ev (fun k => impl_CoversOf.f k n L) (n, cov L, true) := by
 have e1 := h.1.2.1
 have hr := relation_ev (covB L) L.length (by have := h.1.1; omega) (fun k u0_ u1_ => impl_CoversOf_1.f k u0_ u1_ n L) (fun i j hi hj => cov1_ev h.1 hi hj)
 rw [e1] at hr
 unfold impl_CoversOf.f
 exact Ev.bind (isOrder_ev n L hL) (Ev.pos (by simpa using h) (Ev.bind hr (Ev.ret rfl)))
theorem iCovers_no (h : ¬ orderP n L) (hL : L.length ≤ 1048576) : Ev (fun k => impl_CoversOf.f k n L) (0, [], false) := by
 unfold impl_CoversOf.f
 exact Ev.bind (isOrder_ev n L hL) (Ev.neg (by simpa using h) (Ev.ret rfl))
theorem scov_l1 (h : relP n L) {i : Nat} (hi : i < L.length) (x3 : List Int) (hx : x3.length ≤ 1000) (R : Int × List Int × Bool) (hR : ∀ far, setP far → (∀ m, bit far m = true ↔ ∃ j, j < L.length ∧ lt L i j = true ∧ lt L j m = true) → Ev (fun k => spec_CoversOf.l0 k L (L.length : Int) ((i + 1 : Nat) : Int) n L n (x3 ++ [Go.bits .andNot .i64 (rd L (i : Int)) far])) R) (d : Nat) :
  ∀ (q : Nat) (far : Int), q + d = (bitsOf (rd L (i : Int))).length → setP far → (∀ m, bit far m = true ↔ ∃ p, p < q ∧ ∃ j : Nat, rd (bitsOf (rd L (i : Int))) (p : Int) = j ∧ lt L j m = true) → Ev (fun k => spec_CoversOf.l1 k (rd L (i : Int)) far L (L.length : Int) (i : Int) (bitsOf (rd L (i : Int))) ((bitsOf (rd L (i : Int))).length : Int) (q : Int) n L n x3) R := by
 have h10 : L.length ≤ 10 := by have := h.1; have := h.2.1; omega
 have hbl := bitsOf_len (rd L (i : Int))
 induction d with
 | zero =>
  intro q far hq hs hb
  refine Ev.shift ?_
  simp only [spec_CoversOf.l1]
  refine Ev.neg (by omega) (Ev.pos (by omega) ?_)
  rw [wrap64_id (by omega) (by omega), cast1]
  refine hR far hs fun m => ?_
  rw [hb m]
  constructor
  ·rintro ⟨p, hp, j, e, hj⟩
   obtain ⟨j', e', h1, h2⟩ := row_el h hi (q := p) (by omega)
   obtain rfl : j = j' := by omega
   exact ⟨j, h1, h2, hj⟩
  ·rintro ⟨j, h1, h2, hj⟩
   obtain ⟨p, hp, e⟩ := List.mem_iff_getElem.1 (mem_bitsOf.2 ⟨j, by omega, h2, rfl⟩ : (j : Int) ∈ bitsOf (rd L (i : Int)))
   exact ⟨p, by omega, j, by rw [rd_lt _ p hp]; exact e, hj⟩
 | succ d ih =>
  intro q far hq hs hb
  obtain ⟨j, e, h1, h2⟩ := row_el h hi (q := q) (by omega)
  have ho := set_or hs (h.set h1)
  refine Ev.shift ?_
  simp only [spec_CoversOf.l1]
  rw [e, wrap64_id (x := (q : Int) + 1) (by omega) (by omega), cast1]
  refine Ev.pos (by omega) (Ev.pos (by omega) (Ev.pos (by omega) (Ev.pos (by omega) (Ev.pos (by omega) (ih (q + 1) _ (by omega) ho.1 fun m => ?_)))))
  rw [ho.2 m, Bool.or_eq_true, hb m]
  constructor
  ·rintro (⟨p, hp, j2, e2, hj⟩ | g)
   ·exact ⟨p, by omega, j2, e2, hj⟩
   ·exact ⟨q, by omega, j, e, g⟩
  ·rintro ⟨p, hp, j2, e2, hj⟩
   by_cases ep : p = q
   ·subst ep
    obtain rfl : j2 = j := by omega
    exact .inr hj
   ·exact .inl ⟨p, by omega, j2, e2, hj⟩
theorem scov_l0 (h : relP n L) (d : Nat) : ∀ i : Nat, i + d = L.length → Ev (fun k => spec_CoversOf.l0 k L (L.length : Int) (i : Int) n L n ((cov L).take i)) (n, cov L, true) := by
 have h10 : L.length ≤ 10 := by have := h.1; have := h.2.1; omega
 induction d with
 | zero =>
  intro i hi
  refine Ev.shift ?_
  simp only [spec_CoversOf.l0]
  exact Ev.neg (by omega) (Ev.ret (by rw [List.take_of_length_le (by rw [cov_length]; omega)]))
 | succ d ih =>
  intro i hi
  have hi' : i < L.length := by omega
  have := ih (i + 1) (by omega)
  have er : rd (cov L) (i : Int) = rowf (covB L i) L.length := rel_get _ _ i hi'
  rw [List.take_succ_eq_append_getElem (by rw [cov_length]; omega), ← rd_lt _ i (by rw [cov_length]; omega), er] at this
  have hs := h.set hi'
  refine Ev.shift ?_
  simp only [spec_CoversOf.l0]
  refine Ev.pos (by omega) (Ev.pos (by omega) (Ev.pos (by omega) (Ev.bind (orList_ev hs.1 hs.2) ?_)))
  refine scov_l1 h hi' ((cov L).take i) (by simp [cov_length]; omega) _ (fun far hf hb => ?_) (bitsOf (rd L (i : Int))).length 0 0 (by omega) ⟨by omega, by omega⟩ (fun m => ?_)
  ·have ha := set_andNot hs hf
   have hr := rowf_bits (covB L i) L.length h10
   have e : Go.bits .andNot .i64 (rd L (i : Int)) far = rowf (covB L i) L.length := by
    refine set_ext ha.1 hr.1 fun m hm => ?_
    rw [ha.2 m, hr.2 m]
    by_cases hml : m < L.length
    ·simp only [hml, decide_true, Bool.true_and]
     rw [Bool.eq_iff_iff, covB_iff, Bool.and_eq_true, Bool.not_eq_true']
     constructor
     ·rintro ⟨g1, g2⟩
      refine ⟨g1, fun p hp g3 => ?_⟩
      cases g4 : lt L p m
      ·rfl
      ·have := (hb m).2 ⟨p, hp, g3, g4⟩
       rw [g2] at this; cases this
     ·rintro ⟨g1, g2⟩
      refine ⟨g1, ?_⟩
      cases g4 : bit far m
      ·rfl
      ·obtain ⟨p, hp, g5, g6⟩ := (hb m).1 g4
       have := g2 p hp g5
       rw [g6] at this; cases this
    ·have : bit (rd L (i : Int)) m = false := by
      cases g : bit (rd L (i : Int)) m
      ·rfl
      ·exact (hml (h.lt_len hi' g)).elim
     simp [this, hml]
   rw [e]
   exact this
  ·constructor
   ·intro g; unfold bit at g; simp at g
   ·rintro ⟨p, hp, _⟩; omega
theorem sCovers_yes (h : orderP n L) (hL : L.length ≤ 1048576) : Ev (fun k => spec_CoversOf.f k n L) (n, cov L, true) := by
 unfold spec_CoversOf.f
 refine Ev.bind (orGood_ev n L hL) (Ev.pos (by simpa using h) ?_)
 have := scov_l0 h.1 L.length 0 (by omega)
 simpa using this
theorem sCovers_no (h : ¬ orderP n L) (hL : L.length ≤ 1048576) : Ev (fun k => spec_CoversOf.f k n L) (0, [], false) := by
 unfold spec_CoversOf.f
 exact Ev.bind (orGood_ev n L hL) (Ev.neg (by simpa using h) (Ev.ret rfl))
end
-- a set asked by the statements
theorem pIn_all : ∀ x : Fin 1024, ∀ j : Fin 10, laws_pIn.f (x.val : Int) (j.val : Int) = some (bit (x.val : Int) j.val) := by decide +kernel
theorem pIn_f {x : Int} (h0 : 0 ≤ x) (h1 : x < 1024) {j : Nat} (hj : j < 10) : laws_pIn.f x (j : Int) = some (bit x j) := by
 obtain ⟨m, rfl⟩ : ∃ m : Nat, x = m := ⟨x.toNat, by omega⟩
 exact pIn_all ⟨m, by omega⟩ ⟨j, hj⟩
-- the statements' own comparisons
theorem pSame_l (l m : List Int) (hlm : l.length = m.length) (hl : l.length ≤ 1048576) (d : Nat) : ∀ i : Nat, i + d = l.length → Ev (fun k => laws_pSame.l0 k l m (l.length : Int) (i : Int)) (l.drop i == m.drop i) := by
 induction d with
 | zero =>
  intro i hi
  refine Ev.shift ?_
  simp only [laws_pSame.l0]
  refine Ev.neg (by omega) (Ev.ret ?_)
  rw [List.drop_of_length_le (by omega), List.drop_of_length_le (by omega)]; rfl
 | succ d ih =>
  intro i hi
  have e := ih (i + 1) (by omega)
  have f1 : (i : Int) < l.length := by omega
  have f2 : (i : Int) < m.length := by omega
  refine Ev.shift ?_
  simp only [laws_pSame.l0]
  refine Ev.pos f1 (Ev.pos (by omega) (Ev.pos f1 (Ev.pos f2 ?_)))
  rw [wrap64_id (by omega) (by omega), cast1, drop_rd l i (by omega), drop_rd m i (by omega)]
  by_cases hc : rd l (i : Int) = rd m (i : Int)
  ·refine Ev.pos hc (Ev.eq e ?_)
   rw [hc]; simp
  ·refine Ev.neg hc (Ev.ret ?_)
   symm; rw [beq_eq_false_iff_ne]; intro h; exact hc (List.cons.inj h).1
theorem pSame_ev (l m : List Int) (hl : l.length ≤ 1048576) : Ev (fun k => laws_pSame.f k l m) (l == m) := by
 unfold laws_pSame.f
 by_cases h : (l.length : Int) = m.length
 ·refine Ev.pos h ?_
  simpa using pSame_l l m (by omega) hl l.length 0 (by omega)
 ·refine Ev.neg h (Ev.ret ?_)
  symm; rw [beq_eq_false_iff_ne]; intro e; exact h (by rw [e])
theorem pSameOrder_ev (n : Int) (l : List Int) (n' : Int) (m : List Int) (hl : l.length ≤ 1048576) : Ev (fun k => laws_pSameOrder.f k n l n' m) (decide (n = n') && (l == m)) := by
 unfold laws_pSameOrder.f
 by_cases h : n = n'
 ·exact Ev.pos h (Ev.bind (pSame_ev l m hl) (Ev.ret (by simp [h])))
 ·exact Ev.neg h (Ev.ret (by simp [h]))
theorem pSameOrder_self (n : Int) (l : List Int) (hl : l.length ≤ 1048576) : Ev (fun k => laws_pSameOrder.f k n l n l) true := Ev.eq (pSameOrder_ev n l n l hl) (by simp)
end Go.Proofs.YthdlkadfhbbilaaDoor.Pure
