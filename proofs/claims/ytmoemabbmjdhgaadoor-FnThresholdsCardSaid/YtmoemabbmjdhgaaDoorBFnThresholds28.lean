import Derived.Test.YtmoemabbmjdhgaaDoorBFnThresholds21
import Derived.Test.YtmoemabbmjdhgaaDoorBFnThresholds27
namespace Go.Proofs.YtmoemabbmjdhgaaDoor.Pure
open Go.RowKit Go.Proofs.YtmoemabbmjdhgaaDoor.Q Go.Proofs.YtmoemabbmjdhgaaDoorW.PrintWords Go.Proofs.YtmoemabbmjdhgaaDoorW.PrintLast
set_option linter.unusedVariables false
set_option linter.unusedSimpArgs false
def and3 (L : List Int) (a b c : Nat) : Int := Go.bits .and .i64 (Go.bits .and .i64 (rd (rel (freeP L) L.length) (a : Int)) (rd (rel (freeP L) L.length) (b : Int))) (rd (rel (freeP L) L.length) (c : Int))
theorem and3_set {n : Int} {L : List Int} (h : relP n L) {a b c : Nat} (ha : a < L.length) (hb : b < L.length) (hc : c < L.length) : setP (and3 L a b c) ∧ ∀ d, bit (and3 L a b c) d = (decide (d < L.length) && freeP L a d && freeP L b d && freeP L c d) := by
 have h10 : L.length ≤ 10 := by have := h.1; have := h.2.1; omega
 have fa := rel_set (p := freeP L) h10 ha
 have fb := rel_set (p := freeP L) h10 hb
 have fc := rel_set (p := freeP L) h10 hc
 have la := rel_lt (p := freeP L) h10 ha
 have lb := rel_lt (p := freeP L) h10 hb
 have lc := rel_lt (p := freeP L) h10 hc
 unfold lt at la lb lc
 have o1 := set_and fa fb
 have o2 := set_and o1.1 fc
 refine ⟨o2.1, fun d => ?_⟩
 unfold and3
 rw [o2.2, o1.2, la, lb, lc]
 by_cases hd : d < L.length <;> simp [hd]
def look31 (L : List Int) : Prop := ∀ a, a < L.length → ∀ q, q < (bitsOf (rd L (a : Int))).length → ∀ b : Nat, rd (bitsOf (rd L (a : Int))) (q : Int) = b → ∀ p, p < (bitsOf (rd L (b : Int))).length → ∀ c : Nat, rd (bitsOf (rd L (b : Int))) (p : Int) = c → and3 L a b c = 0
theorem threeOne_ev {n : Int} {L : List Int} (h : relP n L) : ∃ x, Ev (fun k => impl_Order_threeOne.f k n L) x ∧ (x = [] ↔ look31 L) := by
 have e1 := h.2.1
 have e3 := h.1
 have el := rel_length (freeP L) L.length
 suffices ∃ x, Ev (fun k => impl_Order_threeOne.l0 k (rel (freeP L) L.length) n 0 n L) x ∧ (x = [] ↔ look31 L ∧ True) by
  obtain ⟨x, h1, h2⟩ := this
  refine ⟨x, ?_, h2.trans ⟨fun r => r.1, fun r => ⟨r, trivial⟩⟩⟩
  unfold impl_Order_threeOne.f
  exact Ev.bind (near_ev h) h1
 refine loopN (fun x : List Int => x = []) L.length _ True (fun (a : Nat) k => impl_Order_threeOne.l0 k (rel (freeP L) L.length) n (a : Int) n L) ⟨[], ?_, by simp⟩ (fun a ha R hR => ?_)
 ·refine Ev.shift ?_
  simp only [impl_Order_threeOne.l0]
  exact Ev.neg (by omega) (Ev.ret rfl)
 ·have hs := h.set (i := a) ha
  have hbl := bitsOf_len (rd L (a : Int))
  have := loopN (fun x : List Int => x = []) (bitsOf (rd L (a : Int))).length R (fun (q : Nat) k => impl_Order_threeOne.l1 k (rel (freeP L) L.length) (a : Int) n (a : Int) (bitsOf (rd L (a : Int))) ((bitsOf (rd L (a : Int))).length : Int) (q : Int) n L) (by
   obtain ⟨x, h1, h2⟩ := hR
   refine ⟨x, Ev.shift ?_, h2⟩
   simp only [impl_Order_threeOne.l1]
   refine Ev.neg (by omega) ?_
   rw [wrap64_id (by omega) (by omega), cast1]
   exact h1) (good := fun q => ∀ b : Nat, rd (bitsOf (rd L (a : Int))) (q : Int) = b → ∀ p, p < (bitsOf (rd L (b : Int))).length → ∀ c : Nat, rd (bitsOf (rd L (b : Int))) (p : Int) = c → and3 L a b c = 0) (fun q hq R hR => ?_)
  ·obtain ⟨x, h1, h2⟩ := this
   refine ⟨x, Ev.shift ?_, h2⟩
   simp only [impl_Order_threeOne.l0]
   exact Ev.pos (by omega) (Ev.pos (by omega) (Ev.pos (by omega) (Ev.bind (members_ev hs.1 hs.2) h1)))
  ·obtain ⟨b, eb, hb, hab⟩ := row_el h ha hq
   have hs2 := h.set (i := b) hb
   have hbl2 := bitsOf_len (rd L (b : Int))
   have := loopN (fun x : List Int => x = []) (bitsOf (rd L (b : Int))).length R (fun (p : Nat) k => impl_Order_threeOne.l2 k (rel (freeP L) L.length) (a : Int) (b : Int) n (a : Int) (bitsOf (rd L (a : Int))) ((bitsOf (rd L (a : Int))).length : Int) (q : Int) (bitsOf (rd L (b : Int))) ((bitsOf (rd L (b : Int))).length : Int) (p : Int) n L) (by
    obtain ⟨x, h1, h2⟩ := hR
    refine ⟨x, Ev.shift ?_, h2⟩
    simp only [impl_Order_threeOne.l2]
    refine Ev.neg (by omega) ?_
    rw [wrap64_id (by omega) (by omega), cast1]
    exact h1) (good := fun p => ∀ c : Nat, rd (bitsOf (rd L (b : Int))) (p : Int) = c → and3 L a b c = 0) (fun p hp R hR => ?_)
   ·obtain ⟨x, h1, h2⟩ := this
    refine ⟨x, Ev.shift ?_, h2.trans ⟨fun r => ⟨fun b' eb' => ?_, r.2⟩, fun r => ⟨r.1 b eb, r.2⟩⟩⟩
    ·simp only [impl_Order_threeOne.l1]
     rw [eb]
     exact Ev.pos (by omega) (Ev.pos (by omega) (Ev.pos (by omega) (Ev.pos (by omega) (Ev.pos (by omega) (Ev.bind (members_ev hs2.1 hs2.2) h1)))))
    ·obtain rfl : b' = b := by omega
     exact r.1
   ·obtain ⟨c, ec, hc, hbc⟩ := row_el h hb hp
    obtain ⟨x, h1, h2⟩ := hR
    have p1 : (p : Int) < ((bitsOf (rd L (b : Int))).length : Int) := by omega
    have p0 : (0 : Int) ≤ (p : Int) := by omega
    have a0 : (0 : Int) ≤ (a : Int) := by omega
    have b0 : (0 : Int) ≤ (b : Int) := by omega
    have c0 : (0 : Int) ≤ (c : Int) := by omega
    have a1 : (a : Int) < ((rel (freeP L) L.length).length : Int) := by rw [el]; omega
    have b1 : (b : Int) < ((rel (freeP L) L.length).length : Int) := by rw [el]; omega
    have c1 : (c : Int) < ((rel (freeP L) L.length).length : Int) := by rw [el]; omega
    have ha3 := and3_set h ha hb hc
    by_cases hz : and3 L a b c = 0
    ·refine ⟨x, Ev.shift ?_, h2.trans ⟨fun r => ⟨fun c' ec' => ?_, r⟩, fun r => r.2⟩⟩
     ·simp only [impl_Order_threeOne.l2]
      rw [ec, wrap64_id (x := (p : Int) + 1) (by omega) (by omega), cast1]
      exact Ev.pos p1 (Ev.pos p0 (Ev.pos p1 (Ev.pos a0 (Ev.pos a1 (Ev.pos b0 (Ev.pos b1 (Ev.pos c0 (Ev.pos c1 (Ev.pos hz h1)))))))))
     ·obtain rfl : c' = c := by omega
      exact hz
    ·have hne : bitsOf (and3 L a b c) ≠ [] := fun e => hz ((bitsOf_nil ha3.1).1 e)
     have hpos : (0 : Int) < ((bitsOf (and3 L a b c)).length : Int) := by have := List.length_pos_iff.2 hne; omega
     refine ⟨[(a : Int), (b : Int), (c : Int), rd (bitsOf (and3 L a b c)) 0], Ev.shift ?_, ⟨fun r => (by cases r), fun r => (hz (r.1 c ec)).elim⟩⟩
     simp only [impl_Order_threeOne.l2]
     rw [ec]
     exact Ev.pos p1 (Ev.pos p0 (Ev.pos p1 (Ev.pos a0 (Ev.pos a1 (Ev.pos b0 (Ev.pos b1 (Ev.pos c0 (Ev.pos c1 (Ev.neg hz (Ev.bind (members_ev ha3.1.1 ha3.1.2) (Ev.pos hpos (Ev.ret rfl))))))))))))
theorem rel_relP {n : Int} {N : Nat} (hn : n = N) (h10 : N ≤ 10) (p : Nat → Nat → Bool) : relP n (rel p N) := by
 subst hn
 refine ⟨⟨by omega, by omega⟩, by rw [rel_length], fun x hx => ?_⟩
 obtain ⟨i, hi, rfl⟩ := List.mem_iff_getElem.1 hx
 rw [rel_length] at hi
 rw [← rd_lt _ i (by rw [rel_length]; exact hi)]
 have hs := rel_set (p := p) h10 hi
 refine ⟨hs.1, ?_⟩
 rw [full_pow h10]
 obtain ⟨a, ha, hlt⟩ := hs.nat
 rw [ha]
 have : a < 2 ^ N := by
  refine Nat.lt_pow_two_of_testBit a fun m hm => ?_
  have := rel_lt (p := p) h10 hi m
  unfold lt at this
  rw [ha, bit_nat] at this
  rw [this]; simp; omega
 have h2 : ((2 ^ N : Nat) : Int) = (2 : Int) ^ N := by simp
 omega
def mir (L : List Int) : List Int := rel (fun i j => lt L j i) L.length
-- the statements' own comparisons
theorem vSame_l (l m : List Int) (hlm : l.length = m.length) (hl : l.length ≤ 1048576) (d : Nat) : ∀ i : Nat, i + d = l.length → Ev (fun k => laws_vSame.l0 k l m (l.length : Int) (i : Int)) (l.drop i == m.drop i) := by
 induction d with
 | zero =>
  intro i hi
  refine Ev.shift ?_
  simp only [laws_vSame.l0]
  refine Ev.neg (by omega) (Ev.ret ?_)
  rw [List.drop_of_length_le (by omega), List.drop_of_length_le (by omega)]; rfl
 | succ d ih =>
  intro i hi
  have e := ih (i + 1) (by omega)
  have f1 : (i : Int) < l.length := by omega
  have f2 : (i : Int) < m.length := by omega
  refine Ev.shift ?_
  simp only [laws_vSame.l0]
  refine Ev.pos f1 (Ev.pos (by omega) (Ev.pos f1 (Ev.pos f2 ?_)))
  rw [wrap64_id (by omega) (by omega), cast1, drop_rd l i (by omega), drop_rd m i (by omega)]
  by_cases hc : rd l (i : Int) = rd m (i : Int)
  ·refine Ev.pos hc (Ev.eq e ?_)
   rw [hc]; simp
  ·refine Ev.neg hc (Ev.ret ?_)
   symm; rw [beq_eq_false_iff_ne]; intro h; exact hc (List.cons.inj h).1
theorem vSame_ev (l m : List Int) (hl : l.length ≤ 1048576) : Ev (fun k => laws_vSame.f k l m) (l == m) := by
 unfold laws_vSame.f
 by_cases h : (l.length : Int) = m.length
 ·refine Ev.pos h ?_
  simpa using vSame_l l m (by omega) hl l.length 0 (by omega)
 ·refine Ev.neg h (Ev.ret ?_)
  symm; rw [beq_eq_false_iff_ne]; intro e; exact h (by rw [e])
-- orders of places, by a threshold
def plc (t : Int) (P : List Int) (i j : Nat) : Bool := decide (rd P (j : Int) - rd P (i : Int) ≥ t)
def plcP (t : Int) (P : List Int) : Prop := (1 ≤ t ∧ t ≤ 10) ∧ P.length ≤ 10 ∧ ∀ x ∈ P, 0 ≤ x ∧ x ≤ 1000
theorem plcP.rd {t : Int} {P : List Int} (h : plcP t P) {i : Nat} (hi : i < P.length) : 0 ≤ rd P (i : Int) ∧ rd P (i : Int) ≤ 1000 := by
 rw [rd_lt P i hi]; exact h.2.2 _ (List.getElem_mem _)
def pord (t : Int) (P : List Int) : List Int := rel (plc t P) P.length
theorem pord_length (t : Int) (P : List Int) : (pord t P).length = P.length := rel_length _ _
theorem plc_iff {t : Int} {P : List Int} {i j : Nat} : plc t P i j = true ↔ rd P (j : Int) - rd P (i : Int) ≥ t := by unfold plc; exact decide_eq_true_iff
theorem placed_ev {t : Int} {P : List Int} (h : plcP t P) : Ev (fun k => impl_placed.f k t P) ((P.length : Int), pord t P) := by
 have hl := h.2.1
 have ht := h.1
 unfold impl_placed.f
 refine Ev.bind (relation_ev (plc t P) P.length (by omega) (fun _ u0_ u1_ => impl_placed_1.f u0_ u1_ P t) (fun i j hi hj => Ev.const ?_)) (Ev.ret rfl)
 have hi' := h.rd hi
 have hj' := h.rd hj
 unfold impl_placed_1.f
 rw [if_pos (by omega), if_pos (by omega), if_pos (by omega), if_pos (by omega), wrap64_id (by omega) (by omega)]
 rfl
theorem sOrder_l1 {t : Int} {P : List Int} (h : plcP t P) (rows : List Int) (i : Nat) (hi : i < P.length) (R : Int × List Int × Bool) (hk : Ev (fun k => spec_OrderOfPlaces.l0 k t P P (P.length : Int) ((i + 1 : Nat) : Int) (P.length : Int) (rows ++ [rowf (plc t P i) P.length])) R) (hr : rows.length < 1000) (d : Nat) :
  ∀ j : Nat, j + d = P.length → Ev (fun k => spec_OrderOfPlaces.l1 k t P (rd P (i : Int)) (rowf (plc t P i) j) P (P.length : Int) (i : Int) P (P.length : Int) (j : Int) (P.length : Int) rows) R := by
 have hl := h.2.1
 have ht := h.1
 have hxi := h.rd hi
 induction d with
 | zero =>
  intro j hj
  obtain rfl : j = P.length := by omega
  refine Ev.shift ?_
  simp only [spec_OrderOfPlaces.l1]
  refine Ev.neg (by omega) (Ev.pos (by omega) ?_)
  rw [wrap64_id (by omega) (by omega), cast1]; exact hk
 | succ d ih =>
  intro j hj
  have e := ih (j + 1) (by omega)
  have hxj := h.rd (i := j) (by omega)
  rw [rowf_succ] at e
  have f1 : (j : Int) < P.length := by omega
  refine Ev.shift ?_
  simp only [spec_OrderOfPlaces.l1]
  refine Ev.pos f1 (Ev.pos (by omega) (Ev.pos f1 ?_))
  rw [wrap64_id (x := (j : Int) + 1) (by omega) (by omega), wrap64_id (x := rd P (i : Int) + t) (by omega) (by omega), cast1]
  by_cases hc : rd P (j : Int) ≥ rd P (i : Int) + t
  ·rw [if_pos (plc_iff.2 (by omega))] at e
   exact Ev.pos hc e
  ·rw [if_neg (fun h2 => hc (by have := plc_iff.1 h2; omega))] at e
   exact Ev.neg hc e
theorem sOrder_l0 {t : Int} {P : List Int} (h : plcP t P) (d : Nat) : ∀ i : Nat, i + d = P.length → Ev (fun k => spec_OrderOfPlaces.l0 k t P P (P.length : Int) (i : Int) (P.length : Int) ((pord t P).take i)) ((P.length : Int), pord t P, true) := by
 have hl := h.2.1
 induction d with
 | zero =>
  intro i hi
  refine Ev.shift ?_
  simp only [spec_OrderOfPlaces.l0]
  exact Ev.neg (by omega) (Ev.ret (by rw [List.take_of_length_le (by rw [pord_length]; omega)]))
 | succ d ih =>
  intro i hi
  have e := ih (i + 1) (by omega)
  rw [List.take_succ_eq_append_getElem (by rw [pord_length]; omega), ← rd_lt _ i (by rw [pord_length]; omega)] at e
  rw [show rd (pord t P) (i : Int) = rowf (plc t P i) P.length from rel_get _ _ i (by omega)] at e
  refine Ev.shift ?_
  simp only [spec_OrderOfPlaces.l0]
  exact Ev.pos (by omega) (Ev.pos (by omega) (Ev.pos (by omega) (sOrder_l1 h _ i (by omega) _ e (by rw [List.length_take, pord_length]; omega) P.length 0 (by omega))))
theorem sOrderOfPlaces_ev {t : Int} {P : List Int} (h : plcP t P) : Ev (fun k => spec_OrderOfPlaces.f k t P) ((P.length : Int), pord t P, true) := by
 have hl := h.2.1
 have hs : spec_seThreshold.f t = some true := by unfold spec_seThreshold.f; rw [spec_in]; simp [h.1]
 unfold spec_OrderOfPlaces.f
 refine Ev.bindc hs (Ev.pos rfl (Ev.neg (by omega) (Ev.bind (l1All_ev 0 1000 P (by omega)) (Ev.shift ?_))))
 simp only [spec_OrderOfPlaces.j0]
 exact Ev.neg (by simpa using h.2.2) (sOrder_l0 h P.length 0 (by omega))
theorem rel_self {n : Int} {L : List Int} (h : relP n L) {p : Nat → Nat → Bool} (hp : ∀ i j, i < L.length → j < L.length → p i j = lt L i j) : rel p L.length = L := by
 have h10 : L.length ≤ 10 := by have := h.1; have := h.2.1; omega
 have hr := rel_relP h.2.1.symm h10 p
 refine rel_ext (rel_length _ _) (fun i hi => hr.set hi) (fun i hi => h.set hi) (fun i j hi hj => ?_)
 rw [rel_length] at hi
 rw [rel_lt h10 hi]
 by_cases hjl : j < L.length
 ·rw [hp i j hi hjl]; simp [hjl]
 ·have e2 : lt L i j = false := by
   cases hb : lt L i j
   ·rfl
   ·have := h.lt_len hi hb; omega
  rw [e2]; simp [hjl]
end Go.Proofs.YtmoemabbmjdhgaaDoor.Pure
namespace Go.Proofs.YtmoemabbmjdhgaaDoor.Pure
set_option linter.unusedVariables false
set_option linter.unusedSimpArgs false
-- plain
theorem cnt_le {n : Nat} {p q : Nat → Bool} (h : ∀ x, x < n → p x = true → q x = true) : (List.range n).countP p ≤ (List.range n).countP q := by
 induction n with
 | zero => simp
 | succ n ih =>
  have h1 := ih (fun x hx => h x (by omega))
  have h2 := h n (by omega)
  rw [List.range_succ, List.countP_append, List.countP_append, List.countP_singleton, List.countP_singleton]
  by_cases hp : p n = true
  ·rw [if_pos hp, if_pos (h2 hp)]; omega
  ·rw [if_neg hp]; split <;> omega
theorem cnt_lt {n : Nat} {p q : Nat → Bool} (h : ∀ x, x < n → p x = true → q x = true) (hx : ∃ x, x < n ∧ q x = true ∧ p x = false) : (List.range n).countP p < (List.range n).countP q := by
 induction n with
 | zero => obtain ⟨x, hx, _⟩ := hx; omega
 | succ n ih =>
  have h1 := cnt_le (n := n) (fun x hx => h x (by omega))
  have h2 := h n (by omega)
  rw [List.range_succ, List.countP_append, List.countP_append, List.countP_singleton, List.countP_singleton]
  by_cases hn : q n = true ∧ p n = false
  ·rw [if_pos hn.1, if_neg (by simp [hn.2])]; omega
  ·obtain ⟨x, hx, hq, hp⟩ := hx
   have hxn : x < n := by
    rcases Nat.lt_or_ge x n with h | h
    ·exact h
    ·obtain rfl : x = n := by omega
     exact absurd ⟨hq, hp⟩ hn
   have := ih (fun x hx => h x (by omega)) ⟨x, hxn, hq, hp⟩
   by_cases hpn : p n = true
   ·rw [if_pos hpn, if_pos (h2 hpn)]; omega
   ·rw [if_neg hpn]; split <;> omega
-- plain
structure Ord (n : Nat) (r : Nat → Nat → Bool) : Prop where
 irr : ∀ i, i < n → r i i = false
 trans : ∀ i j m, i < n → j < n → m < n → r i j = true → r j m = true → r i m = true
section
variable {n : Nat} {r : Nat → Nat → Bool}
theorem Ord.asym (h : Ord n r) {i j : Nat} (hi : i < n) (hj : j < n) (h1 : r i j = true) : r j i = false := by
 cases hb : r j i
 ·rfl
 ·have := h.trans i j i hi hj hi h1 hb; rw [h.irr i hi] at this; cases this
def No22 (n : Nat) (r : Nat → Nat → Bool) : Prop := ∀ a b c d, a < n → b < n → c < n → d < n → r a b = true → r c d = true → r c b = false → r a d = false → False
def No31 (n : Nat) (r : Nat → Nat → Bool) : Prop := ∀ a b c d, a < n → b < n → c < n → d < n → r a b = true → r b c = true → r a d = false → r d a = false → d ≠ a → r b d = false → r d b = false → d ≠ b → r c d = false → r d c = false → d ≠ c → False
def No21 (n : Nat) (r : Nat → Nat → Bool) : Prop := ∀ a b c, a < n → b < n → c < n → r a b = true → r a c = false → r c a = false → c ≠ a → r b c = false → r c b = false → c ≠ b → False
def trR (n : Nat) (r : Nat → Nat → Bool) (i j : Nat) : Prop := (∃ x, x < n ∧ r x j = true ∧ r x i = false) ∨ (∃ y, y < n ∧ r i y = true ∧ r j y = false)
def num (n : Nat) (r : Nat → Nat → Bool) (i : Nat) : Int := ((List.range n).countP (fun x => r x i) : Int) - ((List.range n).countP (fun y => r i y) : Int)
theorem below_nested (h22 : No22 n r) {i j x : Nat} (hi : i < n) (hj : j < n) (hx : x < n) (h1 : r x j = true) (h2 : r x i = false) : ∀ z, z < n → r z i = true → r z j = true := by
 intro z hz hzi
 cases hb : r z j
 ·exact (h22 x j z i hx hj hz hi h1 hzi hb h2).elim
 ·rfl
theorem above_nested (h22 : No22 n r) {i j y : Nat} (hi : i < n) (hj : j < n) (hy : y < n) (h1 : r i y = true) (h2 : r j y = false) : ∀ z, z < n → r j z = true → r i z = true := by
 intro z hz hjz
 cases hb : r i z
 ·exact (h22 i y j z hi hy hj hz h1 hjz h2 hb).elim
 ·rfl
theorem not_both (h : Ord n r) (h31 : No31 n r) {i j x y : Nat} (hi : i < n) (hj : j < n) (hx : x < n) (hy : y < n) (h1 : r x j = true) (h2 : r x i = false) (h3 : r j y = true) (h4 : r i y = false) : False := by
 have a1 : r i x = false := by
  cases hb : r i x
  ·rfl
  ·have := h.trans i x y hi hx hy hb (h.trans x j y hx hj hy h1 h3); rw [h4] at this; cases this
 have a2 : r i j = false := by
  cases hb : r i j
  ·rfl
  ·have := h.trans i j y hi hj hy hb h3; rw [h4] at this; cases this
 have a3 : r j i = false := by
  cases hb : r j i
  ·rfl
  ·have := h.trans x j i hx hj hi h1 hb; rw [h2] at this; cases this
 have a4 : r y i = false := by
  cases hb : r y i
  ·rfl
  ·have := h.trans x y i hx hy hi (h.trans x j y hx hj hy h1 h3) hb; rw [h2] at this; cases this
 refine h31 x j y i hx hj hy hi h1 h3 h2 a1 ?_ a3 a2 ?_ a4 h4 ?_
 ·rintro rfl; rw [h.trans i j y hi hj hy h1 h3] at h4; cases h4
 ·rintro rfl; rw [h1] at h2; cases h2
 ·rintro rfl; rw [h.trans x j i hx hj hi h1 h3] at h2; cases h2
theorem trR_num (h : Ord n r) (h22 : No22 n r) (h31 : No31 n r) {i j : Nat} (hi : i < n) (hj : j < n) : trR n r i j ↔ num n r i < num n r j := by
 unfold num
 constructor
 ·rintro (⟨x, hx, h1, h2⟩ | ⟨y, hy, h1, h2⟩)
  ·have c1 := cnt_lt (n := n) (p := fun x => r x i) (q := fun x => r x j) (below_nested h22 hi hj hx h1 h2) ⟨x, hx, h1, h2⟩
   have c2 := cnt_le (n := n) (p := fun y => r j y) (q := fun y => r i y) (fun z hz hjz => by
    cases hb : r i z
    ·exact (not_both h h31 hi hj hx hz h1 h2 hjz hb).elim
    ·rfl)
   omega
  ·have c1 := cnt_lt (n := n) (p := fun y => r j y) (q := fun y => r i y) (above_nested h22 hi hj hy h1 h2) ⟨y, hy, h1, h2⟩
   have c2 := cnt_le (n := n) (p := fun x => r x i) (q := fun x => r x j) (fun z hz hzi => by
    cases hb : r z j
    ·exact (not_both h h31 hj hi hz hy hzi hb h1 h2).elim
    ·rfl)
   omega
 ·intro hlt
  refine Classical.byContradiction fun hn => ?_
  have c1 := cnt_le (n := n) (p := fun x => r x j) (q := fun x => r x i) (fun z hz h1 => by
   cases hb : r z i
   ·exact (hn (.inl ⟨z, hz, h1, hb⟩)).elim
   ·rfl)
  have c2 := cnt_le (n := n) (p := fun y => r i y) (q := fun y => r j y) (fun z hz h1 => by
   cases hb : r j z
   ·exact (hn (.inr ⟨z, hz, h1, hb⟩)).elim
   ·rfl)
  omega
end
end Go.Proofs.YtmoemabbmjdhgaaDoor.Pure
