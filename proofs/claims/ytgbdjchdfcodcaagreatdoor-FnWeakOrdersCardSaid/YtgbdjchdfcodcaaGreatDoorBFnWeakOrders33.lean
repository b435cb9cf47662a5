import Derived.Test.YtgbdjchdfcodcaaGreatDoorBFnWeakOrders32
namespace Go.Proofs.YtgbdjchdfcodcaaGreatDoor.Pure
open Go.RowKit Go.Proofs.YtgbdjchdfcodcaaGreatDoor.Q Go.Proofs.YtgbdjchdfcodcaaGreatDoorW.PrintWords Go.Proofs.YtgbdjchdfcodcaaGreatDoorW.PrintLast
set_option linter.unusedVariables false
set_option linter.unusedSimpArgs false
def and3 (L : List Int) (a b c : Nat) : Int := Go.bits .and .i64 (Go.bits .and .i64 (rd (rel (freeP L) L.length) (a : Int)) (rd (rel (freeP L) L.length) (b : Int))) (rd (rel (freeP L) L.length) (c : Int))
theorem and3_set {n : Int} {L : List Int} (h : relP n L) {a b c : Nat} (ha : a < L.length) (hb : b < L.length) (hc : c < L.length) : setP (and3 L a b c) ∧ ∀ d, bit (and3 L a b c) d = (decide (d < L.length) && freeP L a d && freeP L b d && freeP L c d) := by
 have h10 : L.length ≤ 10 := by have := h.1; have := h.2.1; omega
 have fa := rel_set (p := freeP L) h10 ha
 have fb := rel_set (p := freeP L) h10 hb
 have fc := rel_set (p := freeP L) h10 hc
 have la := rel_lt (p := freeP L) h10 ha
 have lb := rel_lt (p := freeP L) h10 hb
 have lc := rel_lt (p := freeP L) h10 hc
 unfold lt at la lb lc
 have o1 := set_and fa fb
 have o2 := set_and o1.1 fc
 refine ⟨o2.1, fun d => ?_⟩
 unfold and3
 rw [o2.2, o1.2, la, lb, lc]
 by_cases hd : d < L.length <;> simp [hd]
def look31 (L : List Int) : Prop := ∀ a, a < L.length → ∀ q, q < (bitsOf (rd L (a : Int))).length → ∀ b : Nat, rd (bitsOf (rd L (a : Int))) (q : Int) = b → ∀ p, p < (bitsOf (rd L (b : Int))).length → ∀ c : Nat, rd (bitsOf (rd L (b : Int))) (p : Int) = c → and3 L a b c = 0
theorem threeOne_ev {n : Int} {L : List Int} (h : relP n L) : ∃ x, Ev (fun k => impl_Order_threeOne.f k n L) x ∧ (x = [] ↔ look31 L) := by
 have e1 := h.2.1
 have e3 := h.1
 have el := rel_length (freeP L) L.length
 suffices ∃ x, Ev (fun k => impl_Order_threeOne.l0 k (rel (freeP L) L.length) n 0 n L) x ∧ (x = [] ↔ look31 L ∧ True) by
  obtain ⟨x, h1, h2⟩ := this
  refine ⟨x, ?_, h2.trans ⟨fun r => r.1, fun r => ⟨r, trivial⟩⟩⟩
  unfold impl_Order_threeOne.f
  exact Ev.bind (near_ev h) h1
 refine loopN (fun x : List Int => x = []) L.length _ True (fun (a : Nat) k => impl_Order_threeOne.l0 k (rel (freeP L) L.length) n (a : Int) n L) ⟨[], ?_, by simp⟩ (fun a ha R hR => ?_)
 ·refine Ev.shift ?_
  simp only [impl_Order_threeOne.l0]
  exact Ev.neg (by omega) (Ev.ret rfl)
 ·have hs := h.set (i := a) ha
  have hbl := bitsOf_len (rd L (a : Int))
  have := loopN (fun x : List Int => x = []) (bitsOf (rd L (a : Int))).length R (fun (q : Nat) k => impl_Order_threeOne.l1 k (rel (freeP L) L.length) (a : Int) n (a : Int) (bitsOf (rd L (a : Int))) ((bitsOf (rd L (a : Int))).length : Int) (q : Int) n L) (by
   obtain ⟨x, h1, h2⟩ := hR
   refine ⟨x, Ev.shift ?_, h2⟩
   simp only [impl_Order_threeOne.l1]
   refine Ev.neg (by omega) ?_
   rw [wrap64_id (by omega) (by omega), cast1]
   exact h1) (good := fun q => ∀ b : Nat, rd (bitsOf (rd L (a : Int))) (q : Int) = b → ∀ p, p < (bitsOf (rd L (b : Int))).length → ∀ c : Nat, rd (bitsOf (rd L (b : Int))) (p : Int) = c → and3 L a b c = 0) (fun q hq R hR => ?_)
  ·obtain ⟨x, h1, h2⟩ := this
   refine ⟨x, Ev.shift ?_, h2⟩
   simp only [impl_Order_threeOne.l0]
   exact Ev.pos (by omega) (Ev.pos (by omega) (Ev.pos (by omega) (Ev.bind (members_ev hs.1 hs.2) h1)))
  ·obtain ⟨b, eb, hb, hab⟩ := row_el h ha hq
   have hs2 := h.set (i := b) hb
   have hbl2 := bitsOf_len (rd L (b : Int))
   have := loopN (fun x : List Int => x = []) (bitsOf (rd L (b : Int))).length R (fun (p : Nat) k => impl_Order_threeOne.l2 k (rel (freeP L) L.length) (a : Int) (b : Int) n (a : Int) (bitsOf (rd L (a : Int))) ((bitsOf (rd L (a : Int))).length : Int) (q : Int) (bitsOf (rd L (b : Int))) ((bitsOf (rd L (b : Int))).length : Int) (p : Int) n L) (by
    obtain ⟨x, h1, h2⟩ := hR
    refine ⟨x, Ev.shift ?_, h2⟩
    simp only [impl_Order_threeOne.l2]
    refine Ev.neg (by omega) ?_
    rw [wrap64_id (by omega) (by omega), cast1]
    exact h1) (good := fun p => ∀ c : Nat, rd (bitsOf (rd L (b : Int))) (p : Int) = c → and3 L a b c = 0) (fun p hp R hR => ?_)
   ·obtain ⟨x, h1, h2⟩ := this
    refine ⟨x, Ev.shift ?_, h2.trans ⟨fun r => ⟨fun b' eb' => ?_, r.2⟩, fun r => ⟨r.1 b eb, r.2⟩⟩⟩
    ·simp only [impl_Order_threeOne.l1]
     rw [eb]
     exact Ev.pos (by omega) (Ev.pos (by omega) (Ev.pos (by omega) (Ev.pos (by omega) (Ev.pos (by omega) (Ev.bind (members_ev hs2.1 hs2.2) h1)))))
    ·obtain rfl : b' = b := by omega
     exact r.1
   ·obtain ⟨c, ec, hc, hbc⟩ := row_el h hb hp
    obtain ⟨x, h1, h2⟩ := hR
    have p1 : (p : Int) < ((bitsOf (rd L (b : Int))).length : Int) := by omega
    have p0 : (0 : Int) ≤ (p : Int) := by omega
    have a0 : (0 : Int) ≤ (a : Int) := by omega
    have b0 : (0 : Int) ≤ (b : Int) := by omega
    have c0 : (0 : Int) ≤ (c : Int) := by omega
    have a1 : (a : Int) < ((rel (freeP L) L.length).length : Int) := by rw [el]; omega
    have b1 : (b : Int) < ((rel (freeP L) L.length).length : Int) := by rw [el]; omega
    have c1 : (c : Int) < ((rel (freeP L) L.length).length : Int) := by rw [el]; omega
    have ha3 := and3_set h ha hb hc
    by_cases hz : and3 L a b c = 0
    ·refine ⟨x, Ev.shift ?_, h2.trans ⟨fun r => ⟨fun c' ec' => ?_, r⟩, fun r => r.2⟩⟩
     ·simp only [impl_Order_threeOne.l2]
      rw [ec, wrap64_id (x := (p : Int) + 1) (by omega) (by omega), cast1]
      exact Ev.pos p1 (Ev.pos p0 (Ev.pos p1 (Ev.pos a0 (Ev.pos a1 (Ev.pos b0 (Ev.pos b1 (Ev.pos c0 (Ev.pos c1 (Ev.pos hz h1)))))))))
     ·obtain rfl : c' = c := by omega
      exact hz
    ·have hne : bitsOf (and3 L a b c) ≠ [] := fun e => hz ((bitsOf_nil ha3.1).1 e)
     have hpos : (0 : Int) < ((bitsOf (and3 L a b c)).length : Int) := by have := List.length_pos_iff.2 hne; omega
     refine ⟨[(a : Int), (b : Int), (c : Int), rd (bitsOf (and3 L a b c)) 0], Ev.shift ?_, ⟨fun r => (by cases r), fun r => (hz (r.1 c ec)).elim⟩⟩
     simp only [impl_Order_threeOne.l2]
     rw [ec]
     exact Ev.pos p1 (Ev.pos p0 (Ev.pos p1 (Ev.pos a0 (Ev.pos a1 (Ev.pos b0 (Ev.pos b1 (Ev.pos c0 (Ev.pos c1 (Ev.neg hz (Ev.bind (members_ev ha3.1.1 ha3.1.2) (Ev.pos hpos (Ev.ret rfl))))))))))))
def badS (L : List Int) (a b c d : Nat) : Prop := freeP L a d = true ∧ freeP L c b = true
theorem freeP_iff {L : List Int} {i j : Nat} : freeP L i j = true ↔ lt L i j = false ∧ lt L j i = false ∧ j ≠ i := by
 unfold freeP
 cases lt L i j <;> cases lt L j i <;> simp
end Go.Proofs.YtgbdjchdfcodcaaGreatDoor.Pure
namespace Go.Proofs.YtgbdjchdfcodcaaGreatDoor.Pure
open Go.RowKit Go.Proofs.YtgbdjchdfcodcaaGreatDoor.Q Go.Proofs.YtgbdjchdfcodcaaGreatDoorW.PrintWords Go.Proofs.YtgbdjchdfcodcaaGreatDoorW.PrintLast
set_option linter.unusedVariables false
set_option linter.unusedSimpArgs false
end Go.Proofs.YtgbdjchdfcodcaaGreatDoor.Pure
namespace Go.Proofs.YtgbdjchdfcodcaaGreatDoor.Pure
open Go.RowKit Go.Proofs.YtgbdjchdfcodcaaGreatDoor.Q Go.Proofs.YtgbdjchdfcodcaaGreatDoorW.PrintWords Go.Proofs.YtgbdjchdfcodcaaGreatDoorW.PrintLast
set_option linter.unusedVariables false
set_option linter.unusedSimpArgs false
theorem rel_rel {n : Int} {N : Nat} (hn : (N : Int) = n) (h10 : N ≤ 10) (p : Nat → Nat → Bool) : relP n (rel p N) := by
 subst hn
 refine ⟨⟨by omega, by omega⟩, by rw [rel_length], fun x hx => ?_⟩
 obtain ⟨i, hi, rfl⟩ := List.mem_iff_getElem.1 hx
 rw [rel_length] at hi
 rw [← rd_lt _ i (by rw [rel_length]; exact hi)]
 have hs := rel_set (p := p) h10 hi
 refine ⟨hs.1, ?_⟩
 rw [full_pow h10]
 obtain ⟨a, ha, hlt⟩ := hs.nat
 rw [ha]
 have : a < 2 ^ N := by
  refine Nat.lt_pow_two_of_testBit a fun m hm => ?_
  have := rel_lt (p := p) h10 hi m
  unfold lt at this
  rw [ha, bit_nat] at this
  rw [this]; simp; omega
 have h2 : ((2 ^ N : Nat) : Int) = (2 : Int) ^ N := by simp
 omega
def nums (L : List Int) : List Int := (List.range L.length).map (num L.length (lt L))
def trB (L : List Int) (i j : Nat) : Bool := decide (andN (dn L j) (dn L i) ≠ 0) || decide (andN (rd L (i : Int)) (rd L (j : Int)) ≠ 0)
theorem tr_f (n : Int) (L : List Int) {i j : Nat} (hi : i < L.length) (hj : j < L.length) : impl_TraceOf_1.f (i : Int) (j : Int) n (dns L) n L = some (trB L i j) := by
 have el := dns_length L
 unfold impl_TraceOf_1.f trB andN
 rw [if_pos (by omega), if_pos (by omega), if_pos (by omega), if_pos (by omega), dns_get L hi, dns_get L hj]
 by_cases h1 : Go.bits .andNot .i64 (dn L j) (dn L i) = 0
 ·rw [if_pos h1, if_pos (by omega), if_pos (by omega)]
  by_cases h2 : Go.bits .andNot .i64 (rd L (i : Int)) (rd L (j : Int)) = 0 <;> simp [h1, h2]
 ·rw [if_neg h1]
  simp [h1]
theorem trB_iff {n : Int} {L : List Int} (h : relP n L) {i j : Nat} (hi : i < L.length) (hj : j < L.length) : trB L i j = true ↔ trR L.length (lt L) i j := by
 have h10 : L.length ≤ 10 := by have := h.1; have := h.2.1; omega
 have r1 : andN (rd L (i : Int)) (rd L (j : Int)) = 0 ↔ ∀ y, y < L.length → lt L i y = true → lt L j y = true := by
  rw [andNot_zero (h.set hi) (h.set hj)]
  exact ⟨fun g y hy hb => g y (by omega) hb, fun g y hy hb => g y (h.lt_len hi hb) hb⟩
 unfold trB trR
 rw [Bool.or_eq_true, decide_eq_true_iff, decide_eq_true_iff, Ne, Ne, dn_sub h i j, r1]
 constructor
 ·rintro (g | g)
  ·have ⟨x, g⟩ := Classical.not_forall.1 g
   have ⟨g1, g⟩ := Classical.not_imp.1 g
   have ⟨g2, g3⟩ := Classical.not_imp.1 g
   exact .inl ⟨x, g1, g2, by simpa using g3⟩
  ·have ⟨x, g⟩ := Classical.not_forall.1 g
   have ⟨g1, g⟩ := Classical.not_imp.1 g
   have ⟨g2, g3⟩ := Classical.not_imp.1 g
   exact .inr ⟨x, g1, g2, by simpa using g3⟩
 ·rintro (⟨x, g1, g2, g3⟩ | ⟨x, g1, g2, g3⟩)
  ·exact .inl fun g => by have := g x g1 g2; rw [g3] at this; cases this
  ·exact .inr fun g => by have := g x g1 g2; rw [g3] at this; cases this
theorem trace_levels {n : Int} {L : List Int} (h : orderP n L) (h22 : No22 L.length (lt L)) (h31 : No31 L.length (lt L)) : lvs (rel (trB L) L.length) = lev (nums L) := by
 have h10 : L.length ≤ 10 := by have := h.1.1; have := h.1.2.1; omega
 have hT := rel_rel h.1.2.1 h10 (trB L)
 have eT := rel_length (trB L) L.length
 generalize eqT : rel (trB L) L.length = T at hT eT ⊢
 have ltT : ∀ i j, i < L.length → j < L.length → (lt T i j = true ↔ num L.length (lt L) i < num L.length (lt L) j) := fun i j hi hj => by
  rw [← eqT, rel_lt h10 hi]
  simp only [hj, decide_true, Bool.true_and]
  rw [trB_iff h.1 hi hj, trR_num (ord_lt h) h22 h31 hi hj]
 have sub : ∀ i j, i < L.length → j < L.length → (andN (dn T j) (dn T i) = 0 ↔ num L.length (lt L) j ≤ num L.length (lt L) i) := fun i j hi hj => by
  rw [dn_sub hT i j, eT]
  constructor
  ·intro g
   refine Int.not_lt.1 fun hlt => ?_
   have := (ltT i i hi hi).1 (g i hi ((ltT i j hi hj).2 hlt))
   omega
  ·intro g x hx hb
   have := (ltT x j hx hj).1 hb
   exact (ltT x i hx hi).2 (by omega)
 have eqs : ∀ i j, i < L.length → j < L.length → (dn T i = dn T j ↔ num L.length (lt L) i = num L.length (lt L) j) := fun i j hi hj => by
  have s1 := sub i j hi hj
  have s2 := sub j i hj hi
  rw [dn_sub hT] at s1 s2
  rw [dn_eq hT j i]
  constructor
  ·rintro ⟨g1, g2⟩
   have := s1.1 g2; have := s2.1 g1; omega
  ·intro g
   exact ⟨s2.2 (by omega), s1.2 (by omega)⟩
 rw [lvs_eq]
 unfold lev nums
 rw [eT, List.map_map]
 refine List.map_congr_left fun i hi => ?_
 rw [List.mem_range] at hi
 simp only [Function.comp_apply]
 unfold low lvc
 rw [← List.countP_eq_length_filter]
 have hv := count_values (b := dn T) (v := num L.length (lt L)) (n := L.length) (D := dif (dns T)) (E := dif (nums L)) (dif_nodup _) (dif_nodup _) (fun x => by rw [mem_difs, eT]) (fun x => by
  rw [mem_dif]; unfold nums; simp only [List.mem_map, List.mem_range]) eqs (p := below1 (dn T i)) (q := fun y => decide (y < num L.length (lt L) i)) (fun j hj => by
   unfold below1
   rw [Bool.eq_iff_iff, decide_eq_true_iff, decide_eq_true_iff, sub i j hi hj, Ne, eqs j i hj hi]
   omega)
 unfold nums at hv
 rw [hv]
theorem low_mono {D : List Int} (hD : D.Pairwise (· < ·)) {x y : Int} (hx : x ∈ D) (hxy : x < y) : low D x < low D y := by
 obtain ⟨p, hp, rfl⟩ := List.mem_iff_getElem.1 hx
 have e := low_get hD p hp
 rw [rd_lt D p hp] at e
 rw [e]
 refine Classical.byContradiction fun hno => ?_
 -- all of the first p + 1 elements are below y
 have : ((p + 1 : Nat) : Int) ≤ low D y := by
  unfold low
  have hs : (D.take (p + 1)).Sublist D := List.take_sublist _ _
  have h2 : (D.take (p + 1)).filter (fun z => decide (z < y)) = D.take (p + 1) := by
   rw [List.filter_eq_self]
   intro z hz
   obtain ⟨q, hq, rfl⟩ := List.mem_iff_getElem.1 hz
   rw [List.length_take] at hq
   rw [List.getElem_take]
   by_cases e : q = p
   ·subst e; simpa using hxy
   ·have := List.pairwise_iff_getElem.1 hD q p (by omega) hp (by omega)
    simp; omega
  have h3 := (hs.filter (fun z => decide (z < y))).length_le
  rw [h2, List.length_take] at h3
  omega
 omega
theorem rd_lev (a : List Int) {i : Nat} (hi : i < a.length) : rd (lev a) (i : Int) = low (dif a) (rd a (i : Int)) := by
 rw [rd_lt _ i (by rw [lev_length]; exact hi), rd_lt a i hi]; simp [lev]
theorem rd_dif (a : List Int) {i : Nat} (hi : i < a.length) : rd a (i : Int) ∈ dif a := mem_dif.2 (by rw [rd_lt a i hi]; exact List.getElem_mem _)
theorem lev_lt (a : List Int) {i j : Nat} (hi : i < a.length) (hj : j < a.length) : rd (lev a) (i : Int) < rd (lev a) (j : Int) ↔ rd a (i : Int) < rd a (j : Int) := by
 rw [rd_lev a hi, rd_lev a hj]
 constructor
 ·intro h
  refine Classical.byContradiction fun hno => ?_
  rcases Int.lt_or_eq_of_le (Int.not_lt.1 hno) with g | g
  ·have := low_mono (dif_sorted a) (rd_dif a hj) g; omega
  ·rw [g] at h; omega
 ·exact low_mono (dif_sorted a) (rd_dif a hi)
theorem orderP_of {n : Int} {L : List Int} (h : relP n L) (h1 : ∀ i, i < L.length → lt L i i = false) (h2 : ∀ i j m, i < L.length → j < L.length → lt L i j = true → lt L j m = true → lt L i m = true) : orderP n L :=
 ⟨h, fun m hm => ⟨h1 m hm, fun j hj => by
  obtain ⟨j', rfl, hj', hb⟩ := h.bits hm hj
  exact (andNot_zero (h.set hj') (h.set hm)).2 fun q _ hb2 => h2 m j' q hm hj' hb hb2⟩⟩
theorem rel_relP {n : Int} {N : Nat} (hn : n = N) (h10 : N ≤ 10) (p : Nat → Nat → Bool) : relP n (rel p N) := by
 subst hn
 refine ⟨⟨by omega, by omega⟩, by rw [rel_length], fun x hx => ?_⟩
 obtain ⟨i, hi, rfl⟩ := List.mem_iff_getElem.1 hx
 rw [rel_length] at hi
 rw [← rd_lt _ i (by rw [rel_length]; exact hi)]
 have hs := rel_set (p := p) h10 hi
 refine ⟨hs.1, ?_⟩
 rw [full_pow h10]
 obtain ⟨a, ha, hlt⟩ := hs.nat
 rw [ha]
 have : a < 2 ^ N := by
  refine Nat.lt_pow_two_of_testBit a fun m hm => ?_
  have := rel_lt (p := p) h10 hi m
  unfold lt at this
  rw [ha, bit_nat] at this
  rw [this]; simp; omega
 have h2 : ((2 ^ N : Nat) : Int) = (2 : Int) ^ N := by simp
 omega
def mir (L : List Int) : List Int := rel (fun i j => lt L j i) L.length
theorem mir_length (L : List Int) : (mir L).length = L.length := rel_length _ _
theorem mir_relP {n : Int} {L : List Int} (h : relP n L) : relP n (mir L) := rel_relP h.2.1.symm (by have := h.1; have := h.2.1; omega) _
theorem mir_lt {n : Int} {L : List Int} (h : relP n L) {i j : Nat} (hi : i < L.length) (hj : j < L.length) : lt (mir L) i j = lt L j i := by
 have h1 := h.1; have h2 := h.2.1
 unfold mir; rw [rel_lt (by omega) hi]; simp [hj]
section
variable {n : Nat} {r : Nat → Nat → Bool}
theorem weak_neg (h : Ord n r) (h21 : No21 n r) {i j m : Nat} (hi : i < n) (hj : j < n) (hm : m < n) (hb : r i j = true) : r i m = true ∨ r m j = true := by
 cases h1 : r i m
 ·cases h2 : r m j
  ·exfalso
   refine h21 i j m hi hj hm hb h1 ?_ ?_ ?_ h2 ?_
   ·cases h3 : r m i
    ·rfl
    ·have := h.trans m i j hm hi hj h3 hb; rw [h2] at this; cases this
   ·rintro rfl; rw [h2] at hb; cases hb
   ·cases h3 : r j m
    ·rfl
    ·have := h.trans i j m hi hj hm hb h3; rw [h1] at this; cases this
   ·rintro rfl; rw [h1] at hb; cases hb
  ·exact .inr rfl
 ·exact .inl rfl
theorem weak_22 (h : Ord n r) (h21 : No21 n r) : No22 n r := by
 intro a b c d ha hb hc hd h1 h2 h3 h4
 rcases weak_neg h h21 ha hb hd h1 with g | g
 ·rw [h4] at g; cases g
 ·have := h.trans c d b hc hd hb h2 g; rw [h3] at this; cases this
theorem weak_31 (h21 : No21 n r) : No31 n r := fun a b c d ha hb hc hd hab hbc a1 a2 a3 b1 b2 b3 c1 c2 c3 => h21 a b d ha hb hd hab a1 a2 a3 b1 b2 b3
theorem weak_tr (h : Ord n r) (h21 : No21 n r) {i j : Nat} (hi : i < n) (hj : j < n) : trR n r i j ↔ r i j = true := by
 constructor
 ·rintro (⟨x, hx, g1, g2⟩ | ⟨x, hx, g1, g2⟩)
  ·rcases weak_neg h h21 hx hj hi g1 with g | g
   ·rw [g2] at g; cases g
   ·exact g
  ·rcases weak_neg h h21 hi hx hj g1 with g | g
   ·exact g
   ·rw [g2] at g; cases g
 ·exact fun g => .inl ⟨i, hi, g, h.irr i hi⟩
theorem weak_num (h : Ord n r) (h21 : No21 n r) {i j : Nat} (hi : i < n) (hj : j < n) : r i j = true ↔ num n r i < num n r j := by
 rw [← trR_num h (weak_22 h h21) (weak_31 h21) hi hj, weak_tr h h21 hi hj]
end
theorem rel_self {n : Int} {L : List Int} (h : relP n L) {p : Nat → Nat → Bool} (hp : ∀ i j, i < L.length → j < L.length → p i j = lt L i j) : rel p L.length = L := by
 have h10 : L.length ≤ 10 := by have := h.1; have := h.2.1; omega
 have hr := rel_relP h.2.1.symm h10 p
 refine rel_ext (rel_length _ _) (fun i hi => hr.set hi) (fun i hi => h.set hi) (fun i j hi hj => ?_)
 rw [rel_length] at hi
 rw [rel_lt h10 hi]
 by_cases hjl : j < L.length
 ·rw [hp i j hi hjl]; simp [hjl]
 ·have e2 : lt L i j = false := by
   cases hb : lt L i j
   ·rfl
   ·have := h.lt_len hi hb; omega
  rw [e2]; simp [hjl]
theorem weak_self {n : Int} {L : List Int} (h : orderP n L) (h21 : No21 L.length (lt L)) : rel (trB L) L.length = L :=
 rel_self h.1 fun i j hi hj => by rw [Bool.eq_iff_iff, trB_iff h.1 hi hj, weak_tr (ord_lt h) h21 hi hj]
theorem weak_lvs {n : Int} {L : List Int} (h : orderP n L) (h21 : No21 L.length (lt L)) : lvs L = lev (nums L) := by
 have := trace_levels h (weak_22 (ord_lt h) h21) (weak_31 h21)
 rwa [weak_self h h21] at this
theorem nums_length (L : List Int) : (nums L).length = L.length := by simp [nums]
theorem rd_nums (L : List Int) {i : Nat} (hi : i < L.length) : rd (nums L) (i : Int) = num L.length (lt L) i := by
 rw [rd_lt _ i (by rw [nums_length]; exact hi)]; simp [nums]
theorem weak_rises {n : Int} {L : List Int} (h : orderP n L) (h21 : No21 L.length (lt L)) {i j : Nat} (hi : i < L.length) (hj : j < L.length) : lt L i j = true ↔ rd (lvs L) (i : Int) < rd (lvs L) (j : Int) := by
 rw [weak_lvs h h21, lev_lt (nums L) (by rw [nums_length]; exact hi) (by rw [nums_length]; exact hj), rd_nums L hi, rd_nums L hj, weak_num (ord_lt h) h21 hi hj]
theorem lev_congr {a b : List Int} (he : a.length = b.length) (hc : ∀ i j : Nat, i < a.length → j < a.length → (rd a (i : Int) < rd a (j : Int) ↔ rd b (i : Int) < rd b (j : Int))) : lev a = lev b := by
 have mm : ∀ (c : List Int) (x : Int), x ∈ dif c ↔ ∃ j, j < c.length ∧ rd c ((j : Nat) : Int) = x := fun c x => by
  rw [mem_dif]
  constructor
  ·intro hx
   obtain ⟨j, hj, e⟩ := List.mem_iff_getElem.1 hx
   exact ⟨j, hj, by rw [rd_lt c j hj]; exact e⟩
  ·rintro ⟨j, hj, rfl⟩; rw [rd_lt c j hj]; exact List.getElem_mem _
 refine List.ext_getElem (by rw [lev_length, lev_length, he]) fun i h1 h2 => ?_
 rw [lev_length] at h1 h2
 have e1 := rd_lev a h1
 have e2 := rd_lev b h2
 rw [rd_lt _ i (by rw [lev_length]; exact h1)] at e1
 rw [rd_lt _ i (by rw [lev_length]; exact h2)] at e2
 rw [e1, e2]
 unfold low
 rw [← List.countP_eq_length_filter, ← List.countP_eq_length_filter]
 congr 1
 refine count_values (b := fun j => rd a (j : Int)) (v := fun j => rd b (j : Int)) (n := a.length) (dif_nodup _) (dif_nodup _) (mm a) (by rw [he]; exact mm b) (fun x y hx hy => ?_) (fun j hj => ?_)
 ·have c1 := hc x y hx hy
  have c2 := hc y x hy hx
  show rd a (x : Int) = rd a (y : Int) ↔ rd b (x : Int) = rd b (y : Int)
  omega
 ·show decide (rd a (j : Int) < rd a (i : Int)) = decide (rd b (j : Int) < rd b (i : Int))
  rw [Bool.eq_iff_iff, decide_eq_true_iff, decide_eq_true_iff]
  exact hc j i hj h1
def nearZ (L : List Int) (a : Nat) (b : Int) : Prop := Go.bits .and .i64 (rd (rel (freeP L) L.length) (a : Int)) (rd (rel (freeP L) L.length) b) = 0
theorem twoOne_l {n : Int} {L : List Int} (h : relP n L) (d : Nat) : ∀ i : Nat, i + d = L.length → ∃ x, Ev (fun k => impl_Order_twoOne.l0 k (rel (freeP L) L.length) n (i : Int) n L) x ∧ Ev (fun k => spec_TwoOneOf.l0 k (i : Int) n L) (x, x != []) ∧ x.length ≤ 3 ∧ (x = [] → ∀ a : Nat, i ≤ a → a < L.length → ∀ b ∈ bitsOf (rd L (a : Int)), nearZ L a b) := by
 have e1 := h.2.1
 have e3 := h.1
 induction d with
 | zero =>
  intro i hi
  refine ⟨[], Ev.shift ?_, Ev.shift ?_, by simp, fun _ a h1 h2 => by omega⟩
  ·simp only [impl_Order_twoOne.l0]
   exact Ev.neg (by omega) (Ev.ret rfl)
  ·simp only [spec_TwoOneOf.l0]
   exact Ev.neg (by omega) (Ev.ret rfl)
 | succ d ih =>
  intro i hi
  have hs := h.set (i := i) (by omega)
  have inner : ∀ (c q : Nat), q + c = (bitsOf (rd L (i : Int))).length → ∃ x, Ev (fun k => impl_Order_twoOne.l1 k (rel (freeP L) L.length) (i : Int) n (i : Int) (bitsOf (rd L (i : Int))) ((bitsOf (rd L (i : Int))).length : Int) (q : Int) n L) x ∧ Ev (fun k => spec_TwoOneOf.l1 k (i : Int) (bitsOf (rd L (i : Int))) ((bitsOf (rd L (i : Int))).length : Int) (q : Int) n L) (x, x != []) ∧ x.length ≤ 3 ∧ (x = [] → (∀ c' : Nat, q ≤ c' → c' < (bitsOf (rd L (i : Int))).length → nearZ L i (rd (bitsOf (rd L (i : Int))) (c' : Int))) ∧ ∀ a : Nat, i + 1 ≤ a → a < L.length → ∀ b ∈ bitsOf (rd L (a : Int)), nearZ L a b) := by
   intro c
   have hbl := bitsOf_len (rd L (i : Int))
   induction c with
   | zero =>
    intro q hq
    obtain ⟨x, h1, h2, h3, h4⟩ := ih (i + 1) (by omega)
    refine ⟨x, Ev.shift ?_, Ev.shift ?_, h3, fun e => ⟨fun c' g1 g2 => by omega, h4 e⟩⟩
    ·simp only [impl_Order_twoOne.l1]
     refine Ev.neg (by omega) ?_
     rw [wrap64_id (by omega) (by omega), cast1]
     exact h1
    ·simp only [spec_TwoOneOf.l1]
     refine Ev.neg (by omega) ?_
     rw [wrap64_id (by omega) (by omega), cast1]
     exact h2
   | succ c ihc =>
    intro q hq
    obtain ⟨b, hb, hbl2, _⟩ := h.bits (i := i) (by omega) (j := rd (bitsOf (rd L (i : Int))) (q : Int)) (by rw [rd_lt _ q (by omega)]; exact List.getElem_mem _)
    have fi := rel_set (p := freeP L) (n := L.length) (i := i) (by omega) (by omega)
    have fb := rel_set (p := freeP L) (n := L.length) (i := b) (by omega) (by omega)
    have ha := set_and fi fb
    have g1 := rel_get (freeP L) L.length i (by omega)
    have g2 := rel_get (freeP L) L.length b (by omega)
    by_cases hz : Go.bits .and .i64 (rd (rel (freeP L) L.length) (i : Int)) (rd (rel (freeP L) L.length) (b : Int)) = 0
    ·obtain ⟨x, h1, h2, h3, h4⟩ := ihc (q + 1) (by omega)
     refine ⟨x, Ev.shift ?_, Ev.shift ?_, h3, fun e => ⟨fun c' k1 k2 => ?_, (h4 e).2⟩⟩
     rotate_left 2
     ·by_cases ec : c' = q
      ·subst ec; unfold nearZ; rw [hb]; exact hz
      ·exact (h4 e).1 c' (by omega) k2
     ·simp only [impl_Order_twoOne.l1]
      rw [hb]
      refine Ev.pos (by omega) (Ev.pos (by omega) (Ev.pos (by omega) (Ev.pos (by omega) (Ev.pos (by rw [rel_length]; omega) (Ev.pos (by omega) (Ev.pos (by rw [rel_length]; omega) (Ev.pos hz ?_)))))))
      rw [wrap64_id (by omega) (by omega), cast1]
      exact h1
     ·simp only [spec_TwoOneOf.l1]
      rw [hb]
      refine Ev.pos (by omega) (Ev.pos (by omega) (Ev.pos (by omega) (Ev.bind (free_ev h (by omega)) (Ev.bind (free_ev h hbl2) ?_))))
      rw [← g1, ← g2]
      refine Ev.bind (orList_ev ha.1.1 ha.1.2) (Ev.shift ?_)
      rw [(bitsOf_nil ha.1).2 hz]
      simp only [spec_TwoOneOf.l2]
      refine Ev.neg (by simp) ?_
      rw [wrap64_id (by omega) (by omega), cast1]
      exact h2
    ·have hne : bitsOf (Go.bits .and .i64 (rd (rel (freeP L) L.length) (i : Int)) (rd (rel (freeP L) L.length) (b : Int))) ≠ [] := fun e => hz ((bitsOf_nil ha.1).1 e)
     have hpos : 0 < (bitsOf (Go.bits .and .i64 (rd (rel (freeP L) L.length) (i : Int)) (rd (rel (freeP L) L.length) (b : Int)))).length := List.length_pos_iff.2 hne
     refine ⟨[(i : Int), (b : Int), rd (bitsOf (Go.bits .and .i64 (rd (rel (freeP L) L.length) (i : Int)) (rd (rel (freeP L) L.length) (b : Int)))) 0], Ev.shift ?_, Ev.shift ?_, by simp, fun e => by cases e⟩
     ·simp only [impl_Order_twoOne.l1]
      rw [hb]
      exact Ev.pos (by omega) (Ev.pos (by omega) (Ev.pos (by omega) (Ev.pos (by omega) (Ev.pos (by rw [rel_length]; omega) (Ev.pos (by omega) (Ev.pos (by rw [rel_length]; omega) (Ev.neg hz (Ev.bind (members_ev ha.1.1 ha.1.2) (Ev.pos (by omega) (Ev.ret rfl))))))))))
     ·simp only [spec_TwoOneOf.l1]
      rw [hb]
      refine Ev.pos (by omega) (Ev.pos (by omega) (Ev.pos (by omega) (Ev.bind (free_ev h (by omega)) (Ev.bind (free_ev h hbl2) ?_))))
      rw [← g1, ← g2]
      refine Ev.bind (orList_ev ha.1.1 ha.1.2) (Ev.shift ?_)
      simp only [spec_TwoOneOf.l2]
      exact Ev.pos (by omega) (Ev.pos (by omega) (Ev.pos (by omega) (Ev.ret rfl)))
  obtain ⟨x, h1, h2, h3, h4⟩ := inner _ 0 (Nat.zero_add _)
  refine ⟨x, Ev.shift ?_, Ev.shift ?_, h3, fun e a k1 k2 b kb => ?_⟩
  rotate_left 2
  ·by_cases ea : a = i
   ·subst ea
    obtain ⟨c', hc', rfl⟩ := List.mem_iff_getElem.1 kb
    have := (h4 e).1 c' (Nat.zero_le _) hc'
    rwa [rd_lt _ c' hc'] at this
   ·exact (h4 e).2 a (by omega) k2 b kb
  ·simp only [impl_Order_twoOne.l0]
   exact Ev.pos (by omega) (Ev.pos (by omega) (Ev.pos (by omega) (Ev.bind (members_ev hs.1 hs.2) h1)))
  ·simp only [spec_TwoOneOf.l0]
   exact Ev.pos (by omega) (Ev.pos (by omega) (Ev.pos (by omega) (Ev.bind (orList_ev hs.1 hs.2) h2)))
theorem twoOne_more {n : Int} {L : List Int} (h : orderP n L) : ∃ x, Ev (fun k => impl_Order_twoOne.f k n L) x ∧ Ev (fun k => spec_TwoOneOf.f k n L) (x, x != []) ∧ x.length ≤ 3 ∧ (x = [] → ∀ a : Nat, 0 ≤ a → a < L.length → ∀ b ∈ bitsOf (rd L (a : Int)), nearZ L a b) := by
 have e1 := h.1.2.1
 have e3 := h.1.1
 obtain ⟨x, h1, h2, h3⟩ := twoOne_l h.1 L.length 0 (by omega)
 refine ⟨x, ?_, ?_, h3⟩
 ·unfold impl_Order_twoOne.f
  exact Ev.bind (near_ev h.1) h1
 ·unfold spec_TwoOneOf.f
  exact Ev.bind (orGood_ev n L (by omega)) (Ev.pos (by simpa using h) h2)
theorem twoOne_both {n : Int} {L : List Int} (h : orderP n L) : ∃ x, Ev (fun k => impl_Order_twoOne.f k n L) x ∧ Ev (fun k => spec_TwoOneOf.f k n L) (x, x != []) ∧ x.length ≤ 3 := by
 obtain ⟨x, h1, h2, h3, _⟩ := twoOne_more h
 exact ⟨x, h1, h2, h3⟩
theorem no21_of {n : Int} {L : List Int} (h : orderP n L) (hz : ∀ a : Nat, 0 ≤ a → a < L.length → ∀ b ∈ bitsOf (rd L (a : Int)), nearZ L a b) : No21 L.length (lt L) := by
 have h10 : L.length ≤ 10 := by have := h.1.1; have := h.1.2.1; omega
 intro a b c ha hb hc hab h1 h2 h3 h4 h5 h6
 have hn := hz a (Nat.zero_le _) ha (b : Int) (mem_bitsOf.2 ⟨b, by omega, hab, rfl⟩)
 unfold nearZ at hn
 have fa := rel_set (p := freeP L) (n := L.length) (i := a) h10 ha
 have fb := rel_set (p := freeP L) (n := L.length) (i := b) h10 hb
 have hab2 := set_and fa fb
 rw [set_eq_zero hab2.1] at hn
 have := hn c (by omega)
 rw [hab2.2] at this
 have e1 := rel_lt (p := freeP L) h10 ha c
 have e2 := rel_lt (p := freeP L) h10 hb c
 unfold lt at e1 e2
 rw [e1, e2] at this
 simp [freeP, hc, h1, h2, h3, h4, h5, h6] at this
end Go.Proofs.YtgbdjchdfcodcaaGreatDoor.Pure
