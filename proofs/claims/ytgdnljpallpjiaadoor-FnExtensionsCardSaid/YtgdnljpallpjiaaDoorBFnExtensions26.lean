import Derived.Test.YtgdnljpallpjiaaDoorBFnExtensions13
import Derived.Test.YtgdnljpallpjiaaDoorBFnExtensions25
namespace Go.Proofs.YtgdnljpallpjiaaDoor.Pure
open Go.RowKit Go.Proofs.YtgdnljpallpjiaaDoor.Q Go.Proofs.YtgdnljpallpjiaaDoorW.PrintWords Go.Proofs.YtgdnljpallpjiaaDoorW.PrintLast
set_option linter.unusedVariables false
set_option linter.unusedSimpArgs false
-- two orders beside or above each other
def tg (b : Bool) (L M : List Int) (i j : Nat) : Bool :=
 if i < L.length ∧ j < L.length then lt L i j else if L.length ≤ i ∧ L.length ≤ j then lt M (i - L.length) (j - L.length) else b && decide (i < L.length)
def tgR (b : Bool) (L M : List Int) : List Int := rel (tg b L M) (L.length + M.length)
theorem tgR_length (b : Bool) (L M : List Int) : (tgR b L M).length = L.length + M.length := rel_length _ _
theorem tgR_lt {b : Bool} {L M : List Int} (h10 : L.length + M.length ≤ 10) {i j : Nat} (hi : i < L.length + M.length) (hj : j < L.length + M.length) : lt (tgR b L M) i j = tg b L M i j := by
 unfold tgR; rw [rel_lt h10 hi]; simp [hj]
theorem tgR_relP {b : Bool} {L M : List Int} (h10 : L.length + M.length ≤ 10) : relP ((L.length + M.length : Nat) : Int) (tgR b L M) := rel_relP rfl h10 _
theorem tgR_order {b : Bool} {n m : Int} {L M : List Int} (h1 : orderP n L) (h2 : orderP m M) (h10 : L.length + M.length ≤ 10) : orderP ((L.length + M.length : Nat) : Int) (tgR b L M) := by
 refine orderP_of (tgR_relP h10) (fun i hi => ?_) (fun i j q hi hj e1 e2 => ?_)
 ·rw [tgR_length] at hi
  rw [tgR_lt h10 hi hi]
  unfold tg
  by_cases h : i < L.length
  ·rw [if_pos ⟨h, h⟩]; exact h1.irr h
  ·rw [if_neg (by omega), if_pos (by omega)]; exact h2.irr (by omega)
 ·have hq := (tgR_relP h10).lt_len hj e2
  rw [tgR_length] at hi hj hq
  rw [tgR_lt h10 hi hj] at e1
  rw [tgR_lt h10 hj hq] at e2
  rw [tgR_lt h10 hi hq]
  unfold tg at e1 e2 ⊢
  by_cases a : i < L.length
  ·by_cases c : j < L.length
   ·rw [if_pos ⟨a, c⟩] at e1
    by_cases d : q < L.length
    ·rw [if_pos ⟨c, d⟩] at e2
     rw [if_pos ⟨a, d⟩]; exact h1.trans a e1 e2
    ·rw [if_neg (by omega), if_neg (by omega)] at e2 ⊢
     simpa [a, c] using e2
   ·rw [if_neg (by omega), if_neg (by omega)] at e1
    by_cases d : q < L.length
    ·rw [if_neg (by omega), if_neg (by omega)] at e2
     simp [c] at e2
    ·rw [if_neg (by omega), if_neg (by omega)]; exact e1
  ·by_cases c : j < L.length
   ·rw [if_neg (by omega), if_neg (by omega)] at e1
    simp [a] at e1
   ·rw [if_neg (by omega), if_pos (by omega)] at e1
    by_cases d : q < L.length
    ·rw [if_neg (by omega), if_neg (by omega)] at e2
     simp [c] at e2
    ·rw [if_neg (by omega), if_pos (by omega)] at e2 ⊢
     exact h2.trans (by omega) e1 e2
theorem together_1 {n m : Int} {L M : List Int} (b : Bool) (h1 : orderP n L) (h2 : orderP m M) (h10 : L.length + M.length ≤ 10) {i j : Nat} (hi : i < L.length + M.length) (hj : j < L.length + M.length) : Ev (fun k => impl_together_1.f k (i : Int) (j : Int) n L m M b) (tg b L M i j) := by
 have e1 := h1.1.2.1; have e2 := h2.1.2.1; have p1 := h1.1.1; have p2 := h2.1.1
 unfold impl_together_1.f
 by_cases a : i < L.length
 ·refine Ev.pos (by omega) (Ev.shift ?_)
  simp only [impl_together_1.j0]
  by_cases c : j < L.length
  ·have e : tg b L M i j = lt L i j := by unfold tg; rw [if_pos ⟨a, c⟩]
   exact Ev.pos (by simp; omega) (Ev.bindc (better_f n L a (h1.1.set a) (by omega)) (Ev.ret e.symm))
  ·have e : tg b L M i j = (b && decide (i < L.length)) := by unfold tg; rw [if_neg (by omega), if_neg (by omega)]
   rw [e]
   refine Ev.neg (by simp; omega) (Ev.neg (by omega) ?_)
   cases b
   ·exact Ev.neg (by simp) (Ev.ret (by simp))
   ·exact Ev.pos rfl (Ev.ret (by simp; omega))
 ·refine Ev.neg (by omega) (Ev.shift ?_)
  simp only [impl_together_1.j0]
  refine Ev.neg (by simp) (Ev.pos (by omega) ?_)
  by_cases c : j < L.length
  ·have e : tg b L M i j = (b && decide (i < L.length)) := by unfold tg; rw [if_neg (by omega), if_neg (by omega)]
   rw [e]
   refine Ev.neg (by omega) ?_
   cases b
   ·exact Ev.neg (by simp) (Ev.ret (by simp))
   ·exact Ev.pos rfl (Ev.ret (by simp; omega))
  ·have e : tg b L M i j = lt M (i - L.length) (j - L.length) := by unfold tg; rw [if_neg (by omega), if_pos (by omega)]
   rw [e]
   refine Ev.pos (by omega) ?_
   rw [wrap64_id (x := (i : Int) - n) (by omega) (by omega), wrap64_id (x := (j : Int) - n) (by omega) (by omega), show (i : Int) - n = ((i - L.length : Nat) : Int) by omega, show (j : Int) - n = ((j - L.length : Nat) : Int) by omega]
   exact Ev.bindc (better_f m M (by omega) (h2.1.set (by omega)) (by omega)) (Ev.ret rfl)
theorem together_ev {n m : Int} {L M : List Int} (b : Bool) (h1 : orderP n L) (h2 : orderP m M) (h10 : L.length + M.length ≤ 10) : Ev (fun k => impl_together.f k n L m M b) (((L.length + M.length : Nat) : Int), tgR b L M, true) := by
 have e1 := h1.1.2.1; have e2 := h2.1.2.1; have p1 := h1.1.1; have p2 := h2.1.1
 have es : wrap64 (n + m) = ((L.length + M.length : Nat) : Int) := by rw [wrap64_id (by omega) (by omega)]; omega
 have hrel := relation_ev (tg b L M) (L.length + M.length) (by omega) (fun k u0_ u1_ => impl_together_1.f k u0_ u1_ n L m M b) (fun i j hi hj => together_1 b h1 h2 h10 hi hj)
 unfold impl_together.f
 rw [es]
 exact Ev.bind (isOrder_ev n L (by omega)) (Ev.pos (by simpa using h1) (Ev.bind (isOrder_ev m M (by omega)) (Ev.pos (by simpa using h2) (Ev.neg (by omega) (Ev.bind hrel (Ev.ret rfl))))))
theorem together_no {n m : Int} {L M : List Int} (b : Bool) (hL : L.length ≤ 1048576) (hM : M.length ≤ 1048576) (h : ¬ (orderP n L ∧ orderP m M ∧ L.length + M.length ≤ 10)) : Ev (fun k => impl_together.f k n L m M b) (0, [], false) := by
 unfold impl_together.f
 refine Ev.bind (isOrder_ev n L hL) ?_
 by_cases h1 : orderP n L
 ·refine Ev.pos (by simpa using h1) (Ev.bind (isOrder_ev m M hM) ?_)
  by_cases h2 : orderP m M
  ·have e1 := h1.1.2.1; have e2 := h2.1.2.1; have p1 := h1.1.1; have p2 := h2.1.1
   refine Ev.pos (by simpa using h2) (Ev.pos ?_ (Ev.ret rfl))
   rw [wrap64_id (by omega) (by omega)]
   have : ¬ L.length + M.length ≤ 10 := fun hx => h ⟨h1, h2, hx⟩
   omega
  ·exact Ev.neg (by simpa using h2) (Ev.ret rfl)
 ·exact Ev.neg (by simpa using h1) (Ev.ret rfl)
-- the reference's two orders beside or above each other
theorem shl_mul : ∀ x : Fin 1024, ∀ n : Fin 11, shl .i64 (x.val : Int) (n.val : Int) = ((x.val * 2 ^ n.val : Nat) : Int) := by decide +kernel
theorem shl_set {x : Int} (hx : setP x) {n m : Nat} (hnm : n + m ≤ 10) (hb : ∀ j, bit x j = true → j < m) : setP (shl .i64 x (n : Int)) ∧ ∀ j, bit (shl .i64 x (n : Int)) j = (decide (n ≤ j) && bit x (j - n)) := by
 obtain ⟨a, rfl, ha⟩ := hx.nat
 have es : shl .i64 (a : Int) (n : Int) = ((a * 2 ^ n : Nat) : Int) := shl_mul ⟨a, ha⟩ ⟨n, by omega⟩
 rw [es]
 have hlt : a < 2 ^ m := by
  refine Nat.lt_pow_two_of_testBit a fun q hq => ?_
  cases hc : a.testBit q
  ·rfl
  ·have := hb q (by rw [bit_nat]; exact hc)
   omega
 have h2 : a * 2 ^ n < 2 ^ 10 := by
  have h3 : a * 2 ^ n < 2 ^ m * 2 ^ n := Nat.mul_lt_mul_of_pos_right hlt (Nat.two_pow_pos n)
  rw [← Nat.pow_add] at h3
  exact Nat.lt_of_lt_of_le h3 (Nat.pow_le_pow_right (by omega) (by omega))
 refine ⟨⟨by omega, by omega⟩, fun j => ?_⟩
 rw [bit_nat, bit_nat, ← Nat.shiftLeft_eq, Nat.testBit_shiftLeft]
def moreV (b : Bool) (L M : List Int) : Int := if b then shl .i64 (full (M.length : Int)) (L.length : Int) else 0
theorem more_bits (b : Bool) {L M : List Int} (h10 : L.length + M.length ≤ 10) : setP (moreV b L M) ∧ ∀ j, bit (moreV b L M) j = (b && decide (L.length ≤ j) && decide (j < L.length + M.length)) := by
 unfold moreV
 cases b
 ·exact ⟨set_zero, fun j => by simp [bit_zero]⟩
 ·have hf := set_full (n := M.length) (by omega)
  have hs := shl_set (n := L.length) hf.1 h10 (fun j hj => by rw [hf.2] at hj; simpa using hj)
  refine ⟨by simpa using hs.1, fun j => ?_⟩
  rw [if_pos rfl, hs.2, hf.2]
  by_cases h : L.length ≤ j
  ·have : (j - L.length < M.length) ↔ (j < L.length + M.length) := by omega
   simp [h, this]
  ·simp [h]
theorem row_low (b : Bool) {n m : Int} {L M : List Int} (h1 : orderP n L) (h2 : orderP m M) (h10 : L.length + M.length ≤ 10) {i : Nat} (hi : i < L.length) : Go.bits .or .i64 (rd L (i : Int)) (moreV b L M) = rd (tgR b L M) (i : Int) := by
 have hm := more_bits b (L := L) (M := M) h10
 have ho := set_or (h1.1.set hi) hm.1
 refine set_ext ho.1 ((tgR_relP h10).set (by rw [tgR_length]; omega)) fun j _ => ?_
 rw [ho.2, hm.2]
 by_cases hj : j < L.length + M.length
 ·rw [show bit (rd (tgR b L M) (i : Int)) j = tg b L M i j from tgR_lt h10 (by omega) hj]
  unfold tg
  by_cases c : j < L.length
  ·rw [if_pos ⟨hi, c⟩]
   have : ¬ L.length ≤ j := by omega
   simp [this]; rfl
  ·rw [if_neg (by omega), if_neg (by omega)]
   have e : bit (rd L (i : Int)) j = false := by
    cases hb : bit (rd L (i : Int)) j
    ·rfl
    ·have := h1.1.lt_len hi hb; omega
   have c2 : L.length ≤ j := by omega
   rw [e]; simp [c2, hj, hi]
 ·have e : bit (rd L (i : Int)) j = false := by
   cases hb : bit (rd L (i : Int)) j
   ·rfl
   ·have := h1.1.lt_len hi hb; omega
  have e2 : bit (rd (tgR b L M) (i : Int)) j = false := by
   cases hb : bit (rd (tgR b L M) (i : Int)) j
   ·rfl
   ·have := (tgR_relP h10).lt_len (by rw [tgR_length]; omega) hb; rw [tgR_length] at this; omega
  rw [e, e2]; simp [hj]
theorem row_high (b : Bool) {n m : Int} {L M : List Int} (h1 : orderP n L) (h2 : orderP m M) (h10 : L.length + M.length ≤ 10) {i : Nat} (hi : i < M.length) : shl .i64 (rd M (i : Int)) (L.length : Int) = rd (tgR b L M) ((L.length + i : Nat) : Int) := by
 have hs := shl_set (n := L.length) (m := M.length) (h2.1.set hi) h10 (fun j hj => h2.1.lt_len hi hj)
 refine set_ext hs.1 ((tgR_relP h10).set (by rw [tgR_length]; omega)) fun j _ => ?_
 rw [hs.2]
 by_cases hj : j < L.length + M.length
 ·rw [show bit (rd (tgR b L M) ((L.length + i : Nat) : Int)) j = tg b L M (L.length + i) j from tgR_lt h10 (by omega) hj]
  unfold tg
  by_cases c : j < L.length
  ·rw [if_neg (by omega), if_neg (by omega)]
   have : ¬ L.length ≤ j := by omega
   simp [this]
  ·rw [if_neg (by omega), if_pos (by omega)]
   have c2 : L.length ≤ j := by omega
   simp [c2]; rfl
 ·have e2 : bit (rd (tgR b L M) ((L.length + i : Nat) : Int)) j = false := by
   cases hb : bit (rd (tgR b L M) ((L.length + i : Nat) : Int)) j
   ·rfl
   ·have := (tgR_relP h10).lt_len (by rw [tgR_length]; omega) hb; rw [tgR_length] at this; omega
  rw [e2]
  cases hb : bit (rd M (i : Int)) (j - L.length)
  ·simp
  ·have := h2.1.lt_len hi hb; omega
theorem stog_l1 (b : Bool) {n m : Int} {L M : List Int} (h1 : orderP n L) (h2 : orderP m M) (h10 : L.length + M.length ≤ 10) (d : Nat) : ∀ i : Nat, i + d = M.length → Ev (fun k => spec_orTogether.l1 k M (M.length : Int) (i : Int) n L ((L.length + M.length : Nat) : Int) ((tgR b L M).take (L.length + i))) (((L.length + M.length : Nat) : Int), tgR b L M) := by
 have e1 := h1.1.2.1; have p1 := h1.1.1
 induction d with
 | zero =>
  intro i hi
  refine Ev.shift ?_
  simp only [spec_orTogether.l1]
  exact Ev.neg (by omega) (Ev.ret (by rw [List.take_of_length_le (by rw [tgR_length]; omega)]))
 | succ d ih =>
  intro i hi
  have e := ih (i + 1) (by omega)
  rw [show L.length + (i + 1) = (L.length + i) + 1 from rfl, List.take_succ_eq_append_getElem (by rw [tgR_length]; omega), ← rd_lt _ (L.length + i) (by rw [tgR_length]; omega), ← row_high b h1 h2 h10 (by omega)] at e
  refine Ev.shift ?_
  simp only [spec_orTogether.l1]
  refine Ev.pos (by omega) (Ev.pos (by omega) (Ev.pos (by omega) (Ev.pos (by omega) (Ev.pos (by rw [List.length_take, tgR_length]; omega) ?_))))
  have en : shl .i64 (rd M (i : Int)) n = shl .i64 (rd M (i : Int)) (L.length : Int) := by rw [e1]
  rw [wrap64_id (by omega) (by omega), cast1, en]; exact e
theorem stog_l0 (b : Bool) {n m : Int} {L M : List Int} (h1 : orderP n L) (h2 : orderP m M) (h10 : L.length + M.length ≤ 10) (d : Nat) : ∀ i : Nat, i + d = L.length → Ev (fun k => spec_orTogether.l0 k (moreV b L M) L (L.length : Int) (i : Int) n L m M ((L.length + M.length : Nat) : Int) ((tgR b L M).take i)) (((L.length + M.length : Nat) : Int), tgR b L M) := by
 induction d with
 | zero =>
  intro i hi
  obtain rfl : i = L.length := by omega
  refine Ev.shift ?_
  simp only [spec_orTogether.l0]
  exact Ev.neg (by omega) (stog_l1 b h1 h2 h10 M.length 0 (by omega))
 | succ d ih =>
  intro i hi
  have e := ih (i + 1) (by omega)
  rw [List.take_succ_eq_append_getElem (by rw [tgR_length]; omega), ← rd_lt _ i (by rw [tgR_length]; omega), ← row_low b h1 h2 h10 (by omega)] at e
  refine Ev.shift ?_
  simp only [spec_orTogether.l0]
  refine Ev.pos (by omega) (Ev.pos (by omega) (Ev.pos (by omega) (Ev.pos (by rw [List.length_take, tgR_length]; omega) ?_)))
  rw [wrap64_id (by omega) (by omega), cast1]; exact e
theorem orTogether_ev (b : Bool) {n m : Int} {L M : List Int} (h1 : orderP n L) (h2 : orderP m M) (h10 : L.length + M.length ≤ 10) : Ev (fun k => spec_orTogether.f k n L m M (moreV b L M)) (((L.length + M.length : Nat) : Int), tgR b L M) := by
 have e1 := h1.1.2.1; have e2 := h2.1.2.1; have p1 := h1.1.1; have p2 := h2.1.1
 have es : wrap64 (n + m) = ((L.length + M.length : Nat) : Int) := by rw [wrap64_id (by omega) (by omega)]; omega
 unfold spec_orTogether.f
 rw [es]
 exact stog_l0 b h1 h2 h10 L.length 0 (by omega)
theorem sBeside_ev {n m : Int} {L M : List Int} (h1 : orderP n L) (h2 : orderP m M) (h10 : L.length + M.length ≤ 10) : Ev (fun k => spec_BesideOrders.f k n L m M) (((L.length + M.length : Nat) : Int), tgR false L M, true) := by
 have e1 := h1.1.2.1; have e2 := h2.1.2.1; have p1 := h1.1.1; have p2 := h2.1.1
 unfold spec_BesideOrders.f
 rw [wrap64_id (by omega) (by omega)]
 exact Ev.bind (orGood_ev n L (by omega)) (Ev.pos (by simpa using h1) (Ev.bind (orGood_ev m M (by omega)) (Ev.pos (by simpa using h2) (Ev.neg (by omega) (Ev.bind (orTogether_ev false h1 h2 h10) (Ev.ret rfl))))))
theorem sStack_ev {n m : Int} {L M : List Int} (h1 : orderP n L) (h2 : orderP m M) (h10 : L.length + M.length ≤ 10) : Ev (fun k => spec_StackOrders.f k n L m M) (((L.length + M.length : Nat) : Int), tgR true L M, true) := by
 have e1 := h1.1.2.1; have e2 := h2.1.2.1; have p1 := h1.1.1; have p2 := h2.1.1
 have em : shl .i64 (wrap64 (shl .i64 1 m - 1)) n = moreV true L M := by rw [← e1, ← e2]; rfl
 unfold spec_StackOrders.f
 rw [em, wrap64_id (by omega) (by omega)]
 exact Ev.bind (orGood_ev n L (by omega)) (Ev.pos (by simpa using h1) (Ev.bind (orGood_ev m M (by omega)) (Ev.pos (by simpa using h2) (Ev.neg (by omega) (Ev.pos (by omega) (Ev.pos (by omega) (Ev.bind (orTogether_ev true h1 h2 h10) (Ev.ret rfl))))))))
theorem sTog_no {n m : Int} {L M : List Int} (hL : L.length ≤ 1048576) (hM : M.length ≤ 1048576) (h : ¬ (orderP n L ∧ orderP m M ∧ L.length + M.length ≤ 10)) : Ev (fun k => spec_BesideOrders.f k n L m M) (0, [], false) ∧ Ev (fun k => spec_StackOrders.f k n L m M) (0, [], false) := by
 unfold spec_BesideOrders.f spec_StackOrders.f
 by_cases h1 : orderP n L
 ·by_cases h2 : orderP m M
  ·have e1 := h1.1.2.1; have e2 := h2.1.2.1; have p1 := h1.1.1; have p2 := h2.1.1
   have hx : wrap64 (n + m) > 10 := by
    rw [wrap64_id (by omega) (by omega)]
    have : ¬ L.length + M.length ≤ 10 := fun hx => h ⟨h1, h2, hx⟩
    omega
   exact ⟨Ev.bind (orGood_ev n L hL) (Ev.pos (by simpa using h1) (Ev.bind (orGood_ev m M hM) (Ev.pos (by simpa using h2) (Ev.pos hx (Ev.ret rfl))))), Ev.bind (orGood_ev n L hL) (Ev.pos (by simpa using h1) (Ev.bind (orGood_ev m M hM) (Ev.pos (by simpa using h2) (Ev.pos hx (Ev.ret rfl)))))⟩
  ·exact ⟨Ev.bind (orGood_ev n L hL) (Ev.pos (by simpa using h1) (Ev.bind (orGood_ev m M hM) (Ev.neg (by simpa using h2) (Ev.ret rfl)))), Ev.bind (orGood_ev n L hL) (Ev.pos (by simpa using h1) (Ev.bind (orGood_ev m M hM) (Ev.neg (by simpa using h2) (Ev.ret rfl))))⟩
 ·exact ⟨Ev.bind (orGood_ev n L hL) (Ev.neg (by simpa using h1) (Ev.ret rfl)), Ev.bind (orGood_ev n L hL) (Ev.neg (by simpa using h1) (Ev.ret rfl))⟩
end Go.Proofs.YtgdnljpallpjiaaDoor.Pure
namespace Go.Proofs.YtgdnljpallpjiaaDoor.Pure
set_option linter.unusedVariables false
set_option linter.unusedSimpArgs false
-- plain
/-- sums over the numbers below n -/
def sumR : Nat → (Nat → Nat) → Nat
 | 0, _ => 0
 | n + 1, f => sumR n f + f n
theorem sumR_congr {n : Nat} {f g : Nat → Nat} (h : ∀ i, i < n → f i = g i) : sumR n f = sumR n g := by
 induction n with
 | zero => rfl
 | succ n ih => rw [sumR, sumR, ih (fun i hi => h i (by omega)), h n (by omega)]
theorem sumR_zero {n : Nat} {f : Nat → Nat} (h : ∀ i, i < n → f i = 0) : sumR n f = 0 := by
 induction n with
 | zero => rfl
 | succ n ih => rw [sumR, ih (fun i hi => h i (by omega)), h n (by omega)]
theorem sumR_mul (c : Nat) (n : Nat) (f : Nat → Nat) : sumR n (fun i => c * f i) = c * sumR n f := by
 induction n with
 | zero => rfl
 | succ n ih => rw [sumR, sumR, ih, Nat.mul_add]
theorem sumR_split (n m : Nat) (f : Nat → Nat) : sumR (n + m) f = sumR n f + sumR m (fun j => f (n + j)) := by
 induction m with
 | zero => rfl
 | succ m ih => rw [Nat.add_succ, sumR, ih, sumR, Nat.add_assoc]
theorem sumR_at {n : Nat} {f g : Nat → Nat} {i d : Nat} (hi : i < n) (h : g i = f i + d) (ho : ∀ j, j < n → j ≠ i → g j = f j) : sumR n g = sumR n f + d := by
 induction n with
 | zero => omega
 | succ n ih =>
  rw [sumR, sumR]
  by_cases e : i = n
  ·subst e
   rw [sumR_congr (fun j hj => ho j (by omega) (by omega)), h]; omega
  ·rw [ih (by omega) (fun j hj hne => ho j (by omega) hne), ho n (by omega) (by omega)]; omega
theorem sumR_le {n : Nat} {f : Nat → Nat} {b : Nat} (h : ∀ i, i < n → f i ≤ b) : sumR n f ≤ n * b := by
 induction n with
 | zero => simp [sumR]
 | succ n ih =>
  have h1 := ih (fun i hi => h i (by omega))
  have h2 := h n (by omega)
  rw [sumR, Nat.succ_mul]; omega
theorem le_sumR {n : Nat} {f : Nat → Nat} {i : Nat} (hi : i < n) : f i ≤ sumR n f := by
 induction n with
 | zero => omega
 | succ n ih =>
  rw [sumR]
  by_cases e : i = n
  ·subst e; omega
  ·have := ih (by omega); omega
/-- how many elements a set has -/
def pc (N s : Nat) : Nat := sumR N fun j => if s.testBit j then 1 else 0
def flip (s j : Nat) : Nat := s ^^^ 2 ^ j
theorem bit_flip (s j k : Nat) : (flip s j).testBit k = (s.testBit k ^^ decide (j = k)) := by
 unfold flip; rw [Nat.testBit_xor, Nat.testBit_two_pow]
theorem pc_flip {N s j : Nat} (hj : j < N) (hb : s.testBit j = true) : pc N s = pc N (flip s j) + 1 := by
 unfold pc
 refine sumR_at hj ?_ (fun k _ hk => ?_)
 ·rw [bit_flip, hb]; simp
 ·rw [bit_flip]; simp [Ne.symm hk]
theorem pc_zero {N s : Nat} (h : pc N s = 0) {j : Nat} (hj : j < N) : s.testBit j = false := by
 cases hb : s.testBit j
 ·rfl
 ·have := pc_flip hj hb; omega
theorem pc_le (N s : Nat) : pc N s ≤ N := by
 have := sumR_le (n := N) (f := fun j => if s.testBit j then 1 else 0) (b := 1) (fun i _ => by split <;> omega)
 unfold pc; omega
/-- the ways to come to a set by one element after the other; c T i: i may come behind T -/
def wF (N : Nat) (c : Nat → Nat → Bool) : Nat → Nat → Nat
 | 0, _ => 1
 | f + 1, s => sumR N fun i => if s.testBit i && c (flip s i) i then wF N c f (flip s i) else 0
def wS (N : Nat) (c : Nat → Nat → Bool) (s : Nat) : Nat := wF N c (pc N s) s
theorem wS_zero {N : Nat} {c : Nat → Nat → Bool} {s : Nat} (h : pc N s = 0) : wS N c s = 1 := by unfold wS; rw [h]; rfl
theorem wS_step {N : Nat} {c : Nat → Nat → Bool} {s : Nat} (h : 0 < pc N s) : wS N c s = sumR N fun i => if s.testBit i && c (flip s i) i then wS N c (flip s i) else 0 := by
 obtain ⟨f, hf⟩ : ∃ f, pc N s = f + 1 := ⟨pc N s - 1, by omega⟩
 unfold wS
 rw [hf, wF]
 refine sumR_congr fun i hi => ?_
 by_cases hb : s.testBit i = true
 ·have := pc_flip hi hb
  have e : pc N (flip s i) = f := by omega
  rw [e]
 ·simp [hb]
theorem wS_le {N : Nat} {c : Nat → Nat → Bool} (hN : N ≤ 10) : ∀ f s, pc N s = f → wS N c s ≤ 10 ^ f := by
 intro f
 induction f with
 | zero => intro s h; rw [wS_zero h]; exact Nat.le_refl _
 | succ f ih =>
  intro s h
  rw [wS_step (by omega)]
  have := sumR_le (n := N) (f := fun i => if s.testBit i && c (flip s i) i then wS N c (flip s i) else 0) (b := 10 ^ f) (fun i hi => by
   by_cases hb : s.testBit i = true
   ·have h2 := pc_flip hi hb
    split
    ·exact ih _ (by omega)
    ·exact Nat.zero_le _
   ·simp [hb])
  refine Nat.le_trans this ?_
  rw [Nat.pow_succ, Nat.mul_comm]
  exact Nat.mul_le_mul_left _ hN
/-- lists of a ones and b zeros -/
def ch : Nat → Nat → Nat
 | 0, _ => 1
 | a + 1, b => sumR (b + 1) (ch a)
theorem ch_zero (a : Nat) : ch a 0 = 1 := by
 induction a with
 | zero => rfl
 | succ a ih => rw [ch, sumR, sumR, ih]
theorem ch_zero' (b : Nat) : ch 0 b = 1 := rfl
theorem ch_step (a b : Nat) : ch (a + 1) (b + 1) = ch a (b + 1) + ch (a + 1) b := by rw [ch, sumR, ch, Nat.add_comm]
theorem bit_low (s n k : Nat) (h : k < n) : (s % 2 ^ n).testBit k = s.testBit k := by rw [Nat.testBit_mod_two_pow]; simp [h]
theorem bit_high (s n k : Nat) : (s / 2 ^ n).testBit k = s.testBit (n + k) := by rw [Nat.testBit_div_two_pow, Nat.add_comm]
theorem flip_low {s n i : Nat} (h : i < n) : flip s i % 2 ^ n = flip (s % 2 ^ n) i ∧ flip s i / 2 ^ n = s / 2 ^ n := by
 constructor
 ·apply Nat.eq_of_testBit_eq
  intro k
  rw [bit_flip, Nat.testBit_mod_two_pow, bit_flip, Nat.testBit_mod_two_pow]
  by_cases hk : k < n
  ·simp [hk]
  ·have : ¬ i = k := by omega
   simp [hk, this]
 ·apply Nat.eq_of_testBit_eq
  intro k
  rw [bit_high, bit_flip, bit_high]
  have : ¬ i = n + k := by omega
  simp [this]
theorem flip_high {s n j : Nat} : flip s (n + j) % 2 ^ n = s % 2 ^ n ∧ flip s (n + j) / 2 ^ n = flip (s / 2 ^ n) j := by
 constructor
 ·apply Nat.eq_of_testBit_eq
  intro k
  rw [Nat.testBit_mod_two_pow, bit_flip, Nat.testBit_mod_two_pow]
  by_cases hk : k < n
  ·have : ¬ n + j = k := by omega
   simp [this]
  ·simp [hk]
 ·apply Nat.eq_of_testBit_eq
  intro k
  rw [bit_high, bit_flip, bit_flip, bit_high]
  by_cases e : j = k
  ·simp [e]
  ·have : ¬ n + j = n + k := by omega
   simp [e]
theorem pc_two (n m s : Nat) : pc (n + m) s = pc n (s % 2 ^ n) + pc m (s / 2 ^ n) := by
 unfold pc
 rw [sumR_split]
 congr 1
 ·refine sumR_congr fun i hi => ?_
  rw [bit_low s n i hi]
 ·refine sumR_congr fun j _ => ?_
  rw [bit_high]
/-- two orders beside each other -/
theorem wS_beside {n m : Nat} {c c1 c2 : Nat → Nat → Bool} (h1 : ∀ T i, i < n → c T i = c1 (T % 2 ^ n) i) (h2 : ∀ T j, j < m → c T (n + j) = c2 (T / 2 ^ n) j) :
  ∀ f s, pc (n + m) s = f → wS (n + m) c s = ch (pc n (s % 2 ^ n)) (pc m (s / 2 ^ n)) * (wS n c1 (s % 2 ^ n) * wS m c2 (s / 2 ^ n)) := by
 intro f
 induction f with
 | zero =>
  intro s hs
  have := pc_two n m s
  rw [wS_zero hs, wS_zero (by omega), wS_zero (by omega), show pc n (s % 2 ^ n) = 0 by omega, show pc m (s / 2 ^ n) = 0 by omega, ch_zero]
 | succ f ih =>
  intro s hs
  have hp := pc_two n m s
  rw [wS_step (by omega), sumR_split]
  generalize hA : s % 2 ^ n = A at hp ⊢
  generalize hB : s / 2 ^ n = B at hp ⊢
  have e1 : sumR n (fun i => if s.testBit i && c (flip s i) i then wS (n + m) c (flip s i) else 0) = if pc n A = 0 then 0 else ch (pc n A - 1) (pc m B) * (wS n c1 A * wS m c2 B) := by
   split
   ·rename_i h0
    refine sumR_zero fun i hi => ?_
    have : s.testBit i = false := by rw [← bit_low s n i hi, hA]; exact pc_zero h0 hi
    simp [this]
   ·rename_i h0
    rw [wS_step (N := n) (c := c1) (s := A) (by omega), Nat.mul_comm (sumR n _) _, ← Nat.mul_assoc, ← sumR_mul]
    refine sumR_congr fun i hi => ?_
    have hl := flip_low (s := s) hi
    have eb : s.testBit i = A.testBit i := by rw [← hA, bit_low s n i hi]
    rw [h1 _ i hi, hl.1, hA, eb]
    by_cases hb : (A.testBit i && c1 (flip A i) i) = true
    ·rw [if_pos hb, if_pos hb]
     have hb' : A.testBit i = true := by simp at hb; exact hb.1
     have hpc := pc_flip hi hb'
     have hps := pc_flip (N := n + m) (s := s) (j := i) (by omega) (by rw [eb]; exact hb')
     rw [ih (flip s i) (by omega), hl.1, hl.2, hA, hB, show pc n (flip A i) = pc n A - 1 by omega, Nat.mul_comm (wS n c1 (flip A i)) _, Nat.mul_assoc]
    ·rw [if_neg hb, if_neg hb]; rfl
  have e2 : sumR m (fun j => if s.testBit (n + j) && c (flip s (n + j)) (n + j) then wS (n + m) c (flip s (n + j)) else 0) = if pc m B = 0 then 0 else ch (pc n A) (pc m B - 1) * (wS n c1 A * wS m c2 B) := by
   split
   ·rename_i h0
    refine sumR_zero fun j hj => ?_
    have : s.testBit (n + j) = false := by rw [← bit_high, hB]; exact pc_zero h0 hj
    simp [this]
   ·rename_i h0
    rw [wS_step (N := m) (c := c2) (s := B) (by omega), ← Nat.mul_assoc, ← sumR_mul]
    refine sumR_congr fun j hj => ?_
    have hl := flip_high (s := s) (n := n) (j := j)
    have eb : s.testBit (n + j) = B.testBit j := by rw [← hB, bit_high]
    rw [h2 _ j hj, hl.2, hB, eb]
    by_cases hb : (B.testBit j && c2 (flip B j) j) = true
    ·rw [if_pos hb, if_pos hb]
     have hb' : B.testBit j = true := by simp at hb; exact hb.1
     have hpc := pc_flip hj hb'
     have hps := pc_flip (N := n + m) (s := s) (j := n + j) (by omega) (by rw [eb]; exact hb')
     rw [ih (flip s (n + j)) (by omega), hl.1, hl.2, hA, hB, show pc m (flip B j) = pc m B - 1 by omega, Nat.mul_assoc]
    ·rw [if_neg hb, if_neg hb]; rfl
  rw [e1, e2]
  generalize wS n c1 A * wS m c2 B = W
  by_cases ha : pc n A = 0
  ·rw [if_pos ha, ha]
   rw [if_neg (by omega), ch_zero', ch_zero']; omega
  ·rw [if_neg ha]
   by_cases hb : pc m B = 0
   ·rw [if_pos hb, hb, ch_zero, ch_zero]; omega
   ·rw [if_neg hb]
    obtain ⟨a, ea⟩ : ∃ a, pc n A = a + 1 := ⟨pc n A - 1, by omega⟩
    obtain ⟨b, eb⟩ : ∃ b, pc m B = b + 1 := ⟨pc m B - 1, by omega⟩
    rw [ea, eb, ch_step, Nat.add_sub_cancel, Nat.add_sub_cancel, Nat.add_mul]
/-- one order above another one -/
theorem wS_stack {n m : Nat} {c c1 c2 : Nat → Nat → Bool} (h1 : ∀ T i, i < n → c T i = c1 (T % 2 ^ n) i) (h2 : ∀ T j, j < m → c T (n + j) = (decide (T % 2 ^ n = 2 ^ n - 1) && c2 (T / 2 ^ n) j)) :
  ∀ f s, pc (n + m) s = f → wS (n + m) c s = if pc m (s / 2 ^ n) = 0 then wS n c1 (s % 2 ^ n) else if s % 2 ^ n = 2 ^ n - 1 then wS n c1 (s % 2 ^ n) * wS m c2 (s / 2 ^ n) else 0 := by
 intro f
 induction f with
 | zero =>
  intro s hs
  have := pc_two n m s
  rw [wS_zero hs, if_pos (by omega), wS_zero (by omega)]
 | succ f ih =>
  intro s hs
  have hp := pc_two n m s
  rw [wS_step (by omega), sumR_split]
  generalize hA : s % 2 ^ n = A at hp ⊢
  generalize hB : s / 2 ^ n = B at hp ⊢
  have notfull : ∀ i, i < n → flip A i = 2 ^ n - 1 → A.testBit i = true → False := by
   intro i hi he hb
   have := congrArg (fun x => x.testBit i) he
   simp only [bit_flip, hb, Nat.testBit_two_pow_sub_one] at this
   simp [hi] at this
  by_cases hb0 : pc m B = 0
  ·rw [if_pos hb0]
   have e2 : sumR m (fun j => if s.testBit (n + j) && c (flip s (n + j)) (n + j) then wS (n + m) c (flip s (n + j)) else 0) = 0 := by
    refine sumR_zero fun j hj => ?_
    have : s.testBit (n + j) = false := by rw [← bit_high, hB]; exact pc_zero hb0 hj
    simp [this]
   rw [e2, Nat.add_zero, wS_step (N := n) (c := c1) (s := A) (by omega)]
   refine sumR_congr fun i hi => ?_
   have hl := flip_low (s := s) hi
   have eb : s.testBit i = A.testBit i := by rw [← hA, bit_low s n i hi]
   rw [h1 _ i hi, hl.1, hA, eb]
   by_cases hb : (A.testBit i && c1 (flip A i) i) = true
   ·rw [if_pos hb, if_pos hb]
    have hb' : A.testBit i = true := by simp at hb; exact hb.1
    have hps := pc_flip (N := n + m) (s := s) (j := i) (by omega) (by rw [eb]; exact hb')
    rw [ih (flip s i) (by omega), hl.1, hl.2, hA, hB, if_pos hb0]
   ·rw [if_neg hb, if_neg hb]
  ·rw [if_neg hb0]
   have e1 : sumR n (fun i => if s.testBit i && c (flip s i) i then wS (n + m) c (flip s i) else 0) = 0 := by
    refine sumR_zero fun i hi => ?_
    have hl := flip_low (s := s) hi
    have eb : s.testBit i = A.testBit i := by rw [← hA, bit_low s n i hi]
    by_cases hb : s.testBit i = true
    ·have hps := pc_flip (N := n + m) (s := s) (j := i) (by omega) hb
     rw [ih (flip s i) (by omega), hl.1, hl.2, hA, hB, if_neg hb0, if_neg (fun he => notfull i hi he (by rw [← eb]; exact hb))]
     simp
    ·simp [hb]
   rw [e1, Nat.zero_add]
   by_cases hf : A = 2 ^ n - 1
   ·rw [if_pos hf, wS_step (N := m) (c := c2) (s := B) (by omega), ← sumR_mul]
    refine sumR_congr fun j hj => ?_
    have hl := flip_high (s := s) (n := n) (j := j)
    have eb : s.testBit (n + j) = B.testBit j := by rw [← hB, bit_high]
    rw [h2 _ j hj, hl.1, hl.2, hA, hB, eb, decide_eq_true hf, Bool.true_and]
    by_cases hb : (B.testBit j && c2 (flip B j) j) = true
    ·rw [if_pos hb, if_pos hb]
     have hb' : B.testBit j = true := by simp at hb; exact hb.1
     have hps := pc_flip (N := n + m) (s := s) (j := n + j) (by omega) (by rw [eb]; exact hb')
     rw [ih (flip s (n + j)) (by omega), hl.1, hl.2, hA, hB, if_pos hf]
     split
     ·rename_i hz; rw [wS_zero hz, Nat.mul_one]
     ·rfl
    ·rw [if_neg hb, if_neg hb]; rfl
   ·rw [if_neg hf]
    refine sumR_zero fun j hj => ?_
    have hl := flip_high (s := s) (n := n) (j := j)
    rw [h2 _ j hj, hl.1, hA, decide_eq_false hf]
    simp
end Go.Proofs.YtgdnljpallpjiaaDoor.Pure
