import Derived.Test.YtcalgdljcphjaaaDoorBFnStairs13
import Derived.Test.YtcalgdljcphjaaaDoorBFnStairs16
import Derived.Test.YtcalgdljcphjaaaDoorBFnStairs19
namespace Go.Proofs.YtcalgdljcphjaaaDoor.Pure
open Go.RowKit Go.Proofs.YtcalgdljcphjaaaDoor.Q Go.Proofs.YtcalgdljcphjaaaDoorW.PrintWords Go.Proofs.YtcalgdljcphjaaaDoorW.PrintLast
set_option linter.unusedVariables false
set_option linter.unusedSimpArgs false
theorem ofInt64 (a : Nat) (h : a < 18446744073709551616) : (BitVec.ofInt 64 (a : Int)).toNat = a := by
  rw [BitVec.ofInt_natCast, BitVec.toNat_ofNat]; exact Nat.mod_eq_of_lt (by omega)
theorem wrapi64 (a : Nat) (h : a < 9223372036854775808) : IntKind.i64.wrap (a : Int) = a := by
  simp [IntKind.wrap, IntKind.signed, IntKind.bits]; omega
theorem and_nat (a b : Nat) (ha : a < 1024) (hb : b < 1024) : Go.bits .and .i64 (a : Int) (b : Int) = ((a &&& b : Nat) : Int) := by
  have hx : a &&& b < 2 ^ 10 := Nat.and_lt_two_pow _ (by omega)
  show IntKind.i64.wrap ((BitVec.ofInt 64 (a : Int) &&& BitVec.ofInt 64 (b : Int)).toNat : Int) = _
  rw [BitVec.toNat_and, ofInt64 a (by omega), ofInt64 b (by omega), wrapi64 _ (by omega)]
theorem or_nat (a b : Nat) (ha : a < 1024) (hb : b < 1024) : Go.bits .or .i64 (a : Int) (b : Int) = ((a ||| b : Nat) : Int) := by
  have hx : a ||| b < 2 ^ 10 := Nat.or_lt_two_pow (by omega) (by omega)
  show IntKind.i64.wrap ((BitVec.ofInt 64 (a : Int) ||| BitVec.ofInt 64 (b : Int)).toNat : Int) = _
  rw [BitVec.toNat_or, ofInt64 a (by omega), ofInt64 b (by omega), wrapi64 _ (by omega)]
theorem andNot_nat (a b : Nat) (ha : a < 1024) (hb : b < 1024) : Go.bits .andNot .i64 (a : Int) (b : Int) = ((a &&& (18446744073709551615 - b) : Nat) : Int) := by
  have hx : a &&& (18446744073709551615 - b) < 2 ^ 10 := Nat.lt_of_le_of_lt Nat.and_le_left (by omega)
  show IntKind.i64.wrap ((BitVec.ofInt 64 (a : Int) &&& ~~~ BitVec.ofInt 64 (b : Int)).toNat : Int) = _
  rw [BitVec.toNat_and, BitVec.toNat_not, ofInt64 a (by omega), ofInt64 b (by omega)]
  exact wrapi64 (a &&& (18446744073709551615 - b)) (by omega)
def setP (x : Int) : Prop := 0 ≤ x ∧ x < 1024
theorem setP.nat {x : Int} (h : setP x) : ∃ m : Nat, x = m ∧ m < 1024 := by
  obtain ⟨h0, h1⟩ := h; exact ⟨x.toNat, by omega, by omega⟩
theorem bit_nat (m j : Nat) : bit (m : Int) j = m.testBit j := by simp [bit]
theorem set_and {x y : Int} (hx : setP x) (hy : setP y) : setP (Go.bits .and .i64 x y) ∧ ∀ j, bit (Go.bits .and .i64 x y) j = (bit x j && bit y j) := by
  obtain ⟨a, rfl, ha⟩ := hx.nat; obtain ⟨b, rfl, hb⟩ := hy.nat
  have h : a &&& b < 2 ^ 10 := Nat.and_lt_two_pow _ (by omega)
  rw [and_nat a b ha hb]
  exact ⟨⟨by omega, by omega⟩, fun j => by rw [bit_nat, bit_nat, bit_nat, Nat.testBit_and]⟩
theorem set_or {x y : Int} (hx : setP x) (hy : setP y) : setP (Go.bits .or .i64 x y) ∧ ∀ j, bit (Go.bits .or .i64 x y) j = (bit x j || bit y j) := by
  obtain ⟨a, rfl, ha⟩ := hx.nat; obtain ⟨b, rfl, hb⟩ := hy.nat
  have h : a ||| b < 2 ^ 10 := Nat.or_lt_two_pow (by omega) (by omega)
  rw [or_nat a b ha hb]
  exact ⟨⟨by omega, by omega⟩, fun j => by rw [bit_nat, bit_nat, bit_nat, Nat.testBit_or]⟩
theorem set_bit_lt {x : Int} (hx : setP x) {j : Nat} (h : bit x j = true) : j < 10 := bit_lt hx.1 (by have := hx.2; simpa using this) h
theorem set_andNot {x y : Int} (hx : setP x) (hy : setP y) : setP (Go.bits .andNot .i64 x y) ∧ ∀ j, bit (Go.bits .andNot .i64 x y) j = (bit x j && !bit y j) := by
  obtain ⟨a, rfl, ha⟩ := hx.nat; obtain ⟨b, rfl, hb⟩ := hy.nat
  have h : a &&& (18446744073709551615 - b) ≤ a := Nat.and_le_left
  rw [andNot_nat a b ha hb]
  refine ⟨⟨by omega, by omega⟩, fun j => ?_⟩
  rw [bit_nat, bit_nat, bit_nat, Nat.testBit_and]
  by_cases hj : j < 10
  · congr 1
    have e : 18446744073709551615 - b = 2 ^ 64 - (b + 1) := by omega
    rw [e, Nat.testBit_two_pow_sub_succ (by omega)]
    simp; omega
  · have : a.testBit j = false := Nat.testBit_lt_two_pow (Nat.lt_of_lt_of_le ha (by have := Nat.pow_le_pow_right (n := 2) (by omega) (show 10 ≤ j by omega); omega))
    simp [this]
theorem set_ext {x y : Int} (hx : setP x) (hy : setP y) (h : ∀ j, j < 10 → bit x j = bit y j) : x = y := by
  have hall : ∀ j, bit x j = bit y j := by
    intro j
    by_cases hj : j < 10
    · exact h j hj
    · rw [Bool.eq_iff_iff]
      exact ⟨fun h => absurd (set_bit_lt hx h) hj, fun h => absurd (set_bit_lt hy h) hj⟩
  obtain ⟨a, rfl, ha⟩ := hx.nat; obtain ⟨b, rfl, hb⟩ := hy.nat
  have : a = b := Nat.eq_of_testBit_eq fun j => by have := hall j; rwa [bit_nat, bit_nat] at this
  rw [this]
theorem set_zero : setP 0 := ⟨by omega, by omega⟩
theorem bit_zero (j : Nat) : bit 0 j = false := by simp [bit]
theorem set_eq_zero {x : Int} (hx : setP x) : x = 0 ↔ ∀ j, j < 10 → bit x j = false :=
  ⟨fun h j _ => by rw [h]; exact bit_zero j, fun h => set_ext hx set_zero fun j hj => by rw [h j hj, bit_zero]⟩
theorem shl_all : ∀ j : Fin 10, shl .i64 1 (j.val : Int) = ((2 ^ j.val : Nat) : Int) := by decide +kernel
theorem set_shl {j : Nat} (hj : j < 10) : setP (shl .i64 1 (j : Int)) ∧ ∀ m, bit (shl .i64 1 (j : Int)) m = decide (m = j) := by
  have e : shl .i64 1 (j : Int) = ((2 ^ j : Nat) : Int) := shl_all ⟨j, hj⟩
  rw [e]
  have h : 2 ^ j ≤ 2 ^ 9 := Nat.pow_le_pow_right (by omega) (by omega)
  have h2 : (2 ^ j : Nat) < 1024 := by omega
  refine ⟨⟨Int.natCast_nonneg _, Int.ofNat_lt.2 h2⟩, fun m => ?_⟩
  rw [bit_nat, Nat.testBit_two_pow]
  by_cases e : j = m <;> simp [e] <;> omega
theorem set_full {n : Nat} (hn : n ≤ 10) : setP (full (n : Int)) ∧ ∀ m, bit (full (n : Int)) m = decide (m < n) := by
  have h : (2 : Nat) ^ n ≤ 2 ^ 10 := Nat.pow_le_pow_right (by omega) hn
  have e : full (n : Int) = ((2 ^ n - 1 : Nat) : Int) := by
    rw [full_pow hn, Int.natCast_sub (Nat.one_le_two_pow)]; simp
  rw [e]
  refine ⟨⟨by omega, by have : (2 ^ n - 1 : Nat) < 1024 := by omega
                        omega⟩, fun m => ?_⟩
  rw [bit_nat, Nat.testBit_two_pow_sub_one]
theorem andNot_zero {x y : Int} (hx : setP x) (hy : setP y) : andN x y = 0 ↔ ∀ j, j < 10 → bit x j = true → bit y j = true := by
  unfold andN
  rw [set_eq_zero (set_andNot hx hy).1]
  constructor
  · intro h j hj hb
    have := h j hj
    rw [(set_andNot hx hy).2, hb] at this
    simpa using this
  · intro h j hj
    rw [(set_andNot hx hy).2]
    cases hb : bit x j
    · rfl
    · simp [h j hj hb]
theorem relP.set {n : Int} {L : List Int} (h : relP n L) {i : Nat} (hi : i < L.length) : setP (rd L (i : Int)) := ⟨(h.row hi).1, (h.row hi).2.1⟩
def lt (L : List Int) (i j : Nat) : Bool := bit (rd L (i : Int)) j
theorem relP.lt_len {n : Int} {L : List Int} (h : relP n L) {i j : Nat} (hi : i < L.length) (hb : lt L i j = true) : j < L.length := bit_lt (h.row hi).1 (h.row hi).2.2 hb
theorem orderP.irr {n : Int} {L : List Int} (h : orderP n L) {i : Nat} (hi : i < L.length) : lt L i i = false := (h.2 i hi).1
theorem orderP.trans {n : Int} {L : List Int} (h : orderP n L) {i j m : Nat} (hi : i < L.length) (h1 : lt L i j = true) (h2 : lt L j m = true) : lt L i m = true := by
  have hj := h.1.lt_len hi h1
  have hm := set_bit_lt (h.1.set hj) h2
  have := (h.2 i hi).2 (j : Int) (mem_bitsOf.2 ⟨j, by have := h.1.1; have := h.1.2.1; omega, h1, rfl⟩)
  exact (andNot_zero (h.1.set hj) (h.1.set hi)).1 this m hm h2
theorem orderP.asym {n : Int} {L : List Int} (h : orderP n L) {i j : Nat} (hi : i < L.length) (h1 : lt L i j = true) : lt L j i = false := by
  cases hb : lt L j i
  · rfl
  · have := h.trans hi h1 hb
    rw [h.irr hi] at this; cases this
theorem rel_ext {L M : List Int} (hl : L.length = M.length) (hL : ∀ i, i < L.length → setP (rd L (i : Int))) (hM : ∀ i, i < M.length → setP (rd M (i : Int))) (h : ∀ i j, i < L.length → j < 10 → lt L i j = lt M i j) : L = M := by
  apply List.ext_getElem hl
  intro i h1 h2
  have := set_ext (hL i h1) (hM i h2) (fun j hj => h i j h1 hj)
  rwa [rd_lt L i h1, rd_lt M i h2] at this
theorem rowf_bits (p : Nat → Bool) (d : Nat) : d ≤ 10 → setP (rowf p d) ∧ ∀ m, bit (rowf p d) m = (decide (m < d) && p m) := by
 induction d with
 | zero => intro _; exact ⟨set_zero, fun m => by rw [show rowf p 0 = 0 from rfl, bit_zero]; simp⟩
 | succ d ih =>
  intro hd
  obtain ⟨h1, h2⟩ := ih (by omega)
  rw [rowf_succ]
  by_cases hp : p d = true
  ·rw [if_pos hp]
   have hs := set_shl (j := d) (by omega)
   have ho := set_or h1 hs.1
   refine ⟨ho.1, fun m => ?_⟩
   show bit (Go.bits .or .i64 (rowf p d) (shl .i64 1 (d : Int))) m = _
   rw [ho.2, h2, hs.2]
   by_cases e : m = d
   ·subst e; simp [hp]
   ·by_cases l : m < d
    ·simp [l, e, show m < d + 1 by omega]
    ·simp [l, e, show ¬ m < d + 1 by omega]
  ·rw [if_neg hp]
   refine ⟨h1, fun m => ?_⟩
   rw [h2]
   by_cases e : m = d
   ·subst e; simp [hp]
   ·by_cases l : m < d
    ·simp [l, show m < d + 1 by omega]
    ·simp [l, show ¬ m < d + 1 by omega]
theorem rel_set {p : Nat → Nat → Bool} {n i : Nat} (hn : n ≤ 10) (hi : i < n) : setP (rd (rel p n) (i : Int)) := by
 rw [rel_get p n i hi]; exact (rowf_bits (p i) n hn).1
theorem rel_lt {p : Nat → Nat → Bool} {n i : Nat} (hn : n ≤ 10) (hi : i < n) (j : Nat) : lt (rel p n) i j = (decide (j < n) && p i j) := by
 unfold lt; rw [rel_get p n i hi]; exact (rowf_bits (p i) n hn).2 j
theorem orderP_of {n : Int} {L : List Int} (h : relP n L) (h1 : ∀ i, i < L.length → lt L i i = false) (h2 : ∀ i j m, i < L.length → j < L.length → lt L i j = true → lt L j m = true → lt L i m = true) : orderP n L :=
 ⟨h, fun m hm => ⟨h1 m hm, fun j hj => by
  obtain ⟨j', rfl, hj', hb⟩ := h.bits hm hj
  exact (andNot_zero (h.set hj') (h.set hm)).2 fun q _ hb2 => h2 m j' q hm hj' hb hb2⟩⟩
theorem rel_relP {n : Int} {N : Nat} (hn : n = N) (h10 : N ≤ 10) (p : Nat → Nat → Bool) : relP n (rel p N) := by
 subst hn
 refine ⟨⟨by omega, by omega⟩, by rw [rel_length], fun x hx => ?_⟩
 obtain ⟨i, hi, rfl⟩ := List.mem_iff_getElem.1 hx
 rw [rel_length] at hi
 rw [← rd_lt _ i (by rw [rel_length]; exact hi)]
 have hs := rel_set (p := p) h10 hi
 refine ⟨hs.1, ?_⟩
 rw [full_pow h10]
 obtain ⟨a, ha, hlt⟩ := hs.nat
 rw [ha]
 have : a < 2 ^ N := by
  refine Nat.lt_pow_two_of_testBit a fun m hm => ?_
  have := rel_lt (p := p) h10 hi m
  unfold lt at this
  rw [ha, bit_nat] at this
  rw [this]; simp; omega
 have h2 : ((2 ^ N : Nat) : Int) = (2 : Int) ^ N := by simp
 omega
def mir (L : List Int) : List Int := rel (fun i j => lt L j i) L.length
-- the relation of some elements, in an order
def eN (E : List Int) (k : Nat) : Nat := (rd E (k : Int)).toNat
def partR (L E : List Int) : List Int := rel (fun a b => lt L (eN E a) (eN E b)) E.length
section
variable {n : Int} {L : List Int}
end
theorem bitsOf_nil {x : Int} (hx : setP x) : bitsOf x = [] ↔ x = 0 := by
 rw [set_eq_zero hx, List.eq_nil_iff_forall_not_mem]
 constructor
 ·intro h j hj
  cases hb : bit x j
  ·rfl
  ·exact absurd (mem_bitsOf.2 ⟨j, hj, hb, rfl⟩) (h _)
 ·intro h y hy
  obtain ⟨j, hj, hb, _⟩ := mem_bitsOf.1 hy
  rw [h j hj] at hb; cases hb
theorem bitsOf_len (x : Int) : (bitsOf x).length ≤ 10 := by
 have := List.length_filter_le (bit x) (List.range 10)
 simpa [bitsOf] using this
-- sets of the elements of lists
def setL (l : List Int) : Int := l.foldl (fun x i => Go.bits .or .i64 x (shl .i64 1 i)) 0
theorem setL_fold (l : List Int) : ∀ x : Int, setP x → (∀ y ∈ l, 0 ≤ y ∧ y < 10) → setP (l.foldl (fun x i => Go.bits .or .i64 x (shl .i64 1 i)) x) ∧ ∀ m : Nat, bit (l.foldl (fun x i => Go.bits .or .i64 x (shl .i64 1 i)) x) m = (bit x m || decide ((m : Int) ∈ l)) := by
 induction l with
 | nil => intro x hx _; exact ⟨hx, fun m => by simp⟩
 | cons y l ih =>
  intro x hx hl
  have hy := hl y (by simp)
  obtain ⟨j, rfl⟩ : ∃ j : Nat, y = j := ⟨y.toNat, by omega⟩
  have hs := set_shl (j := j) (by omega)
  have ho := set_or hx hs.1
  obtain ⟨h1, h2⟩ := ih _ ho.1 (fun z hz => hl z (by simp [hz]))
  refine ⟨h1, fun m => ?_⟩
  rw [List.foldl_cons, h2, ho.2, hs.2]
  by_cases e : m = j
  ·subst e; simp
  ·have e2 : ¬ (m : Int) = (j : Int) := by omega
   simp [e, e2]
theorem setL_bits {l : List Int} (h : ∀ y ∈ l, 0 ≤ y ∧ y < 10) : setP (setL l) ∧ ∀ m : Nat, bit (setL l) m = decide ((m : Int) ∈ l) := by
 obtain ⟨h1, h2⟩ := setL_fold l 0 set_zero h
 exact ⟨h1, fun m => by rw [setL, h2, bit_zero, Bool.false_or]⟩
theorem setL_snoc (l : List Int) (x : Int) : setL (l ++ [x]) = Go.bits .or .i64 (setL l) (shl .i64 1 x) := by unfold setL; rw [List.foldl_append]; rfl
theorem take_snoc (l : List Int) (i : Nat) (h : i < l.length) : l.take (i + 1) = l.take i ++ [rd l (i : Int)] := by rw [List.take_succ_eq_append_getElem h, rd_lt l i h]
theorem full_list : ∀ (N : Nat) (l : List Nat), l.length ≤ N → (∀ m, m < N → m ∈ l) → l.Nodup ∧ ∀ x ∈ l, x < N := by
 intro N
 induction N with
 | zero => intro l hl _; obtain rfl := List.eq_nil_of_length_eq_zero (Nat.le_zero.1 hl); simp
 | succ N ih =>
  intro l hl hm
  have hN := hm N (by omega)
  have hp := List.perm_cons_erase hN
  obtain ⟨h1, h2⟩ := ih (l.erase N) (by rw [List.length_erase_of_mem hN]; omega) (fun m hm2 => (List.mem_erase_of_ne (by omega)).2 (hm m (by omega)))
  refine ⟨hp.nodup_iff.2 (List.nodup_cons.2 ⟨fun h => by have := h2 N h; omega, h1⟩), fun x hx => ?_⟩
  rcases List.mem_cons.1 (hp.mem_iff.1 hx) with rfl | hx
  ·omega
  ·have := h2 x hx; omega
def namP (n : Int) (l : List Int) : Prop := (l.length : Int) = n ∧ (∀ x ∈ l, 0 ≤ x ∧ x ≤ n - 1) ∧ setL l = full n
instance (n : Int) (l : List Int) : Decidable (namP n l) := by unfold namP; infer_instance
theorem namP.all {N : Nat} {l : List Int} (hN : N ≤ 10) (h : namP (N : Int) l) {m : Nat} (hm : m < N) : (m : Int) ∈ l := by
 have h1 := (setL_bits (l := l) (fun y hy => by have := h.2.1 y hy; omega)).2 m
 rw [h.2.2, (set_full hN).2] at h1
 simpa [hm] using h1
theorem namP.nodup {N : Nat} {l : List Int} (hN : N ≤ 10) (h : namP (N : Int) l) : l.Nodup := by
 have hl : l.length = N := by have := h.1; omega
 obtain ⟨h1, _⟩ := full_list N (l.map Int.toNat) (by simp; omega) (fun m hm => List.mem_map.2 ⟨(m : Int), h.all hN hm, by simp⟩)
 exact List.Pairwise.of_map Int.toNat (fun a b hab e => hab (by rw [e])) h1
theorem nodup_at {l : List Int} (h : l.Nodup) {i j : Nat} (hi : i < l.length) (hj : j < l.length) (e : rd l (i : Int) = rd l (j : Int)) : i = j := by
 rw [rd_lt l i hi, rd_lt l j hj] at e
 have hp := List.pairwise_iff_getElem.1 h
 rcases Nat.lt_trichotomy i j with h1 | h1 | h1
 ·exact absurd e (hp i j hi hj h1)
 ·exact h1
 ·exact absurd e.symm (hp j i hj hi h1)
theorem rd_in {l : List Int} {n : Int} (h : ∀ x ∈ l, 0 ≤ x ∧ x ≤ n - 1) {k : Nat} (hk : k < l.length) : ∃ m : Nat, rd l (k : Int) = m ∧ (m : Int) < n := by
 have := h (rd l (k : Int)) (by rw [rd_lt l k hk]; exact List.getElem_mem _)
 exact ⟨(rd l (k : Int)).toNat, by omega, by omega⟩
theorem isNaming_l {N : Nat} (hN : N ≤ 10) (l : List Int) (hl : l.length ≤ 1000) (h : ∀ x ∈ l, 0 ≤ x ∧ x ≤ (N : Int) - 1) (d : Nat) : ∀ i : Nat, i + d = l.length → Ev (fun k => impl_isNaming.l0 k l (N : Int) (setL (l.take i)) l (l.length : Int) (i : Int)) (decide (namP (N : Int) l)) := by
 induction d with
 | zero =>
  intro i hi
  rw [List.take_of_length_le (by omega)]
  refine Ev.shift ?_
  simp only [impl_isNaming.l0]
  refine Ev.neg (by omega) ?_
  by_cases h2 : (l.length : Int) = N
  ·refine Ev.pos h2 (Ev.pos (by omega) (Ev.ret ?_))
   rw [Bool.eq_iff_iff, beq_iff_eq, decide_eq_true_iff]
   exact ⟨fun h3 => ⟨h2, h, h3⟩, fun h3 => h3.2.2⟩
  ·refine Ev.neg h2 (Ev.ret ?_)
   symm; rw [decide_eq_false_iff_not]; exact fun h3 => h2 h3.1
 | succ d ih =>
  intro i hi
  have e := ih (i + 1) (by omega)
  rw [take_snoc l i (by omega), setL_snoc] at e
  obtain ⟨m, hm, hm2⟩ := rd_in h (k := i) (by omega)
  have f0 : 0 ≤ rd l (i : Int) := by omega
  refine Ev.shift ?_
  simp only [impl_isNaming.l0]
  refine Ev.pos (by omega) (Ev.pos (by omega) (Ev.pos (by omega) (Ev.pos f0 ?_)))
  rw [wrap64_id (by omega) (by omega), cast1]; exact e
theorem isNaming_ev {N : Nat} (hN : N ≤ 10) (l : List Int) (hl : l.length ≤ 1000) : Ev (fun k => impl_isNaming.f k l (N : Int)) (decide (namP (N : Int) l)) := by
 unfold impl_isNaming.f
 rw [wrap64_id (by omega) (by omega)]
 refine Ev.bind (allWithin_ev 0 ((N : Int) - 1) l (by omega)) ?_
 by_cases h : ∀ x ∈ l, 0 ≤ x ∧ x ≤ (N : Int) - 1
 ·exact Ev.pos (by simpa using h) (isNaming_l hN l hl h l.length 0 (by omega))
 ·refine Ev.neg (by simpa using h) (Ev.ret ?_)
  symm; rw [decide_eq_false_iff_not]; exact fun h3 => h h3.2.1
end Go.Proofs.YtcalgdljcphjaaaDoor.Pure
namespace Go.Proofs.YtcalgdljcphjaaaDoor.Pure
open Go.RowKit Go.Proofs.YtcalgdljcphjaaaDoor.Q Go.Proofs.YtcalgdljcphjaaaDoorW.PrintWords Go.Proofs.YtcalgdljcphjaaaDoorW.PrintLast
set_option linter.unusedVariables false
set_option linter.unusedSimpArgs false
end Go.Proofs.YtcalgdljcphjaaaDoor.Pure
namespace Go.Proofs.YtcalgdljcphjaaaDoor.Pure
open Go.RowKit Go.Proofs.YtcalgdljcphjaaaDoor.Q Go.Proofs.YtcalgdljcphjaaaDoorW.PrintWords Go.Proofs.YtcalgdljcphjaaaDoorW.PrintLast
set_option linter.unusedVariables false
set_option linter.unusedSimpArgs false
-- closing a relation, step by step
def wst (L : List Int) (k i : Nat) : List Int := if lt L i k = true then L.set i (Go.bits .or .i64 (rd L (i : Int)) (rd L (k : Int))) else L
def wrow (k : Nat) : Nat → List Int → List Int
 | 0, L => L
 | d + 1, L => wst (wrow k d L) k d
def wsh : Nat → List Int → List Int
 | 0, L => L
 | d + 1, L => wrow d (wsh d L).length (wsh d L)
def clo (L : List Int) : List Int := wsh L.length L
-- the reference's closing
-- drawn relations and orders: short, their numbers small
def relW (most : Int) (x : Int × List Int) : Prop := relP x.1 x.2 ∧ x.1 ≤ most
def Dro (g : Nat → Option (Int × List Int × Int × Int)) (P : Int × List Int → Prop) (a n : Int) : Prop := ∃ m L a' s', Ev g (m, L, a', s') ∧ P (m, L) ∧ a ≤ a' ∧ a' ≤ a + n
-- drawn orders
def OrdR (g : Nat → Option (Int × List Int × Int × Int)) (N : Nat) (a n : Int) : Prop := ∃ L a' s', Ev g ((N : Int), L, a', s') ∧ relP (N : Int) L ∧ a ≤ a' ∧ a' ≤ a + n
def nearW (x : Int × List Int) : Prop := (-1 ≤ x.1 ∧ x.1 ≤ 11) ∧ x.2.length ≤ 10 ∧ ∀ y ∈ x.2, -1 ≤ y ∧ y ≤ 1024
theorem shl_small : ∀ n : Fin 11, 1 ≤ shl .i64 1 (n.val : Int) ∧ shl .i64 1 (n.val : Int) ≤ 1024 := by decide +kernel
-- other names: element i of a relation is called nm i
def ixOf (N : List Int) (a : Nat) : Nat := (N.idxOf (a : Int))
section
variable {W : Nat} {N : List Int}
theorem ix_lt (hW : W ≤ 10) (h : namP (W : Int) N) {a : Nat} (ha : a < W) : ixOf N a < W := by
 have h1 := h.1
 have := List.idxOf_lt_length_of_mem (h.all hW ha)
 unfold ixOf; omega
theorem ix_rd (hW : W ≤ 10) (h : namP (W : Int) N) {a : Nat} (ha : a < W) : rd N (ixOf N a : Int) = a := by
 have h1 := h.1
 have h2 := List.idxOf_lt_length_of_mem (h.all hW ha)
 unfold ixOf
 rw [rd_lt N _ h2, List.getElem_idxOf]
theorem nm_of (hW : W ≤ 10) (h : namP (W : Int) N) {i : Nat} (hi : i < W) : rd N (i : Int) = (eN N i : Int) ∧ eN N i < W ∧ ixOf N (eN N i) = i := by
 have h1 := h.1
 have h2 := h.2.1 (rd N (i : Int)) (by rw [rd_lt N i (by omega)]; exact List.getElem_mem _)
 have e : rd N (i : Int) = (eN N i : Int) := by unfold eN; omega
 have hl : eN N i < W := by omega
 refine ⟨e, hl, nodup_at (h.nodup hW) ?_ (by omega) ?_⟩
 ·have := ix_lt hW h hl; omega
 ·rw [ix_rd hW h hl, e]
end
theorem rel_orb {p : Nat → Nat → Bool} {W a b : Nat} (hW : W ≤ 10) (ha : a < W) (hb : b < W) : (rel p W).set a (Go.bits .or .i64 (rd (rel p W) (a : Int)) (shl .i64 1 (b : Int))) = rel (fun x y => p x y || (decide (x = a) && decide (y = b))) W := by
 have hs := rel_set (p := p) hW ha
 have ho := set_or hs (set_shl (j := b) (by omega)).1
 refine rel_ext (by simp [rel_length]) (fun i hi => ?_) (fun i hi => by rw [rel_length] at hi; exact rel_set hW hi) (fun i j hi hj => ?_)
 ·have hi' : i < W := by simpa [rel_length] using hi
  by_cases e : i = a
  ·subst e; rw [rd_lt _ i (by simpa [rel_length] using hi'), List.getElem_set_self]; exact ho.1
  ·rw [rd_lt _ i (by simpa [rel_length] using hi'), List.getElem_set_ne (Ne.symm e), ← rd_lt _ i (by rw [rel_length]; exact hi')]; exact rel_set hW hi'
 ·have hi' : i < W := by simpa [rel_length] using hi
  rw [rel_lt hW hi']
  unfold lt
  by_cases e : i = a
  ·subst e
   rw [rd_lt _ i (by simpa [rel_length] using hi'), List.getElem_set_self, ho.2, (set_shl (j := b) (by omega)).2]
   have := rel_lt (p := p) hW hi' j
   unfold lt at this
   rw [this]
   by_cases ej : j = b
   ·subst ej; simp [hb]
   ·simp [ej]
  ·rw [rd_lt _ i (by simpa [rel_length] using hi'), List.getElem_set_ne (Ne.symm e), ← rd_lt _ i (by rw [rel_length]; exact hi')]
   have := rel_lt (p := p) hW hi' j
   unfold lt at this
   rw [this]; simp [e]
def renR (L N : List Int) : List Int := rel (fun a b => lt L (ixOf N a) (ixOf N b)) L.length
section
variable {L N : List Int} {n : Int}
theorem renR_relP (hL : relP n L) : relP n (renR L N) := by
 have h1 := hL.1
 have h2 := hL.2.1
 exact rel_relP (by omega) (by omega) _
theorem rename_l1 (hL : relP n L) (h : namP n N) (i : Nat) (hi : i < L.length) (r : Int × List Int × Bool) (p : Nat → Nat → Bool)
  (hr : ∀ q : Nat → Nat → Bool, (∀ x y, q x y = true ↔ p x y = true ∨ (x = eN N i ∧ ∃ j, bit (rd L (i : Int)) j = true ∧ y = eN N j)) → Ev (fun k => impl_RenameOf.l0 k N L (L.length : Int) (wrap64 ((i : Int) + 1)) n (rel q L.length)) r) (d : Nat) :
  ∀ (q : Nat) (p' : Nat → Nat → Bool), q + d = (bitsOf (rd L (i : Int))).length → (∀ x y, p' x y = true ↔ p x y = true ∨ (x = eN N i ∧ ∃ j : Nat, (j : Int) ∈ (bitsOf (rd L (i : Int))).take q ∧ y = eN N j)) →
  Ev (fun k => impl_RenameOf.l1 k N (i : Int) L (L.length : Int) (i : Int) (bitsOf (rd L (i : Int))) ((bitsOf (rd L (i : Int))).length : Int) (q : Int) n (rel p' L.length)) r := by
 have h1 := hL.1
 have h2 := hL.2.1
 have h' := h
 rw [← h2] at h'
 have hbl := bitsOf_len (rd L (i : Int))
 obtain ⟨ei, eil, _⟩ := nm_of (by omega) h' hi
 have hN := h.1
 have hrow := hL.row hi
 induction d with
 | zero =>
  intro q p' hq hp
  refine Ev.shift ?_
  simp only [impl_RenameOf.l1]
  refine Ev.neg (by omega) (hr p' (fun x y => ?_))
  rw [hp, List.take_of_length_le (by omega)]
  constructor
  ·rintro (hx | ⟨hx, j, hj, hy⟩)
   ·exact .inl hx
   ·obtain ⟨m, _, hb, hm⟩ := mem_bitsOf.1 hj
    obtain rfl : j = m := by omega
    exact .inr ⟨hx, j, hb, hy⟩
  ·rintro (hx | ⟨hx, j, hj, hy⟩)
   ·exact .inl hx
   ·exact .inr ⟨hx, j, mem_bitsOf.2 ⟨j, set_bit_lt ⟨hrow.1, hrow.2.1⟩ hj, hj, rfl⟩, hy⟩
 | succ d ih =>
  intro q p' hq hp
  have hql : q < (bitsOf (rd L (i : Int))).length := by omega
  obtain ⟨j, hj, hjl, _⟩ := hL.bits hi (j := rd (bitsOf (rd L (i : Int))) (q : Int)) (by rw [rd_lt _ q hql]; exact List.getElem_mem _)
  obtain ⟨ej, ejl, _⟩ := nm_of (by omega) h' hjl
  have hnext := ih (q + 1) (fun x y => p' x y || (decide (x = eN N i) && decide (y = eN N j))) (by omega) (fun x y => by
   rw [Bool.or_eq_true, hp, take_snoc _ q hql, hj, Bool.and_eq_true, decide_eq_true_eq, decide_eq_true_eq]
   constructor
   ·rintro ((hx | ⟨hx, m, hm, hy⟩) | ⟨hx, hy⟩)
    ·exact .inl hx
    ·exact .inr ⟨hx, m, List.mem_append_left _ hm, hy⟩
    ·exact .inr ⟨hx, j, by simp, hy⟩
   ·rintro (hx | ⟨hx, m, hm, hy⟩)
    ·exact .inl (.inl hx)
    ·rcases List.mem_append.1 hm with hm | hm
     ·exact .inl (.inr ⟨hx, m, hm, hy⟩)
     ·have : m = j := by have := List.mem_singleton.1 hm; omega
      subst this
      exact .inr ⟨hx, hy⟩)
  rw [← rel_orb (by omega) eil ejl] at hnext
  have hlen : (rel p' L.length).length = L.length := rel_length _ _
  refine Ev.shift ?_
  simp only [impl_RenameOf.l1]
  rw [wrap64_id (x := (q : Int) + 1) (by omega) (by omega), cast1, hj, ei, ej]
  refine Ev.pos (by omega) (Ev.pos (by omega) (Ev.pos (by omega) (Ev.pos (by omega) (Ev.pos (by omega) (Ev.pos (by omega) (Ev.pos (by omega) (Ev.pos (by omega) (Ev.pos (by omega) (Ev.pos (by omega) ?_)))))))))
  rw [Int.toNat_natCast]
  exact hnext
theorem rename_l0 (hL : relP n L) (h : namP n N) (d : Nat) : ∀ (i : Nat) (p : Nat → Nat → Bool), i + d = L.length → (∀ x y, p x y = true ↔ ∃ a b : Nat, a < i ∧ lt L a b = true ∧ x = eN N a ∧ y = eN N b) → Ev (fun k => impl_RenameOf.l0 k N L (L.length : Int) (i : Int) n (rel p L.length)) (n, renR L N, true) := by
 have h1 := hL.1
 have h2 := hL.2.1
 have h' := h
 rw [← h2] at h'
 induction d with
 | zero =>
  intro i p hi hp
  refine Ev.shift ?_
  simp only [impl_RenameOf.l0]
  refine Ev.neg (by omega) (Ev.ret ?_)
  have : rel p L.length = renR L N := by
   refine rel_congr (fun x y hx hy => ?_)
   rw [Bool.eq_iff_iff, hp]
   constructor
   ·rintro ⟨a, b, ha, hab, rfl, rfl⟩
    have hb := hL.lt_len (show a < L.length by omega) hab
    rw [(nm_of (by omega) h' (show a < L.length by omega)).2.2, (nm_of (by omega) h' hb).2.2]
    exact hab
   ·intro hxy
    have hx1 := ix_lt (by omega) h' hx
    refine ⟨ixOf N x, ixOf N y, by omega, hxy, ?_, ?_⟩
    ·unfold eN; rw [ix_rd (by omega) h' hx]; rfl
    ·unfold eN; rw [ix_rd (by omega) h' hy]; rfl
  rw [this]
 | succ d ih =>
  intro i p hi hp
  have hrow := hL.row (show i < L.length by omega)
  refine Ev.shift ?_
  simp only [impl_RenameOf.l0]
  refine Ev.pos (by omega) (Ev.pos (by omega) (Ev.pos (by omega) (Ev.bind (members_ev hrow.1 hrow.2.1) ?_)))
  refine rename_l1 hL h i (by omega) _ p (fun q hq => ?_) (bitsOf (rd L (i : Int))).length 0 p (by omega) (fun x y => by simp)
  rw [wrap64_id (x := (i : Int) + 1) (by omega) (by omega), cast1]
  refine ih (i + 1) q (by omega) (fun x y => ?_)
  rw [hq, hp]
  constructor
  ·rintro (⟨a, b, ha, hab, hx, hy⟩ | ⟨hx, b, hb, hy⟩)
   ·exact ⟨a, b, by omega, hab, hx, hy⟩
   ·exact ⟨i, b, by omega, hb, hx, hy⟩
  ·rintro ⟨a, b, ha, hab, hx, hy⟩
   by_cases e : a = i
   ·subst e; exact .inr ⟨hx, b, hab, hy⟩
   ·exact .inl ⟨a, b, by omega, hab, hx, hy⟩
end
def renRes (n : Int) (L N : List Int) : Int × List Int × Bool := if relP n L ∧ namP n N then (n, renR L N, true) else (0, [], false)
theorem iRename (n : Int) (L N : List Int) (hl : L.length ≤ 1000) (hN : N.length ≤ 1000) : Ev (fun k => impl_RenameOf.f k n L N) (renRes n L N) := by
 unfold impl_RenameOf.f renRes
 refine Ev.bind (isRelation_ev n L (by omega)) ?_
 by_cases h1 : relP n L
 ·have h2 := h1.1
  have h3 := h1.2.1
  refine Ev.pos (by simpa using h1) ?_
  have hn := isNaming_ev (N := L.length) (by omega) N hN
  rw [h3] at hn
  refine Ev.bind hn (Ev.shift ?_)
  simp only [impl_RenameOf.j0]
  by_cases h4 : namP n N
  ·rw [if_pos ⟨h1, h4⟩]
   refine Ev.neg (by simpa using h4) (Ev.pos (by omega) (Ev.pos (by omega) ?_))
   have := rename_l0 h1 h4 L.length 0 (fun _ _ => false) (by omega) (fun x y => by simp)
   have e : rel (fun _ _ => false) L.length = List.replicate n.toNat 0 := by
    apply List.ext_getElem (by rw [rel_length]; simp; omega)
    intro i hi1 hi2
    rw [rel_length] at hi1
    have hr := rel_get (fun _ _ => false) L.length i hi1
    rw [rd_lt _ i (by rw [rel_length]; exact hi1)] at hr
    rw [hr, List.getElem_replicate]
    have : ∀ m, rowf (fun _ => false) m = 0 := by
     intro m
     induction m with
     | zero => rfl
     | succ m ih => rw [rowf_succ, if_neg (by simp), ih]
    exact this _
   rw [e] at this
   exact this
  ·rw [if_neg (fun h => h4 h.2)]
   exact Ev.pos (by simpa using h4) (Ev.ret rfl)
 ·rw [if_neg (fun h => h1 h.1)]
  refine Ev.neg (by simpa using h1) (Ev.shift ?_)
  simp only [impl_RenameOf.j0]
  exact Ev.pos trivial (Ev.ret rfl)
end Go.Proofs.YtcalgdljcphjaaaDoor.Pure
