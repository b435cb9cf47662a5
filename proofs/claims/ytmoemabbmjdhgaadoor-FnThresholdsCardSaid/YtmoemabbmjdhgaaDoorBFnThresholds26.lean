import Derived.Test.YtmoemabbmjdhgaaDoorBFnThresholds25
namespace Go.Proofs.YtmoemabbmjdhgaaDoor.Pure
open Go.RowKit Go.Proofs.YtmoemabbmjdhgaaDoor.Q Go.Proofs.YtmoemabbmjdhgaaDoorW.PrintWords Go.Proofs.YtmoemabbmjdhgaaDoorW.PrintLast
set_option linter.unusedVariables false
set_option linter.unusedSimpArgs false
theorem ofInt64 (a : Nat) (h : a < 18446744073709551616) : (BitVec.ofInt 64 (a : Int)).toNat = a := by
  rw [BitVec.ofInt_natCast, BitVec.toNat_ofNat]; exact Nat.mod_eq_of_lt (by omega)
theorem wrapi64 (a : Nat) (h : a < 9223372036854775808) : IntKind.i64.wrap (a : Int) = a := by
  simp [IntKind.wrap, IntKind.signed, IntKind.bits]; omega
theorem and_nat (a b : Nat) (ha : a < 1024) (hb : b < 1024) : Go.bits .and .i64 (a : Int) (b : Int) = ((a &&& b : Nat) : Int) := by
  have hx : a &&& b < 2 ^ 10 := Nat.and_lt_two_pow _ (by omega)
  show IntKind.i64.wrap ((BitVec.ofInt 64 (a : Int) &&& BitVec.ofInt 64 (b : Int)).toNat : Int) = _
  rw [BitVec.toNat_and, ofInt64 a (by omega), ofInt64 b (by omega), wrapi64 _ (by omega)]
theorem or_nat (a b : Nat) (ha : a < 1024) (hb : b < 1024) : Go.bits .or .i64 (a : Int) (b : Int) = ((a ||| b : Nat) : Int) := by
  have hx : a ||| b < 2 ^ 10 := Nat.or_lt_two_pow (by omega) (by omega)
  show IntKind.i64.wrap ((BitVec.ofInt 64 (a : Int) ||| BitVec.ofInt 64 (b : Int)).toNat : Int) = _
  rw [BitVec.toNat_or, ofInt64 a (by omega), ofInt64 b (by omega), wrapi64 _ (by omega)]
theorem andNot_nat (a b : Nat) (ha : a < 1024) (hb : b < 1024) : Go.bits .andNot .i64 (a : Int) (b : Int) = ((a &&& (18446744073709551615 - b) : Nat) : Int) := by
  have hx : a &&& (18446744073709551615 - b) < 2 ^ 10 := Nat.lt_of_le_of_lt Nat.and_le_left (by omega)
  show IntKind.i64.wrap ((BitVec.ofInt 64 (a : Int) &&& ~~~ BitVec.ofInt 64 (b : Int)).toNat : Int) = _
  rw [BitVec.toNat_and, BitVec.toNat_not, ofInt64 a (by omega), ofInt64 b (by omega)]
  exact wrapi64 (a &&& (18446744073709551615 - b)) (by omega)
def setP (x : Int) : Prop := 0 ≤ x ∧ x < 1024
theorem setP.nat {x : Int} (h : setP x) : ∃ m : Nat, x = m ∧ m < 1024 := by
  obtain ⟨h0, h1⟩ := h; exact ⟨x.toNat, by omega, by omega⟩
theorem bit_nat (m j : Nat) : bit (m : Int) j = m.testBit j := by simp [bit]
theorem set_and {x y : Int} (hx : setP x) (hy : setP y) : setP (Go.bits .and .i64 x y) ∧ ∀ j, bit (Go.bits .and .i64 x y) j = (bit x j && bit y j) := by
  obtain ⟨a, rfl, ha⟩ := hx.nat; obtain ⟨b, rfl, hb⟩ := hy.nat
  have h : a &&& b < 2 ^ 10 := Nat.and_lt_two_pow _ (by omega)
  rw [and_nat a b ha hb]
  exact ⟨⟨by omega, by omega⟩, fun j => by rw [bit_nat, bit_nat, bit_nat, Nat.testBit_and]⟩
theorem set_or {x y : Int} (hx : setP x) (hy : setP y) : setP (Go.bits .or .i64 x y) ∧ ∀ j, bit (Go.bits .or .i64 x y) j = (bit x j || bit y j) := by
  obtain ⟨a, rfl, ha⟩ := hx.nat; obtain ⟨b, rfl, hb⟩ := hy.nat
  have h : a ||| b < 2 ^ 10 := Nat.or_lt_two_pow (by omega) (by omega)
  rw [or_nat a b ha hb]
  exact ⟨⟨by omega, by omega⟩, fun j => by rw [bit_nat, bit_nat, bit_nat, Nat.testBit_or]⟩
theorem set_bit_lt {x : Int} (hx : setP x) {j : Nat} (h : bit x j = true) : j < 10 := bit_lt hx.1 (by have := hx.2; simpa using this) h
theorem set_andNot {x y : Int} (hx : setP x) (hy : setP y) : setP (Go.bits .andNot .i64 x y) ∧ ∀ j, bit (Go.bits .andNot .i64 x y) j = (bit x j && !bit y j) := by
  obtain ⟨a, rfl, ha⟩ := hx.nat; obtain ⟨b, rfl, hb⟩ := hy.nat
  have h : a &&& (18446744073709551615 - b) ≤ a := Nat.and_le_left
  rw [andNot_nat a b ha hb]
  refine ⟨⟨by omega, by omega⟩, fun j => ?_⟩
  rw [bit_nat, bit_nat, bit_nat, Nat.testBit_and]
  by_cases hj : j < 10
  · congr 1
    have e : 18446744073709551615 - b = 2 ^ 64 - (b + 1) := by omega
    rw [e, Nat.testBit_two_pow_sub_succ (by omega)]
    simp; omega
  · have : a.testBit j = false := Nat.testBit_lt_two_pow (Nat.lt_of_lt_of_le ha (by have := Nat.pow_le_pow_right (n := 2) (by omega) (show 10 ≤ j by omega); omega))
    simp [this]
theorem set_ext {x y : Int} (hx : setP x) (hy : setP y) (h : ∀ j, j < 10 → bit x j = bit y j) : x = y := by
  have hall : ∀ j, bit x j = bit y j := by
    intro j
    by_cases hj : j < 10
    · exact h j hj
    · rw [Bool.eq_iff_iff]
      exact ⟨fun h => absurd (set_bit_lt hx h) hj, fun h => absurd (set_bit_lt hy h) hj⟩
  obtain ⟨a, rfl, ha⟩ := hx.nat; obtain ⟨b, rfl, hb⟩ := hy.nat
  have : a = b := Nat.eq_of_testBit_eq fun j => by have := hall j; rwa [bit_nat, bit_nat] at this
  rw [this]
theorem set_zero : setP 0 := ⟨by omega, by omega⟩
theorem bit_zero (j : Nat) : bit 0 j = false := by simp [bit]
theorem set_eq_zero {x : Int} (hx : setP x) : x = 0 ↔ ∀ j, j < 10 → bit x j = false :=
  ⟨fun h j _ => by rw [h]; exact bit_zero j, fun h => set_ext hx set_zero fun j hj => by rw [h j hj, bit_zero]⟩
theorem shl_all : ∀ j : Fin 10, shl .i64 1 (j.val : Int) = ((2 ^ j.val : Nat) : Int) := by decide +kernel
theorem set_shl {j : Nat} (hj : j < 10) : setP (shl .i64 1 (j : Int)) ∧ ∀ m, bit (shl .i64 1 (j : Int)) m = decide (m = j) := by
  have e : shl .i64 1 (j : Int) = ((2 ^ j : Nat) : Int) := shl_all ⟨j, hj⟩
  rw [e]
  have h : 2 ^ j ≤ 2 ^ 9 := Nat.pow_le_pow_right (by omega) (by omega)
  have h2 : (2 ^ j : Nat) < 1024 := by omega
  refine ⟨⟨Int.natCast_nonneg _, Int.ofNat_lt.2 h2⟩, fun m => ?_⟩
  rw [bit_nat, Nat.testBit_two_pow]
  by_cases e : j = m <;> simp [e] <;> omega
theorem set_full {n : Nat} (hn : n ≤ 10) : setP (full (n : Int)) ∧ ∀ m, bit (full (n : Int)) m = decide (m < n) := by
  have h : (2 : Nat) ^ n ≤ 2 ^ 10 := Nat.pow_le_pow_right (by omega) hn
  have e : full (n : Int) = ((2 ^ n - 1 : Nat) : Int) := by
    rw [full_pow hn, Int.natCast_sub (Nat.one_le_two_pow)]; simp
  rw [e]
  refine ⟨⟨by omega, by have : (2 ^ n - 1 : Nat) < 1024 := by omega
                        omega⟩, fun m => ?_⟩
  rw [bit_nat, Nat.testBit_two_pow_sub_one]
theorem andNot_zero {x y : Int} (hx : setP x) (hy : setP y) : andN x y = 0 ↔ ∀ j, j < 10 → bit x j = true → bit y j = true := by
  unfold andN
  rw [set_eq_zero (set_andNot hx hy).1]
  constructor
  · intro h j hj hb
    have := h j hj
    rw [(set_andNot hx hy).2, hb] at this
    simpa using this
  · intro h j hj
    rw [(set_andNot hx hy).2]
    cases hb : bit x j
    · rfl
    · simp [h j hj hb]
theorem relP.set {n : Int} {L : List Int} (h : relP n L) {i : Nat} (hi : i < L.length) : setP (rd L (i : Int)) := ⟨(h.row hi).1, (h.row hi).2.1⟩
def lt (L : List Int) (i j : Nat) : Bool := bit (rd L (i : Int)) j
theorem relP.lt_len {n : Int} {L : List Int} (h : relP n L) {i j : Nat} (hi : i < L.length) (hb : lt L i j = true) : j < L.length := bit_lt (h.row hi).1 (h.row hi).2.2 hb
theorem orderP.irr {n : Int} {L : List Int} (h : orderP n L) {i : Nat} (hi : i < L.length) : lt L i i = false := (h.2 i hi).1
theorem orderP.trans {n : Int} {L : List Int} (h : orderP n L) {i j m : Nat} (hi : i < L.length) (h1 : lt L i j = true) (h2 : lt L j m = true) : lt L i m = true := by
  have hj := h.1.lt_len hi h1
  have hm := set_bit_lt (h.1.set hj) h2
  have := (h.2 i hi).2 (j : Int) (mem_bitsOf.2 ⟨j, by have := h.1.1; have := h.1.2.1; omega, h1, rfl⟩)
  exact (andNot_zero (h.1.set hj) (h.1.set hi)).1 this m hm h2
theorem orderP.asym {n : Int} {L : List Int} (h : orderP n L) {i j : Nat} (hi : i < L.length) (h1 : lt L i j = true) : lt L j i = false := by
  cases hb : lt L j i
  · rfl
  · have := h.trans hi h1 hb
    rw [h.irr hi] at this; cases this
theorem rel_ext {L M : List Int} (hl : L.length = M.length) (hL : ∀ i, i < L.length → setP (rd L (i : Int))) (hM : ∀ i, i < M.length → setP (rd M (i : Int))) (h : ∀ i j, i < L.length → j < 10 → lt L i j = lt M i j) : L = M := by
  apply List.ext_getElem hl
  intro i h1 h2
  have := set_ext (hL i h1) (hM i h2) (fun j hj => h i j h1 hj)
  rwa [rd_lt L i h1, rd_lt M i h2] at this
-- closing a relation, step by step
def wst (L : List Int) (k i : Nat) : List Int := if lt L i k = true then L.set i (Go.bits .or .i64 (rd L (i : Int)) (rd L (k : Int))) else L
def wrow (k : Nat) : Nat → List Int → List Int
 | 0, L => L
 | d + 1, L => wst (wrow k d L) k d
def wsh : Nat → List Int → List Int
 | 0, L => L
 | d + 1, L => wrow d (wsh d L).length (wsh d L)
theorem wst_length (L : List Int) (k i : Nat) : (wst L k i).length = L.length := by unfold wst; split <;> simp
theorem wrow_length (k d : Nat) (L : List Int) : (wrow k d L).length = L.length := by
 induction d with
 | zero => rfl
 | succ d ih => rw [wrow, wst_length, ih]
theorem wsh_length (d : Nat) (L : List Int) : (wsh d L).length = L.length := by
 induction d with
 | zero => rfl
 | succ d ih => rw [wsh, wrow_length, ih]
theorem relP_of_rows {n : Int} {L M : List Int} (h : relP n L) (hl : M.length = L.length) (hs : ∀ i, i < L.length → setP (rd M (i : Int))) (hb : ∀ i j, i < L.length → lt M i j = true → j < L.length) : relP n M := by
 refine ⟨h.1, by rw [hl]; exact h.2.1, fun x hx => ?_⟩
 obtain ⟨i, hi, rfl⟩ := List.mem_iff_getElem.1 hx
 rw [← rd_lt M i hi]
 have hi' : i < L.length := by omega
 have h10 : L.length ≤ 10 := by have := h.1; have := h.2.1; omega
 refine ⟨(hs i hi').1, ?_⟩
 rw [← h.2.1, full_pow h10]
 obtain ⟨a, ha, _⟩ := (hs i hi').nat
 rw [ha]
 have : a < 2 ^ L.length := by
  refine Nat.lt_pow_two_of_testBit a fun m hm => ?_
  cases hq : a.testBit m
  ·rfl
  ·have := hb i m hi' (by unfold lt; rw [ha, bit_nat]; exact hq)
   omega
 have h2 : ((2 ^ L.length : Nat) : Int) = (2 : Int) ^ L.length := by simp
 omega
theorem set_rd (L : List Int) (i : Nat) (x : Int) (hi : i < L.length) (m : Nat) : rd (L.set i x) (m : Int) = if m = i then x else rd L (m : Int) := by
 rw [rd_nat, rd_nat, List.getD_eq_getElem?_getD, List.getD_eq_getElem?_getD, List.getElem?_set]
 by_cases e : i = m
 ·subst e; simp [hi]
 ·simp [e, Ne.symm e]
theorem wst_lt {n : Int} {L : List Int} (h : relP n L) {k i : Nat} (hk : k < L.length) (hi : i < L.length) (a b : Nat) (ha : a < L.length) : lt (wst L k i) a b = (lt L a b || (decide (a = i) && lt L i k && lt L k b)) := by
 unfold wst
 by_cases hb : lt L i k = true
 ·rw [if_pos hb]
  have ho := set_or (h.set hi) (h.set hk)
  show bit (rd (L.set i _) (a : Int)) b = _
  rw [set_rd L i _ hi a]
  by_cases e : a = i
  ·subst e; rw [if_pos rfl, ho.2]; simp [hb]; rfl
  ·rw [if_neg e]; simp [e]; rfl
 ·rw [if_neg hb]; simp [hb]
theorem wst_relP {n : Int} {L : List Int} (h : relP n L) {k i : Nat} (hk : k < L.length) (hi : i < L.length) : relP n (wst L k i) := by
 refine relP_of_rows h (wst_length L k i) (fun a ha => ?_) (fun a b ha hb => ?_)
 ·unfold wst
  split
  ·rw [set_rd L i _ hi a]
   split
   ·exact (set_or (h.set hi) (h.set hk)).1
   ·exact h.set ha
  ·exact h.set ha
 ·rw [wst_lt h hk hi a b ha] at hb
  simp only [Bool.or_eq_true, Bool.and_eq_true, decide_eq_true_eq] at hb
  rcases hb with hb | ⟨_, hb⟩
  ·exact h.lt_len ha hb
  ·exact h.lt_len hk hb
theorem wrow_relP {n : Int} {L : List Int} (h : relP n L) {k : Nat} (hk : k < L.length) (d : Nat) : d ≤ L.length → relP n (wrow k d L) := by
 induction d with
 | zero => intro _; exact h
 | succ d ih =>
  intro hd
  exact wst_relP (ih (by omega)) (by rw [wrow_length]; exact hk) (by rw [wrow_length]; omega)
theorem wsh_relP {n : Int} {L : List Int} (h : relP n L) (d : Nat) : d ≤ L.length → relP n (wsh d L) := by
 induction d with
 | zero => intro _; exact h
 | succ d ih => intro hd; exact wrow_relP (ih (by omega)) (by rw [wsh_length]; omega) _ (Nat.le_refl _)
def clo (L : List Int) : List Int := wsh L.length L
theorem clo_relP {n : Int} {L : List Int} (h : relP n L) : relP n (clo L) := wsh_relP h _ (Nat.le_refl _)
-- the reference's closing
theorem l1Own_f (l : List Int) (h : l.length ≤ 1048576) : spec_l1Own.f l = some l := by
 unfold spec_l1Own.f
 rw [Option.bind_some, if_pos (by simp; omega), List.nil_append]
theorem sclose_l1 {n : Int} (N : Nat) (hN : N ≤ 10) (k : Nat) (hk : k < N) (R : Int × List Int × Bool) (d : Nat) : ∀ (i : Nat) (L : List Int), relP n L → L.length = N → i + d = N → (∀ M, relP n M → M.length = N → M = (List.range' i d).foldl (fun M i => wst M k i) L → Ev (fun q => spec_CloseRelation.l0 q N ((k + 1 : Nat) : Int) n M) R) →
  Ev (fun q => spec_CloseRelation.l1 q (k : Int) N (k : Int) N (i : Int) n L) R := by
 induction d with
 | zero =>
  intro i L hL hl hi hR
  refine Ev.shift ?_
  simp only [spec_CloseRelation.l1]
  refine Ev.neg (by omega) ?_
  rw [wrap64_id (by omega) (by omega), cast1]
  exact hR L hL hl rfl
 | succ d ih =>
  intro i L hL hl hi hR
  refine Ev.shift ?_
  simp only [spec_CloseRelation.l1]
  refine Ev.pos (by omega) (Ev.pos (by omega) (Ev.pos (by omega) (Ev.bindc (orHas_f (hL.set (i := i) (by omega)).1 (hL.set (i := i) (by omega)).2 (by omega)) ?_)))
  rw [wrap64_id (x := (i : Int) + 1) (by omega) (by omega), cast1]
  have hw := wst_relP hL (k := k) (i := i) (by omega) (by omega)
  have hwl := wst_length L k i
  have hgo := ih (i + 1) (wst L k i) hw (by omega) (by omega) (fun M hM hMl e => hR M hM hMl (by rw [List.range'_succ, List.foldl_cons]; exact e))
  unfold wst at hgo
  by_cases hb : lt L i k = true
  ·rw [if_pos hb] at hgo
   refine Ev.pos hb (Ev.pos (by omega) (Ev.pos (by omega) ?_))
   rw [Int.toNat_natCast]; exact hgo
  ·rw [if_neg hb] at hgo
   exact Ev.neg hb hgo
theorem wrow_fold (k d : Nat) (L : List Int) : wrow k d L = (List.range' 0 d).foldl (fun M i => wst M k i) L := by
 induction d with
 | zero => rfl
 | succ d ih => rw [wrow, ih, List.range'_concat, List.foldl_append]; simp
theorem sclose_l0 {n : Int} (N : Nat) (hN : N ≤ 10) (L : List Int) (hL : relP n L) (hl : L.length = N) (d : Nat) : ∀ k : Nat, k + d = N → Ev (fun q => spec_CloseRelation.l0 q N (k : Int) n (wsh k L)) (n, wsh N L, true) := by
 induction d with
 | zero =>
  intro k hk
  refine Ev.shift ?_
  simp only [spec_CloseRelation.l0]
  exact Ev.neg (by omega) (Ev.ret (by rw [show k = N by omega]))
 | succ d ih =>
  intro k hk
  have hw := wsh_relP hL k (by omega)
  have hwl := wsh_length k L
  refine Ev.shift ?_
  simp only [spec_CloseRelation.l0]
  refine Ev.pos (by omega) ?_
  rw [hwl, hl]
  refine sclose_l1 N hN k (by omega) _ N 0 (wsh k L) hw (by omega) (by omega) (fun M hM hMl e => ?_)
  have := ih (k + 1) (by omega)
  rw [wsh, wrow_fold, hwl, hl] at this
  rw [e]; exact this
theorem sCloseRelation_ev {n : Int} {L : List Int} (h : relP n L) : Ev (fun k => spec_CloseRelation.f k n L) (n, clo L, true) := by
 have h1 := h.1; have h2 := h.2.1
 unfold spec_CloseRelation.f
 refine Ev.bind (orRelation_ev n L (by omega)) (Ev.pos (by simpa using h) (Ev.bindc (l1Own_f L (by omega)) ?_))
 exact sclose_l0 L.length (by omega) L h rfl L.length 0 (by omega)
-- drawn relations and orders: short, their numbers small
theorem setP_full {n : Nat} (hn : n ≤ 10) {x : Int} (hx : setP x) (hb : ∀ j, bit x j = true → j < n) : 0 ≤ x ∧ x ≤ full (n : Int) := by
 refine ⟨hx.1, ?_⟩
 rw [full_pow hn]
 obtain ⟨a, rfl, _⟩ := hx.nat
 have : a < 2 ^ n := by
  refine Nat.lt_pow_two_of_testBit a fun m hm => ?_
  cases hq : a.testBit m
  ·rfl
  ·have := hb m (by rw [bit_nat]; exact hq)
   omega
 have h2 : ((2 ^ n : Nat) : Int) = (2 : Int) ^ n := by simp
 omega
def relW (most : Int) (x : Int × List Int) : Prop := relP x.1 x.2 ∧ x.1 ≤ most
def Dro (g : Nat → Option (Int × List Int × Int × Int)) (P : Int × List Int → Prop) (a n : Int) : Prop := ∃ m L a' s', Ev g (m, L, a', s') ∧ P (m, L) ∧ a ≤ a' ∧ a' ≤ a + n
theorem relation_dl1 {c : List Int} (hc : bytesP c) (N : Nat) (hN : N ≤ 10) (P : Int × List Int → Prop) (r : Nat) (rows : List Int) (hr : rows.length = r) (hrN : r < N) (B : Int) (d : Nat) : ∀ (j : Nat) (x a s : Int), j + d = N → setP x → (∀ m, bit x m = true → m < j) → 0 ≤ a → a + 2 * d ≤ B → B ≤ 1000000000 →
  (∀ y a s, setP y → (∀ m, bit y m = true → m < N) → 0 ≤ a → a ≤ B → ∃ m L a' s', Ev (fun k => spec_l1Cur_relation.l0 k c a s N (rows ++ [y])) (m, L, a', s') ∧ P (m, L) ∧ a ≤ a' ∧ a' ≤ a + 20 * (N - (r + 1))) →
  ∃ m L a' s', Ev (fun k => spec_l1Cur_relation.l1 k x (j : Int) c a s N rows) (m, L, a', s') ∧ P (m, L) ∧ a ≤ a' ∧ a' ≤ a + 2 * d + 20 * (N - (r + 1)) := by
 induction d with
 | zero =>
  intro j x a s hj hx hb h0 h1 hB hR
  obtain ⟨m, L, a', s', he, hP, h2, h3⟩ := hR x a s hx (fun m hm => by have := hb m hm; omega) h0 (by omega)
  refine ⟨m, L, a', s', Ev.shift ?_, hP, h2, by omega⟩
  simp only [spec_l1Cur_relation.l1]
  exact Ev.neg (by omega) (Ev.pos (by omega) he)
 | succ d ih =>
  intro j x a s hj hx hb h0 h1 hB hR
  obtain ⟨b, a1, s1, e, _, h2, h3⟩ := one_d hc (a := a) s 4 h0 (by omega) (by omega)
  by_cases hbt : b = true
  ·have hs := set_shl (j := j) (by omega)
   have ho := set_or hx hs.1
   obtain ⟨m, L, a', s', he, hP, h4, h5⟩ := ih (j + 1) _ a1 s1 (by omega) ho.1 (fun m hm => by
    rw [ho.2, hs.2] at hm
    simp only [Bool.or_eq_true, decide_eq_true_eq] at hm
    rcases hm with hm | hm
    ·have := hb m hm; omega
    ·omega) (by omega) (by omega) hB hR
   refine ⟨m, L, a', s', Ev.shift ?_, hP, by omega, by omega⟩
   simp only [spec_l1Cur_relation.l1]
   refine Ev.pos (by omega) (Ev.bindc e (Ev.pos hbt (Ev.pos (by omega) ?_)))
   rw [wrap64_id (by omega) (by omega), cast1]; exact he
  ·obtain ⟨m, L, a', s', he, hP, h4, h5⟩ := ih (j + 1) x a1 s1 (by omega) hx (fun m hm => by have := hb m hm; omega) (by omega) (by omega) hB hR
   refine ⟨m, L, a', s', Ev.shift ?_, hP, by omega, by omega⟩
   simp only [spec_l1Cur_relation.l1]
   refine Ev.pos (by omega) (Ev.bindc e (Ev.neg hbt ?_))
   rw [wrap64_id (by omega) (by omega), cast1]; exact he
theorem relation_dl0 {c : List Int} (hc : bytesP c) (N : Nat) (hN : N ≤ 10) (d : Nat) : ∀ (rows : List Int) (a s : Int), rows.length + d = N → (∀ y ∈ rows, 0 ≤ y ∧ y ≤ full (N : Int)) → 0 ≤ a → a + 20 * d ≤ 100000000 →
  ∃ m L a' s', Ev (fun k => spec_l1Cur_relation.l0 k c a s N rows) (m, L, a', s') ∧ (m = N ∧ relP m L) ∧ a ≤ a' ∧ a' ≤ a + 20 * d := by
 induction d with
 | zero =>
  intro rows a s hl hr h0 h1
  refine ⟨N, rows, a, s, Ev.shift ?_, ⟨rfl, ⟨by omega, by omega⟩, by omega, hr⟩, by omega, by omega⟩
  simp only [spec_l1Cur_relation.l0]
  exact Ev.neg (by omega) (Ev.ret rfl)
 | succ d ih =>
  intro rows a s hl hr h0 h1
  obtain ⟨m, L, a', s', he, hP, h2, h3⟩ := relation_dl1 hc N hN (fun z => z.1 = N ∧ relP z.1 z.2) rows.length rows rfl (by omega) (a + 2 * N) N 0 0 a s (by omega) set_zero (fun m hm => by rw [bit_zero] at hm; cases hm) h0 (by omega) (by omega)
   (fun y a2 s2 hy hyb h4 h5 => by
    obtain ⟨m, L, a', s', he, hP, h6, h7⟩ := ih (rows ++ [y]) a2 s2 (by simp; omega) (fun z hz => by
     rcases List.mem_append.1 hz with hz | hz
     ·exact hr z hz
     ·rw [List.mem_singleton] at hz; subst hz; exact setP_full hN hy hyb) h4 (by omega)
    exact ⟨m, L, a', s', he, hP, h6, by omega⟩)
  refine ⟨m, L, a', s', Ev.shift ?_, hP, h2, by omega⟩
  simp only [spec_l1Cur_relation.l0]
  exact Ev.pos (by omega) he
theorem relation_d {c : List Int} (hc : bytesP c) {a : Int} (s most : Int) (h0 : 0 ≤ a) (h1 : a ≤ 10000000) (hm : 0 ≤ most ∧ most ≤ 10) : Dro (fun k => spec_l1Cur_relation.f k c a s most) (relW most) a 300 := by
 unfold spec_l1Cur_relation.f
 rw [wrap64_id (by omega) (by omega)]
 obtain ⟨n, a1, s1, e, hn, h2, h3⟩ := pick_d hc s (most + 1) h0 (by omega) (by omega)
 obtain ⟨N, rfl⟩ : ∃ N : Nat, n = N := ⟨n.toNat, by omega⟩
 obtain ⟨m, L, a', s', he, ⟨rfl, hP⟩, h4, h5⟩ := relation_dl0 hc N (by omega) N [] a1 s1 (by simp) (fun y hy => by cases hy) (by omega) (by omega)
 exact ⟨_, L, a', s', Ev.bindc e he, ⟨hP, by dsimp only; omega⟩, by omega, by omega⟩
end Go.Proofs.YtmoemabbmjdhgaaDoor.Pure
