import Derived.Laws.Bits64b
import Derived.Test.YteechpappfagpaaDoorBFnExactPairDistance6
import Derived.Test.YteechpappfagpaaDoorBFnExactPairDistance7
import Derived.Test.YteechpappfagpaaDoorBFnExactPairDistance8
import Derived.Test.YteechpappfagpaaDoorBFnExactPairDistance13
import Derived.Test.YteechpappfagpaaDoorBFnExactPairDistance14
import Derived.Test.YteechpappfagpaaDoorBFnExactPairDistance15
import Derived.Test.YteechpappfagpaaDoorBFnExactPairDistance16
import Derived.Test.YteechpappfagpaaDoorBFnExactPairDistance17
namespace Go.Proofs.YteechpappfagpaaDoor.Pure
open Go.RowKit Go.Proofs.YteechpappfagpaaDoor.Q Go.Proofs.YteechpappfagpaaDoorW.PrintWords Go.Proofs.YteechpappfagpaaDoorW.PrintLast
set_option linter.unusedVariables false
set_option linter.unusedSimpArgs false

theorem ofInt64 (a : Nat) (h : a < 18446744073709551616) : (BitVec.ofInt 64 (a : Int)).toNat = a := by
  rw [BitVec.ofInt_natCast, BitVec.toNat_ofNat]; exact Nat.mod_eq_of_lt (by omega)
theorem wrapi64 (a : Nat) (h : a < 9223372036854775808) : IntKind.i64.wrap (a : Int) = a := by
  simp [IntKind.wrap, IntKind.signed, IntKind.bits]; omega
theorem and_nat (a b : Nat) (ha : a < 1024) (hb : b < 1024) : Go.bits .and .i64 (a : Int) (b : Int) = ((a &&& b : Nat) : Int) := by
  have hx : a &&& b < 2 ^ 10 := Nat.and_lt_two_pow _ (by omega)
  show IntKind.i64.wrap ((BitVec.ofInt 64 (a : Int) &&& BitVec.ofInt 64 (b : Int)).toNat : Int) = _
  rw [BitVec.toNat_and, ofInt64 a (by omega), ofInt64 b (by omega), wrapi64 _ (by omega)]
theorem or_nat (a b : Nat) (ha : a < 1024) (hb : b < 1024) : Go.bits .or .i64 (a : Int) (b : Int) = ((a ||| b : Nat) : Int) := by
  have hx : a ||| b < 2 ^ 10 := Nat.or_lt_two_pow (by omega) (by omega)
  show IntKind.i64.wrap ((BitVec.ofInt 64 (a : Int) ||| BitVec.ofInt 64 (b : Int)).toNat : Int) = _
  rw [BitVec.toNat_or, ofInt64 a (by omega), ofInt64 b (by omega), wrapi64 _ (by omega)]
theorem andNot_nat (a b : Nat) (ha : a < 1024) (hb : b < 1024) : Go.bits .andNot .i64 (a : Int) (b : Int) = ((a &&& (18446744073709551615 - b) : Nat) : Int) := by
  have hx : a &&& (18446744073709551615 - b) < 2 ^ 10 := Nat.lt_of_le_of_lt Nat.and_le_left (by omega)
  show IntKind.i64.wrap ((BitVec.ofInt 64 (a : Int) &&& ~~~ BitVec.ofInt 64 (b : Int)).toNat : Int) = _
  rw [BitVec.toNat_and, BitVec.toNat_not, ofInt64 a (by omega), ofInt64 b (by omega)]
  exact wrapi64 (a &&& (18446744073709551615 - b)) (by omega)
/-- the sets of elements 0 to 9 -/
def setP (x : Int) : Prop := 0 ≤ x ∧ x < 1024
theorem setP.nat {x : Int} (h : setP x) : ∃ m : Nat, x = m ∧ m < 1024 := by
  obtain ⟨h0, h1⟩ := h; exact ⟨x.toNat, by omega, by omega⟩
theorem bit_nat (m j : Nat) : bit (m : Int) j = m.testBit j := by simp [bit]
theorem set_and {x y : Int} (hx : setP x) (hy : setP y) : setP (Go.bits .and .i64 x y) ∧ ∀ j, bit (Go.bits .and .i64 x y) j = (bit x j && bit y j) := by
  obtain ⟨a, rfl, ha⟩ := hx.nat; obtain ⟨b, rfl, hb⟩ := hy.nat
  have h : a &&& b < 2 ^ 10 := Nat.and_lt_two_pow _ (by omega)
  rw [and_nat a b ha hb]
  exact ⟨⟨by omega, by omega⟩, fun j => by rw [bit_nat, bit_nat, bit_nat, Nat.testBit_and]⟩
theorem set_or {x y : Int} (hx : setP x) (hy : setP y) : setP (Go.bits .or .i64 x y) ∧ ∀ j, bit (Go.bits .or .i64 x y) j = (bit x j || bit y j) := by
  obtain ⟨a, rfl, ha⟩ := hx.nat; obtain ⟨b, rfl, hb⟩ := hy.nat
  have h : a ||| b < 2 ^ 10 := Nat.or_lt_two_pow (by omega) (by omega)
  rw [or_nat a b ha hb]
  exact ⟨⟨by omega, by omega⟩, fun j => by rw [bit_nat, bit_nat, bit_nat, Nat.testBit_or]⟩
theorem set_bit_lt {x : Int} (hx : setP x) {j : Nat} (h : bit x j = true) : j < 10 := bit_lt hx.1 (by have := hx.2; simpa using this) h
theorem set_andNot {x y : Int} (hx : setP x) (hy : setP y) : setP (Go.bits .andNot .i64 x y) ∧ ∀ j, bit (Go.bits .andNot .i64 x y) j = (bit x j && !bit y j) := by
  obtain ⟨a, rfl, ha⟩ := hx.nat; obtain ⟨b, rfl, hb⟩ := hy.nat
  have h : a &&& (18446744073709551615 - b) ≤ a := Nat.and_le_left
  rw [andNot_nat a b ha hb]
  refine ⟨⟨by omega, by omega⟩, fun j => ?_⟩
  rw [bit_nat, bit_nat, bit_nat, Nat.testBit_and]
  by_cases hj : j < 10
  · congr 1
    have e : 18446744073709551615 - b = 2 ^ 64 - (b + 1) := by omega
    rw [e, Nat.testBit_two_pow_sub_succ (by omega)]
    simp; omega
  · have : a.testBit j = false := Nat.testBit_lt_two_pow (Nat.lt_of_lt_of_le ha (by have := Nat.pow_le_pow_right (n := 2) (by omega) (show 10 ≤ j by omega); omega))
    simp [this]
theorem set_ext {x y : Int} (hx : setP x) (hy : setP y) (h : ∀ j, j < 10 → bit x j = bit y j) : x = y := by
  have hall : ∀ j, bit x j = bit y j := by
    intro j
    by_cases hj : j < 10
    · exact h j hj
    · rw [Bool.eq_iff_iff]
      exact ⟨fun h => absurd (set_bit_lt hx h) hj, fun h => absurd (set_bit_lt hy h) hj⟩
  obtain ⟨a, rfl, ha⟩ := hx.nat; obtain ⟨b, rfl, hb⟩ := hy.nat
  have : a = b := Nat.eq_of_testBit_eq fun j => by have := hall j; rwa [bit_nat, bit_nat] at this
  rw [this]
theorem set_zero : setP 0 := ⟨by omega, by omega⟩
theorem bit_zero (j : Nat) : bit 0 j = false := by simp [bit]
theorem set_eq_zero {x : Int} (hx : setP x) : x = 0 ↔ ∀ j, j < 10 → bit x j = false :=
  ⟨fun h j _ => by rw [h]; exact bit_zero j, fun h => set_ext hx set_zero fun j hj => by rw [h j hj, bit_zero]⟩
theorem shl_all : ∀ j : Fin 10, shl .i64 1 (j.val : Int) = ((2 ^ j.val : Nat) : Int) := by decide +kernel
theorem set_shl {j : Nat} (hj : j < 10) : setP (shl .i64 1 (j : Int)) ∧ ∀ m, bit (shl .i64 1 (j : Int)) m = decide (m = j) := by
  have e : shl .i64 1 (j : Int) = ((2 ^ j : Nat) : Int) := shl_all ⟨j, hj⟩
  rw [e]
  have h : 2 ^ j ≤ 2 ^ 9 := Nat.pow_le_pow_right (by omega) (by omega)
  have h2 : (2 ^ j : Nat) < 1024 := by omega
  refine ⟨⟨Int.natCast_nonneg _, Int.ofNat_lt.2 h2⟩, fun m => ?_⟩
  rw [bit_nat, Nat.testBit_two_pow]
  by_cases e : j = m <;> simp [e] <;> omega
theorem set_full {n : Nat} (hn : n ≤ 10) : setP (full (n : Int)) ∧ ∀ m, bit (full (n : Int)) m = decide (m < n) := by
  have h : (2 : Nat) ^ n ≤ 2 ^ 10 := Nat.pow_le_pow_right (by omega) hn
  have e : full (n : Int) = ((2 ^ n - 1 : Nat) : Int) := by
    rw [full_pow hn, Int.natCast_sub (Nat.one_le_two_pow)]; simp
  rw [e]
  refine ⟨⟨by omega, by have : (2 ^ n - 1 : Nat) < 1024 := by omega
                        omega⟩, fun m => ?_⟩
  rw [bit_nat, Nat.testBit_two_pow_sub_one]
/-- x is part of y -/
theorem andNot_zero {x y : Int} (hx : setP x) (hy : setP y) : andN x y = 0 ↔ ∀ j, j < 10 → bit x j = true → bit y j = true := by
  unfold andN
  rw [set_eq_zero (set_andNot hx hy).1]
  constructor
  · intro h j hj hb
    have := h j hj
    rw [(set_andNot hx hy).2, hb] at this
    simpa using this
  · intro h j hj
    rw [(set_andNot hx hy).2]
    cases hb : bit x j
    · rfl
    · simp [h j hj hb]
theorem relP.set {n : Int} {L : List Int} (h : relP n L) {i : Nat} (hi : i < L.length) : setP (rd L (i : Int)) := ⟨(h.row hi).1, (h.row hi).2.1⟩
/-- better -/
def lt (L : List Int) (i j : Nat) : Bool := bit (rd L (i : Int)) j
theorem relP.lt_len {n : Int} {L : List Int} (h : relP n L) {i j : Nat} (hi : i < L.length) (hb : lt L i j = true) : j < L.length := bit_lt (h.row hi).1 (h.row hi).2.2 hb
theorem orderP.irr {n : Int} {L : List Int} (h : orderP n L) {i : Nat} (hi : i < L.length) : lt L i i = false := (h.2 i hi).1
theorem orderP.trans {n : Int} {L : List Int} (h : orderP n L) {i j m : Nat} (hi : i < L.length) (h1 : lt L i j = true) (h2 : lt L j m = true) : lt L i m = true := by
  have hj := h.1.lt_len hi h1
  have hm := set_bit_lt (h.1.set hj) h2
  have := (h.2 i hi).2 (j : Int) (mem_bitsOf.2 ⟨j, by have := h.1.1; have := h.1.2.1; omega, h1, rfl⟩)
  exact (andNot_zero (h.1.set hj) (h.1.set hi)).1 this m hm h2
theorem orderP.asym {n : Int} {L : List Int} (h : orderP n L) {i j : Nat} (hi : i < L.length) (h1 : lt L i j = true) : lt L j i = false := by
  cases hb : lt L j i
  · rfl
  · have := h.trans hi h1 hb
    rw [h.irr hi] at this; cases this
/-- two relations of one size with the same pairs are one -/
theorem rel_ext {L M : List Int} (hl : L.length = M.length) (hL : ∀ i, i < L.length → setP (rd L (i : Int))) (hM : ∀ i, i < M.length → setP (rd M (i : Int))) (h : ∀ i j, i < L.length → j < 10 → lt L i j = lt M i j) : L = M := by
  apply List.ext_getElem hl
  intro i h1 h2
  have := set_ext (hL i h1) (hM i h2) (fun j hj => h i j h1 hj)
  rwa [rd_lt L i h1, rd_lt M i h2] at this

end Go.Proofs.YteechpappfagpaaDoor.Pure

namespace Go.Proofs.YteechpappfagpaaDoor.Pure
open Go.RowKit Go.Proofs.YteechpappfagpaaDoor.Q Go.Proofs.YteechpappfagpaaDoorW.PrintWords Go.Proofs.YteechpappfagpaaDoorW.PrintLast
set_option linter.unusedVariables false
set_option linter.unusedSimpArgs false

def tl (L : List Int) (i j : Nat) : Int := if lt L i j then 1 else if lt L j i then -1 else 0
theorem told_f {n : Int} {L : List Int} (h : relP n L) {i j : Nat} (hi : i < L.length) (hj : j < L.length) : impl_Order_told.f n L (i : Int) (j : Int) = some (tl L i j) := by
  have hl : L.length ≤ 10 := by have := h.1; have := h.2.1; omega
  unfold impl_Order_told.f tl
  rw [better_f n L hi (h.set hi) (by omega), Option.bind_some]
  show (if lt L i j = true then _ else _) = _
  cases lt L i j
  · rw [if_neg (by simp), better_f n L hj (h.set hj) (by omega), Option.bind_some]
    show (if lt L j i = true then _ else _) = _
    cases lt L j i <;> rfl
  · rfl
theorem weTold_f {n : Int} {L : List Int} (h : relP n L) {i j : Nat} (hi : i < L.length) (hj : j < L.length) : spec_weTold.f n L (i : Int) (j : Int) = some (tl L i j) := by
  have hl : L.length ≤ 10 := by have := h.1; have := h.2.1; omega
  unfold spec_weTold.f tl
  rw [if_pos (by omega), if_pos (by omega), orHas_f (h.set hi).1 (h.set hi).2 (by omega), Option.bind_some]
  show (if lt L i j = true then _ else _) = _
  cases lt L i j
  · rw [if_neg (by simp), if_pos (by omega), if_pos (by omega), orHas_f (h.set hj).1 (h.set hj).2 (by omega), Option.bind_some]
    show (if lt L j i = true then _ else _) = _
    cases lt L j i <;> rfl
  · rfl
theorem tl_swap {n : Int} {L : List Int} (h : orderP n L) {i j : Nat} (hi : i < L.length) (hj : j < L.length) : tl L i j = - tl L j i := by
  unfold tl
  cases h1 : lt L i j
  · cases h2 : lt L j i <;> simp
  · rw [h.asym hi h1]; simp
theorem tl_range (L : List Int) (i j : Nat) : -1 ≤ tl L i j ∧ tl L i j ≤ 1 := by
  unfold tl; split
  · omega
  · split <;> omega
theorem abs_f (a : Int) (h : -2 ≤ a ∧ a ≤ 2) : spec_l1Abs.f a = some (if a < 0 then -a else a) := by
  unfold spec_l1Abs.f spec_l1Most.f
  rw [wrap64_id (by omega) (by omega)]
  by_cases h1 : a > -a
  · rw [if_pos h1, Option.bind_some, if_neg (by omega)]
  · rw [if_neg h1, Option.bind_some]
    split <;> (congr 1 <;> omega)
theorem mx_f (a : Int) (h : -2 ≤ a ∧ a ≤ 2) : mx a (wrap64 (-a)) = if a < 0 then -a else a := by
  rw [wrap64_id (by omega) (by omega)]
  unfold mx
  split <;> split <;> omega
theorem distance_l0 (n m : Int) (L M : List Int) (h1 : orderP n L) (h2 : orderP m M) (he : n = m) (d : Nat) : ∀ (i : Nat) (s : Int), i + d = L.length → ∃ r, Ev (fun k => impl_PairDistance.l0 k s n (i : Int) n L m M) (r, true) ∧ Ev (fun k => spec_weDistance.l0 k s (i : Int) n L m M) r := by
  have e1 := h1.1.2.1
  have e2 := h2.1.2.1
  have e3 := h1.1.1
  induction d with
  | zero =>
    intro i s hi
    refine ⟨s, Ev.shift ?_, Ev.shift ?_⟩
    · simp only [impl_PairDistance.l0]
      exact Ev.neg (by omega) (Ev.ret rfl)
    · simp only [spec_weDistance.l0]
      exact Ev.neg (by omega) (Ev.ret rfl)
  | succ d ih =>
    intro i s hi
    have inner : ∀ (c : Nat) (j : Nat) (s : Int), j + c = i → ∃ r, Ev (fun k => impl_PairDistance.l1 k s (i : Int) n (i : Int) (i : Int) (j : Int) n L m M) (r, true) ∧ Ev (fun k => spec_weDistance.l1 k s (i : Int) (j : Int) n L m M) r := by
      intro c
      induction c with
      | zero =>
        intro j s hj
        obtain ⟨r, hr1, hr2⟩ := ih (i + 1) s (by omega)
        refine ⟨r, Ev.shift ?_, Ev.shift ?_⟩
        · simp only [impl_PairDistance.l1]
          refine Ev.neg (by omega) ?_
          rw [wrap64_id (x := (i : Int) + 1) (by omega) (by omega), cast1]
          exact hr1
        · simp only [spec_weDistance.l1]
          refine Ev.neg (by omega) ?_
          rw [wrap64_id (x := (i : Int) + 1) (by omega) (by omega), cast1]
          exact hr2
      | succ c ihc =>
        intro j s hj
        have a1 := tl_range L i j
        have a2 := tl_range M i j
        have a3 := tl_range L j i
        have a4 := tl_range M j i
        have b1 := tl_swap h1 (i := i) (j := j) (by omega) (by omega)
        have b2 := tl_swap h2 (i := i) (j := j) (by omega) (by omega)
        obtain ⟨r, hr1, hr2⟩ := ihc (j + 1) (wrap64 (s + if tl L i j - tl M i j < 0 then -(tl L i j - tl M i j) else tl L i j - tl M i j)) (by omega)
        refine ⟨r, Ev.shift ?_, Ev.shift ?_⟩
        · simp only [impl_PairDistance.l1]
          refine Ev.pos (by omega) (Ev.bindc (told_f h1.1 (by omega) (by omega)) (Ev.bindc (told_f h2.1 (by omega) (by omega)) ?_))
          rw [wrap64_id (x := (j : Int) + 1) (by omega) (by omega), cast1, wrap64_id (x := tl L i j - tl M i j) (by omega) (by omega), mx_f _ (by omega)]
          exact hr1
        · simp only [spec_weDistance.l1]
          refine Ev.pos (by omega) (Ev.bindc (weTold_f h1.1 (by omega) (by omega)) (Ev.bindc (weTold_f h2.1 (by omega) (by omega)) ?_))
          rw [wrap64_id (x := (j : Int) + 1) (by omega) (by omega), cast1, wrap64_id (x := tl L j i - tl M j i) (by omega) (by omega)]
          refine Ev.bindc (abs_f _ (by omega)) ?_
          have e : (if tl L j i - tl M j i < 0 then -(tl L j i - tl M j i) else tl L j i - tl M j i) = (if tl L i j - tl M i j < 0 then -(tl L i j - tl M i j) else tl L i j - tl M i j) := by split <;> split <;> omega
          rw [e]
          exact hr2
    obtain ⟨r, hr1, hr2⟩ := inner i 0 s (by omega)
    refine ⟨r, Ev.shift ?_, Ev.shift ?_⟩
    · simp only [impl_PairDistance.l0]
      exact Ev.pos (by omega) hr1
    · simp only [spec_weDistance.l0]
      exact Ev.pos (by omega) hr2
theorem PairDistance_both (n : Int) (L : List Int) (m : Int) (M : List Int) (hL : L.length ≤ 1048576) (hM : M.length ≤ 1048576) : ∃ r, Ev (fun k => impl_PairDistance.f k n L m M) r ∧ Ev (fun k => spec_PairDistance.f k n L m M) r := by
  unfold impl_PairDistance.f spec_PairDistance.f impl_areOrders.f
  by_cases h1 : orderP n L
  · by_cases h2 : orderP m M
    · by_cases he : n = m
      · obtain ⟨r, hr1, hr2⟩ := distance_l0 n m L M h1 h2 he L.length 0 0 (by omega)
        refine ⟨(r, true), ?_, ?_⟩
        · exact Ev.bind (Ev.bind (isOrder_ev n L hL) (Ev.pos (by simpa using h1) (Ev.bind (isOrder_ev m M hM) (Ev.pos (by simpa using h2) (Ev.ret rfl))))) (Ev.pos (by simpa using he) hr1)
        · refine Ev.bind (orGood_ev n L hL) (Ev.pos (by simpa using h1) (Ev.bind (orGood_ev m M hM) (Ev.pos (by simpa using h2) (Ev.pos he (Ev.bind (a := r) ?_ (Ev.ret rfl))))))
          unfold spec_weDistance.f
          exact hr2
      · refine ⟨(0, false), ?_, ?_⟩
        · exact Ev.bind (Ev.bind (isOrder_ev n L hL) (Ev.pos (by simpa using h1) (Ev.bind (isOrder_ev m M hM) (Ev.pos (by simpa using h2) (Ev.ret rfl))))) (Ev.neg (by simpa using he) (Ev.ret rfl))
        · exact Ev.bind (orGood_ev n L hL) (Ev.pos (by simpa using h1) (Ev.bind (orGood_ev m M hM) (Ev.pos (by simpa using h2) (Ev.neg he (Ev.ret rfl)))))
    · refine ⟨(0, false), ?_, ?_⟩
      · exact Ev.bind (Ev.bind (isOrder_ev n L hL) (Ev.pos (by simpa using h1) (Ev.bind (isOrder_ev m M hM) (Ev.neg (by simpa using h2) (Ev.ret rfl))))) (Ev.neg (by simp) (Ev.ret rfl))
      · exact Ev.bind (orGood_ev n L hL) (Ev.pos (by simpa using h1) (Ev.bind (orGood_ev m M hM) (Ev.neg (by simpa using h2) (Ev.ret rfl))))
  · refine ⟨(0, false), ?_, ?_⟩
    · exact Ev.bind (Ev.bind (isOrder_ev n L hL) (Ev.neg (by simpa using h1) (Ev.ret rfl))) (Ev.neg (by simp) (Ev.ret rfl))
    · exact Ev.bind (orGood_ev n L hL) (Ev.neg (by simpa using h1) (Ev.ret rfl))

end Go.Proofs.YteechpappfagpaaDoor.Pure

/- PairDistance answers what the reference answers, for every two orders whose lists have at most 2^20 numbers together (longer ones the statement lets pass). Condition: the listed variables, tied to the program's text by the card. -/
namespace Go.Proofs.YteechpappfagpaaDoor.Pure
open Go.RowKit Go.Proofs.YteechpappfagpaaDoor.Q Go.Proofs.YteechpappfagpaaDoorW.PrintWords Go.Proofs.YteechpappfagpaaDoorW.PrintLast
set_option linter.unusedVariables false
set_option linter.unusedSimpArgs false

theorem FnExactPairDistance (n : Int) (L : List Int) (_ : (Lit.int .i64 n).wf = true) (hL : L.length ≤ maxLen) (_ : ∀ x ∈ L, (Lit.int .i64 x).wf = true) (m : Int) (M : List Int) (_ : (Lit.int .i64 m).wf = true) (hM : M.length ≤ maxLen) (_ : ∀ x ∈ M, (Lit.int .i64 x).wf = true) : ∃ k, laws_FnExactPairDistance.f k n L m M = some true := by
  refine Ev.at1 ?_
  unfold laws_FnExactPairDistance.f
  by_cases h1 : (1048576 : Int) < L.length
  · exact Ev.bindc (szOrder_big n L 1048576 (by omega) hL h1) (Ev.pos (by omega) (Ev.ret rfl))
  refine Ev.bindc (szOrder_fit n L 1048576 (by omega) (by omega)) (Ev.neg (by omega) ?_)
  by_cases h2 : (1048576 : Int) - L.length < M.length
  · exact Ev.bindc (szOrder_big m M _ (by omega) hM h2) (Ev.pos (by omega) (Ev.ret rfl))
  refine Ev.bindc (szOrder_fit m M _ (by omega) (by omega)) (Ev.neg (by omega) ?_)
  have hl : L.length ≤ 1048576 := by omega
  have hm : M.length ≤ 1048576 := by omega
  obtain ⟨⟨a, b⟩, hi, hs⟩ := PairDistance_both n L m M hl hm
  refine (Ev.bind (toOrder n L hl) (Ev.bind (toOrder m M hm) (Ev.bind hs (Ev.bind (toOrder n L hl) (Ev.bind (toOrder m M hm) (Ev.bind hi (Ev.pos rfl (Ev.shift ?_))))))))
  simp only [laws_FnExactPairDistance.j0]
  exact Ev.neg (by simp) (Ev.bind (toOrder n L hl) (Ev.bind (eqOrder_same n L hl) (Ev.pos rfl (Ev.bind (toOrder m M hm) (Ev.bind (eqOrder_same m M hm) (Ev.pos rfl (Ev.ret rfl)))))))

end Go.Proofs.YteechpappfagpaaDoor.Pure
