import Derived.Laws.Bits64b
import Derived.Test.YteechpappfagpaaDoorBFnExactMeetOrders4
import Derived.Test.YteechpappfagpaaDoorBFnExactMeetOrders7
import Derived.Test.YteechpappfagpaaDoorBFnExactMeetOrders8
import Derived.Test.YteechpappfagpaaDoorBFnExactMeetOrders9
import Derived.Test.YteechpappfagpaaDoorBFnExactMeetOrders11
import Derived.Test.YteechpappfagpaaDoorBFnExactMeetOrders12
namespace Go.Proofs.YteechpappfagpaaDoor.Pure
open Go.RowKit Go.Proofs.YteechpappfagpaaDoor.Q Go.Proofs.YteechpappfagpaaDoorW.PrintWords Go.Proofs.YteechpappfagpaaDoorW.PrintLast
set_option linter.unusedVariables false
set_option linter.unusedSimpArgs false

theorem ofInt64 (a : Nat) (h : a < 18446744073709551616) : (BitVec.ofInt 64 (a : Int)).toNat = a := by
  rw [BitVec.ofInt_natCast, BitVec.toNat_ofNat]; exact Nat.mod_eq_of_lt (by omega)
theorem wrapi64 (a : Nat) (h : a < 9223372036854775808) : IntKind.i64.wrap (a : Int) = a := by
  simp [IntKind.wrap, IntKind.signed, IntKind.bits]; omega
theorem and_nat (a b : Nat) (ha : a < 1024) (hb : b < 1024) : Go.bits .and .i64 (a : Int) (b : Int) = ((a &&& b : Nat) : Int) := by
  have hx : a &&& b < 2 ^ 10 := Nat.and_lt_two_pow _ (by omega)
  show IntKind.i64.wrap ((BitVec.ofInt 64 (a : Int) &&& BitVec.ofInt 64 (b : Int)).toNat : Int) = _
  rw [BitVec.toNat_and, ofInt64 a (by omega), ofInt64 b (by omega), wrapi64 _ (by omega)]
theorem or_nat (a b : Nat) (ha : a < 1024) (hb : b < 1024) : Go.bits .or .i64 (a : Int) (b : Int) = ((a ||| b : Nat) : Int) := by
  have hx : a ||| b < 2 ^ 10 := Nat.or_lt_two_pow (by omega) (by omega)
  show IntKind.i64.wrap ((BitVec.ofInt 64 (a : Int) ||| BitVec.ofInt 64 (b : Int)).toNat : Int) = _
  rw [BitVec.toNat_or, ofInt64 a (by omega), ofInt64 b (by omega), wrapi64 _ (by omega)]
theorem andNot_nat (a b : Nat) (ha : a < 1024) (hb : b < 1024) : Go.bits .andNot .i64 (a : Int) (b : Int) = ((a &&& (18446744073709551615 - b) : Nat) : Int) := by
  have hx : a &&& (18446744073709551615 - b) < 2 ^ 10 := Nat.lt_of_le_of_lt Nat.and_le_left (by omega)
  show IntKind.i64.wrap ((BitVec.ofInt 64 (a : Int) &&& ~~~ BitVec.ofInt 64 (b : Int)).toNat : Int) = _
  rw [BitVec.toNat_and, BitVec.toNat_not, ofInt64 a (by omega), ofInt64 b (by omega)]
  exact wrapi64 (a &&& (18446744073709551615 - b)) (by omega)
/-- the sets of elements 0 to 9 -/
def setP (x : Int) : Prop := 0 ≤ x ∧ x < 1024
theorem setP.nat {x : Int} (h : setP x) : ∃ m : Nat, x = m ∧ m < 1024 := by
  obtain ⟨h0, h1⟩ := h; exact ⟨x.toNat, by omega, by omega⟩
theorem bit_nat (m j : Nat) : bit (m : Int) j = m.testBit j := by simp [bit]
theorem set_and {x y : Int} (hx : setP x) (hy : setP y) : setP (Go.bits .and .i64 x y) ∧ ∀ j, bit (Go.bits .and .i64 x y) j = (bit x j && bit y j) := by
  obtain ⟨a, rfl, ha⟩ := hx.nat; obtain ⟨b, rfl, hb⟩ := hy.nat
  have h : a &&& b < 2 ^ 10 := Nat.and_lt_two_pow _ (by omega)
  rw [and_nat a b ha hb]
  exact ⟨⟨by omega, by omega⟩, fun j => by rw [bit_nat, bit_nat, bit_nat, Nat.testBit_and]⟩
theorem set_or {x y : Int} (hx : setP x) (hy : setP y) : setP (Go.bits .or .i64 x y) ∧ ∀ j, bit (Go.bits .or .i64 x y) j = (bit x j || bit y j) := by
  obtain ⟨a, rfl, ha⟩ := hx.nat; obtain ⟨b, rfl, hb⟩ := hy.nat
  have h : a ||| b < 2 ^ 10 := Nat.or_lt_two_pow (by omega) (by omega)
  rw [or_nat a b ha hb]
  exact ⟨⟨by omega, by omega⟩, fun j => by rw [bit_nat, bit_nat, bit_nat, Nat.testBit_or]⟩
theorem set_bit_lt {x : Int} (hx : setP x) {j : Nat} (h : bit x j = true) : j < 10 := bit_lt hx.1 (by have := hx.2; simpa using this) h
theorem set_andNot {x y : Int} (hx : setP x) (hy : setP y) : setP (Go.bits .andNot .i64 x y) ∧ ∀ j, bit (Go.bits .andNot .i64 x y) j = (bit x j && !bit y j) := by
  obtain ⟨a, rfl, ha⟩ := hx.nat; obtain ⟨b, rfl, hb⟩ := hy.nat
  have h : a &&& (18446744073709551615 - b) ≤ a := Nat.and_le_left
  rw [andNot_nat a b ha hb]
  refine ⟨⟨by omega, by omega⟩, fun j => ?_⟩
  rw [bit_nat, bit_nat, bit_nat, Nat.testBit_and]
  by_cases hj : j < 10
  · congr 1
    have e : 18446744073709551615 - b = 2 ^ 64 - (b + 1) := by omega
    rw [e, Nat.testBit_two_pow_sub_succ (by omega)]
    simp; omega
  · have : a.testBit j = false := Nat.testBit_lt_two_pow (Nat.lt_of_lt_of_le ha (by have := Nat.pow_le_pow_right (n := 2) (by omega) (show 10 ≤ j by omega); omega))
    simp [this]
theorem set_ext {x y : Int} (hx : setP x) (hy : setP y) (h : ∀ j, j < 10 → bit x j = bit y j) : x = y := by
  have hall : ∀ j, bit x j = bit y j := by
    intro j
    by_cases hj : j < 10
    · exact h j hj
    · rw [Bool.eq_iff_iff]
      exact ⟨fun h => absurd (set_bit_lt hx h) hj, fun h => absurd (set_bit_lt hy h) hj⟩
  obtain ⟨a, rfl, ha⟩ := hx.nat; obtain ⟨b, rfl, hb⟩ := hy.nat
  have : a = b := Nat.eq_of_testBit_eq fun j => by have := hall j; rwa [bit_nat, bit_nat] at this
  rw [this]
theorem set_zero : setP 0 := ⟨by omega, by omega⟩
theorem bit_zero (j : Nat) : bit 0 j = false := by simp [bit]
theorem set_eq_zero {x : Int} (hx : setP x) : x = 0 ↔ ∀ j, j < 10 → bit x j = false :=
  ⟨fun h j _ => by rw [h]; exact bit_zero j, fun h => set_ext hx set_zero fun j hj => by rw [h j hj, bit_zero]⟩
theorem shl_all : ∀ j : Fin 10, shl .i64 1 (j.val : Int) = ((2 ^ j.val : Nat) : Int) := by decide +kernel
theorem set_shl {j : Nat} (hj : j < 10) : setP (shl .i64 1 (j : Int)) ∧ ∀ m, bit (shl .i64 1 (j : Int)) m = decide (m = j) := by
  have e : shl .i64 1 (j : Int) = ((2 ^ j : Nat) : Int) := shl_all ⟨j, hj⟩
  rw [e]
  have h : 2 ^ j ≤ 2 ^ 9 := Nat.pow_le_pow_right (by omega) (by omega)
  have h2 : (2 ^ j : Nat) < 1024 := by omega
  refine ⟨⟨Int.natCast_nonneg _, Int.ofNat_lt.2 h2⟩, fun m => ?_⟩
  rw [bit_nat, Nat.testBit_two_pow]
  by_cases e : j = m <;> simp [e] <;> omega
theorem set_full {n : Nat} (hn : n ≤ 10) : setP (full (n : Int)) ∧ ∀ m, bit (full (n : Int)) m = decide (m < n) := by
  have h : (2 : Nat) ^ n ≤ 2 ^ 10 := Nat.pow_le_pow_right (by omega) hn
  have e : full (n : Int) = ((2 ^ n - 1 : Nat) : Int) := by
    rw [full_pow hn, Int.natCast_sub (Nat.one_le_two_pow)]; simp
  rw [e]
  refine ⟨⟨by omega, by have : (2 ^ n - 1 : Nat) < 1024 := by omega
                        omega⟩, fun m => ?_⟩
  rw [bit_nat, Nat.testBit_two_pow_sub_one]
/-- x is part of y -/
theorem andNot_zero {x y : Int} (hx : setP x) (hy : setP y) : andN x y = 0 ↔ ∀ j, j < 10 → bit x j = true → bit y j = true := by
  unfold andN
  rw [set_eq_zero (set_andNot hx hy).1]
  constructor
  · intro h j hj hb
    have := h j hj
    rw [(set_andNot hx hy).2, hb] at this
    simpa using this
  · intro h j hj
    rw [(set_andNot hx hy).2]
    cases hb : bit x j
    · rfl
    · simp [h j hj hb]
theorem relP.set {n : Int} {L : List Int} (h : relP n L) {i : Nat} (hi : i < L.length) : setP (rd L (i : Int)) := ⟨(h.row hi).1, (h.row hi).2.1⟩
/-- better -/
def lt (L : List Int) (i j : Nat) : Bool := bit (rd L (i : Int)) j
theorem relP.lt_len {n : Int} {L : List Int} (h : relP n L) {i j : Nat} (hi : i < L.length) (hb : lt L i j = true) : j < L.length := bit_lt (h.row hi).1 (h.row hi).2.2 hb
theorem orderP.irr {n : Int} {L : List Int} (h : orderP n L) {i : Nat} (hi : i < L.length) : lt L i i = false := (h.2 i hi).1
theorem orderP.trans {n : Int} {L : List Int} (h : orderP n L) {i j m : Nat} (hi : i < L.length) (h1 : lt L i j = true) (h2 : lt L j m = true) : lt L i m = true := by
  have hj := h.1.lt_len hi h1
  have hm := set_bit_lt (h.1.set hj) h2
  have := (h.2 i hi).2 (j : Int) (mem_bitsOf.2 ⟨j, by have := h.1.1; have := h.1.2.1; omega, h1, rfl⟩)
  exact (andNot_zero (h.1.set hj) (h.1.set hi)).1 this m hm h2
theorem orderP.asym {n : Int} {L : List Int} (h : orderP n L) {i j : Nat} (hi : i < L.length) (h1 : lt L i j = true) : lt L j i = false := by
  cases hb : lt L j i
  · rfl
  · have := h.trans hi h1 hb
    rw [h.irr hi] at this; cases this
/-- two relations of one size with the same pairs are one -/
theorem rel_ext {L M : List Int} (hl : L.length = M.length) (hL : ∀ i, i < L.length → setP (rd L (i : Int))) (hM : ∀ i, i < M.length → setP (rd M (i : Int))) (h : ∀ i j, i < L.length → j < 10 → lt L i j = lt M i j) : L = M := by
  apply List.ext_getElem hl
  intro i h1 h2
  have := set_ext (hL i h1) (hM i h2) (fun j hj => h i j h1 hj)
  rwa [rd_lt L i h1, rd_lt M i h2] at this

end Go.Proofs.YteechpappfagpaaDoor.Pure

namespace Go.Proofs.YteechpappfagpaaDoor.Pure
open Go.RowKit Go.Proofs.YteechpappfagpaaDoor.Q Go.Proofs.YteechpappfagpaaDoorW.PrintWords Go.Proofs.YteechpappfagpaaDoorW.PrintLast
set_option linter.unusedVariables false
set_option linter.unusedSimpArgs false

theorem Ev.up {α : Type} {g : Nat → Option α} {r : α} (h : Ev g r) : Ev (fun k => g (k + 1)) r := by
  obtain ⟨K, hK⟩ := h; exact ⟨K, fun k hk => hK (k + 1) (by omega)⟩
/-- one more bit -/
def orb (x : Int) (j : Nat) : Int := Go.bits .or .i64 x (shl .i64 1 (j : Int))
/-- a row: the bits of those before d that p tells -/
def rowf (p : Nat → Bool) (d : Nat) : Int := (List.range d).foldl (fun x j => if p j then orb x j else x) 0
theorem rowf_succ (p : Nat → Bool) (d : Nat) : rowf p (d + 1) = if p d then orb (rowf p d) d else rowf p d := by
  simp [rowf, List.range_succ, List.foldl_append]
/-- the rows of a relation on n elements -/
def rel (p : Nat → Nat → Bool) (n : Nat) : List Int := (List.range n).map fun i => rowf (p i) n
theorem rel_length (p : Nat → Nat → Bool) (n : Nat) : (rel p n).length = n := by simp [rel]
theorem rel_get (p : Nat → Nat → Bool) (n i : Nat) (h : i < n) : rd (rel p n) (i : Int) = rowf (p i) n := by
  rw [rd_lt _ i (by rw [rel_length]; exact h)]; simp [rel]
theorem rel_congr {p q : Nat → Nat → Bool} {n : Nat} (h : ∀ i j, i < n → j < n → p i j = q i j) : rel p n = rel q n := by
  unfold rel
  refine List.map_congr_left fun i hi => ?_
  rw [List.mem_range] at hi
  have : ∀ d, d ≤ n → rowf (p i) d = rowf (q i) d := by
    intro d
    induction d with
    | zero => intro _; rfl
    | succ d ih => intro hd; rw [rowf_succ, rowf_succ, ih (by omega), h i d hi (by omega)]
  exact this n (Nat.le_refl _)
/-- the rows up to i are told, the ones behind are empty -/
def relUpto (p : Nat → Nat → Bool) (n i : Nat) : List Int := (rel p n).take i ++ List.replicate (n - i) 0
theorem relation_l1 (p : Nat → Nat → Bool) (n : Nat) (hn : n ≤ 1000) (i : Nat) (hi : i < n) (R : Int × List Int) (hR : ∀ g : Nat → Int → Int → Option Bool, (∀ i j : Nat, i < n → j < n → Ev (fun k => g k i j) (p i j)) → ∀ y : List Int, y.length = n → rd y (i : Int) = rowf (p i) n → (∀ m : Nat, m < n → m ≠ i → rd y (m : Int) = if m < i then rowf (p m) n else 0) → Ev (fun k => impl_relation.l0 k n (g k) n ((i + 1 : Nat) : Int) n y) R) (d : Nat) :
    ∀ (j : Nat) (y : List Int) (g : Nat → Int → Int → Option Bool), (∀ i j : Nat, i < n → j < n → Ev (fun k => g k i j) (p i j)) → j + d = n → y.length = n → rd y (i : Int) = rowf (p i) j → (∀ m : Nat, m < n → m ≠ i → rd y (m : Int) = if m < i then rowf (p m) n else 0) →
    Ev (fun k => impl_relation.l1 k n (g k) (i : Int) n (i : Int) n (j : Int) n y) R := by
  induction d with
  | zero =>
    intro j y g hg hj hy h1 h2
    obtain rfl : j = n := by omega
    refine Ev.shift ?_
    simp only [impl_relation.l1]
    refine Ev.neg (by omega) ?_
    rw [wrap64_id (x := (i : Int) + 1) (by omega) (by omega), cast1]
    exact hR (fun k => g (k + 1)) (fun a b ha hb => Ev.up (hg a b ha hb)) y hy h1 h2
  | succ d ih =>
    intro j y g hg hj hy h1 h2
    have hg' : ∀ i j : Nat, i < n → j < n → Ev (fun k => g (k + 1) i j) (p i j) := fun a b ha hb => Ev.up (hg a b ha hb)
    refine Ev.shift ?_
    simp only [impl_relation.l1]
    refine Ev.pos (by omega) (Ev.bind (hg' i j hi (by omega)) ?_)
    rw [wrap64_id (x := (j : Int) + 1) (by omega) (by omega), cast1]
    by_cases hp : p i j = true
    · refine Ev.pos hp (Ev.pos (by omega) (Ev.pos (by omega) (Ev.pos (by omega) ?_)))
      rw [Int.toNat_natCast]
      refine ih (j + 1) _ (fun k => g (k + 1)) hg' (by omega) (by simp; omega) ?_ ?_
      · rw [rd_lt _ i (by simp; omega), List.getElem_set_self, rowf_succ, if_pos hp, h1]; rfl
      · intro m hm hmi
        rw [rd_lt _ m (by simp; omega), List.getElem_set_ne (Ne.symm hmi), ← rd_lt y m (by omega)]
        exact h2 m hm hmi
    · refine Ev.neg hp (ih (j + 1) y (fun k => g (k + 1)) hg' (by omega) hy ?_ h2)
      rw [rowf_succ, if_neg hp]; exact h1
theorem relation_l0 (p : Nat → Nat → Bool) (n : Nat) (hn : n ≤ 1000) (d : Nat) : ∀ (i : Nat) (y : List Int) (g : Nat → Int → Int → Option Bool), (∀ i j : Nat, i < n → j < n → Ev (fun k => g k i j) (p i j)) → i + d = n → y.length = n → (∀ m : Nat, m < n → rd y (m : Int) = if m < i then rowf (p m) n else 0) →
    Ev (fun k => impl_relation.l0 k n (g k) n (i : Int) n y) ((n : Int), rel p n) := by
  induction d with
  | zero =>
    intro i y g hg hi hy h1
    refine Ev.shift ?_
    simp only [impl_relation.l0]
    refine Ev.neg (by omega) (Ev.ret ?_)
    congr 1
    apply List.ext_getElem (by rw [rel_length]; exact hy)
    intro m hm1 hm2
    have := h1 m (by omega)
    rw [if_pos (by omega), rd_lt y m hm1, ← rel_get p n m (by omega), rd_lt _ m hm2] at this
    exact this
  | succ d ih =>
    intro i y g hg hi hy h1
    refine Ev.shift ?_
    simp only [impl_relation.l0]
    refine Ev.pos (by omega) ?_
    refine relation_l1 p n hn i (by omega) _ (fun g' hg' y' hy' h1' h2' => ih (i + 1) y' g' hg' (by omega) hy' (fun m hm => ?_)) n 0 y (fun k => g (k + 1)) (fun a b ha hb => Ev.up (hg a b ha hb)) (by omega) hy ?_ ?_
    · by_cases e : m = i
      · subst e; rw [h1', if_pos (by omega)]
      · rw [h2' m hm e]
        by_cases hlt : m < i
        · rw [if_pos hlt, if_pos (by omega)]
        · rw [if_neg hlt, if_neg (by omega)]
    · rw [h1 i (by omega), if_neg (by omega)]; rfl
    · intro m hm e; exact h1 m hm
theorem relation_ev (p : Nat → Nat → Bool) (n : Nat) (hn : n ≤ 1000) (g : Nat → Int → Int → Option Bool) (hg : ∀ i j : Nat, i < n → j < n → Ev (fun k => g k i j) (p i j)) : Ev (fun k => impl_relation.f k n (g k)) ((n : Int), rel p n) := by
  unfold impl_relation.f
  refine Ev.pos (by omega) (Ev.pos (by omega) ?_)
  rw [Int.toNat_natCast]
  exact relation_l0 p n hn n 0 _ g hg (by omega) (by simp) (fun m hm => by rw [rd_lt _ m (by simp; omega), List.getElem_replicate, if_neg (by omega)])

end Go.Proofs.YteechpappfagpaaDoor.Pure

namespace Go.Proofs.YteechpappfagpaaDoor.Pure
open Go.RowKit Go.Proofs.YteechpappfagpaaDoor.Q Go.Proofs.YteechpappfagpaaDoorW.PrintWords Go.Proofs.YteechpappfagpaaDoorW.PrintLast
set_option linter.unusedVariables false
set_option linter.unusedSimpArgs false

theorem rowf_bits (p : Nat → Bool) (d : Nat) : d ≤ 10 → setP (rowf p d) ∧ ∀ m, bit (rowf p d) m = (decide (m < d) && p m) := by
  induction d with
  | zero => intro _; exact ⟨set_zero, fun m => by rw [show rowf p 0 = 0 from rfl, bit_zero]; simp⟩
  | succ d ih =>
    intro hd
    obtain ⟨h1, h2⟩ := ih (by omega)
    rw [rowf_succ]
    by_cases hp : p d = true
    · rw [if_pos hp]
      have hs := set_shl (j := d) (by omega)
      have ho := set_or h1 hs.1
      refine ⟨ho.1, fun m => ?_⟩
      show bit (Go.bits .or .i64 (rowf p d) (shl .i64 1 (d : Int))) m = _
      rw [ho.2, h2, hs.2]
      by_cases e : m = d
      · subst e; simp [hp]
      · by_cases l : m < d
        · simp [l, e, show m < d + 1 by omega]
        · simp [l, e, show ¬ m < d + 1 by omega]
    · rw [if_neg hp]
      refine ⟨h1, fun m => ?_⟩
      rw [h2]
      by_cases e : m = d
      · subst e; simp [hp]
      · by_cases l : m < d
        · simp [l, show m < d + 1 by omega]
        · simp [l, show ¬ m < d + 1 by omega]
theorem rel_set {p : Nat → Nat → Bool} {n i : Nat} (hn : n ≤ 10) (hi : i < n) : setP (rd (rel p n) (i : Int)) := by
  rw [rel_get p n i hi]; exact (rowf_bits (p i) n hn).1
theorem rel_lt {p : Nat → Nat → Bool} {n i : Nat} (hn : n ≤ 10) (hi : i < n) (j : Nat) : lt (rel p n) i j = (decide (j < n) && p i j) := by
  unfold lt; rw [rel_get p n i hi]; exact (rowf_bits (p i) n hn).2 j

end Go.Proofs.YteechpappfagpaaDoor.Pure

namespace Go.Proofs.YteechpappfagpaaDoor.Pure
open Go.RowKit Go.Proofs.YteechpappfagpaaDoor.Q Go.Proofs.YteechpappfagpaaDoorW.PrintWords Go.Proofs.YteechpappfagpaaDoorW.PrintLast
set_option linter.unusedVariables false
set_option linter.unusedSimpArgs false

theorem meet_spec (n m : Int) (L M : List Int) (hl : L.length ≤ 10) (he : M.length = L.length) (d : Nat) : ∀ (i : Nat) (y : List Int), i + d = L.length → y = (List.range i).map (fun (j : Nat) => Go.bits .and .i64 (rd L (j : Int)) (rd M (j : Int))) → Ev (fun k => spec_MeetOrders.l0 k L (L.length : Int) (i : Int) m M n y) (n, (List.range L.length).map (fun (j : Nat) => Go.bits .and .i64 (rd L (j : Int)) (rd M (j : Int))), true) := by
  induction d with
  | zero =>
    intro i y hi hy
    refine Ev.shift ?_
    simp only [spec_MeetOrders.l0]
    exact Ev.neg (by omega) (Ev.ret (by rw [hy, show i = L.length by omega]))
  | succ d ih =>
    intro i y hi hy
    refine Ev.shift ?_
    simp only [spec_MeetOrders.l0]
    refine Ev.pos (by omega) (Ev.pos (by omega) (Ev.pos (by omega) (Ev.pos (by omega) (Ev.pos (by rw [hy]; simp; omega) ?_))))
    rw [wrap64_id (by omega) (by omega), cast1]
    exact ih (i + 1) _ (by omega) (by rw [hy, List.range_succ, List.map_append]; rfl)
theorem MeetOrders_both (n : Int) (L : List Int) (m : Int) (M : List Int) (hL : L.length ≤ 1048576) (hM : M.length ≤ 1048576) : ∃ q x b, Ev (fun k => impl_MeetOrders.f k n L m M) (q, x, b) ∧ Ev (fun k => spec_MeetOrders.f k n L m M) (q, x, b) ∧ x.length ≤ 1000 := by
  have hno : Ev (fun k => spec_MeetOrders.j0 k true n L m M) (0, [], false) := by
    refine Ev.shift ?_
    simp only [spec_MeetOrders.j0]
    exact Ev.pos trivial (Ev.ret rfl)
  unfold impl_MeetOrders.f spec_MeetOrders.f impl_areOrders.f
  by_cases h1 : orderP n L
  · by_cases h2 : orderP m M
    · by_cases he : n = m
      · have e1 := h1.1.2.1
        have e2 := h2.1.2.1
        have e3 := h1.1.1
        have e4 : M.length = L.length := by omega
        refine ⟨n, rel (fun i j => lt L i j && lt M i j) L.length, true, ?_, ?_, by rw [rel_length]; omega⟩
        · refine Ev.bind (Ev.bind (isOrder_ev n L hL) (Ev.pos (by simpa using h1) (Ev.bind (isOrder_ev m M hM) (Ev.pos (by simpa using h2) (Ev.ret rfl))))) (Ev.pos (by simpa using he) ?_)
          have hrel := relation_ev (fun i j => lt L i j && lt M i j) L.length (by omega) (fun _ u0_ u1_ => impl_MeetOrders_1.f u0_ u1_ n L m M) (fun i j hi hj => Ev.const (by
            unfold impl_MeetOrders_1.f
            rw [better_f n L hi (h1.1.set hi) (by omega), Option.bind_some]
            show (if lt L i j = true then _ else _) = _
            cases hb : lt L i j
            · rfl
            · rw [if_pos rfl, better_f m M (by omega) (h2.1.set (by omega)) (by omega), Option.bind_some]; rfl))
          rw [e1] at hrel
          exact Ev.bind hrel (Ev.ret rfl)
        · refine Ev.bind (orGood_ev n L hL) (Ev.pos (by simpa using h1) (Ev.bind (orGood_ev m M hM) (Ev.pos (by simpa using h2) (Ev.shift ?_))))
          simp only [spec_MeetOrders.j0]
          refine Ev.neg (by simp [he]) (Ev.eq (meet_spec n m L M (by omega) e4 L.length 0 [] (by omega) (by simp)) ?_)
          congr 2
          have hget : ∀ i : Nat, i < L.length → rd ((List.range L.length).map (fun j : Nat => Go.bits .and .i64 (rd L (j : Int)) (rd M (j : Int)))) (i : Int) = Go.bits .and .i64 (rd L (i : Int)) (rd M (i : Int)) := by
            intro i hi; rw [rd_lt _ i (by simpa using hi)]; simp
          refine rel_ext (by simp [rel_length]) (fun i hi => ?_) (fun i hi => ?_) (fun i j hi hj => ?_)
          · rw [List.length_map, List.length_range] at hi
            rw [hget i hi]; exact (set_and (h1.1.set hi) (h2.1.set (by omega))).1
          · rw [rel_length] at hi; exact rel_set (by omega) hi
          · rw [List.length_map, List.length_range] at hi
            rw [rel_lt (by omega) hi]
            unfold lt
            rw [hget i hi, (set_and (h1.1.set hi) (h2.1.set (by omega))).2]
            cases hb : bit (rd L (i : Int)) j
            · simp
            · have : j < L.length := h1.1.lt_len hi hb
              simp [this]
      · refine ⟨0, [], false, ?_, ?_, by simp⟩
        · exact Ev.bind (Ev.bind (isOrder_ev n L hL) (Ev.pos (by simpa using h1) (Ev.bind (isOrder_ev m M hM) (Ev.pos (by simpa using h2) (Ev.ret rfl))))) (Ev.neg (by simpa using he) (Ev.ret rfl))
        · refine Ev.bind (orGood_ev n L hL) (Ev.pos (by simpa using h1) (Ev.bind (orGood_ev m M hM) (Ev.pos (by simpa using h2) (Ev.shift ?_))))
          simp only [spec_MeetOrders.j0]
          exact Ev.pos (by simp [he]) (Ev.ret rfl)
    · refine ⟨0, [], false, ?_, ?_, by simp⟩
      · exact Ev.bind (Ev.bind (isOrder_ev n L hL) (Ev.pos (by simpa using h1) (Ev.bind (isOrder_ev m M hM) (Ev.neg (by simpa using h2) (Ev.ret rfl))))) (Ev.neg (by simp) (Ev.ret rfl))
      · exact Ev.bind (orGood_ev n L hL) (Ev.pos (by simpa using h1) (Ev.bind (orGood_ev m M hM) (Ev.neg (by simpa using h2) hno)))
  · refine ⟨0, [], false, ?_, ?_, by simp⟩
    · exact Ev.bind (Ev.bind (isOrder_ev n L hL) (Ev.neg (by simpa using h1) (Ev.ret rfl))) (Ev.neg (by simp) (Ev.ret rfl))
    · exact Ev.bind (orGood_ev n L hL) (Ev.neg (by simpa using h1) hno)

end Go.Proofs.YteechpappfagpaaDoor.Pure

/- MeetOrders answers what the reference answers, for every two orders whose lists have at most 2^20 numbers together (longer ones the statement lets pass). Condition: the listed variables, tied to the program's text by the card. -/
namespace Go.Proofs.YteechpappfagpaaDoor.Pure
open Go.RowKit Go.Proofs.YteechpappfagpaaDoor.Q Go.Proofs.YteechpappfagpaaDoorW.PrintWords Go.Proofs.YteechpappfagpaaDoorW.PrintLast
set_option linter.unusedVariables false
set_option linter.unusedSimpArgs false

theorem FnExactMeetOrders (n : Int) (L : List Int) (_ : (Lit.int .i64 n).wf = true) (hL : L.length ≤ maxLen) (_ : ∀ x ∈ L, (Lit.int .i64 x).wf = true) (m : Int) (M : List Int) (_ : (Lit.int .i64 m).wf = true) (hM : M.length ≤ maxLen) (_ : ∀ x ∈ M, (Lit.int .i64 x).wf = true) : ∃ k, laws_FnExactMeetOrders.f k n L m M = some true := by
  refine Ev.at1 ?_
  unfold laws_FnExactMeetOrders.f
  by_cases h1 : (1048576 : Int) < L.length
  · exact Ev.bindc (szOrder_big n L 1048576 (by omega) hL h1) (Ev.pos (by omega) (Ev.ret rfl))
  refine Ev.bindc (szOrder_fit n L 1048576 (by omega) (by omega)) (Ev.neg (by omega) ?_)
  by_cases h2 : (1048576 : Int) - L.length < M.length
  · exact Ev.bindc (szOrder_big m M _ (by omega) hM h2) (Ev.pos (by omega) (Ev.ret rfl))
  refine Ev.bindc (szOrder_fit m M _ (by omega) (by omega)) (Ev.neg (by omega) ?_)
  have hl : L.length ≤ 1048576 := by omega
  have hm : M.length ≤ 1048576 := by omega
  obtain ⟨q, x, b, hi, hs, hx⟩ := MeetOrders_both n L m M hl hm
  have ex := eqOrder_same q x (by omega)
  have mx := markOrder q x (by omega) 1 (by omega) (by omega)
  have gx := heldOrder q x.length (by omega) 1 (by omega) (by omega)
  refine (Ev.bind (toOrder n L hl) (Ev.bind (toOrder m M hm) (Ev.bind hs (Ev.bind (toOrder n L hl) (Ev.bind (toOrder m M hm) (Ev.bind hi (Ev.bind ex (Ev.pos rfl (Ev.shift ?_)))))))))
  simp only [laws_FnExactMeetOrders.j0]
  refine Ev.neg (by simp) (Ev.bind (toOrder n L hl) (Ev.bind (eqOrder_same n L hl) (Ev.pos rfl (Ev.bind (toOrder m M hm) (Ev.bind (eqOrder_same m M hm) (Ev.pos rfl (Ev.bind (markOrder n L hl 1 (by omega) (by omega)) (Ev.bind (markOrder m M hm _ (by simp; omega) (by simp; omega)) ?_))))))))
  refine Ev.neg (by simp; omega) (Ev.bind ex (Ev.pos rfl (Ev.shift ?_)))
  simp only [laws_FnExactMeetOrders.j1]
  refine Ev.neg (by simp) (Ev.bind mx (Ev.bind gx (Ev.neg (by omega) (Ev.pos rfl ?_))))
  refine (Ev.bind (toOrder n L hl) (Ev.bind (toOrder m M hm) (Ev.bind hi (Ev.bind ex (Ev.pos rfl (Ev.shift ?_))))))
  simp only [laws_FnExactMeetOrders.j2]
  exact Ev.neg (by simp) (Ev.bind gx (Ev.neg (by omega) (Ev.pos rfl (Ev.ret rfl))))

end Go.Proofs.YteechpappfagpaaDoor.Pure
