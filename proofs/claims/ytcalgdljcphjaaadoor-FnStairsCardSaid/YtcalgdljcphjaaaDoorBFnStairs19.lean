import Derived.Laws.Bits64b
import Derived.Test.YtcalgdljcphjaaaDoorBFnStairs4
import Derived.Test.YtcalgdljcphjaaaDoorBFnStairs7
namespace Go.Proofs.YtcalgdljcphjaaaDoor.Pure
open Go.RowKit Go.Proofs.YtcalgdljcphjaaaDoor.Q Go.Proofs.YtcalgdljcphjaaaDoorW.PrintWords Go.Proofs.YtcalgdljcphjaaaDoorW.PrintLast
set_option linter.unusedVariables false
set_option linter.unusedSimpArgs false
-- small laws over rounds, numbers and lists; no program in sight
theorem Ev.shift {α : Type} {g : Nat → Option α} {r : α} (h : Ev (fun k => g (k + 1)) r) : Ev g r := by
 obtain ⟨K, hK⟩ := h
 refine ⟨K + 1, fun k hk => ?_⟩
 obtain ⟨m, rfl⟩ : ∃ m, k = m + 1 := ⟨k - 1, by omega⟩
 exact hK m (by omega)
theorem Ev.pos {α : Type} {c : Prop} [Decidable c] {f g : Nat → Option α} {r : α} (h : c) (k : Ev f r) : Ev (fun n => if c then f n else g n) r := by
 simp only [if_pos h]; exact k
theorem Ev.neg {α : Type} {c : Prop} [Decidable c] {f g : Nat → Option α} {r : α} (h : ¬ c) (k : Ev g r) : Ev (fun n => if c then f n else g n) r := by
 simp only [if_neg h]; exact k
theorem Ev.bindc {α β : Type} {a : Option α} {x : α} {f : Nat → α → Option β} {r : β} (h : a = some x) (k : Ev (fun n => f n x) r) : Ev (fun n => a.bind (f n)) r := by
 subst h; exact k
theorem Ev.ret {α : Type} {r s : α} (h : r = s) : Ev (fun _ => some r) s := by subst h; exact Ev.now _
theorem Ev.const {α : Type} {a : Option α} {r : α} (h : a = some r) : Ev (fun _ => a) r := ⟨0, fun _ _ => h⟩
theorem Ev.eq {α : Type} {g : Nat → Option α} {r s : α} (h : Ev g r) (e : r = s) : Ev g s := e ▸ h
theorem Ev.at1 {α : Type} {g : Nat → Option α} {r : α} (h : Ev g r) : ∃ k, g k = some r := h.rounds
theorem wrap64_id {x : Int} (h1 : -9223372036854775808 ≤ x) (h2 : x ≤ 9223372036854775807) : wrap64 x = x := by unfold wrap64; omega
theorem rd_lt (l : List Int) (i : Nat) (h : i < l.length) : rd l (i : Int) = l[i] := by simp [rd, h]
theorem cast1 (i : Nat) : (i : Int) + 1 = ((i + 1 : Nat) : Int) := by omega
theorem big_f (l m : List Int) (hl : l.length ≤ maxLen) : ∃ b, laws_big.f l m = some b := by
 unfold laws_big.f
 by_cases h : (l.length : Int) > 1048576
 ·exact ⟨_, if_pos h⟩
 ·exact ⟨_, if_neg h⟩
-- choices out of bytes: numbers below what is asked, the place goes on by a few
def bytesP (l : List Int) : Prop := ∀ x ∈ l, 0 ≤ x ∧ x < 256
theorem bytesP.rd {l : List Int} (h : bytesP l) {i : Int} (h0 : 0 ≤ i) (h1 : i < l.length) : 0 ≤ rd l i ∧ rd l i < 256 := by
 obtain ⟨m, rfl⟩ : ∃ m : Nat, i = m := ⟨i.toNat, by omega⟩
 rw [rd_lt l m (by omega)]
 exact h _ (List.getElem_mem _)
theorem bytesP.of {l : List Int} (h : ∀ x ∈ l, (Lit.int .u8 x).wf = true) : bytesP l := fun x hx => by
 have := h x hx
 simp [Lit.wf, IntKind.min, IntKind.max, IntKind.signed, IntKind.bits] at this
 omega
theorem and255 (x : Int) : 0 ≤ Go.bits .and .u64 x 255 ∧ Go.bits .and .u64 x 255 < 256 := by
 show 0 ≤ IntKind.u64.wrap ((BitVec.ofInt 64 x &&& BitVec.ofInt 64 255).toNat : Int) ∧ IntKind.u64.wrap ((BitVec.ofInt 64 x &&& BitVec.ofInt 64 255).toNat : Int) < 256
 rw [BitVec.toNat_and]
 have h : (BitVec.ofInt 64 x).toNat &&& (BitVec.ofInt 64 255).toNat ≤ (BitVec.ofInt 64 255).toNat := Nat.and_le_right
 have e : (BitVec.ofInt 64 255).toNat = 255 := by decide
 rw [e] at h
 rw [e]
 generalize (BitVec.ofInt 64 x).toNat &&& 255 = m at h
 simp [IntKind.wrap, IntKind.signed, IntKind.bits]; omega
def Drw {α : Type} (g : Option (α × Int × Int)) (P : α → Prop) (a n : Int) : Prop := ∃ x a' s', g = some (x, a', s') ∧ P x ∧ a ≤ a' ∧ a' ≤ a + n
theorem next_d {c : List Int} (hc : bytesP c) {a : Int} (s : Int) (h0 : 0 ≤ a) (h1 : a ≤ 1152921504606846976) : Drw (spec_l1Cur_next.f c a s) (fun x => 0 ≤ x ∧ x < 256) a 1 := by
 unfold Drw spec_l1Cur_next.f
 rw [wrap64_id (x := a + 1) (by omega) (by omega)]
 have hb := and255
 by_cases h2 : a < (c.length : Int)
 ·have hr := hc.rd h0 h2
  rw [if_pos h2, if_pos h0, if_pos (by omega)]
  exact ⟨_, _, _, rfl, by rw [wrap64_id (by omega) (by omega)]; exact hr, by omega, by omega⟩
 ·rw [if_neg h2, if_neg (by omega)]
  refine ⟨_, _, _, rfl, ?_, by omega, by omega⟩
  have := hb (IntKind.u64.wrap (IntKind.u64.wrap (IntKind.u64.wrap (s * 6364136223846793005) + 0) + 1442695040888963407) / 1099511627776)
  rw [wrap64_id (by omega) (by omega)]; exact this
theorem pick_d {c : List Int} (hc : bytesP c) {a : Int} (s n : Int) (h0 : 0 ≤ a) (h1 : a ≤ 1000000000000) (hn : 1 ≤ n) : Drw (spec_l1Cur_pick.f c a s n) (fun x => 0 ≤ x ∧ x < n) a 2 := by
 unfold spec_l1Cur_pick.f
 by_cases h2 : n ≤ 1
 ·rw [if_pos h2]; exact ⟨_, _, _, rfl, by omega, by omega, by omega⟩
 ·rw [if_neg h2]
  obtain ⟨x, a', s', e, hx, h3, h4⟩ := next_d hc s h0 (by omega)
  rw [e, Option.bind_some]
  by_cases h5 : n > 200
  ·rw [if_pos h5]
   obtain ⟨y, a2, s2, e2, hy, h6, h7⟩ := next_d hc s' (a := a') (by omega) (by omega)
   dsimp only
   rw [e2, Option.bind_some, if_neg (by omega)]
   refine ⟨_, _, _, rfl, ?_, by dsimp only; omega, by dsimp only; omega⟩
   dsimp only
   rw [wrap64_id (x := x * 256) (by omega) (by omega), wrap64_id (by omega) (by omega)]
   exact ⟨Int.tmod_nonneg _ (by omega), Int.tmod_lt_of_pos _ (by omega)⟩
  ·rw [if_neg h5, if_neg (by omega)]
   exact ⟨_, _, _, rfl, ⟨Int.tmod_nonneg _ hx.1, Int.tmod_lt_of_pos _ (by omega)⟩, by dsimp only; omega, by dsimp only; omega⟩
theorem among_d {c : List Int} (hc : bytesP c) {a : Int} (s : Int) (l : List Int) (h0 : 0 ≤ a) (h1 : a ≤ 1000000000000) (hn : 1 ≤ l.length) : Drw (spec_l1Cur_among.f c a s l) (fun x => x ∈ l) a 2 := by
 unfold spec_l1Cur_among.f
 obtain ⟨x, a', s', e, hx, h3, h4⟩ := pick_d hc s (l.length : Int) h0 h1 (by omega)
 rw [e, Option.bind_some]
 dsimp only
 rw [if_pos hx.1, if_pos hx.2]
 refine ⟨_, _, _, rfl, ?_, h3, h4⟩
 obtain ⟨m, rfl⟩ : ∃ m : Nat, x = m := ⟨x.toNat, by omega⟩
 rw [rd_lt l m (by omega)]; exact List.getElem_mem _
theorem impl_in (a b c : Int) : impl_within.f a b c = some (decide (b ≤ a ∧ a ≤ c)) := by
 unfold impl_within.f
 by_cases h : a ≥ b
 ·rw [if_pos h]; by_cases h2 : a ≤ c <;> simp [h2] <;> omega
 ·rw [if_neg h]; simp; omega
theorem spec_in (a b c : Int) : spec_l1In.f a b c = some (decide (b ≤ a ∧ a ≤ c)) := by
 unfold spec_l1In.f
 by_cases h : a ≥ b
 ·rw [if_pos h]; by_cases h2 : a ≤ c <;> simp [h2] <;> omega
 ·rw [if_neg h]; simp; omega
theorem drop_rd (l : List Int) (i : Nat) (h : i < l.length) : l.drop i = rd l (i : Int) :: l.drop (i + 1) := by
 rw [rd_lt l i h]; exact List.drop_eq_getElem_cons h
-- sets of elements 0 to 9, as numbers below 1024
theorem Ev.of_mono {α : Type} {g : Nat → Option α} {r : α} (hm : ∀ k, LeO (g k) (g (k + 1))) {K : Nat} (h : g K = some r) : Ev g r := ⟨K, fun _ hk => at_rounds hm hk h⟩
def bit (x : Int) (j : Nat) : Bool := x.toNat.testBit j
def bitsOf (x : Int) : List Int := ((List.range 10).filter (bit x)).map fun (j : Nat) => (j : Int)
theorem members_all : ∀ x : Fin 1024, impl_members.f 12 (x.val : Int) = some (bitsOf (x.val : Int)) := by decide +kernel
theorem shr_all : ∀ x : Fin 1024, ∀ j : Fin 10, ((Go.bits .and .i64 (shr .i64 (x.val : Int) (j.val : Int)) 1) == 1) = bit (x.val : Int) j.val := by decide +kernel
theorem members_ev {x : Int} (h0 : 0 ≤ x) (h1 : x < 1024) : Ev (fun k => impl_members.f k x) (bitsOf x) := by
 obtain ⟨m, rfl⟩ : ∃ m : Nat, x = m := ⟨x.toNat, by omega⟩
 exact Ev.of_mono (impl_members.mono _) (members_all ⟨m, by omega⟩)
theorem shr_bit {x : Int} (h0 : 0 ≤ x) (h1 : x < 1024) {j : Nat} (hj : j < 10) : ((Go.bits .and .i64 (shr .i64 x (j : Int)) 1) == 1) = bit x j := by
 obtain ⟨m, rfl⟩ : ∃ m : Nat, x = m := ⟨x.toNat, by omega⟩
 exact shr_all ⟨m, by omega⟩ ⟨j, hj⟩
theorem better_f (n : Int) (L : List Int) {i j : Nat} (hi : i < L.length) (hx : 0 ≤ rd L (i : Int) ∧ rd L (i : Int) < 1024) (hj : j < 10) : impl_Order_better.f n L (i : Int) (j : Int) = some (bit (rd L (i : Int)) j) := by
 unfold impl_Order_better.f
 rw [if_pos (by omega), if_pos (by omega), if_pos (by omega), shr_bit hx.1 hx.2 hj]
theorem mem_bitsOf {x j : Int} : j ∈ bitsOf x ↔ ∃ i : Nat, i < 10 ∧ bit x i = true ∧ j = i := by
 simp only [bitsOf, List.mem_map, List.mem_filter, List.mem_range]
 constructor
 ·rintro ⟨i, ⟨h1, h2⟩, rfl⟩; exact ⟨i, h1, h2, rfl⟩
 ·rintro ⟨i, h1, h2, rfl⟩; exact ⟨i, ⟨h1, h2⟩, rfl⟩
theorem bit_lt {x : Int} {j n : Nat} (h0 : 0 ≤ x) (hx : x < (2 : Int) ^ n) (h : bit x j = true) : j < n := by
 have h1 := Nat.ge_two_pow_of_testBit h
 have h2 : x.toNat < 2 ^ n := by
  have : (x.toNat : Int) < ((2 ^ n : Nat) : Int) := by rw [Int.toNat_of_nonneg h0]; simpa using hx
  omega
 exact (Nat.pow_lt_pow_iff_right (by omega)).1 (Nat.lt_of_le_of_lt h1 h2)
theorem full_val : ∀ n : Fin 11, wrap64 (shl .i64 1 (n.val : Int) - 1) = (2 : Int) ^ n.val - 1 := by decide +kernel
theorem full_le : ∀ n : Fin 11, (2 : Int) ^ n.val - 1 ≤ 1023 := by decide +kernel
def full (n : Int) : Int := wrap64 (shl .i64 1 n - 1)
theorem full_pow {n : Nat} (h : n ≤ 10) : full (n : Int) = (2 : Int) ^ n - 1 := full_val ⟨n, by omega⟩
theorem full_1023 {n : Nat} (h : n ≤ 10) : full (n : Int) ≤ 1023 := by rw [full_pow h]; exact full_le ⟨n, by omega⟩
def andN (x y : Int) : Int := Go.bits .andNot .i64 x y
def relP (n : Int) (L : List Int) : Prop := (0 ≤ n ∧ n ≤ 10) ∧ (L.length : Int) = n ∧ ∀ x ∈ L, 0 ≤ x ∧ x ≤ full n
instance (n : Int) (L : List Int) : Decidable (relP n L) := by unfold relP; infer_instance
def rowOk (L : List Int) (m : Nat) : Prop := bit (rd L (m : Int)) m = false ∧ ∀ j ∈ bitsOf (rd L (m : Int)), andN (rd L j) (rd L (m : Int)) = 0
instance (L : List Int) (m : Nat) : Decidable (rowOk L m) := by unfold rowOk; infer_instance
def orderP (n : Int) (L : List Int) : Prop := relP n L ∧ ∀ m : Nat, m < L.length → rowOk L m
instance (n : Int) (L : List Int) : Decidable (orderP n L) := by unfold orderP; infer_instance
theorem relP.row {n : Int} {L : List Int} (h : relP n L) {i : Nat} (hi : i < L.length) : 0 ≤ rd L (i : Int) ∧ rd L (i : Int) < 1024 ∧ rd L (i : Int) < (2 : Int) ^ L.length := by
 obtain ⟨⟨h0, h1⟩, h2, h3⟩ := h
 have := h3 (rd L (i : Int)) (by rw [rd_lt L i hi]; exact List.getElem_mem _)
 have e : n = (L.length : Int) := h2.symm
 subst e
 have f := full_pow (n := L.length) (by omega)
 have g := full_1023 (n := L.length) (by omega)
 omega
theorem relP.bits {n : Int} {L : List Int} (h : relP n L) {i : Nat} (hi : i < L.length) {j : Int} (hj : j ∈ bitsOf (rd L (i : Int))) : ∃ m : Nat, j = m ∧ m < L.length ∧ bit (rd L (i : Int)) m = true := by
 obtain ⟨m, _, hb, rfl⟩ := mem_bitsOf.1 hj
 have := h.row hi
 exact ⟨m, rfl, bit_lt this.1 this.2.2 hb, hb⟩
theorem allWithin_l (a b : Int) (l : List Int) (hl : l.length ≤ 1048576) (d : Nat) : ∀ i : Nat, i + d = l.length → Ev (fun k => impl_allWithin.l0 k a b l (l.length : Int) i) (decide (∀ x ∈ l.drop i, a ≤ x ∧ x ≤ b)) := by
 induction d with
 | zero =>
  intro i hi
  refine Ev.shift ?_
  simp only [impl_allWithin.l0]
  refine Ev.neg (by omega) (Ev.ret ?_)
  rw [List.drop_of_length_le (by omega)]; simp
 | succ d ih =>
  intro i hi
  refine Ev.shift ?_
  simp only [impl_allWithin.l0]
  refine Ev.pos (by omega) (Ev.pos (by omega) (Ev.pos (by omega) (Ev.bindc (impl_in _ _ _) ?_)))
  rw [wrap64_id (by omega) (by omega), cast1, drop_rd l i (by omega)]
  by_cases hc : a ≤ rd l (i : Int) ∧ rd l (i : Int) ≤ b
  ·exact Ev.pos (by simpa using hc) (Ev.eq (ih (i + 1) (by omega)) (by simp [hc]))
  ·refine Ev.neg (by simpa using hc) (Ev.ret ?_)
   symm; rw [decide_eq_false_iff_not]; intro h; exact hc (h _ (by simp))
theorem allWithin_ev (a b : Int) (l : List Int) (hl : l.length ≤ 1048576) : Ev (fun k => impl_allWithin.f k l a b) (decide (∀ x ∈ l, a ≤ x ∧ x ≤ b)) := by
 unfold impl_allWithin.f
 simpa using allWithin_l a b l hl l.length 0 (by omega)
theorem isRelation_ev (n : Int) (L : List Int) (hl : L.length ≤ 1048576) : Ev (fun k => impl_IsRelation.f k n L) (decide (relP n L)) := by
 unfold impl_IsRelation.f
 refine Ev.bindc (impl_in _ _ _) ?_
 by_cases h : 0 ≤ n ∧ n ≤ 10
 ·refine Ev.pos (by simpa using h) ?_
  by_cases h2 : (L.length : Int) = n
  ·refine Ev.pos h2 (Ev.pos h.1 (Ev.bind (allWithin_ev 0 (full n) L hl) (Ev.ret ?_)))
   rw [Bool.eq_iff_iff, decide_eq_true_iff, decide_eq_true_iff]
   exact ⟨fun h3 => ⟨h, h2, h3⟩, fun h3 => h3.2.2⟩
  ·refine Ev.neg h2 (Ev.ret ?_)
   symm; rw [decide_eq_false_iff_not]; exact fun h3 => h2 h3.2.1
 ·refine Ev.neg (by simpa using h) (Ev.ret ?_)
  symm; rw [decide_eq_false_iff_not]; exact fun h3 => h h3.1
theorem isOrder_l1 (n : Int) (L : List Int) (hr : relP n L) (i : Nat) (hi : i < L.length) (r : Bool) (hk : Ev (fun k => impl_IsOrder.l0 k L (L.length : Int) ((i + 1 : Nat) : Int) n L) r) (d : Nat) :
  ∀ q : Nat, q + d = (bitsOf (rd L (i : Int))).length → Ev (fun k => impl_IsOrder.l1 k (rd L (i : Int)) L (L.length : Int) (i : Int) (bitsOf (rd L (i : Int))) ((bitsOf (rd L (i : Int))).length : Int) (q : Int) n L) (decide (∀ j ∈ (bitsOf (rd L (i : Int))).drop q, andN (rd L j) (rd L (i : Int)) = 0) && r) := by
 have hle : L.length ≤ 10 := by have := hr.1; have := hr.2.1; omega
 have hbl : (bitsOf (rd L (i : Int))).length ≤ 10 := by
  have := List.length_filter_le (bit (rd L (i : Int))) (List.range 10)
  simpa [bitsOf] using this
 induction d with
 | zero =>
  intro q hq
  refine Ev.shift ?_
  simp only [impl_IsOrder.l1]
  refine Ev.neg (by omega) ?_
  rw [wrap64_id (by omega) (by omega), cast1, List.drop_of_length_le (by omega)]
  exact Ev.eq hk (by simp)
 | succ d ih =>
  intro q hq
  obtain ⟨m, hm, hml, _⟩ := hr.bits hi (j := rd (bitsOf (rd L (i : Int))) (q : Int)) (by rw [rd_lt _ q (by omega)]; exact List.getElem_mem _)
  refine Ev.shift ?_
  simp only [impl_IsOrder.l1]
  refine Ev.pos (by omega) (Ev.pos (by omega) (Ev.pos (by omega) (Ev.pos (by omega) (Ev.pos (by omega) ?_))))
  rw [wrap64_id (x := (q : Int) + 1) (by omega) (by omega), cast1, drop_rd _ q (by omega)]
  by_cases hc : Go.bits .andNot .i64 (rd L (rd (bitsOf (rd L (i : Int))) (q : Int))) (rd L (i : Int)) = 0
  ·exact Ev.pos hc (Ev.eq (ih (q + 1) (by omega)) (by
    have hc' : andN (rd L (rd (bitsOf (rd L (i : Int))) (q : Int))) (rd L (i : Int)) = 0 := hc
    simp [hc']))
  ·refine Ev.neg hc (Ev.ret ?_)
   have hc' : ¬ andN (rd L (rd (bitsOf (rd L (i : Int))) (q : Int))) (rd L (i : Int)) = 0 := hc
   simp [hc']
theorem isOrder_l0 (n : Int) (L : List Int) (hr : relP n L) (d : Nat) : ∀ i : Nat, i + d = L.length → Ev (fun k => impl_IsOrder.l0 k L (L.length : Int) (i : Int) n L) (decide (∀ m : Nat, m < L.length → i ≤ m → rowOk L m)) := by
 have hle : L.length ≤ 10 := by have := hr.1; have := hr.2.1; omega
 induction d with
 | zero =>
  intro i hi
  refine Ev.shift ?_
  simp only [impl_IsOrder.l0]
  refine Ev.neg (by omega) (Ev.ret ?_)
  symm; rw [decide_eq_true_iff]; intro m h1 h2; omega
 | succ d ih =>
  intro i hi
  have hrow := hr.row (i := i) (by omega)
  have hsplit : (∀ m : Nat, m < L.length → i ≤ m → rowOk L m) ↔ rowOk L i ∧ ∀ m : Nat, m < L.length → i + 1 ≤ m → rowOk L m := by
   constructor
   ·intro h; exact ⟨h i (by omega) (Nat.le_refl _), fun m h1 h2 => h m h1 (by omega)⟩
   ·rintro ⟨h1, h2⟩ m h3 h4
    by_cases e : m = i
    ·subst e; exact h1
    ·exact h2 m h3 (by omega)
  refine Ev.shift ?_
  simp only [impl_IsOrder.l0]
  refine Ev.pos (by omega) (Ev.pos (by omega) (Ev.pos (by omega) (Ev.bindc (better_f n L (by omega) ⟨hrow.1, hrow.2.1⟩ (by omega)) ?_)))
  by_cases hb : bit (rd L (i : Int)) i = true
  ·refine Ev.pos hb (Ev.ret ?_)
   symm; rw [decide_eq_false_iff_not, hsplit]; intro h
   rw [h.1.1] at hb; cases hb
  ·refine Ev.neg hb (Ev.bind (members_ev hrow.1 hrow.2.1) ?_)
   refine Ev.eq (isOrder_l1 n L hr i (by omega) _ (ih (i + 1) (by omega)) (bitsOf (rd L (i : Int))).length 0 (by omega)) ?_
   rw [Bool.eq_iff_iff, Bool.and_eq_true, decide_eq_true_iff, decide_eq_true_iff, decide_eq_true_iff, hsplit, List.drop_zero]
   constructor
   ·rintro ⟨h1, h2⟩; exact ⟨⟨by simpa using hb, h1⟩, h2⟩
   ·rintro ⟨h1, h2⟩; exact ⟨h1.2, h2⟩
theorem isOrder_ev (n : Int) (L : List Int) (hl : L.length ≤ 1048576) : Ev (fun k => impl_IsOrder.f k n L) (decide (orderP n L)) := by
 unfold impl_IsOrder.f
 refine Ev.bind (isRelation_ev n L hl) ?_
 by_cases h : relP n L
 ·refine Ev.pos (by simpa using h) (Ev.eq (isOrder_l0 n L h L.length 0 (by omega)) ?_)
  rw [Bool.eq_iff_iff, decide_eq_true_iff, decide_eq_true_iff]
  exact ⟨fun h2 => ⟨h, fun m hm => h2 m hm (Nat.zero_le _)⟩, fun h2 m hm _ => h2.2 m hm⟩
 ·refine Ev.neg (by simpa using h) (Ev.ret ?_)
  symm; rw [decide_eq_false_iff_not]; exact fun h2 => h h2.1
theorem Ev.up {α : Type} {g : Nat → Option α} {r : α} (h : Ev g r) : Ev (fun k => g (k + 1)) r := by
 obtain ⟨K, hK⟩ := h; exact ⟨K, fun k hk => hK (k + 1) (by omega)⟩
def orb (x : Int) (j : Nat) : Int := Go.bits .or .i64 x (shl .i64 1 (j : Int))
def rowf (p : Nat → Bool) (d : Nat) : Int := (List.range d).foldl (fun x j => if p j then orb x j else x) 0
theorem rowf_succ (p : Nat → Bool) (d : Nat) : rowf p (d + 1) = if p d then orb (rowf p d) d else rowf p d := by
 simp [rowf, List.range_succ, List.foldl_append]
def rel (p : Nat → Nat → Bool) (n : Nat) : List Int := (List.range n).map fun i => rowf (p i) n
theorem rel_length (p : Nat → Nat → Bool) (n : Nat) : (rel p n).length = n := by simp [rel]
theorem rel_get (p : Nat → Nat → Bool) (n i : Nat) (h : i < n) : rd (rel p n) (i : Int) = rowf (p i) n := by
 rw [rd_lt _ i (by rw [rel_length]; exact h)]; simp [rel]
theorem rel_congr {p q : Nat → Nat → Bool} {n : Nat} (h : ∀ i j, i < n → j < n → p i j = q i j) : rel p n = rel q n := by
 unfold rel
 refine List.map_congr_left fun i hi => ?_
 rw [List.mem_range] at hi
 have : ∀ d, d ≤ n → rowf (p i) d = rowf (q i) d := by
  intro d
  induction d with
  | zero => intro _; rfl
  | succ d ih => intro hd; rw [rowf_succ, rowf_succ, ih (by omega), h i d hi (by omega)]
 exact this n (Nat.le_refl _)
def relUpto (p : Nat → Nat → Bool) (n i : Nat) : List Int := (rel p n).take i ++ List.replicate (n - i) 0
theorem relation_l1 (p : Nat → Nat → Bool) (n : Nat) (hn : n ≤ 1000) (i : Nat) (hi : i < n) (R : Int × List Int) (hR : ∀ g : Nat → Int → Int → Option Bool, (∀ i j : Nat, i < n → j < n → Ev (fun k => g k i j) (p i j)) → ∀ y : List Int, y.length = n → rd y (i : Int) = rowf (p i) n → (∀ m : Nat, m < n → m ≠ i → rd y (m : Int) = if m < i then rowf (p m) n else 0) → Ev (fun k => impl_relation.l0 k n (g k) n ((i + 1 : Nat) : Int) n y) R) (d : Nat) :
  ∀ (j : Nat) (y : List Int) (g : Nat → Int → Int → Option Bool), (∀ i j : Nat, i < n → j < n → Ev (fun k => g k i j) (p i j)) → j + d = n → y.length = n → rd y (i : Int) = rowf (p i) j → (∀ m : Nat, m < n → m ≠ i → rd y (m : Int) = if m < i then rowf (p m) n else 0) →
  Ev (fun k => impl_relation.l1 k n (g k) (i : Int) n (i : Int) n (j : Int) n y) R := by
 induction d with
 | zero =>
  intro j y g hg hj hy h1 h2
  obtain rfl : j = n := by omega
  refine Ev.shift ?_
  simp only [impl_relation.l1]
  refine Ev.neg (by omega) ?_
  rw [wrap64_id (x := (i : Int) + 1) (by omega) (by omega), cast1]
  exact hR (fun k => g (k + 1)) (fun a b ha hb => Ev.up (hg a b ha hb)) y hy h1 h2
 | succ d ih =>
  intro j y g hg hj hy h1 h2
  have hg' : ∀ i j : Nat, i < n → j < n → Ev (fun k => g (k + 1) i j) (p i j) := fun a b ha hb => Ev.up (hg a b ha hb)
  refine Ev.shift ?_
  simp only [impl_relation.l1]
  refine Ev.pos (by omega) (Ev.bind (hg' i j hi (by omega)) ?_)
  rw [wrap64_id (x := (j : Int) + 1) (by omega) (by omega), cast1]
  by_cases hp : p i j = true
  ·refine Ev.pos hp (Ev.pos (by omega) (Ev.pos (by omega) (Ev.pos (by omega) ?_)))
   rw [Int.toNat_natCast]
   refine ih (j + 1) _ (fun k => g (k + 1)) hg' (by omega) (by simp; omega) ?_ ?_
   ·rw [rd_lt _ i (by simp; omega), List.getElem_set_self, rowf_succ, if_pos hp, h1]; rfl
   ·intro m hm hmi
    rw [rd_lt _ m (by simp; omega), List.getElem_set_ne (Ne.symm hmi), ← rd_lt y m (by omega)]
    exact h2 m hm hmi
  ·refine Ev.neg hp (ih (j + 1) y (fun k => g (k + 1)) hg' (by omega) hy ?_ h2)
   rw [rowf_succ, if_neg hp]; exact h1
theorem relation_l0 (p : Nat → Nat → Bool) (n : Nat) (hn : n ≤ 1000) (d : Nat) : ∀ (i : Nat) (y : List Int) (g : Nat → Int → Int → Option Bool), (∀ i j : Nat, i < n → j < n → Ev (fun k => g k i j) (p i j)) → i + d = n → y.length = n → (∀ m : Nat, m < n → rd y (m : Int) = if m < i then rowf (p m) n else 0) →
  Ev (fun k => impl_relation.l0 k n (g k) n (i : Int) n y) ((n : Int), rel p n) := by
 induction d with
 | zero =>
  intro i y g hg hi hy h1
  refine Ev.shift ?_
  simp only [impl_relation.l0]
  refine Ev.neg (by omega) (Ev.ret ?_)
  congr 1
  apply List.ext_getElem (by rw [rel_length]; exact hy)
  intro m hm1 hm2
  have := h1 m (by omega)
  rw [if_pos (by omega), rd_lt y m hm1, ← rel_get p n m (by omega), rd_lt _ m hm2] at this
  exact this
 | succ d ih =>
  intro i y g hg hi hy h1
  refine Ev.shift ?_
  simp only [impl_relation.l0]
  refine Ev.pos (by omega) ?_
  refine relation_l1 p n hn i (by omega) _ (fun g' hg' y' hy' h1' h2' => ih (i + 1) y' g' hg' (by omega) hy' (fun m hm => ?_)) n 0 y (fun k => g (k + 1)) (fun a b ha hb => Ev.up (hg a b ha hb)) (by omega) hy ?_ ?_
  ·by_cases e : m = i
   ·subst e; rw [h1', if_pos (by omega)]
   ·rw [h2' m hm e]
    by_cases hlt : m < i
    ·rw [if_pos hlt, if_pos (by omega)]
    ·rw [if_neg hlt, if_neg (by omega)]
  ·rw [h1 i (by omega), if_neg (by omega)]; rfl
  ·intro m hm e; exact h1 m hm
theorem relation_ev (p : Nat → Nat → Bool) (n : Nat) (hn : n ≤ 1000) (g : Nat → Int → Int → Option Bool) (hg : ∀ i j : Nat, i < n → j < n → Ev (fun k => g k i j) (p i j)) : Ev (fun k => impl_relation.f k n (g k)) ((n : Int), rel p n) := by
 unfold impl_relation.f
 refine Ev.pos (by omega) (Ev.pos (by omega) ?_)
 rw [Int.toNat_natCast]
 exact relation_l0 p n hn n 0 _ g hg (by omega) (by simp) (fun m hm => by rw [rd_lt _ m (by simp; omega), List.getElem_replicate, if_neg (by omega)])
end Go.Proofs.YtcalgdljcphjaaaDoor.Pure
namespace Go.Proofs.YtcalgdljcphjaaaDoor.Pure
open Go.RowKit Go.Proofs.YtcalgdljcphjaaaDoor.Q Go.Proofs.YtcalgdljcphjaaaDoorW.PrintWords Go.Proofs.YtcalgdljcphjaaaDoorW.PrintLast
set_option linter.unusedVariables false
set_option linter.unusedSimpArgs false
end Go.Proofs.YtcalgdljcphjaaaDoor.Pure
namespace Go.Proofs.YtcalgdljcphjaaaDoor.Pure
open Go.RowKit Go.Proofs.YtcalgdljcphjaaaDoor.Q Go.Proofs.YtcalgdljcphjaaaDoorW.PrintWords Go.Proofs.YtcalgdljcphjaaaDoorW.PrintLast
set_option linter.unusedVariables false
set_option linter.unusedSimpArgs false
-- copying, comparing, marking, looking again: what the statements' own helpers answer
def markL (a : Int) (n : Nat) : List Int := (List.range n).map fun (i : Nat) => a + (i : Int)
end Go.Proofs.YtcalgdljcphjaaaDoor.Pure
namespace Go.Proofs.YtcalgdljcphjaaaDoor.Pure
open Go.RowKit Go.Proofs.YtcalgdljcphjaaaDoor.Q Go.Proofs.YtcalgdljcphjaaaDoorW.PrintWords Go.Proofs.YtcalgdljcphjaaaDoorW.PrintLast
set_option linter.unusedVariables false
set_option linter.unusedSimpArgs false
end Go.Proofs.YtcalgdljcphjaaaDoor.Pure
