import Derived.Laws.Bits64b
import Derived.Test.YtpphkeijklffgaaDoorBFnChainsAndAntichains11
namespace Go.Proofs.YtpphkeijklffgaaDoor.Pure
open Go.RowKit Go.Proofs.YtpphkeijklffgaaDoor.Q Go.Proofs.YtpphkeijklffgaaDoorW.PrintWords Go.Proofs.YtpphkeijklffgaaDoorW.PrintLast
set_option linter.unusedVariables false
set_option linter.unusedSimpArgs false
-- small laws over rounds, numbers and lists; no program in sight
theorem Ev.shift {α : Type} {g : Nat → Option α} {r : α} (h : Ev (fun k => g (k + 1)) r) : Ev g r := by
 obtain ⟨K, hK⟩ := h
 refine ⟨K + 1, fun k hk => ?_⟩
 obtain ⟨m, rfl⟩ : ∃ m, k = m + 1 := ⟨k - 1, by omega⟩
 exact hK m (by omega)
theorem Ev.pos {α : Type} {c : Prop} [Decidable c] {f g : Nat → Option α} {r : α} (h : c) (k : Ev f r) : Ev (fun n => if c then f n else g n) r := by
 simp only [if_pos h]; exact k
theorem Ev.neg {α : Type} {c : Prop} [Decidable c] {f g : Nat → Option α} {r : α} (h : ¬ c) (k : Ev g r) : Ev (fun n => if c then f n else g n) r := by
 simp only [if_neg h]; exact k
theorem Ev.bindc {α β : Type} {a : Option α} {x : α} {f : Nat → α → Option β} {r : β} (h : a = some x) (k : Ev (fun n => f n x) r) : Ev (fun n => a.bind (f n)) r := by
 subst h; exact k
theorem Ev.ret {α : Type} {r s : α} (h : r = s) : Ev (fun _ => some r) s := by subst h; exact Ev.now _
theorem Ev.const {α : Type} {a : Option α} {r : α} (h : a = some r) : Ev (fun _ => a) r := ⟨0, fun _ _ => h⟩
theorem Ev.eq {α : Type} {g : Nat → Option α} {r s : α} (h : Ev g r) (e : r = s) : Ev g s := e ▸ h
theorem Ev.at1 {α : Type} {g : Nat → Option α} {r : α} (h : Ev g r) : ∃ k, g k = some r := h.rounds
theorem wrap64_id {x : Int} (h1 : -9223372036854775808 ≤ x) (h2 : x ≤ 9223372036854775807) : wrap64 x = x := by unfold wrap64; omega
theorem rd_nat (l : List Int) (i : Nat) : rd l (i : Int) = l.getD i 0 := by simp [rd]
theorem rd_lt (l : List Int) (i : Nat) (h : i < l.length) : rd l (i : Int) = l[i] := by simp [rd, h]
theorem cast1 (i : Nat) : (i : Int) + 1 = ((i + 1 : Nat) : Int) := by omega
theorem big_f (l m : List Int) (hl : l.length ≤ maxLen) : ∃ b, laws_big.f l m = some b := by
 unfold laws_big.f
 by_cases h : (l.length : Int) > 1048576
 ·exact ⟨_, if_pos h⟩
 ·exact ⟨_, if_neg h⟩
-- choices out of bytes: numbers below what is asked, the place goes on by a few
def bytesP (l : List Int) : Prop := ∀ x ∈ l, 0 ≤ x ∧ x < 256
theorem bytesP.rd {l : List Int} (h : bytesP l) {i : Int} (h0 : 0 ≤ i) (h1 : i < l.length) : 0 ≤ rd l i ∧ rd l i < 256 := by
 obtain ⟨m, rfl⟩ : ∃ m : Nat, i = m := ⟨i.toNat, by omega⟩
 rw [rd_lt l m (by omega)]
 exact h _ (List.getElem_mem _)
theorem bytesP.of {l : List Int} (h : ∀ x ∈ l, (Lit.int .u8 x).wf = true) : bytesP l := fun x hx => by
 have := h x hx
 simp [Lit.wf, IntKind.min, IntKind.max, IntKind.signed, IntKind.bits] at this
 omega
theorem and255 (x : Int) : 0 ≤ Go.bits .and .u64 x 255 ∧ Go.bits .and .u64 x 255 < 256 := by
 show 0 ≤ IntKind.u64.wrap ((BitVec.ofInt 64 x &&& BitVec.ofInt 64 255).toNat : Int) ∧ IntKind.u64.wrap ((BitVec.ofInt 64 x &&& BitVec.ofInt 64 255).toNat : Int) < 256
 rw [BitVec.toNat_and]
 have h : (BitVec.ofInt 64 x).toNat &&& (BitVec.ofInt 64 255).toNat ≤ (BitVec.ofInt 64 255).toNat := Nat.and_le_right
 have e : (BitVec.ofInt 64 255).toNat = 255 := by decide
 rw [e] at h
 rw [e]
 generalize (BitVec.ofInt 64 x).toNat &&& 255 = m at h
 simp [IntKind.wrap, IntKind.signed, IntKind.bits]; omega
def Drw {α : Type} (g : Option (α × Int × Int)) (P : α → Prop) (a n : Int) : Prop := ∃ x a' s', g = some (x, a', s') ∧ P x ∧ a ≤ a' ∧ a' ≤ a + n
theorem next_d {c : List Int} (hc : bytesP c) {a : Int} (s : Int) (h0 : 0 ≤ a) (h1 : a ≤ 1152921504606846976) : Drw (spec_l1Cur_next.f c a s) (fun x => 0 ≤ x ∧ x < 256) a 1 := by
 unfold Drw spec_l1Cur_next.f
 rw [wrap64_id (x := a + 1) (by omega) (by omega)]
 have hb := and255
 by_cases h2 : a < (c.length : Int)
 ·have hr := hc.rd h0 h2
  rw [if_pos h2, if_pos h0, if_pos (by omega)]
  exact ⟨_, _, _, rfl, by rw [wrap64_id (by omega) (by omega)]; exact hr, by omega, by omega⟩
 ·rw [if_neg h2, if_neg (by omega)]
  refine ⟨_, _, _, rfl, ?_, by omega, by omega⟩
  have := hb (IntKind.u64.wrap (IntKind.u64.wrap (IntKind.u64.wrap (s * 6364136223846793005) + 0) + 1442695040888963407) / 1099511627776)
  rw [wrap64_id (by omega) (by omega)]; exact this
theorem pick_d {c : List Int} (hc : bytesP c) {a : Int} (s n : Int) (h0 : 0 ≤ a) (h1 : a ≤ 1000000000000) (hn : 1 ≤ n) : Drw (spec_l1Cur_pick.f c a s n) (fun x => 0 ≤ x ∧ x < n) a 2 := by
 unfold spec_l1Cur_pick.f
 by_cases h2 : n ≤ 1
 ·rw [if_pos h2]; exact ⟨_, _, _, rfl, by omega, by omega, by omega⟩
 ·rw [if_neg h2]
  obtain ⟨x, a', s', e, hx, h3, h4⟩ := next_d hc s h0 (by omega)
  rw [e, Option.bind_some]
  by_cases h5 : n > 200
  ·rw [if_pos h5]
   obtain ⟨y, a2, s2, e2, hy, h6, h7⟩ := next_d hc s' (a := a') (by omega) (by omega)
   dsimp only
   rw [e2, Option.bind_some, if_neg (by omega)]
   refine ⟨_, _, _, rfl, ?_, by dsimp only; omega, by dsimp only; omega⟩
   dsimp only
   rw [wrap64_id (x := x * 256) (by omega) (by omega), wrap64_id (by omega) (by omega)]
   exact ⟨Int.tmod_nonneg _ (by omega), Int.tmod_lt_of_pos _ (by omega)⟩
  ·rw [if_neg h5, if_neg (by omega)]
   exact ⟨_, _, _, rfl, ⟨Int.tmod_nonneg _ hx.1, Int.tmod_lt_of_pos _ (by omega)⟩, by dsimp only; omega, by dsimp only; omega⟩
theorem one_d {c : List Int} (hc : bytesP c) {a : Int} (s n : Int) (h0 : 0 ≤ a) (h1 : a ≤ 1000000000000) (hn : 1 ≤ n) : Drw (spec_l1Cur_one.f c a s n) (fun _ => True) a 2 := by
 unfold spec_l1Cur_one.f
 obtain ⟨x, a', s', e, hx, h3, h4⟩ := pick_d hc s n h0 h1 hn
 rw [e, Option.bind_some]
 exact ⟨_, _, _, rfl, trivial, h3, h4⟩
theorem among_d {c : List Int} (hc : bytesP c) {a : Int} (s : Int) (l : List Int) (h0 : 0 ≤ a) (h1 : a ≤ 1000000000000) (hn : 1 ≤ l.length) : Drw (spec_l1Cur_among.f c a s l) (fun x => x ∈ l) a 2 := by
 unfold spec_l1Cur_among.f
 obtain ⟨x, a', s', e, hx, h3, h4⟩ := pick_d hc s (l.length : Int) h0 h1 (by omega)
 rw [e, Option.bind_some]
 dsimp only
 rw [if_pos hx.1, if_pos hx.2]
 refine ⟨_, _, _, rfl, ?_, h3, h4⟩
 obtain ⟨m, rfl⟩ : ∃ m : Nat, x = m := ⟨x.toNat, by omega⟩
 rw [rd_lt l m (by omega)]; exact List.getElem_mem _
-- sets of elements 0 to 9, as numbers below 1024
theorem Ev.of_mono {α : Type} {g : Nat → Option α} {r : α} (hm : ∀ k, LeO (g k) (g (k + 1))) {K : Nat} (h : g K = some r) : Ev g r := ⟨K, fun _ hk => at_rounds hm hk h⟩
def bit (x : Int) (j : Nat) : Bool := x.toNat.testBit j
def bitsOf (x : Int) : List Int := ((List.range 10).filter (bit x)).map fun (j : Nat) => (j : Int)
theorem members_all : ∀ x : Fin 1024, impl_members.f 12 (x.val : Int) = some (bitsOf (x.val : Int)) := by decide +kernel
theorem orList_all : ∀ x : Fin 1024, spec_orList.f 13 (x.val : Int) = some (bitsOf (x.val : Int)) := by decide +kernel
theorem orHas_all : ∀ x : Fin 1024, ∀ j : Fin 10, spec_orHas.f (x.val : Int) (j.val : Int) = some (bit (x.val : Int) j.val) := by decide +kernel
theorem shr_all : ∀ x : Fin 1024, ∀ j : Fin 10, ((Go.bits .and .i64 (shr .i64 (x.val : Int) (j.val : Int)) 1) == 1) = bit (x.val : Int) j.val := by decide +kernel
theorem impl_in (a b c : Int) : impl_within.f a b c = some (decide (b ≤ a ∧ a ≤ c)) := by
 unfold impl_within.f
 by_cases h : a ≥ b
 ·rw [if_pos h]; by_cases h2 : a ≤ c <;> simp [h2] <;> omega
 ·rw [if_neg h]; simp; omega
theorem spec_in (a b c : Int) : spec_l1In.f a b c = some (decide (b ≤ a ∧ a ≤ c)) := by
 unfold spec_l1In.f
 by_cases h : a ≥ b
 ·rw [if_pos h]; by_cases h2 : a ≤ c <;> simp [h2] <;> omega
 ·rw [if_neg h]; simp; omega
theorem drop_rd (l : List Int) (i : Nat) (h : i < l.length) : l.drop i = rd l (i : Int) :: l.drop (i + 1) := by
 rw [rd_lt l i h]; exact List.drop_eq_getElem_cons h
theorem members_ev {x : Int} (h0 : 0 ≤ x) (h1 : x < 1024) : Ev (fun k => impl_members.f k x) (bitsOf x) := by
 obtain ⟨m, rfl⟩ : ∃ m : Nat, x = m := ⟨x.toNat, by omega⟩
 exact Ev.of_mono (impl_members.mono _) (members_all ⟨m, by omega⟩)
theorem orList_ev {x : Int} (h0 : 0 ≤ x) (h1 : x < 1024) : Ev (fun k => spec_orList.f k x) (bitsOf x) := by
 obtain ⟨m, rfl⟩ : ∃ m : Nat, x = m := ⟨x.toNat, by omega⟩
 exact Ev.of_mono (spec_orList.mono _) (orList_all ⟨m, by omega⟩)
theorem orHas_f {x : Int} (h0 : 0 ≤ x) (h1 : x < 1024) {j : Nat} (hj : j < 10) : spec_orHas.f x (j : Int) = some (bit x j) := by
 obtain ⟨m, rfl⟩ : ∃ m : Nat, x = m := ⟨x.toNat, by omega⟩
 exact orHas_all ⟨m, by omega⟩ ⟨j, hj⟩
theorem shr_bit {x : Int} (h0 : 0 ≤ x) (h1 : x < 1024) {j : Nat} (hj : j < 10) : ((Go.bits .and .i64 (shr .i64 x (j : Int)) 1) == 1) = bit x j := by
 obtain ⟨m, rfl⟩ : ∃ m : Nat, x = m := ⟨x.toNat, by omega⟩
 exact shr_all ⟨m, by omega⟩ ⟨j, hj⟩
theorem better_f (n : Int) (L : List Int) {i j : Nat} (hi : i < L.length) (hx : 0 ≤ rd L (i : Int) ∧ rd L (i : Int) < 1024) (hj : j < 10) : impl_Order_better.f n L (i : Int) (j : Int) = some (bit (rd L (i : Int)) j) := by
 unfold impl_Order_better.f
 rw [if_pos (by omega), if_pos (by omega), if_pos (by omega), shr_bit hx.1 hx.2 hj]
theorem mem_bitsOf {x j : Int} : j ∈ bitsOf x ↔ ∃ i : Nat, i < 10 ∧ bit x i = true ∧ j = i := by
 simp only [bitsOf, List.mem_map, List.mem_filter, List.mem_range]
 constructor
 ·rintro ⟨i, ⟨h1, h2⟩, rfl⟩; exact ⟨i, h1, h2, rfl⟩
 ·rintro ⟨i, h1, h2, rfl⟩; exact ⟨i, ⟨h1, h2⟩, rfl⟩
theorem bit_lt {x : Int} {j n : Nat} (h0 : 0 ≤ x) (hx : x < (2 : Int) ^ n) (h : bit x j = true) : j < n := by
 have h1 := Nat.ge_two_pow_of_testBit h
 have h2 : x.toNat < 2 ^ n := by
  have : (x.toNat : Int) < ((2 ^ n : Nat) : Int) := by rw [Int.toNat_of_nonneg h0]; simpa using hx
  omega
 exact (Nat.pow_lt_pow_iff_right (by omega)).1 (Nat.lt_of_le_of_lt h1 h2)
theorem full_val : ∀ n : Fin 11, wrap64 (shl .i64 1 (n.val : Int) - 1) = (2 : Int) ^ n.val - 1 := by decide +kernel
theorem full_le : ∀ n : Fin 11, (2 : Int) ^ n.val - 1 ≤ 1023 := by decide +kernel
def full (n : Int) : Int := wrap64 (shl .i64 1 n - 1)
theorem full_pow {n : Nat} (h : n ≤ 10) : full (n : Int) = (2 : Int) ^ n - 1 := full_val ⟨n, by omega⟩
theorem full_1023 {n : Nat} (h : n ≤ 10) : full (n : Int) ≤ 1023 := by rw [full_pow h]; exact full_le ⟨n, by omega⟩
def andN (x y : Int) : Int := Go.bits .andNot .i64 x y
def relP (n : Int) (L : List Int) : Prop := (0 ≤ n ∧ n ≤ 10) ∧ (L.length : Int) = n ∧ ∀ x ∈ L, 0 ≤ x ∧ x ≤ full n
instance (n : Int) (L : List Int) : Decidable (relP n L) := by unfold relP; infer_instance
def rowOk (L : List Int) (m : Nat) : Prop := bit (rd L (m : Int)) m = false ∧ ∀ j ∈ bitsOf (rd L (m : Int)), andN (rd L j) (rd L (m : Int)) = 0
instance (L : List Int) (m : Nat) : Decidable (rowOk L m) := by unfold rowOk; infer_instance
def orderP (n : Int) (L : List Int) : Prop := relP n L ∧ ∀ m : Nat, m < L.length → rowOk L m
instance (n : Int) (L : List Int) : Decidable (orderP n L) := by unfold orderP; infer_instance
theorem relP.row {n : Int} {L : List Int} (h : relP n L) {i : Nat} (hi : i < L.length) : 0 ≤ rd L (i : Int) ∧ rd L (i : Int) < 1024 ∧ rd L (i : Int) < (2 : Int) ^ L.length := by
 obtain ⟨⟨h0, h1⟩, h2, h3⟩ := h
 have := h3 (rd L (i : Int)) (by rw [rd_lt L i hi]; exact List.getElem_mem _)
 have e : n = (L.length : Int) := h2.symm
 subst e
 have f := full_pow (n := L.length) (by omega)
 have g := full_1023 (n := L.length) (by omega)
 omega
theorem relP.bits {n : Int} {L : List Int} (h : relP n L) {i : Nat} (hi : i < L.length) {j : Int} (hj : j ∈ bitsOf (rd L (i : Int))) : ∃ m : Nat, j = m ∧ m < L.length ∧ bit (rd L (i : Int)) m = true := by
 obtain ⟨m, _, hb, rfl⟩ := mem_bitsOf.1 hj
 have := h.row hi
 exact ⟨m, rfl, bit_lt this.1 this.2.2 hb, hb⟩
theorem allWithin_l (a b : Int) (l : List Int) (hl : l.length ≤ 1048576) (d : Nat) : ∀ i : Nat, i + d = l.length → Ev (fun k => impl_allWithin.l0 k a b l (l.length : Int) i) (decide (∀ x ∈ l.drop i, a ≤ x ∧ x ≤ b)) := by
 induction d with
 | zero =>
  intro i hi
  refine Ev.shift ?_
  simp only [impl_allWithin.l0]
  refine Ev.neg (by omega) (Ev.ret ?_)
  rw [List.drop_of_length_le (by omega)]; simp
 | succ d ih =>
  intro i hi
  refine Ev.shift ?_
  simp only [impl_allWithin.l0]
  refine Ev.pos (by omega) (Ev.pos (by omega) (Ev.pos (by omega) (Ev.bindc (impl_in _ _ _) ?_)))
  rw [wrap64_id (by omega) (by omega), cast1, drop_rd l i (by omega)]
  by_cases hc : a ≤ rd l (i : Int) ∧ rd l (i : Int) ≤ b
  ·exact Ev.pos (by simpa using hc) (Ev.eq (ih (i + 1) (by omega)) (by simp [hc]))
  ·refine Ev.neg (by simpa using hc) (Ev.ret ?_)
   symm; rw [decide_eq_false_iff_not]; intro h; exact hc (h _ (by simp))
theorem allWithin_ev (a b : Int) (l : List Int) (hl : l.length ≤ 1048576) : Ev (fun k => impl_allWithin.f k l a b) (decide (∀ x ∈ l, a ≤ x ∧ x ≤ b)) := by
 unfold impl_allWithin.f
 simpa using allWithin_l a b l hl l.length 0 (by omega)
theorem l1All_l (a b : Int) (l : List Int) (hl : l.length ≤ 1048576) (d : Nat) : ∀ i : Nat, i + d = l.length → Ev (fun k => spec_l1All.l0 k a b l (l.length : Int) i) (decide (∀ x ∈ l.drop i, a ≤ x ∧ x ≤ b)) := by
 induction d with
 | zero =>
  intro i hi
  refine Ev.shift ?_
  simp only [spec_l1All.l0]
  refine Ev.neg (by omega) (Ev.ret ?_)
  rw [List.drop_of_length_le (by omega)]; simp
 | succ d ih =>
  intro i hi
  refine Ev.shift ?_
  simp only [spec_l1All.l0]
  refine Ev.pos (by omega) (Ev.pos (by omega) (Ev.pos (by omega) (Ev.bindc (spec_in _ _ _) ?_)))
  rw [wrap64_id (by omega) (by omega), cast1, drop_rd l i (by omega)]
  by_cases hc : a ≤ rd l (i : Int) ∧ rd l (i : Int) ≤ b
  ·exact Ev.pos (by simpa using hc) (Ev.eq (ih (i + 1) (by omega)) (by simp [hc]))
  ·refine Ev.neg (by simpa using hc) (Ev.ret ?_)
   symm; rw [decide_eq_false_iff_not]; intro h; exact hc (h _ (by simp))
theorem l1All_ev (a b : Int) (l : List Int) (hl : l.length ≤ 1048576) : Ev (fun k => spec_l1All.f k l a b) (decide (∀ x ∈ l, a ≤ x ∧ x ≤ b)) := by
 unfold spec_l1All.f
 simpa using l1All_l a b l hl l.length 0 (by omega)
theorem isRelation_ev (n : Int) (L : List Int) (hl : L.length ≤ 1048576) : Ev (fun k => impl_IsRelation.f k n L) (decide (relP n L)) := by
 unfold impl_IsRelation.f
 refine Ev.bindc (impl_in _ _ _) ?_
 by_cases h : 0 ≤ n ∧ n ≤ 10
 ·refine Ev.pos (by simpa using h) ?_
  by_cases h2 : (L.length : Int) = n
  ·refine Ev.pos h2 (Ev.pos h.1 (Ev.bind (allWithin_ev 0 (full n) L hl) (Ev.ret ?_)))
   rw [Bool.eq_iff_iff, decide_eq_true_iff, decide_eq_true_iff]
   exact ⟨fun h3 => ⟨h, h2, h3⟩, fun h3 => h3.2.2⟩
  ·refine Ev.neg h2 (Ev.ret ?_)
   symm; rw [decide_eq_false_iff_not]; exact fun h3 => h2 h3.2.1
 ·refine Ev.neg (by simpa using h) (Ev.ret ?_)
  symm; rw [decide_eq_false_iff_not]; exact fun h3 => h h3.1
theorem orRelation_ev (n : Int) (L : List Int) (hl : L.length ≤ 1048576) : Ev (fun k => spec_orRelation.f k n L) (decide (relP n L)) := by
 unfold spec_orRelation.f
 refine Ev.bindc (spec_in _ _ _) ?_
 by_cases h : 0 ≤ n ∧ n ≤ 10
 ·refine Ev.pos (by simpa using h) ?_
  by_cases h2 : (L.length : Int) = n
  ·refine Ev.pos h2 (Ev.pos h.1 (Ev.bind (l1All_ev 0 (full n) L hl) (Ev.ret ?_)))
   rw [Bool.eq_iff_iff, decide_eq_true_iff, decide_eq_true_iff]
   exact ⟨fun h3 => ⟨h, h2, h3⟩, fun h3 => h3.2.2⟩
  ·refine Ev.neg h2 (Ev.ret ?_)
   symm; rw [decide_eq_false_iff_not]; exact fun h3 => h2 h3.2.1
 ·refine Ev.neg (by simpa using h) (Ev.ret ?_)
  symm; rw [decide_eq_false_iff_not]; exact fun h3 => h h3.1
theorem isOrder_l1 (n : Int) (L : List Int) (hr : relP n L) (i : Nat) (hi : i < L.length) (r : Bool) (hk : Ev (fun k => impl_IsOrder.l0 k L (L.length : Int) ((i + 1 : Nat) : Int) n L) r) (d : Nat) :
  ∀ q : Nat, q + d = (bitsOf (rd L (i : Int))).length → Ev (fun k => impl_IsOrder.l1 k (rd L (i : Int)) L (L.length : Int) (i : Int) (bitsOf (rd L (i : Int))) ((bitsOf (rd L (i : Int))).length : Int) (q : Int) n L) (decide (∀ j ∈ (bitsOf (rd L (i : Int))).drop q, andN (rd L j) (rd L (i : Int)) = 0) && r) := by
 have hle : L.length ≤ 10 := by have := hr.1; have := hr.2.1; omega
 have hbl : (bitsOf (rd L (i : Int))).length ≤ 10 := by
  have := List.length_filter_le (bit (rd L (i : Int))) (List.range 10)
  simpa [bitsOf] using this
 induction d with
 | zero =>
  intro q hq
  refine Ev.shift ?_
  simp only [impl_IsOrder.l1]
  refine Ev.neg (by omega) ?_
  rw [wrap64_id (by omega) (by omega), cast1, List.drop_of_length_le (by omega)]
  exact Ev.eq hk (by simp)
 | succ d ih =>
  intro q hq
  obtain ⟨m, hm, hml, _⟩ := hr.bits hi (j := rd (bitsOf (rd L (i : Int))) (q : Int)) (by rw [rd_lt _ q (by omega)]; exact List.getElem_mem _)
  refine Ev.shift ?_
  simp only [impl_IsOrder.l1]
  refine Ev.pos (by omega) (Ev.pos (by omega) (Ev.pos (by omega) (Ev.pos (by omega) (Ev.pos (by omega) ?_))))
  rw [wrap64_id (x := (q : Int) + 1) (by omega) (by omega), cast1, drop_rd _ q (by omega)]
  by_cases hc : Go.bits .andNot .i64 (rd L (rd (bitsOf (rd L (i : Int))) (q : Int))) (rd L (i : Int)) = 0
  ·exact Ev.pos hc (Ev.eq (ih (q + 1) (by omega)) (by
    have hc' : andN (rd L (rd (bitsOf (rd L (i : Int))) (q : Int))) (rd L (i : Int)) = 0 := hc
    simp [hc']))
  ·refine Ev.neg hc (Ev.ret ?_)
   have hc' : ¬ andN (rd L (rd (bitsOf (rd L (i : Int))) (q : Int))) (rd L (i : Int)) = 0 := hc
   simp [hc']
theorem isOrder_l0 (n : Int) (L : List Int) (hr : relP n L) (d : Nat) : ∀ i : Nat, i + d = L.length → Ev (fun k => impl_IsOrder.l0 k L (L.length : Int) (i : Int) n L) (decide (∀ m : Nat, m < L.length → i ≤ m → rowOk L m)) := by
 have hle : L.length ≤ 10 := by have := hr.1; have := hr.2.1; omega
 induction d with
 | zero =>
  intro i hi
  refine Ev.shift ?_
  simp only [impl_IsOrder.l0]
  refine Ev.neg (by omega) (Ev.ret ?_)
  symm; rw [decide_eq_true_iff]; intro m h1 h2; omega
 | succ d ih =>
  intro i hi
  have hrow := hr.row (i := i) (by omega)
  have hsplit : (∀ m : Nat, m < L.length → i ≤ m → rowOk L m) ↔ rowOk L i ∧ ∀ m : Nat, m < L.length → i + 1 ≤ m → rowOk L m := by
   constructor
   ·intro h; exact ⟨h i (by omega) (Nat.le_refl _), fun m h1 h2 => h m h1 (by omega)⟩
   ·rintro ⟨h1, h2⟩ m h3 h4
    by_cases e : m = i
    ·subst e; exact h1
    ·exact h2 m h3 (by omega)
  refine Ev.shift ?_
  simp only [impl_IsOrder.l0]
  refine Ev.pos (by omega) (Ev.pos (by omega) (Ev.pos (by omega) (Ev.bindc (better_f n L (by omega) ⟨hrow.1, hrow.2.1⟩ (by omega)) ?_)))
  by_cases hb : bit (rd L (i : Int)) i = true
  ·refine Ev.pos hb (Ev.ret ?_)
   symm; rw [decide_eq_false_iff_not, hsplit]; intro h
   rw [h.1.1] at hb; cases hb
  ·refine Ev.neg hb (Ev.bind (members_ev hrow.1 hrow.2.1) ?_)
   refine Ev.eq (isOrder_l1 n L hr i (by omega) _ (ih (i + 1) (by omega)) (bitsOf (rd L (i : Int))).length 0 (by omega)) ?_
   rw [Bool.eq_iff_iff, Bool.and_eq_true, decide_eq_true_iff, decide_eq_true_iff, decide_eq_true_iff, hsplit, List.drop_zero]
   constructor
   ·rintro ⟨h1, h2⟩; exact ⟨⟨by simpa using hb, h1⟩, h2⟩
   ·rintro ⟨h1, h2⟩; exact ⟨h1.2, h2⟩
theorem isOrder_ev (n : Int) (L : List Int) (hl : L.length ≤ 1048576) : Ev (fun k => impl_IsOrder.f k n L) (decide (orderP n L)) := by
 unfold impl_IsOrder.f
 refine Ev.bind (isRelation_ev n L hl) ?_
 by_cases h : relP n L
 ·refine Ev.pos (by simpa using h) (Ev.eq (isOrder_l0 n L h L.length 0 (by omega)) ?_)
  rw [Bool.eq_iff_iff, decide_eq_true_iff, decide_eq_true_iff]
  exact ⟨fun h2 => ⟨h, fun m hm => h2 m hm (Nat.zero_le _)⟩, fun h2 m hm _ => h2.2 m hm⟩
 ·refine Ev.neg (by simpa using h) (Ev.ret ?_)
  symm; rw [decide_eq_false_iff_not]; exact fun h2 => h h2.1
theorem orGood_l1 (n : Int) (L : List Int) (hr : relP n L) (i : Nat) (hi : i < L.length) (r : Bool) (hk : Ev (fun k => spec_orGood.l0 k L (L.length : Int) ((i + 1 : Nat) : Int) n L) r) (d : Nat) :
  ∀ q : Nat, q + d = (bitsOf (rd L (i : Int))).length → Ev (fun k => spec_orGood.l1 k (rd L (i : Int)) L (L.length : Int) (i : Int) (bitsOf (rd L (i : Int))) ((bitsOf (rd L (i : Int))).length : Int) (q : Int) n L) (decide (∀ j ∈ (bitsOf (rd L (i : Int))).drop q, andN (rd L j) (rd L (i : Int)) = 0) && r) := by
 have hle : L.length ≤ 10 := by have := hr.1; have := hr.2.1; omega
 have hbl : (bitsOf (rd L (i : Int))).length ≤ 10 := by
  have := List.length_filter_le (bit (rd L (i : Int))) (List.range 10)
  simpa [bitsOf] using this
 induction d with
 | zero =>
  intro q hq
  refine Ev.shift ?_
  simp only [spec_orGood.l1]
  refine Ev.neg (by omega) ?_
  rw [wrap64_id (by omega) (by omega), cast1, List.drop_of_length_le (by omega)]
  exact Ev.eq hk (by simp)
 | succ d ih =>
  intro q hq
  obtain ⟨m, hm, hml, _⟩ := hr.bits hi (j := rd (bitsOf (rd L (i : Int))) (q : Int)) (by rw [rd_lt _ q (by omega)]; exact List.getElem_mem _)
  refine Ev.shift ?_
  simp only [spec_orGood.l1]
  refine Ev.pos (by omega) (Ev.pos (by omega) (Ev.pos (by omega) (Ev.pos (by omega) (Ev.pos (by omega) ?_))))
  rw [wrap64_id (x := (q : Int) + 1) (by omega) (by omega), cast1, drop_rd _ q (by omega)]
  by_cases hc : Go.bits .andNot .i64 (rd L (rd (bitsOf (rd L (i : Int))) (q : Int))) (rd L (i : Int)) = 0
  ·exact Ev.pos hc (Ev.eq (ih (q + 1) (by omega)) (by
    have hc' : andN (rd L (rd (bitsOf (rd L (i : Int))) (q : Int))) (rd L (i : Int)) = 0 := hc
    simp [hc']))
  ·refine Ev.neg hc (Ev.ret ?_)
   have hc' : ¬ andN (rd L (rd (bitsOf (rd L (i : Int))) (q : Int))) (rd L (i : Int)) = 0 := hc
   simp [hc']
theorem orGood_l0 (n : Int) (L : List Int) (hr : relP n L) (d : Nat) : ∀ i : Nat, i + d = L.length → Ev (fun k => spec_orGood.l0 k L (L.length : Int) (i : Int) n L) (decide (∀ m : Nat, m < L.length → i ≤ m → rowOk L m)) := by
 have hle : L.length ≤ 10 := by have := hr.1; have := hr.2.1; omega
 induction d with
 | zero =>
  intro i hi
  refine Ev.shift ?_
  simp only [spec_orGood.l0]
  refine Ev.neg (by omega) (Ev.ret ?_)
  symm; rw [decide_eq_true_iff]; intro m h1 h2; omega
 | succ d ih =>
  intro i hi
  have hrow := hr.row (i := i) (by omega)
  have hsplit : (∀ m : Nat, m < L.length → i ≤ m → rowOk L m) ↔ rowOk L i ∧ ∀ m : Nat, m < L.length → i + 1 ≤ m → rowOk L m := by
   constructor
   ·intro h; exact ⟨h i (by omega) (Nat.le_refl _), fun m h1 h2 => h m h1 (by omega)⟩
   ·rintro ⟨h1, h2⟩ m h3 h4
    by_cases e : m = i
    ·subst e; exact h1
    ·exact h2 m h3 (by omega)
  refine Ev.shift ?_
  simp only [spec_orGood.l0]
  refine Ev.pos (by omega) (Ev.pos (by omega) (Ev.pos (by omega) (Ev.bindc (orHas_f hrow.1 hrow.2.1 (by omega)) ?_)))
  by_cases hb : bit (rd L (i : Int)) i = true
  ·refine Ev.pos hb (Ev.ret ?_)
   symm; rw [decide_eq_false_iff_not, hsplit]; intro h
   rw [h.1.1] at hb; cases hb
  ·refine Ev.neg hb (Ev.bind (orList_ev hrow.1 hrow.2.1) ?_)
   refine Ev.eq (orGood_l1 n L hr i (by omega) _ (ih (i + 1) (by omega)) (bitsOf (rd L (i : Int))).length 0 (by omega)) ?_
   rw [Bool.eq_iff_iff, Bool.and_eq_true, decide_eq_true_iff, decide_eq_true_iff, decide_eq_true_iff, hsplit, List.drop_zero]
   constructor
   ·rintro ⟨h1, h2⟩; exact ⟨⟨by simpa using hb, h1⟩, h2⟩
   ·rintro ⟨h1, h2⟩; exact ⟨h1.2, h2⟩
theorem orGood_ev (n : Int) (L : List Int) (hl : L.length ≤ 1048576) : Ev (fun k => spec_orGood.f k n L) (decide (orderP n L)) := by
 unfold spec_orGood.f
 refine Ev.bind (orRelation_ev n L hl) ?_
 by_cases h : relP n L
 ·refine Ev.pos (by simpa using h) (Ev.eq (orGood_l0 n L h L.length 0 (by omega)) ?_)
  rw [Bool.eq_iff_iff, decide_eq_true_iff, decide_eq_true_iff]
  exact ⟨fun h2 => ⟨h, fun m hm => h2 m hm (Nat.zero_le _)⟩, fun h2 m hm _ => h2.2 m hm⟩
 ·refine Ev.neg (by simpa using h) (Ev.ret ?_)
  symm; rw [decide_eq_false_iff_not]; exact fun h2 => h h2.1
theorem ofInt64 (a : Nat) (h : a < 18446744073709551616) : (BitVec.ofInt 64 (a : Int)).toNat = a := by
  rw [BitVec.ofInt_natCast, BitVec.toNat_ofNat]; exact Nat.mod_eq_of_lt (by omega)
theorem wrapi64 (a : Nat) (h : a < 9223372036854775808) : IntKind.i64.wrap (a : Int) = a := by
  simp [IntKind.wrap, IntKind.signed, IntKind.bits]; omega
theorem and_nat (a b : Nat) (ha : a < 1024) (hb : b < 1024) : Go.bits .and .i64 (a : Int) (b : Int) = ((a &&& b : Nat) : Int) := by
  have hx : a &&& b < 2 ^ 10 := Nat.and_lt_two_pow _ (by omega)
  show IntKind.i64.wrap ((BitVec.ofInt 64 (a : Int) &&& BitVec.ofInt 64 (b : Int)).toNat : Int) = _
  rw [BitVec.toNat_and, ofInt64 a (by omega), ofInt64 b (by omega), wrapi64 _ (by omega)]
theorem or_nat (a b : Nat) (ha : a < 1024) (hb : b < 1024) : Go.bits .or .i64 (a : Int) (b : Int) = ((a ||| b : Nat) : Int) := by
  have hx : a ||| b < 2 ^ 10 := Nat.or_lt_two_pow (by omega) (by omega)
  show IntKind.i64.wrap ((BitVec.ofInt 64 (a : Int) ||| BitVec.ofInt 64 (b : Int)).toNat : Int) = _
  rw [BitVec.toNat_or, ofInt64 a (by omega), ofInt64 b (by omega), wrapi64 _ (by omega)]
theorem andNot_nat (a b : Nat) (ha : a < 1024) (hb : b < 1024) : Go.bits .andNot .i64 (a : Int) (b : Int) = ((a &&& (18446744073709551615 - b) : Nat) : Int) := by
  have hx : a &&& (18446744073709551615 - b) < 2 ^ 10 := Nat.lt_of_le_of_lt Nat.and_le_left (by omega)
  show IntKind.i64.wrap ((BitVec.ofInt 64 (a : Int) &&& ~~~ BitVec.ofInt 64 (b : Int)).toNat : Int) = _
  rw [BitVec.toNat_and, BitVec.toNat_not, ofInt64 a (by omega), ofInt64 b (by omega)]
  exact wrapi64 (a &&& (18446744073709551615 - b)) (by omega)
def setP (x : Int) : Prop := 0 ≤ x ∧ x < 1024
theorem setP.nat {x : Int} (h : setP x) : ∃ m : Nat, x = m ∧ m < 1024 := by
  obtain ⟨h0, h1⟩ := h; exact ⟨x.toNat, by omega, by omega⟩
theorem bit_nat (m j : Nat) : bit (m : Int) j = m.testBit j := by simp [bit]
theorem set_and {x y : Int} (hx : setP x) (hy : setP y) : setP (Go.bits .and .i64 x y) ∧ ∀ j, bit (Go.bits .and .i64 x y) j = (bit x j && bit y j) := by
  obtain ⟨a, rfl, ha⟩ := hx.nat; obtain ⟨b, rfl, hb⟩ := hy.nat
  have h : a &&& b < 2 ^ 10 := Nat.and_lt_two_pow _ (by omega)
  rw [and_nat a b ha hb]
  exact ⟨⟨by omega, by omega⟩, fun j => by rw [bit_nat, bit_nat, bit_nat, Nat.testBit_and]⟩
theorem set_or {x y : Int} (hx : setP x) (hy : setP y) : setP (Go.bits .or .i64 x y) ∧ ∀ j, bit (Go.bits .or .i64 x y) j = (bit x j || bit y j) := by
  obtain ⟨a, rfl, ha⟩ := hx.nat; obtain ⟨b, rfl, hb⟩ := hy.nat
  have h : a ||| b < 2 ^ 10 := Nat.or_lt_two_pow (by omega) (by omega)
  rw [or_nat a b ha hb]
  exact ⟨⟨by omega, by omega⟩, fun j => by rw [bit_nat, bit_nat, bit_nat, Nat.testBit_or]⟩
theorem set_bit_lt {x : Int} (hx : setP x) {j : Nat} (h : bit x j = true) : j < 10 := bit_lt hx.1 (by have := hx.2; simpa using this) h
theorem set_andNot {x y : Int} (hx : setP x) (hy : setP y) : setP (Go.bits .andNot .i64 x y) ∧ ∀ j, bit (Go.bits .andNot .i64 x y) j = (bit x j && !bit y j) := by
  obtain ⟨a, rfl, ha⟩ := hx.nat; obtain ⟨b, rfl, hb⟩ := hy.nat
  have h : a &&& (18446744073709551615 - b) ≤ a := Nat.and_le_left
  rw [andNot_nat a b ha hb]
  refine ⟨⟨by omega, by omega⟩, fun j => ?_⟩
  rw [bit_nat, bit_nat, bit_nat, Nat.testBit_and]
  by_cases hj : j < 10
  · congr 1
    have e : 18446744073709551615 - b = 2 ^ 64 - (b + 1) := by omega
    rw [e, Nat.testBit_two_pow_sub_succ (by omega)]
    simp; omega
  · have : a.testBit j = false := Nat.testBit_lt_two_pow (Nat.lt_of_lt_of_le ha (by have := Nat.pow_le_pow_right (n := 2) (by omega) (show 10 ≤ j by omega); omega))
    simp [this]
theorem set_ext {x y : Int} (hx : setP x) (hy : setP y) (h : ∀ j, j < 10 → bit x j = bit y j) : x = y := by
  have hall : ∀ j, bit x j = bit y j := by
    intro j
    by_cases hj : j < 10
    · exact h j hj
    · rw [Bool.eq_iff_iff]
      exact ⟨fun h => absurd (set_bit_lt hx h) hj, fun h => absurd (set_bit_lt hy h) hj⟩
  obtain ⟨a, rfl, ha⟩ := hx.nat; obtain ⟨b, rfl, hb⟩ := hy.nat
  have : a = b := Nat.eq_of_testBit_eq fun j => by have := hall j; rwa [bit_nat, bit_nat] at this
  rw [this]
theorem set_zero : setP 0 := ⟨by omega, by omega⟩
theorem bit_zero (j : Nat) : bit 0 j = false := by simp [bit]
theorem set_eq_zero {x : Int} (hx : setP x) : x = 0 ↔ ∀ j, j < 10 → bit x j = false :=
  ⟨fun h j _ => by rw [h]; exact bit_zero j, fun h => set_ext hx set_zero fun j hj => by rw [h j hj, bit_zero]⟩
theorem shl_all : ∀ j : Fin 10, shl .i64 1 (j.val : Int) = ((2 ^ j.val : Nat) : Int) := by decide +kernel
theorem set_shl {j : Nat} (hj : j < 10) : setP (shl .i64 1 (j : Int)) ∧ ∀ m, bit (shl .i64 1 (j : Int)) m = decide (m = j) := by
  have e : shl .i64 1 (j : Int) = ((2 ^ j : Nat) : Int) := shl_all ⟨j, hj⟩
  rw [e]
  have h : 2 ^ j ≤ 2 ^ 9 := Nat.pow_le_pow_right (by omega) (by omega)
  have h2 : (2 ^ j : Nat) < 1024 := by omega
  refine ⟨⟨Int.natCast_nonneg _, Int.ofNat_lt.2 h2⟩, fun m => ?_⟩
  rw [bit_nat, Nat.testBit_two_pow]
  by_cases e : j = m <;> simp [e] <;> omega
theorem set_full {n : Nat} (hn : n ≤ 10) : setP (full (n : Int)) ∧ ∀ m, bit (full (n : Int)) m = decide (m < n) := by
  have h : (2 : Nat) ^ n ≤ 2 ^ 10 := Nat.pow_le_pow_right (by omega) hn
  have e : full (n : Int) = ((2 ^ n - 1 : Nat) : Int) := by
    rw [full_pow hn, Int.natCast_sub (Nat.one_le_two_pow)]; simp
  rw [e]
  refine ⟨⟨by omega, by have : (2 ^ n - 1 : Nat) < 1024 := by omega
                        omega⟩, fun m => ?_⟩
  rw [bit_nat, Nat.testBit_two_pow_sub_one]
theorem andNot_zero {x y : Int} (hx : setP x) (hy : setP y) : andN x y = 0 ↔ ∀ j, j < 10 → bit x j = true → bit y j = true := by
  unfold andN
  rw [set_eq_zero (set_andNot hx hy).1]
  constructor
  · intro h j hj hb
    have := h j hj
    rw [(set_andNot hx hy).2, hb] at this
    simpa using this
  · intro h j hj
    rw [(set_andNot hx hy).2]
    cases hb : bit x j
    · rfl
    · simp [h j hj hb]
theorem relP.set {n : Int} {L : List Int} (h : relP n L) {i : Nat} (hi : i < L.length) : setP (rd L (i : Int)) := ⟨(h.row hi).1, (h.row hi).2.1⟩
def lt (L : List Int) (i j : Nat) : Bool := bit (rd L (i : Int)) j
theorem relP.lt_len {n : Int} {L : List Int} (h : relP n L) {i j : Nat} (hi : i < L.length) (hb : lt L i j = true) : j < L.length := bit_lt (h.row hi).1 (h.row hi).2.2 hb
theorem orderP.irr {n : Int} {L : List Int} (h : orderP n L) {i : Nat} (hi : i < L.length) : lt L i i = false := (h.2 i hi).1
theorem orderP.trans {n : Int} {L : List Int} (h : orderP n L) {i j m : Nat} (hi : i < L.length) (h1 : lt L i j = true) (h2 : lt L j m = true) : lt L i m = true := by
  have hj := h.1.lt_len hi h1
  have hm := set_bit_lt (h.1.set hj) h2
  have := (h.2 i hi).2 (j : Int) (mem_bitsOf.2 ⟨j, by have := h.1.1; have := h.1.2.1; omega, h1, rfl⟩)
  exact (andNot_zero (h.1.set hj) (h.1.set hi)).1 this m hm h2
end Go.Proofs.YtpphkeijklffgaaDoor.Pure
