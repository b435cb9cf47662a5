import Derived.Test.YteechpappfagpaaDoorBFnExactMeetOrders0
import Derived.Test.YteechpappfagpaaDoorBFnExactMeetOrders1
import Derived.Test.YteechpappfagpaaDoorBFnExactMeetOrders2
import Derived.Test.YteechpappfagpaaDoorBFnExactMeetOrders3
import Derived.Test.YteechpappfagpaaDoorBFnExactMeetOrders5
import Derived.Test.YteechpappfagpaaDoorBFnExactMeetOrders6
import Derived.Test.YteechpappfagpaaDoorBFnExactMeetOrders9
import Derived.Test.YteechpappfagpaaDoorBFnExactMeetOrders10
namespace Go.Proofs.YteechpappfagpaaDoor.Pure
open Go.RowKit Go.Proofs.YteechpappfagpaaDoor.Q Go.Proofs.YteechpappfagpaaDoorW.PrintWords Go.Proofs.YteechpappfagpaaDoorW.PrintLast
set_option linter.unusedVariables false
set_option linter.unusedSimpArgs false

-- small laws over rounds, numbers and lists; no program in sight
theorem Ev.shift {α : Type} {g : Nat → Option α} {r : α} (h : Ev (fun k => g (k + 1)) r) : Ev g r := by
  obtain ⟨K, hK⟩ := h
  refine ⟨K + 1, fun k hk => ?_⟩
  obtain ⟨m, rfl⟩ : ∃ m, k = m + 1 := ⟨k - 1, by omega⟩
  exact hK m (by omega)
theorem Ev.pos {α : Type} {c : Prop} [Decidable c] {f g : Nat → Option α} {r : α} (h : c) (k : Ev f r) : Ev (fun n => if c then f n else g n) r := by
  simp only [if_pos h]; exact k
theorem Ev.neg {α : Type} {c : Prop} [Decidable c] {f g : Nat → Option α} {r : α} (h : ¬ c) (k : Ev g r) : Ev (fun n => if c then f n else g n) r := by
  simp only [if_neg h]; exact k
theorem Ev.bindc {α β : Type} {a : Option α} {x : α} {f : Nat → α → Option β} {r : β} (h : a = some x) (k : Ev (fun n => f n x) r) : Ev (fun n => a.bind (f n)) r := by
  subst h; exact k
theorem Ev.ret {α : Type} {r s : α} (h : r = s) : Ev (fun _ => some r) s := by subst h; exact Ev.now _
theorem Ev.const {α : Type} {a : Option α} {r : α} (h : a = some r) : Ev (fun _ => a) r := ⟨0, fun _ _ => h⟩
theorem Ev.eq {α : Type} {g : Nat → Option α} {r s : α} (h : Ev g r) (e : r = s) : Ev g s := e ▸ h
theorem Ev.uniq {α : Type} {g : Nat → Option α} {r s : α} (h : Ev g r) (h' : Ev g s) : r = s := by
  obtain ⟨K, hK⟩ := h; obtain ⟨L, hL⟩ := h'
  have a := hK (max K L) (by omega); have b := hL (max K L) (by omega)
  rw [a] at b; exact Option.some.inj b
theorem Ev.at1 {α : Type} {g : Nat → Option α} {r : α} (h : Ev g r) : ∃ k, g k = some r := h.rounds
theorem wrap64_id {x : Int} (h1 : -9223372036854775808 ≤ x) (h2 : x ≤ 9223372036854775807) : wrap64 x = x := by unfold wrap64; omega
theorem rd_nat (l : List Int) (i : Nat) : rd l (i : Int) = l.getD i 0 := by simp [rd]
theorem rd_lt (l : List Int) (i : Nat) (h : i < l.length) : rd l (i : Int) = l[i] := by simp [rd, h]
theorem cast1 (i : Nat) : (i : Int) + 1 = ((i + 1 : Nat) : Int) := by omega
theorem set_prefix {l m : List Int} {i : Nat} (hm : m.length = l.length) (hi : i < l.length) (h : m.take i = l.take i) : (m.set i (rd l (i : Int))).take (i + 1) = l.take (i + 1) := by
  apply List.ext_getElem?
  intro j
  by_cases hj : j < i + 1
  · rw [List.getElem?_take_of_lt hj, List.getElem?_take_of_lt hj]
    by_cases e : j = i
    · subst e; rw [List.getElem?_set_self (by omega), rd_lt l j hi]; simp [hi]
    · rw [List.getElem?_set_ne (by omega)]
      have := congrArg (fun t => t[j]?) h
      rwa [List.getElem?_take_of_lt (by omega), List.getElem?_take_of_lt (by omega)] at this
  · rw [List.getElem?_eq_none (by simp; omega), List.getElem?_eq_none (by simp; omega)]

end Go.Proofs.YteechpappfagpaaDoor.Pure

namespace Go.Proofs.YteechpappfagpaaDoor.Pure
open Go.RowKit Go.Proofs.YteechpappfagpaaDoor.Q Go.Proofs.YteechpappfagpaaDoorW.PrintWords Go.Proofs.YteechpappfagpaaDoorW.PrintLast
set_option linter.unusedVariables false
set_option linter.unusedSimpArgs false

-- copying, comparing, marking, looking again: what the statements' own helpers answer
theorem toIntS_l (l : List Int) (hl : l.length ≤ 1048576) (d : Nat) : ∀ (i : Nat) (m : List Int), i + d = l.length → m.length = l.length → m.take i = l.take i → Ev (fun k => laws_toIntS.l0 k l m i) l := by
  induction d with
  | zero =>
    intro i m hi hm ht
    refine Ev.shift ?_
    simp only [laws_toIntS.l0]
    refine Ev.neg (by omega) ?_
    refine Ev.ret ?_
    rw [List.take_of_length_le (by omega), List.take_of_length_le (by omega)] at ht
    exact ht
  | succ d ih =>
    intro i m hi hm ht
    refine Ev.shift ?_
    simp only [laws_toIntS.l0]
    refine Ev.pos (by omega) (Ev.pos (by omega) (Ev.pos (by omega) ?_))
    rw [wrap64_id (by omega) (by omega), cast1]
    refine ih (i + 1) _ (by omega) (by rw [List.length_set]; exact hm) ?_
    exact set_prefix hm (by omega) ht
theorem toIntS (l : List Int) (hl : l.length ≤ 1048576) : Ev (fun k => laws_toIntS.f k l) l := by
  unfold laws_toIntS.f
  refine Ev.pos (by omega) (Ev.pos (by omega) ?_)
  exact toIntS_l l hl l.length 0 _ (by omega) (by simp) (by simp)
theorem eqIntS_l (l : List Int) (hl : l.length ≤ 1048576) (d : Nat) : ∀ (i : Nat), i + d = l.length → Ev (fun k => laws_eqIntS.l0 k l l i) true := by
  induction d with
  | zero =>
    intro i hi
    refine Ev.shift ?_
    simp only [laws_eqIntS.l0]
    exact Ev.neg (by omega) (Ev.ret rfl)
  | succ d ih =>
    intro i hi
    refine Ev.shift ?_
    simp only [laws_eqIntS.l0]
    refine Ev.pos (by omega) (Ev.pos (by omega) (Ev.pos (by omega) ?_))
    rw [wrap64_id (by omega) (by omega), cast1]
    exact Ev.pos trivial (ih (i + 1) (by omega))
theorem eqIntS_same (l : List Int) (hl : l.length ≤ 1048576) : Ev (fun k => laws_eqIntS.f k l l) true := by
  unfold laws_eqIntS.f
  refine Ev.pos rfl ?_
  exact eqIntS_l l hl l.length 0 (by omega)

end Go.Proofs.YteechpappfagpaaDoor.Pure

namespace Go.Proofs.YteechpappfagpaaDoor.Pure
open Go.RowKit Go.Proofs.YteechpappfagpaaDoor.Q Go.Proofs.YteechpappfagpaaDoorW.PrintWords Go.Proofs.YteechpappfagpaaDoorW.PrintLast
set_option linter.unusedVariables false
set_option linter.unusedSimpArgs false

-- sets of elements 0 to 9, as numbers below 1024
theorem Ev.of_mono {α : Type} {g : Nat → Option α} {r : α} (hm : ∀ k, LeO (g k) (g (k + 1))) {K : Nat} (h : g K = some r) : Ev g r := ⟨K, fun _ hk => at_rounds hm hk h⟩
def bit (x : Int) (j : Nat) : Bool := x.toNat.testBit j
def bitsOf (x : Int) : List Int := ((List.range 10).filter (bit x)).map fun (j : Nat) => (j : Int)
theorem members_all : ∀ x : Fin 1024, impl_members.f 12 (x.val : Int) = some (bitsOf (x.val : Int)) := by decide +kernel
theorem orList_all : ∀ x : Fin 1024, spec_orList.f 13 (x.val : Int) = some (bitsOf (x.val : Int)) := by decide +kernel
theorem orHas_all : ∀ x : Fin 1024, ∀ j : Fin 10, spec_orHas.f (x.val : Int) (j.val : Int) = some (bit (x.val : Int) j.val) := by decide +kernel
theorem shr_all : ∀ x : Fin 1024, ∀ j : Fin 10, ((Go.bits .and .i64 (shr .i64 (x.val : Int) (j.val : Int)) 1) == 1) = bit (x.val : Int) j.val := by decide +kernel

end Go.Proofs.YteechpappfagpaaDoor.Pure

namespace Go.Proofs.YteechpappfagpaaDoor.Pure
open Go.RowKit Go.Proofs.YteechpappfagpaaDoor.Q Go.Proofs.YteechpappfagpaaDoorW.PrintWords Go.Proofs.YteechpappfagpaaDoorW.PrintLast
set_option linter.unusedVariables false
set_option linter.unusedSimpArgs false

theorem members_ev {x : Int} (h0 : 0 ≤ x) (h1 : x < 1024) : Ev (fun k => impl_members.f k x) (bitsOf x) := by
  obtain ⟨m, rfl⟩ : ∃ m : Nat, x = m := ⟨x.toNat, by omega⟩
  exact Ev.of_mono (impl_members.mono _) (members_all ⟨m, by omega⟩)
theorem orList_ev {x : Int} (h0 : 0 ≤ x) (h1 : x < 1024) : Ev (fun k => spec_orList.f k x) (bitsOf x) := by
  obtain ⟨m, rfl⟩ : ∃ m : Nat, x = m := ⟨x.toNat, by omega⟩
  exact Ev.of_mono (spec_orList.mono _) (orList_all ⟨m, by omega⟩)
theorem orHas_f {x : Int} (h0 : 0 ≤ x) (h1 : x < 1024) {j : Nat} (hj : j < 10) : spec_orHas.f x (j : Int) = some (bit x j) := by
  obtain ⟨m, rfl⟩ : ∃ m : Nat, x = m := ⟨x.toNat, by omega⟩
  exact orHas_all ⟨m, by omega⟩ ⟨j, hj⟩
theorem shr_bit {x : Int} (h0 : 0 ≤ x) (h1 : x < 1024) {j : Nat} (hj : j < 10) : ((Go.bits .and .i64 (shr .i64 x (j : Int)) 1) == 1) = bit x j := by
  obtain ⟨m, rfl⟩ : ∃ m : Nat, x = m := ⟨x.toNat, by omega⟩
  exact shr_all ⟨m, by omega⟩ ⟨j, hj⟩
theorem better_f (n : Int) (L : List Int) {i j : Nat} (hi : i < L.length) (hx : 0 ≤ rd L (i : Int) ∧ rd L (i : Int) < 1024) (hj : j < 10) : impl_Order_better.f n L (i : Int) (j : Int) = some (bit (rd L (i : Int)) j) := by
  unfold impl_Order_better.f
  rw [if_pos (by omega), if_pos (by omega), if_pos (by omega), shr_bit hx.1 hx.2 hj]
theorem mem_bitsOf {x j : Int} : j ∈ bitsOf x ↔ ∃ i : Nat, i < 10 ∧ bit x i = true ∧ j = i := by
  simp only [bitsOf, List.mem_map, List.mem_filter, List.mem_range]
  constructor
  · rintro ⟨i, ⟨h1, h2⟩, rfl⟩; exact ⟨i, h1, h2, rfl⟩
  · rintro ⟨i, h1, h2, rfl⟩; exact ⟨i, ⟨h1, h2⟩, rfl⟩
theorem bit_lt {x : Int} {j n : Nat} (h0 : 0 ≤ x) (hx : x < (2 : Int) ^ n) (h : bit x j = true) : j < n := by
  have h1 := Nat.ge_two_pow_of_testBit h
  have h2 : x.toNat < 2 ^ n := by
    have : (x.toNat : Int) < ((2 ^ n : Nat) : Int) := by rw [Int.toNat_of_nonneg h0]; simpa using hx
    omega
  exact (Nat.pow_lt_pow_iff_right (by omega)).1 (Nat.lt_of_le_of_lt h1 h2)
theorem full_val : ∀ n : Fin 11, wrap64 (shl .i64 1 (n.val : Int) - 1) = (2 : Int) ^ n.val - 1 := by decide +kernel
theorem full_le : ∀ n : Fin 11, (2 : Int) ^ n.val - 1 ≤ 1023 := by decide +kernel
/-- all of n elements -/
def full (n : Int) : Int := wrap64 (shl .i64 1 n - 1)
theorem full_pow {n : Nat} (h : n ≤ 10) : full (n : Int) = (2 : Int) ^ n - 1 := full_val ⟨n, by omega⟩
theorem full_1023 {n : Nat} (h : n ≤ 10) : full (n : Int) ≤ 1023 := by rw [full_pow h]; exact full_le ⟨n, by omega⟩
def andN (x y : Int) : Int := Go.bits .andNot .i64 x y
/-- a relation on n elements -/
def relP (n : Int) (L : List Int) : Prop := (0 ≤ n ∧ n ≤ 10) ∧ (L.length : Int) = n ∧ ∀ x ∈ L, 0 ≤ x ∧ x ≤ full n
instance (n : Int) (L : List Int) : Decidable (relP n L) := by unfold relP; infer_instance
def rowOk (L : List Int) (m : Nat) : Prop := bit (rd L (m : Int)) m = false ∧ ∀ j ∈ bitsOf (rd L (m : Int)), andN (rd L j) (rd L (m : Int)) = 0
instance (L : List Int) (m : Nat) : Decidable (rowOk L m) := by unfold rowOk; infer_instance
/-- an order on n elements -/
def orderP (n : Int) (L : List Int) : Prop := relP n L ∧ ∀ m : Nat, m < L.length → rowOk L m
instance (n : Int) (L : List Int) : Decidable (orderP n L) := by unfold orderP; infer_instance
theorem relP.row {n : Int} {L : List Int} (h : relP n L) {i : Nat} (hi : i < L.length) : 0 ≤ rd L (i : Int) ∧ rd L (i : Int) < 1024 ∧ rd L (i : Int) < (2 : Int) ^ L.length := by
  obtain ⟨⟨h0, h1⟩, h2, h3⟩ := h
  have := h3 (rd L (i : Int)) (by rw [rd_lt L i hi]; exact List.getElem_mem _)
  have e : n = (L.length : Int) := h2.symm
  subst e
  have f := full_pow (n := L.length) (by omega)
  have g := full_1023 (n := L.length) (by omega)
  omega
theorem relP.bits {n : Int} {L : List Int} (h : relP n L) {i : Nat} (hi : i < L.length) {j : Int} (hj : j ∈ bitsOf (rd L (i : Int))) : ∃ m : Nat, j = m ∧ m < L.length ∧ bit (rd L (i : Int)) m = true := by
  obtain ⟨m, _, hb, rfl⟩ := mem_bitsOf.1 hj
  have := h.row hi
  exact ⟨m, rfl, bit_lt this.1 this.2.2 hb, hb⟩
theorem impl_in (a b c : Int) : impl_within.f a b c = some (decide (b ≤ a ∧ a ≤ c)) := by
  unfold impl_within.f
  by_cases h : a ≥ b
  · rw [if_pos h]; by_cases h2 : a ≤ c <;> simp [h2] <;> omega
  · rw [if_neg h]; simp; omega
theorem spec_in (a b c : Int) : spec_l1In.f a b c = some (decide (b ≤ a ∧ a ≤ c)) := by
  unfold spec_l1In.f
  by_cases h : a ≥ b
  · rw [if_pos h]; by_cases h2 : a ≤ c <;> simp [h2] <;> omega
  · rw [if_neg h]; simp; omega
theorem drop_rd (l : List Int) (i : Nat) (h : i < l.length) : l.drop i = rd l (i : Int) :: l.drop (i + 1) := by
  rw [rd_lt l i h]; exact List.drop_eq_getElem_cons h
theorem allWithin_l (a b : Int) (l : List Int) (hl : l.length ≤ 1048576) (d : Nat) : ∀ i : Nat, i + d = l.length → Ev (fun k => impl_allWithin.l0 k a b l (l.length : Int) i) (decide (∀ x ∈ l.drop i, a ≤ x ∧ x ≤ b)) := by
  induction d with
  | zero =>
    intro i hi
    refine Ev.shift ?_
    simp only [impl_allWithin.l0]
    refine Ev.neg (by omega) (Ev.ret ?_)
    rw [List.drop_of_length_le (by omega)]; simp
  | succ d ih =>
    intro i hi
    refine Ev.shift ?_
    simp only [impl_allWithin.l0]
    refine Ev.pos (by omega) (Ev.pos (by omega) (Ev.pos (by omega) (Ev.bindc (impl_in _ _ _) ?_)))
    rw [wrap64_id (by omega) (by omega), cast1, drop_rd l i (by omega)]
    by_cases hc : a ≤ rd l (i : Int) ∧ rd l (i : Int) ≤ b
    · exact Ev.pos (by simpa using hc) (Ev.eq (ih (i + 1) (by omega)) (by simp [hc]))
    · refine Ev.neg (by simpa using hc) (Ev.ret ?_)
      symm; rw [decide_eq_false_iff_not]; intro h; exact hc (h _ (by simp))
theorem allWithin_ev (a b : Int) (l : List Int) (hl : l.length ≤ 1048576) : Ev (fun k => impl_allWithin.f k l a b) (decide (∀ x ∈ l, a ≤ x ∧ x ≤ b)) := by
  unfold impl_allWithin.f
  simpa using allWithin_l a b l hl l.length 0 (by omega)
theorem l1All_l (a b : Int) (l : List Int) (hl : l.length ≤ 1048576) (d : Nat) : ∀ i : Nat, i + d = l.length → Ev (fun k => spec_l1All.l0 k a b l (l.length : Int) i) (decide (∀ x ∈ l.drop i, a ≤ x ∧ x ≤ b)) := by
  induction d with
  | zero =>
    intro i hi
    refine Ev.shift ?_
    simp only [spec_l1All.l0]
    refine Ev.neg (by omega) (Ev.ret ?_)
    rw [List.drop_of_length_le (by omega)]; simp
  | succ d ih =>
    intro i hi
    refine Ev.shift ?_
    simp only [spec_l1All.l0]
    refine Ev.pos (by omega) (Ev.pos (by omega) (Ev.pos (by omega) (Ev.bindc (spec_in _ _ _) ?_)))
    rw [wrap64_id (by omega) (by omega), cast1, drop_rd l i (by omega)]
    by_cases hc : a ≤ rd l (i : Int) ∧ rd l (i : Int) ≤ b
    · exact Ev.pos (by simpa using hc) (Ev.eq (ih (i + 1) (by omega)) (by simp [hc]))
    · refine Ev.neg (by simpa using hc) (Ev.ret ?_)
      symm; rw [decide_eq_false_iff_not]; intro h; exact hc (h _ (by simp))
theorem l1All_ev (a b : Int) (l : List Int) (hl : l.length ≤ 1048576) : Ev (fun k => spec_l1All.f k l a b) (decide (∀ x ∈ l, a ≤ x ∧ x ≤ b)) := by
  unfold spec_l1All.f
  simpa using l1All_l a b l hl l.length 0 (by omega)
theorem isRelation_ev (n : Int) (L : List Int) (hl : L.length ≤ 1048576) : Ev (fun k => impl_IsRelation.f k n L) (decide (relP n L)) := by
  unfold impl_IsRelation.f
  refine Ev.bindc (impl_in _ _ _) ?_
  by_cases h : 0 ≤ n ∧ n ≤ 10
  · refine Ev.pos (by simpa using h) ?_
    by_cases h2 : (L.length : Int) = n
    · refine Ev.pos h2 (Ev.pos h.1 (Ev.bind (allWithin_ev 0 (full n) L hl) (Ev.ret ?_)))
      rw [Bool.eq_iff_iff, decide_eq_true_iff, decide_eq_true_iff]
      exact ⟨fun h3 => ⟨h, h2, h3⟩, fun h3 => h3.2.2⟩
    · refine Ev.neg h2 (Ev.ret ?_)
      symm; rw [decide_eq_false_iff_not]; exact fun h3 => h2 h3.2.1
  · refine Ev.neg (by simpa using h) (Ev.ret ?_)
    symm; rw [decide_eq_false_iff_not]; exact fun h3 => h h3.1
theorem orRelation_ev (n : Int) (L : List Int) (hl : L.length ≤ 1048576) : Ev (fun k => spec_orRelation.f k n L) (decide (relP n L)) := by
  unfold spec_orRelation.f
  refine Ev.bindc (spec_in _ _ _) ?_
  by_cases h : 0 ≤ n ∧ n ≤ 10
  · refine Ev.pos (by simpa using h) ?_
    by_cases h2 : (L.length : Int) = n
    · refine Ev.pos h2 (Ev.pos h.1 (Ev.bind (l1All_ev 0 (full n) L hl) (Ev.ret ?_)))
      rw [Bool.eq_iff_iff, decide_eq_true_iff, decide_eq_true_iff]
      exact ⟨fun h3 => ⟨h, h2, h3⟩, fun h3 => h3.2.2⟩
    · refine Ev.neg h2 (Ev.ret ?_)
      symm; rw [decide_eq_false_iff_not]; exact fun h3 => h2 h3.2.1
  · refine Ev.neg (by simpa using h) (Ev.ret ?_)
    symm; rw [decide_eq_false_iff_not]; exact fun h3 => h h3.1
theorem isOrder_l1 (n : Int) (L : List Int) (hr : relP n L) (i : Nat) (hi : i < L.length) (r : Bool) (hk : Ev (fun k => impl_IsOrder.l0 k L (L.length : Int) ((i + 1 : Nat) : Int) n L) r) (d : Nat) :
    ∀ q : Nat, q + d = (bitsOf (rd L (i : Int))).length → Ev (fun k => impl_IsOrder.l1 k (rd L (i : Int)) L (L.length : Int) (i : Int) (bitsOf (rd L (i : Int))) ((bitsOf (rd L (i : Int))).length : Int) (q : Int) n L) (decide (∀ j ∈ (bitsOf (rd L (i : Int))).drop q, andN (rd L j) (rd L (i : Int)) = 0) && r) := by
  have hle : L.length ≤ 10 := by have := hr.1; have := hr.2.1; omega
  have hbl : (bitsOf (rd L (i : Int))).length ≤ 10 := by
    have := List.length_filter_le (bit (rd L (i : Int))) (List.range 10)
    simpa [bitsOf] using this
  induction d with
  | zero =>
    intro q hq
    refine Ev.shift ?_
    simp only [impl_IsOrder.l1]
    refine Ev.neg (by omega) ?_
    rw [wrap64_id (by omega) (by omega), cast1, List.drop_of_length_le (by omega)]
    exact Ev.eq hk (by simp)
  | succ d ih =>
    intro q hq
    obtain ⟨m, hm, hml, _⟩ := hr.bits hi (j := rd (bitsOf (rd L (i : Int))) (q : Int)) (by rw [rd_lt _ q (by omega)]; exact List.getElem_mem _)
    refine Ev.shift ?_
    simp only [impl_IsOrder.l1]
    refine Ev.pos (by omega) (Ev.pos (by omega) (Ev.pos (by omega) (Ev.pos (by omega) (Ev.pos (by omega) ?_))))
    rw [wrap64_id (x := (q : Int) + 1) (by omega) (by omega), cast1, drop_rd _ q (by omega)]
    by_cases hc : Go.bits .andNot .i64 (rd L (rd (bitsOf (rd L (i : Int))) (q : Int))) (rd L (i : Int)) = 0
    · exact Ev.pos hc (Ev.eq (ih (q + 1) (by omega)) (by
        have hc' : andN (rd L (rd (bitsOf (rd L (i : Int))) (q : Int))) (rd L (i : Int)) = 0 := hc
        simp [hc']))
    · refine Ev.neg hc (Ev.ret ?_)
      have hc' : ¬ andN (rd L (rd (bitsOf (rd L (i : Int))) (q : Int))) (rd L (i : Int)) = 0 := hc
      simp [hc']
theorem isOrder_l0 (n : Int) (L : List Int) (hr : relP n L) (d : Nat) : ∀ i : Nat, i + d = L.length → Ev (fun k => impl_IsOrder.l0 k L (L.length : Int) (i : Int) n L) (decide (∀ m : Nat, m < L.length → i ≤ m → rowOk L m)) := by
  have hle : L.length ≤ 10 := by have := hr.1; have := hr.2.1; omega
  induction d with
  | zero =>
    intro i hi
    refine Ev.shift ?_
    simp only [impl_IsOrder.l0]
    refine Ev.neg (by omega) (Ev.ret ?_)
    symm; rw [decide_eq_true_iff]; intro m h1 h2; omega
  | succ d ih =>
    intro i hi
    have hrow := hr.row (i := i) (by omega)
    have hsplit : (∀ m : Nat, m < L.length → i ≤ m → rowOk L m) ↔ rowOk L i ∧ ∀ m : Nat, m < L.length → i + 1 ≤ m → rowOk L m := by
      constructor
      · intro h; exact ⟨h i (by omega) (Nat.le_refl _), fun m h1 h2 => h m h1 (by omega)⟩
      · rintro ⟨h1, h2⟩ m h3 h4
        by_cases e : m = i
        · subst e; exact h1
        · exact h2 m h3 (by omega)
    refine Ev.shift ?_
    simp only [impl_IsOrder.l0]
    refine Ev.pos (by omega) (Ev.pos (by omega) (Ev.pos (by omega) (Ev.bindc (better_f n L (by omega) ⟨hrow.1, hrow.2.1⟩ (by omega)) ?_)))
    by_cases hb : bit (rd L (i : Int)) i = true
    · refine Ev.pos hb (Ev.ret ?_)
      symm; rw [decide_eq_false_iff_not, hsplit]; intro h
      rw [h.1.1] at hb; cases hb
    · refine Ev.neg hb (Ev.bind (members_ev hrow.1 hrow.2.1) ?_)
      refine Ev.eq (isOrder_l1 n L hr i (by omega) _ (ih (i + 1) (by omega)) (bitsOf (rd L (i : Int))).length 0 (by omega)) ?_
      rw [Bool.eq_iff_iff, Bool.and_eq_true, decide_eq_true_iff, decide_eq_true_iff, decide_eq_true_iff, hsplit, List.drop_zero]
      constructor
      · rintro ⟨h1, h2⟩; exact ⟨⟨by simpa using hb, h1⟩, h2⟩
      · rintro ⟨h1, h2⟩; exact ⟨h1.2, h2⟩
theorem isOrder_ev (n : Int) (L : List Int) (hl : L.length ≤ 1048576) : Ev (fun k => impl_IsOrder.f k n L) (decide (orderP n L)) := by
  unfold impl_IsOrder.f
  refine Ev.bind (isRelation_ev n L hl) ?_
  by_cases h : relP n L
  · refine Ev.pos (by simpa using h) (Ev.eq (isOrder_l0 n L h L.length 0 (by omega)) ?_)
    rw [Bool.eq_iff_iff, decide_eq_true_iff, decide_eq_true_iff]
    exact ⟨fun h2 => ⟨h, fun m hm => h2 m hm (Nat.zero_le _)⟩, fun h2 m hm _ => h2.2 m hm⟩
  · refine Ev.neg (by simpa using h) (Ev.ret ?_)
    symm; rw [decide_eq_false_iff_not]; exact fun h2 => h h2.1
theorem orGood_l1 (n : Int) (L : List Int) (hr : relP n L) (i : Nat) (hi : i < L.length) (r : Bool) (hk : Ev (fun k => spec_orGood.l0 k L (L.length : Int) ((i + 1 : Nat) : Int) n L) r) (d : Nat) :
    ∀ q : Nat, q + d = (bitsOf (rd L (i : Int))).length → Ev (fun k => spec_orGood.l1 k (rd L (i : Int)) L (L.length : Int) (i : Int) (bitsOf (rd L (i : Int))) ((bitsOf (rd L (i : Int))).length : Int) (q : Int) n L) (decide (∀ j ∈ (bitsOf (rd L (i : Int))).drop q, andN (rd L j) (rd L (i : Int)) = 0) && r) := by
  have hle : L.length ≤ 10 := by have := hr.1; have := hr.2.1; omega
  have hbl : (bitsOf (rd L (i : Int))).length ≤ 10 := by
    have := List.length_filter_le (bit (rd L (i : Int))) (List.range 10)
    simpa [bitsOf] using this
  induction d with
  | zero =>
    intro q hq
    refine Ev.shift ?_
    simp only [spec_orGood.l1]
    refine Ev.neg (by omega) ?_
    rw [wrap64_id (by omega) (by omega), cast1, List.drop_of_length_le (by omega)]
    exact Ev.eq hk (by simp)
  | succ d ih =>
    intro q hq
    obtain ⟨m, hm, hml, _⟩ := hr.bits hi (j := rd (bitsOf (rd L (i : Int))) (q : Int)) (by rw [rd_lt _ q (by omega)]; exact List.getElem_mem _)
    refine Ev.shift ?_
    simp only [spec_orGood.l1]
    refine Ev.pos (by omega) (Ev.pos (by omega) (Ev.pos (by omega) (Ev.pos (by omega) (Ev.pos (by omega) ?_))))
    rw [wrap64_id (x := (q : Int) + 1) (by omega) (by omega), cast1, drop_rd _ q (by omega)]
    by_cases hc : Go.bits .andNot .i64 (rd L (rd (bitsOf (rd L (i : Int))) (q : Int))) (rd L (i : Int)) = 0
    · exact Ev.pos hc (Ev.eq (ih (q + 1) (by omega)) (by
        have hc' : andN (rd L (rd (bitsOf (rd L (i : Int))) (q : Int))) (rd L (i : Int)) = 0 := hc
        simp [hc']))
    · refine Ev.neg hc (Ev.ret ?_)
      have hc' : ¬ andN (rd L (rd (bitsOf (rd L (i : Int))) (q : Int))) (rd L (i : Int)) = 0 := hc
      simp [hc']
theorem orGood_l0 (n : Int) (L : List Int) (hr : relP n L) (d : Nat) : ∀ i : Nat, i + d = L.length → Ev (fun k => spec_orGood.l0 k L (L.length : Int) (i : Int) n L) (decide (∀ m : Nat, m < L.length → i ≤ m → rowOk L m)) := by
  have hle : L.length ≤ 10 := by have := hr.1; have := hr.2.1; omega
  induction d with
  | zero =>
    intro i hi
    refine Ev.shift ?_
    simp only [spec_orGood.l0]
    refine Ev.neg (by omega) (Ev.ret ?_)
    symm; rw [decide_eq_true_iff]; intro m h1 h2; omega
  | succ d ih =>
    intro i hi
    have hrow := hr.row (i := i) (by omega)
    have hsplit : (∀ m : Nat, m < L.length → i ≤ m → rowOk L m) ↔ rowOk L i ∧ ∀ m : Nat, m < L.length → i + 1 ≤ m → rowOk L m := by
      constructor
      · intro h; exact ⟨h i (by omega) (Nat.le_refl _), fun m h1 h2 => h m h1 (by omega)⟩
      · rintro ⟨h1, h2⟩ m h3 h4
        by_cases e : m = i
        · subst e; exact h1
        · exact h2 m h3 (by omega)
    refine Ev.shift ?_
    simp only [spec_orGood.l0]
    refine Ev.pos (by omega) (Ev.pos (by omega) (Ev.pos (by omega) (Ev.bindc (orHas_f hrow.1 hrow.2.1 (by omega)) ?_)))
    by_cases hb : bit (rd L (i : Int)) i = true
    · refine Ev.pos hb (Ev.ret ?_)
      symm; rw [decide_eq_false_iff_not, hsplit]; intro h
      rw [h.1.1] at hb; cases hb
    · refine Ev.neg hb (Ev.bind (orList_ev hrow.1 hrow.2.1) ?_)
      refine Ev.eq (orGood_l1 n L hr i (by omega) _ (ih (i + 1) (by omega)) (bitsOf (rd L (i : Int))).length 0 (by omega)) ?_
      rw [Bool.eq_iff_iff, Bool.and_eq_true, decide_eq_true_iff, decide_eq_true_iff, decide_eq_true_iff, hsplit, List.drop_zero]
      constructor
      · rintro ⟨h1, h2⟩; exact ⟨⟨by simpa using hb, h1⟩, h2⟩
      · rintro ⟨h1, h2⟩; exact ⟨h1.2, h2⟩
theorem orGood_ev (n : Int) (L : List Int) (hl : L.length ≤ 1048576) : Ev (fun k => spec_orGood.f k n L) (decide (orderP n L)) := by
  unfold spec_orGood.f
  refine Ev.bind (orRelation_ev n L hl) ?_
  by_cases h : relP n L
  · refine Ev.pos (by simpa using h) (Ev.eq (orGood_l0 n L h L.length 0 (by omega)) ?_)
    rw [Bool.eq_iff_iff, decide_eq_true_iff, decide_eq_true_iff]
    exact ⟨fun h2 => ⟨h, fun m hm => h2 m hm (Nat.zero_le _)⟩, fun h2 m hm _ => h2.2 m hm⟩
  · refine Ev.neg (by simpa using h) (Ev.ret ?_)
    symm; rw [decide_eq_false_iff_not]; exact fun h2 => h h2.1

end Go.Proofs.YteechpappfagpaaDoor.Pure

namespace Go.Proofs.YteechpappfagpaaDoor.Pure
open Go.RowKit Go.Proofs.YteechpappfagpaaDoor.Q Go.Proofs.YteechpappfagpaaDoorW.PrintWords Go.Proofs.YteechpappfagpaaDoorW.PrintLast
set_option linter.unusedVariables false
set_option linter.unusedSimpArgs false

-- what the statements' own helpers answer at orders
theorem toOrder (n : Int) (l : List Int) (hl : l.length ≤ 1048576) : Ev (fun k => laws_toOrder.f k n l) (n, l) := by
  unfold laws_toOrder.f
  exact Ev.bind (toIntS l hl) (Ev.ret rfl)
theorem eqOrder_same (n : Int) (x : List Int) (hx : x.length ≤ 1048576) : Ev (fun k => laws_eqOrder.f k n x n x) true := by
  unfold laws_eqOrder.f
  exact Ev.pos rfl (Ev.bind (eqIntS_same x hx) (Ev.pos rfl (Ev.ret rfl)))
theorem szOrder_big (n : Int) (l : List Int) (a : Int) (ha : 0 ≤ a ∧ a ≤ 1048576) (hl : l.length ≤ maxLen) (h : a < l.length) : laws_szOrder.f n l a = some (-1) := by
  unfold laws_szOrder.f laws_szIntS.f
  have : (l.length : Int) ≤ 9223372036854775807 := by unfold maxLen at hl; omega
  rw [wrap64_id (by omega) (by omega), if_pos (by omega), Option.bind_some, if_pos (by omega)]
theorem szOrder_fit (n : Int) (l : List Int) (a : Int) (ha : 0 ≤ a ∧ a ≤ 1048576) (h : (l.length : Int) ≤ a) : laws_szOrder.f n l a = some (a - l.length) := by
  unfold laws_szOrder.f laws_szIntS.f
  rw [wrap64_id (by omega) (by omega), if_neg (by omega), Option.bind_some, if_neg (by omega)]

end Go.Proofs.YteechpappfagpaaDoor.Pure

namespace Go.Proofs.YteechpappfagpaaDoor.Pure
open Go.RowKit Go.Proofs.YteechpappfagpaaDoor.Q Go.Proofs.YteechpappfagpaaDoorW.PrintWords Go.Proofs.YteechpappfagpaaDoorW.PrintLast
set_option linter.unusedVariables false
set_option linter.unusedSimpArgs false

/-- the numbers a, a+1, .. -/
def markL (a : Int) (n : Nat) : List Int := (List.range n).map fun (i : Nat) => a + (i : Int)
theorem markL_length (a : Int) (n : Nat) : (markL a n).length = n := by simp [markL]
theorem markL_rd (a : Int) (n i : Nat) (h : i < n) : rd (markL a n) (i : Int) = a + i := by
  rw [rd_lt _ _ (by rw [markL_length]; exact h)]; simp [markL]
theorem mark_prefix {a : Int} {m : List Int} {i n : Nat} (hm : m.length = n) (hi : i < n) (h : m.take i = markL a i) : (m.set i (a + i)).take (i + 1) = markL a (i + 1) := by
  apply List.ext_getElem?
  intro j
  by_cases hj : j < i + 1
  · rw [List.getElem?_take_of_lt hj]
    by_cases e : j = i
    · subst e; rw [List.getElem?_set_self (by omega)]; simp [markL]
    · rw [List.getElem?_set_ne (by omega)]
      have := congrArg (fun t => t[j]?) h
      rw [List.getElem?_take_of_lt (by omega)] at this
      rw [this]; simp [markL]; rw [List.getElem?_range (by omega), List.getElem?_range (by omega)]
  · rw [List.getElem?_eq_none (by simp; omega), List.getElem?_eq_none (by simp [markL]; omega)]
theorem markIntS_l (n : Nat) (hn : n ≤ 1048576) (a : Int) (h0 : -4611686018427387904 ≤ a) (h1 : a ≤ 4611686018427387904) (d : Nat) : ∀ (i : Nat) (m : List Int), i + d = n → m.length = n → m.take i = markL a i → Ev (fun k => laws_markIntS.l0 k m (a + i) i) (a + n, markL a n) := by
  induction d with
  | zero =>
    intro i m hi hm ht
    refine Ev.shift ?_
    simp only [laws_markIntS.l0]
    refine Ev.neg (by omega) (Ev.ret ?_)
    rw [List.take_of_length_le (by omega)] at ht
    obtain rfl : i = n := by omega
    rw [ht]
  | succ d ih =>
    intro i m hi hm ht
    refine Ev.shift ?_
    simp only [laws_markIntS.l0]
    refine Ev.pos (by omega) (Ev.pos (by omega) ?_)
    rw [wrap64_id (x := (i : Int) + 1) (by omega) (by omega), wrap64_id (x := a + (i : Int) + 1) (by omega) (by omega), Int.toNat_natCast]
    have e : a + (i : Int) + 1 = a + ((i + 1 : Nat) : Int) := by omega
    rw [e, cast1]
    exact ih (i + 1) _ (by omega) (by rw [List.length_set]; exact hm) (mark_prefix hm (by omega) ht)
theorem markIntS (l : List Int) (hl : l.length ≤ 1048576) (a : Int) (h0 : -4611686018427387904 ≤ a) (h1 : a ≤ 4611686018427387904) : Ev (fun k => laws_markIntS.f k l a) (a + l.length, markL a l.length) := by
  unfold laws_markIntS.f
  have := markIntS_l l.length hl a h0 h1 l.length 0 l (by omega) rfl (by simp [markL])
  simpa using this
theorem heldIntS_l (n : Nat) (hn : n ≤ 1048576) (a : Int) (h0 : -4611686018427387904 ≤ a) (h1 : a ≤ 4611686018427387904) (d : Nat) : ∀ (i : Nat), i + d = n → Ev (fun k => laws_heldIntS.l0 k (markL a n) (a + i) i) (a + n) := by
  induction d with
  | zero =>
    intro i hi
    refine Ev.shift ?_
    simp only [laws_heldIntS.l0, markL_length]
    refine Ev.neg (by omega) (Ev.ret ?_)
    rw [show i = n by omega]
  | succ d ih =>
    intro i hi
    refine Ev.shift ?_
    simp only [laws_heldIntS.l0, markL_length]
    refine Ev.pos (by omega) (Ev.pos (by omega) (Ev.pos (markL_rd a n i (by omega)) ?_))
    rw [wrap64_id (x := (i : Int) + 1) (by omega) (by omega), wrap64_id (x := a + (i : Int) + 1) (by omega) (by omega)]
    have e : a + (i : Int) + 1 = a + ((i + 1 : Nat) : Int) := by omega
    rw [e, cast1]
    exact ih (i + 1) (by omega)
theorem heldIntS (n : Nat) (hn : n ≤ 1048576) (a : Int) (h0 : -4611686018427387904 ≤ a) (h1 : a ≤ 4611686018427387904) : Ev (fun k => laws_heldIntS.f k (markL a n) a) (a + n) := by
  unfold laws_heldIntS.f
  have := heldIntS_l n hn a h0 h1 n 0 (by omega)
  simpa using this

end Go.Proofs.YteechpappfagpaaDoor.Pure

namespace Go.Proofs.YteechpappfagpaaDoor.Pure
open Go.RowKit Go.Proofs.YteechpappfagpaaDoor.Q Go.Proofs.YteechpappfagpaaDoorW.PrintWords Go.Proofs.YteechpappfagpaaDoorW.PrintLast
set_option linter.unusedVariables false
set_option linter.unusedSimpArgs false

theorem markOrder (n : Int) (x : List Int) (hx : x.length ≤ 1048576) (a : Int) (h0 : -4611686018427387904 ≤ a) (h1 : a ≤ 4611686018427387904) : Ev (fun k => laws_markOrder.f k n x a) (a + x.length, markL a x.length) := by
  unfold laws_markOrder.f
  exact Ev.bind (markIntS x hx a h0 h1) (Ev.ret rfl)
theorem heldOrder (n : Int) (m : Nat) (hm : m ≤ 1048576) (a : Int) (h0 : 0 ≤ a) (h1 : a ≤ 4611686018427387904) : Ev (fun k => laws_heldOrder.f k n (markL a m) a) (a + m) := by
  unfold laws_heldOrder.f
  exact Ev.bind (heldIntS m hm a (by omega) h1) (Ev.neg (by omega) (Ev.ret rfl))

end Go.Proofs.YteechpappfagpaaDoor.Pure
