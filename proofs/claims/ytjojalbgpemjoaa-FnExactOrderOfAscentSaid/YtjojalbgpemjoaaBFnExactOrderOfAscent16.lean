import Derived.Test.YtjojalbgpemjoaaBFnExactOrderOfAscent0
import Derived.Test.YtjojalbgpemjoaaBFnExactOrderOfAscent1
import Derived.Test.YtjojalbgpemjoaaBFnExactOrderOfAscent2
import Derived.Test.YtjojalbgpemjoaaBFnExactOrderOfAscent3
import Derived.Test.YtjojalbgpemjoaaBFnExactOrderOfAscent7
import Derived.Test.YtjojalbgpemjoaaBFnExactOrderOfAscent8
namespace Go.Proofs.Ytjojalbgpemjoaa.Pure
open Go.RowKit Go.Proofs.Ytjojalbgpemjoaa.Q Go.Proofs.YtjojalbgpemjoaaW.PrintWords Go.Proofs.YtjojalbgpemjoaaW.PrintLast
set_option linter.unusedVariables false
set_option linter.unusedSimpArgs false

-- small laws over rounds, numbers and lists; no program in sight
theorem Ev.shift {α : Type} {g : Nat → Option α} {r : α} (h : Ev (fun k => g (k + 1)) r) : Ev g r := by
  obtain ⟨K, hK⟩ := h
  refine ⟨K + 1, fun k hk => ?_⟩
  obtain ⟨m, rfl⟩ : ∃ m, k = m + 1 := ⟨k - 1, by omega⟩
  exact hK m (by omega)
theorem Ev.pos {α : Type} {c : Prop} [Decidable c] {f g : Nat → Option α} {r : α} (h : c) (k : Ev f r) : Ev (fun n => if c then f n else g n) r := by
  simp only [if_pos h]; exact k
theorem Ev.neg {α : Type} {c : Prop} [Decidable c] {f g : Nat → Option α} {r : α} (h : ¬ c) (k : Ev g r) : Ev (fun n => if c then f n else g n) r := by
  simp only [if_neg h]; exact k
theorem Ev.bindc {α β : Type} {a : Option α} {x : α} {f : Nat → α → Option β} {r : β} (h : a = some x) (k : Ev (fun n => f n x) r) : Ev (fun n => a.bind (f n)) r := by
  subst h; exact k
theorem Ev.ret {α : Type} {r s : α} (h : r = s) : Ev (fun _ => some r) s := by subst h; exact Ev.now _
theorem Ev.const {α : Type} {a : Option α} {r : α} (h : a = some r) : Ev (fun _ => a) r := ⟨0, fun _ _ => h⟩
theorem Ev.eq {α : Type} {g : Nat → Option α} {r s : α} (h : Ev g r) (e : r = s) : Ev g s := e ▸ h
theorem Ev.uniq {α : Type} {g : Nat → Option α} {r s : α} (h : Ev g r) (h' : Ev g s) : r = s := by
  obtain ⟨K, hK⟩ := h; obtain ⟨L, hL⟩ := h'
  have a := hK (max K L) (by omega); have b := hL (max K L) (by omega)
  rw [a] at b; exact Option.some.inj b
theorem Ev.at1 {α : Type} {g : Nat → Option α} {r : α} (h : Ev g r) : ∃ k, g k = some r := h.rounds
theorem wrap64_id {x : Int} (h1 : -9223372036854775808 ≤ x) (h2 : x ≤ 9223372036854775807) : wrap64 x = x := by unfold wrap64; omega
theorem rd_nat (l : List Int) (i : Nat) : rd l (i : Int) = l.getD i 0 := by simp [rd]
theorem rd_lt (l : List Int) (i : Nat) (h : i < l.length) : rd l (i : Int) = l[i] := by simp [rd, h]
theorem cast1 (i : Nat) : (i : Int) + 1 = ((i + 1 : Nat) : Int) := by omega
theorem set_prefix {l m : List Int} {i : Nat} (hm : m.length = l.length) (hi : i < l.length) (h : m.take i = l.take i) : (m.set i (rd l (i : Int))).take (i + 1) = l.take (i + 1) := by
  apply List.ext_getElem?
  intro j
  by_cases hj : j < i + 1
  · rw [List.getElem?_take_of_lt hj, List.getElem?_take_of_lt hj]
    by_cases e : j = i
    · subst e; rw [List.getElem?_set_self (by omega), rd_lt l j hi]; simp [hi]
    · rw [List.getElem?_set_ne (by omega)]
      have := congrArg (fun t => t[j]?) h
      rwa [List.getElem?_take_of_lt (by omega), List.getElem?_take_of_lt (by omega)] at this
  · rw [List.getElem?_eq_none (by simp; omega), List.getElem?_eq_none (by simp; omega)]

end Go.Proofs.Ytjojalbgpemjoaa.Pure

namespace Go.Proofs.Ytjojalbgpemjoaa.Pure
open Go.RowKit Go.Proofs.Ytjojalbgpemjoaa.Q Go.Proofs.YtjojalbgpemjoaaW.PrintWords Go.Proofs.YtjojalbgpemjoaaW.PrintLast
set_option linter.unusedVariables false
set_option linter.unusedSimpArgs false

-- copying, comparing, marking, looking again: what the statements' own helpers answer
theorem toIntS_l (l : List Int) (hl : l.length ≤ 1048576) (d : Nat) : ∀ (i : Nat) (m : List Int), i + d = l.length → m.length = l.length → m.take i = l.take i → Ev (fun k => laws_toIntS.l0 k l m i) l := by
  induction d with
  | zero =>
    intro i m hi hm ht
    refine Ev.shift ?_
    simp only [laws_toIntS.l0]
    refine Ev.neg (by omega) ?_
    refine Ev.ret ?_
    rw [List.take_of_length_le (by omega), List.take_of_length_le (by omega)] at ht
    exact ht
  | succ d ih =>
    intro i m hi hm ht
    refine Ev.shift ?_
    simp only [laws_toIntS.l0]
    refine Ev.pos (by omega) (Ev.pos (by omega) (Ev.pos (by omega) ?_))
    rw [wrap64_id (by omega) (by omega), cast1]
    refine ih (i + 1) _ (by omega) (by rw [List.length_set]; exact hm) ?_
    exact set_prefix hm (by omega) ht
theorem toIntS (l : List Int) (hl : l.length ≤ 1048576) : Ev (fun k => laws_toIntS.f k l) l := by
  unfold laws_toIntS.f
  refine Ev.pos (by omega) (Ev.pos (by omega) ?_)
  exact toIntS_l l hl l.length 0 _ (by omega) (by simp) (by simp)
theorem eqIntS_l (l : List Int) (hl : l.length ≤ 1048576) (d : Nat) : ∀ (i : Nat), i + d = l.length → Ev (fun k => laws_eqIntS.l0 k l l i) true := by
  induction d with
  | zero =>
    intro i hi
    refine Ev.shift ?_
    simp only [laws_eqIntS.l0]
    exact Ev.neg (by omega) (Ev.ret rfl)
  | succ d ih =>
    intro i hi
    refine Ev.shift ?_
    simp only [laws_eqIntS.l0]
    refine Ev.pos (by omega) (Ev.pos (by omega) (Ev.pos (by omega) ?_))
    rw [wrap64_id (by omega) (by omega), cast1]
    exact Ev.pos trivial (ih (i + 1) (by omega))
theorem eqIntS_same (l : List Int) (hl : l.length ≤ 1048576) : Ev (fun k => laws_eqIntS.f k l l) true := by
  unfold laws_eqIntS.f
  refine Ev.pos rfl ?_
  exact eqIntS_l l hl l.length 0 (by omega)

end Go.Proofs.Ytjojalbgpemjoaa.Pure

namespace Go.Proofs.Ytjojalbgpemjoaa.Pure
open Go.RowKit Go.Proofs.Ytjojalbgpemjoaa.Q Go.Proofs.YtjojalbgpemjoaaW.PrintWords Go.Proofs.YtjojalbgpemjoaaW.PrintLast
set_option linter.unusedVariables false
set_option linter.unusedSimpArgs false

/-- the numbers a, a+1, .. -/
def markL (a : Int) (n : Nat) : List Int := (List.range n).map fun (i : Nat) => a + (i : Int)
theorem markL_length (a : Int) (n : Nat) : (markL a n).length = n := by simp [markL]
theorem markL_rd (a : Int) (n i : Nat) (h : i < n) : rd (markL a n) (i : Int) = a + i := by
  rw [rd_lt _ _ (by rw [markL_length]; exact h)]; simp [markL]
theorem mark_prefix {a : Int} {m : List Int} {i n : Nat} (hm : m.length = n) (hi : i < n) (h : m.take i = markL a i) : (m.set i (a + i)).take (i + 1) = markL a (i + 1) := by
  apply List.ext_getElem?
  intro j
  by_cases hj : j < i + 1
  · rw [List.getElem?_take_of_lt hj]
    by_cases e : j = i
    · subst e; rw [List.getElem?_set_self (by omega)]; simp [markL]
    · rw [List.getElem?_set_ne (by omega)]
      have := congrArg (fun t => t[j]?) h
      rw [List.getElem?_take_of_lt (by omega)] at this
      rw [this]; simp [markL]; rw [List.getElem?_range (by omega), List.getElem?_range (by omega)]
  · rw [List.getElem?_eq_none (by simp; omega), List.getElem?_eq_none (by simp [markL]; omega)]
theorem markIntS_l (n : Nat) (hn : n ≤ 1048576) (a : Int) (h0 : -4611686018427387904 ≤ a) (h1 : a ≤ 4611686018427387904) (d : Nat) : ∀ (i : Nat) (m : List Int), i + d = n → m.length = n → m.take i = markL a i → Ev (fun k => laws_markIntS.l0 k m (a + i) i) (a + n, markL a n) := by
  induction d with
  | zero =>
    intro i m hi hm ht
    refine Ev.shift ?_
    simp only [laws_markIntS.l0]
    refine Ev.neg (by omega) (Ev.ret ?_)
    rw [List.take_of_length_le (by omega)] at ht
    obtain rfl : i = n := by omega
    rw [ht]
  | succ d ih =>
    intro i m hi hm ht
    refine Ev.shift ?_
    simp only [laws_markIntS.l0]
    refine Ev.pos (by omega) (Ev.pos (by omega) ?_)
    rw [wrap64_id (x := (i : Int) + 1) (by omega) (by omega), wrap64_id (x := a + (i : Int) + 1) (by omega) (by omega), Int.toNat_natCast]
    have e : a + (i : Int) + 1 = a + ((i + 1 : Nat) : Int) := by omega
    rw [e, cast1]
    exact ih (i + 1) _ (by omega) (by rw [List.length_set]; exact hm) (mark_prefix hm (by omega) ht)
theorem markIntS (l : List Int) (hl : l.length ≤ 1048576) (a : Int) (h0 : -4611686018427387904 ≤ a) (h1 : a ≤ 4611686018427387904) : Ev (fun k => laws_markIntS.f k l a) (a + l.length, markL a l.length) := by
  unfold laws_markIntS.f
  have := markIntS_l l.length hl a h0 h1 l.length 0 l (by omega) rfl (by simp [markL])
  simpa using this
theorem heldIntS_l (n : Nat) (hn : n ≤ 1048576) (a : Int) (h0 : -4611686018427387904 ≤ a) (h1 : a ≤ 4611686018427387904) (d : Nat) : ∀ (i : Nat), i + d = n → Ev (fun k => laws_heldIntS.l0 k (markL a n) (a + i) i) (a + n) := by
  induction d with
  | zero =>
    intro i hi
    refine Ev.shift ?_
    simp only [laws_heldIntS.l0, markL_length]
    refine Ev.neg (by omega) (Ev.ret ?_)
    rw [show i = n by omega]
  | succ d ih =>
    intro i hi
    refine Ev.shift ?_
    simp only [laws_heldIntS.l0, markL_length]
    refine Ev.pos (by omega) (Ev.pos (by omega) (Ev.pos (markL_rd a n i (by omega)) ?_))
    rw [wrap64_id (x := (i : Int) + 1) (by omega) (by omega), wrap64_id (x := a + (i : Int) + 1) (by omega) (by omega)]
    have e : a + (i : Int) + 1 = a + ((i + 1 : Nat) : Int) := by omega
    rw [e, cast1]
    exact ih (i + 1) (by omega)
theorem heldIntS (n : Nat) (hn : n ≤ 1048576) (a : Int) (h0 : -4611686018427387904 ≤ a) (h1 : a ≤ 4611686018427387904) : Ev (fun k => laws_heldIntS.f k (markL a n) a) (a + n) := by
  unfold laws_heldIntS.f
  have := heldIntS_l n hn a h0 h1 n 0 (by omega)
  simpa using this

end Go.Proofs.Ytjojalbgpemjoaa.Pure

namespace Go.Proofs.Ytjojalbgpemjoaa.Pure
open Go.RowKit Go.Proofs.Ytjojalbgpemjoaa.Q Go.Proofs.YtjojalbgpemjoaaW.PrintWords Go.Proofs.YtjojalbgpemjoaaW.PrintLast
set_option linter.unusedVariables false
set_option linter.unusedSimpArgs false

theorem eqOrder_same (n : Int) (x : List Int) (hx : x.length ≤ 1048576) : Ev (fun k => laws_eqOrder.f k n x n x) true := by
  unfold laws_eqOrder.f
  exact Ev.pos rfl (Ev.bind (eqIntS_same x hx) (Ev.pos rfl (Ev.ret rfl)))
theorem markOrder (n : Int) (x : List Int) (hx : x.length ≤ 1048576) (a : Int) (h0 : -4611686018427387904 ≤ a) (h1 : a ≤ 4611686018427387904) : Ev (fun k => laws_markOrder.f k n x a) (a + x.length, markL a x.length) := by
  unfold laws_markOrder.f
  exact Ev.bind (markIntS x hx a h0 h1) (Ev.ret rfl)
theorem heldOrder (n : Int) (m : Nat) (hm : m ≤ 1048576) (a : Int) (h0 : 0 ≤ a) (h1 : a ≤ 4611686018427387904) : Ev (fun k => laws_heldOrder.f k n (markL a m) a) (a + m) := by
  unfold laws_heldOrder.f
  exact Ev.bind (heldIntS m hm a (by omega) h1) (Ev.neg (by omega) (Ev.ret rfl))

end Go.Proofs.Ytjojalbgpemjoaa.Pure

namespace Go.Proofs.Ytjojalbgpemjoaa.Pure
open Go.RowKit Go.Proofs.Ytjojalbgpemjoaa.Q Go.Proofs.YtjojalbgpemjoaaW.PrintWords Go.Proofs.YtjojalbgpemjoaaW.PrintLast
set_option linter.unusedVariables false
set_option linter.unusedSimpArgs false

theorem ascents_eq (k : Nat) : ∀ l a i, spec_asAscents.l0 k l a i = impl_ascents.l0 k l a i := by
  induction k with
  | zero => intros; rfl
  | succ k ih => intro l a i; simp only [spec_asAscents.l0, impl_ascents.l0, ih]
/-- how many ascents stand in the first i numbers -/
def ascUpto (l : List Int) : Nat → Int
  | 0 => 0
  | 1 => 0
  | i + 2 => ascUpto l (i + 1) + (if rd l (i : Int) < rd l ((i + 1 : Nat) : Int) then 1 else 0)
theorem ascUpto_range (l : List Int) : ∀ i, 0 ≤ ascUpto l i ∧ ascUpto l i ≤ i
  | 0 => by simp [ascUpto]
  | 1 => by simp [ascUpto]
  | i + 2 => by
    have h := ascUpto_range l (i + 1)
    simp only [ascUpto]
    split <;> omega
theorem ascents_l (l : List Int) (hl : l.length ≤ 1048576) (d : Nat) : ∀ (i : Nat), 1 ≤ i → i + d = l.length ∨ (d = 0 ∧ l.length ≤ i ∧ i ≤ 1) → Ev (fun k => impl_ascents.l0 k l (ascUpto l i) i) (ascUpto l l.length) := by
  induction d with
  | zero =>
    intro i h1 hi
    refine Ev.shift ?_
    simp only [impl_ascents.l0]
    refine Ev.neg (by omega) (Ev.ret ?_)
    rcases hi with hi | ⟨_, h2, h3⟩
    · rw [show i = l.length by omega]
    · obtain rfl : i = 1 := by omega
      rcases (show l.length = 0 ∨ l.length = 1 by omega) with e | e <;> rw [e] <;> simp [ascUpto]
  | succ d ih =>
    intro i h1 hi
    obtain ⟨j, rfl⟩ : ∃ j, i = j + 1 := ⟨i - 1, by omega⟩
    have hi' : j + 1 + (d + 1) = l.length := by omega
    have hr := ascUpto_range l (j + 1)
    refine Ev.shift ?_
    simp only [impl_ascents.l0]
    have e1 : wrap64 (((j + 1 : Nat) : Int) - 1) = (j : Int) := by rw [wrap64_id (by omega) (by omega)]; omega
    have e2 : wrap64 (((j + 1 : Nat) : Int) + 1) = ((j + 2 : Nat) : Int) := by rw [wrap64_id (by omega) (by omega)]; omega
    have e3 : wrap64 (ascUpto l (j + 1) + 1) = ascUpto l (j + 1) + 1 := wrap64_id (by omega) (by omega)
    rw [e1, e2, e3]
    refine Ev.pos (by omega) (Ev.pos (by omega) (Ev.pos (by omega) (Ev.pos (by omega) ?_)))
    have ih' := ih (j + 2) (by omega) (by omega)
    by_cases hc : rd l (j : Int) < rd l ((j + 1 : Nat) : Int)
    · refine Ev.pos hc ?_
      simp only [ascUpto, if_pos hc] at ih'
      exact ih'
    · refine Ev.neg hc ?_
      simp only [ascUpto, if_neg hc, Int.add_zero] at ih'
      exact ih'
theorem ascents_impl (l : List Int) (hl : l.length ≤ 1048576) : Ev (fun k => impl_ascents.f k l) (ascUpto l l.length) := by
  unfold impl_ascents.f
  have := ascents_l l hl (l.length - 1) 1 (by omega) (by omega)
  simpa [ascUpto] using this
theorem ascents_spec (l : List Int) (hl : l.length ≤ 1048576) : Ev (fun k => spec_asAscents.f k l) (ascUpto l l.length) := by
  have := ascents_impl l hl
  unfold impl_ascents.f at this
  unfold spec_asAscents.f
  simpa [ascents_eq] using this
theorem ascUpto_take (l : List Int) (i : Nat) (hi : i ≤ l.length) : ∀ j, j ≤ i → ascUpto (l.take i) j = ascUpto l j
  | 0, _ => rfl
  | 1, _ => rfl
  | j + 2, h => by
    have e : ∀ m : Nat, m < i → rd (l.take i) (m : Int) = rd l (m : Int) := fun m hm => by simp [rd, List.getD, List.getElem?_take_of_lt hm]
    simp only [ascUpto]
    rw [ascUpto_take l i hi (j + 1) (by omega), e j (by omega), e (j + 1) (by omega)]
/-- what may stand at place i -/
def ascBound (l : List Int) (i : Nat) : Int := if i = 0 then 0 else ascUpto l i + 1
/-- is what stands from place i on as an ascent sequence asks, i more places being looked at -/
def ascFrom (l : List Int) : Nat → Nat → Bool
  | 0, _ => true
  | d + 1, i => if 0 ≤ rd l (i : Int) ∧ rd l (i : Int) ≤ ascBound l i then ascFrom l d (i + 1) else false
/-- is it an ascent sequence of at most 12 numbers -/
def isAsc (l : List Int) : Bool := if 12 < l.length then false else ascFrom l l.length 0
theorem spec_in (a b c : Int) : spec_l1In.f a b c = some (decide (b ≤ a ∧ a ≤ c)) := by
  unfold spec_l1In.f
  by_cases h : a ≥ b
  · rw [if_pos h]; by_cases h2 : a ≤ c <;> simp [h2] <;> omega
  · rw [if_neg h]; simp; omega
theorem impl_in (a b c : Int) : impl_within.f a b c = some (decide (b ≤ a ∧ a ≤ c)) := by
  unfold impl_within.f
  by_cases h : a ≥ b
  · rw [if_pos h]; by_cases h2 : a ≤ c <;> simp [h2] <;> omega
  · rw [if_neg h]; simp; omega
theorem bound_spec (l : List Int) (i : Nat) (hl : l.length ≤ 12) (hi : i ≤ l.length) : Ev (fun k => spec_asBound.f k (l.take i)) (ascBound l i) := by
  unfold spec_asBound.f
  have hlen : (l.take i).length = i := by simp; omega
  rw [hlen]
  by_cases h0 : i = 0
  · exact Ev.pos (by omega) (Ev.ret (by simp [ascBound, h0]))
  · refine Ev.neg (by omega) ?_
    have h := ascents_spec (l.take i) (by omega)
    rw [hlen, ascUpto_take l i hi i (Nat.le_refl _)] at h
    refine Ev.bind h (Ev.ret ?_)
    have hr := ascUpto_range l i
    rw [wrap64_id (by omega) (by omega)]
    simp [ascBound, h0]
theorem good_l (l : List Int) (hl : l.length ≤ 12) (d : Nat) : ∀ i : Nat, i + d = l.length → Ev (fun k => spec_asGood.l0 k l l (l.length : Int) i) (ascFrom l d i) := by
  induction d with
  | zero =>
    intro i hi
    refine Ev.shift ?_
    simp only [spec_asGood.l0]
    exact Ev.neg (by omega) (Ev.ret rfl)
  | succ d ih =>
    intro i hi
    refine Ev.shift ?_
    simp only [spec_asGood.l0]
    refine Ev.pos (by omega) (Ev.pos (by omega) (Ev.pos (by omega) (Ev.pos (by omega) ?_)))
    rw [Int.toNat_natCast, wrap64_id (by omega) (by omega), cast1]
    refine Ev.bind (bound_spec l i hl (by omega)) (Ev.bindc (spec_in _ _ _) ?_)
    simp only [ascFrom]
    by_cases h : 0 ≤ rd l (i : Int) ∧ rd l (i : Int) ≤ ascBound l i
    · rw [if_pos h]; exact Ev.pos (by simpa using h) (ih (i + 1) (by omega))
    · rw [if_neg h]; exact Ev.neg (by simpa using h) (Ev.ret rfl)
theorem good_spec (l : List Int) : Ev (fun k => spec_asGood.f k l) (isAsc l) := by
  unfold spec_asGood.f isAsc
  by_cases h : 12 < l.length
  · rw [if_pos h]; exact Ev.pos (by omega) (Ev.ret rfl)
  · rw [if_neg h]; exact Ev.neg (by omega) (good_l l (by omega) l.length 0 (by omega))
theorem isAscent_l (l : List Int) (hl : l.length ≤ 12) (d : Nat) : ∀ i : Nat, i + d = l.length → Ev (fun k => impl_IsAscent.l0 k l l (l.length : Int) i) (ascFrom l d i) := by
  induction d with
  | zero =>
    intro i hi
    refine Ev.shift ?_
    simp only [impl_IsAscent.l0]
    exact Ev.neg (by omega) (Ev.ret rfl)
  | succ d ih =>
    intro i hi
    refine Ev.shift ?_
    simp only [impl_IsAscent.l0]
    refine Ev.pos (by omega) (Ev.pos (by omega) (Ev.pos (by omega) ?_))
    rw [Int.toNat_natCast, wrap64_id (x := (i : Int) + 1) (by omega) (by omega), cast1]
    have hn := ih (i + 1) (by omega)
    simp only [ascFrom]
    by_cases h0 : i = 0
    · subst h0
      have hb : ascBound l 0 = 0 := rfl
      rw [hb]
      refine Ev.pos (by omega) ?_
      by_cases hz : rd l ((0 : Nat) : Int) = 0
      · rw [if_pos (by omega)]
        exact Ev.pos hz (Ev.neg (by omega) hn)
      · rw [if_neg (by omega)]
        exact Ev.neg hz (Ev.ret rfl)
    · refine Ev.neg (by omega) (Ev.pos (by omega) (Ev.pos (by omega) ?_))
      have h := ascents_impl (l.take i) (by simp; omega)
      have hlen : (l.take i).length = i := by simp; omega
      rw [hlen, ascUpto_take l i (by omega) i (Nat.le_refl _)] at h
      have hr := ascUpto_range l i
      refine Ev.bind h (Ev.bindc (impl_in _ _ _) ?_)
      rw [wrap64_id (by omega) (by omega)]
      by_cases h : 0 ≤ rd l (i : Int) ∧ rd l (i : Int) ≤ ascBound l i
      · rw [if_pos h]; exact Ev.pos (by simpa [ascBound, h0] using h) hn
      · rw [if_neg h]; exact Ev.neg (by simpa [ascBound, h0] using h) (Ev.ret rfl)
theorem isAscent_impl (l : List Int) : Ev (fun k => impl_IsAscent.f k l) (isAsc l) := by
  unfold impl_IsAscent.f isAsc
  by_cases h : 12 < l.length
  · rw [if_pos h]; exact Ev.pos (by omega) (Ev.ret rfl)
  · rw [if_neg h]; exact Ev.neg (by omega) (isAscent_l l (by omega) l.length 0 (by omega))
theorem isAsc_len {l : List Int} (h : isAsc l = true) : l.length ≤ 12 := by
  unfold isAsc at h; split at h
  · cases h
  · omega

end Go.Proofs.Ytjojalbgpemjoaa.Pure
