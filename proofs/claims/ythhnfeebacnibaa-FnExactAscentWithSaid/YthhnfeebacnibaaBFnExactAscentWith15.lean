import Derived.Test.YthhnfeebacnibaaBFnExactAscentWith0
import Derived.Test.YthhnfeebacnibaaBFnExactAscentWith1
import Derived.Test.YthhnfeebacnibaaBFnExactAscentWith7
import Derived.Test.YthhnfeebacnibaaBFnExactAscentWith11
import Derived.Test.YthhnfeebacnibaaBFnExactAscentWith12
import Derived.Test.YthhnfeebacnibaaBFnExactAscentWith13
import Derived.Test.YthhnfeebacnibaaBFnExactAscentWith14
namespace Go.Proofs.Ythhnfeebacnibaa.Pure
open Go.RowKit Go.Proofs.Ythhnfeebacnibaa.Q Go.Proofs.YthhnfeebacnibaaW.PrintWords Go.Proofs.YthhnfeebacnibaaW.PrintLast
set_option linter.unusedVariables false
set_option linter.unusedSimpArgs false

theorem ascents_eq (k : Nat) : ∀ l a i, spec_asAscents.l0 k l a i = impl_ascents.l0 k l a i := by
  induction k with
  | zero => intros; rfl
  | succ k ih => intro l a i; simp only [spec_asAscents.l0, impl_ascents.l0, ih]
/-- how many ascents stand in the first i numbers -/
def ascUpto (l : List Int) : Nat → Int
  | 0 => 0
  | 1 => 0
  | i + 2 => ascUpto l (i + 1) + (if rd l (i : Int) < rd l ((i + 1 : Nat) : Int) then 1 else 0)
theorem ascUpto_range (l : List Int) : ∀ i, 0 ≤ ascUpto l i ∧ ascUpto l i ≤ i
  | 0 => by simp [ascUpto]
  | 1 => by simp [ascUpto]
  | i + 2 => by
    have h := ascUpto_range l (i + 1)
    simp only [ascUpto]
    split <;> omega
theorem ascents_l (l : List Int) (hl : l.length ≤ 1048576) (d : Nat) : ∀ (i : Nat), 1 ≤ i → i + d = l.length ∨ (d = 0 ∧ l.length ≤ i ∧ i ≤ 1) → Ev (fun k => impl_ascents.l0 k l (ascUpto l i) i) (ascUpto l l.length) := by
  induction d with
  | zero =>
    intro i h1 hi
    refine Ev.shift ?_
    simp only [impl_ascents.l0]
    refine Ev.neg (by omega) (Ev.ret ?_)
    rcases hi with hi | ⟨_, h2, h3⟩
    · rw [show i = l.length by omega]
    · obtain rfl : i = 1 := by omega
      rcases (show l.length = 0 ∨ l.length = 1 by omega) with e | e <;> rw [e] <;> simp [ascUpto]
  | succ d ih =>
    intro i h1 hi
    obtain ⟨j, rfl⟩ : ∃ j, i = j + 1 := ⟨i - 1, by omega⟩
    have hi' : j + 1 + (d + 1) = l.length := by omega
    have hr := ascUpto_range l (j + 1)
    refine Ev.shift ?_
    simp only [impl_ascents.l0]
    have e1 : wrap64 (((j + 1 : Nat) : Int) - 1) = (j : Int) := by rw [wrap64_id (by omega) (by omega)]; omega
    have e2 : wrap64 (((j + 1 : Nat) : Int) + 1) = ((j + 2 : Nat) : Int) := by rw [wrap64_id (by omega) (by omega)]; omega
    have e3 : wrap64 (ascUpto l (j + 1) + 1) = ascUpto l (j + 1) + 1 := wrap64_id (by omega) (by omega)
    rw [e1, e2, e3]
    refine Ev.pos (by omega) (Ev.pos (by omega) (Ev.pos (by omega) (Ev.pos (by omega) ?_)))
    have ih' := ih (j + 2) (by omega) (by omega)
    by_cases hc : rd l (j : Int) < rd l ((j + 1 : Nat) : Int)
    · refine Ev.pos hc ?_
      simp only [ascUpto, if_pos hc] at ih'
      exact ih'
    · refine Ev.neg hc ?_
      simp only [ascUpto, if_neg hc, Int.add_zero] at ih'
      exact ih'
theorem ascents_impl (l : List Int) (hl : l.length ≤ 1048576) : Ev (fun k => impl_ascents.f k l) (ascUpto l l.length) := by
  unfold impl_ascents.f
  have := ascents_l l hl (l.length - 1) 1 (by omega) (by omega)
  simpa [ascUpto] using this
theorem ascents_spec (l : List Int) (hl : l.length ≤ 1048576) : Ev (fun k => spec_asAscents.f k l) (ascUpto l l.length) := by
  have := ascents_impl l hl
  unfold impl_ascents.f at this
  unfold spec_asAscents.f
  simpa [ascents_eq] using this
theorem ascUpto_take (l : List Int) (i : Nat) (hi : i ≤ l.length) : ∀ j, j ≤ i → ascUpto (l.take i) j = ascUpto l j
  | 0, _ => rfl
  | 1, _ => rfl
  | j + 2, h => by
    have e : ∀ m : Nat, m < i → rd (l.take i) (m : Int) = rd l (m : Int) := fun m hm => by simp [rd, List.getD, List.getElem?_take_of_lt hm]
    simp only [ascUpto]
    rw [ascUpto_take l i hi (j + 1) (by omega), e j (by omega), e (j + 1) (by omega)]
/-- what may stand at place i -/
def ascBound (l : List Int) (i : Nat) : Int := if i = 0 then 0 else ascUpto l i + 1
/-- is what stands from place i on as an ascent sequence asks, i more places being looked at -/
def ascFrom (l : List Int) : Nat → Nat → Bool
  | 0, _ => true
  | d + 1, i => if 0 ≤ rd l (i : Int) ∧ rd l (i : Int) ≤ ascBound l i then ascFrom l d (i + 1) else false
/-- is it an ascent sequence of at most 12 numbers -/
def isAsc (l : List Int) : Bool := if 12 < l.length then false else ascFrom l l.length 0
theorem spec_in (a b c : Int) : spec_l1In.f a b c = some (decide (b ≤ a ∧ a ≤ c)) := by
  unfold spec_l1In.f
  by_cases h : a ≥ b
  · rw [if_pos h]; by_cases h2 : a ≤ c <;> simp [h2] <;> omega
  · rw [if_neg h]; simp; omega
theorem impl_in (a b c : Int) : impl_within.f a b c = some (decide (b ≤ a ∧ a ≤ c)) := by
  unfold impl_within.f
  by_cases h : a ≥ b
  · rw [if_pos h]; by_cases h2 : a ≤ c <;> simp [h2] <;> omega
  · rw [if_neg h]; simp; omega
theorem bound_spec (l : List Int) (i : Nat) (hl : l.length ≤ 12) (hi : i ≤ l.length) : Ev (fun k => spec_asBound.f k (l.take i)) (ascBound l i) := by
  unfold spec_asBound.f
  have hlen : (l.take i).length = i := by simp; omega
  rw [hlen]
  by_cases h0 : i = 0
  · exact Ev.pos (by omega) (Ev.ret (by simp [ascBound, h0]))
  · refine Ev.neg (by omega) ?_
    have h := ascents_spec (l.take i) (by omega)
    rw [hlen, ascUpto_take l i hi i (Nat.le_refl _)] at h
    refine Ev.bind h (Ev.ret ?_)
    have hr := ascUpto_range l i
    rw [wrap64_id (by omega) (by omega)]
    simp [ascBound, h0]
theorem good_l (l : List Int) (hl : l.length ≤ 12) (d : Nat) : ∀ i : Nat, i + d = l.length → Ev (fun k => spec_asGood.l0 k l l (l.length : Int) i) (ascFrom l d i) := by
  induction d with
  | zero =>
    intro i hi
    refine Ev.shift ?_
    simp only [spec_asGood.l0]
    exact Ev.neg (by omega) (Ev.ret rfl)
  | succ d ih =>
    intro i hi
    refine Ev.shift ?_
    simp only [spec_asGood.l0]
    refine Ev.pos (by omega) (Ev.pos (by omega) (Ev.pos (by omega) (Ev.pos (by omega) ?_)))
    rw [Int.toNat_natCast, wrap64_id (by omega) (by omega), cast1]
    refine Ev.bind (bound_spec l i hl (by omega)) (Ev.bindc (spec_in _ _ _) ?_)
    simp only [ascFrom]
    by_cases h : 0 ≤ rd l (i : Int) ∧ rd l (i : Int) ≤ ascBound l i
    · rw [if_pos h]; exact Ev.pos (by simpa using h) (ih (i + 1) (by omega))
    · rw [if_neg h]; exact Ev.neg (by simpa using h) (Ev.ret rfl)
theorem good_spec (l : List Int) : Ev (fun k => spec_asGood.f k l) (isAsc l) := by
  unfold spec_asGood.f isAsc
  by_cases h : 12 < l.length
  · rw [if_pos h]; exact Ev.pos (by omega) (Ev.ret rfl)
  · rw [if_neg h]; exact Ev.neg (by omega) (good_l l (by omega) l.length 0 (by omega))
theorem isAscent_l (l : List Int) (hl : l.length ≤ 12) (d : Nat) : ∀ i : Nat, i + d = l.length → Ev (fun k => impl_IsAscent.l0 k l l (l.length : Int) i) (ascFrom l d i) := by
  induction d with
  | zero =>
    intro i hi
    refine Ev.shift ?_
    simp only [impl_IsAscent.l0]
    exact Ev.neg (by omega) (Ev.ret rfl)
  | succ d ih =>
    intro i hi
    refine Ev.shift ?_
    simp only [impl_IsAscent.l0]
    refine Ev.pos (by omega) (Ev.pos (by omega) (Ev.pos (by omega) ?_))
    rw [Int.toNat_natCast, wrap64_id (x := (i : Int) + 1) (by omega) (by omega), cast1]
    have hn := ih (i + 1) (by omega)
    simp only [ascFrom]
    by_cases h0 : i = 0
    · subst h0
      have hb : ascBound l 0 = 0 := rfl
      rw [hb]
      refine Ev.pos (by omega) ?_
      by_cases hz : rd l ((0 : Nat) : Int) = 0
      · rw [if_pos (by omega)]
        exact Ev.pos hz (Ev.neg (by omega) hn)
      · rw [if_neg (by omega)]
        exact Ev.neg hz (Ev.ret rfl)
    · refine Ev.neg (by omega) (Ev.pos (by omega) (Ev.pos (by omega) ?_))
      have h := ascents_impl (l.take i) (by simp; omega)
      have hlen : (l.take i).length = i := by simp; omega
      rw [hlen, ascUpto_take l i (by omega) i (Nat.le_refl _)] at h
      have hr := ascUpto_range l i
      refine Ev.bind h (Ev.bindc (impl_in _ _ _) ?_)
      rw [wrap64_id (by omega) (by omega)]
      by_cases h : 0 ≤ rd l (i : Int) ∧ rd l (i : Int) ≤ ascBound l i
      · rw [if_pos h]; exact Ev.pos (by simpa [ascBound, h0] using h) hn
      · rw [if_neg h]; exact Ev.neg (by simpa [ascBound, h0] using h) (Ev.ret rfl)
theorem isAscent_impl (l : List Int) : Ev (fun k => impl_IsAscent.f k l) (isAsc l) := by
  unfold impl_IsAscent.f isAsc
  by_cases h : 12 < l.length
  · rw [if_pos h]; exact Ev.pos (by omega) (Ev.ret rfl)
  · rw [if_neg h]; exact Ev.neg (by omega) (isAscent_l l (by omega) l.length 0 (by omega))
theorem isAsc_len {l : List Int} (h : isAsc l = true) : l.length ≤ 12 := by
  unfold isAsc at h; split at h
  · cases h
  · omega

end Go.Proofs.Ythhnfeebacnibaa.Pure

namespace Go.Proofs.Ythhnfeebacnibaa.Pure
open Go.RowKit Go.Proofs.Ythhnfeebacnibaa.Q Go.Proofs.YthhnfeebacnibaaW.PrintWords Go.Proofs.YthhnfeebacnibaaW.PrintLast
set_option linter.unusedVariables false
set_option linter.unusedSimpArgs false

-- what is plain of it lies ahead of impl_counter_most.f
/-- the number ahead of place i; -1 for none -/
def lastOf (l : List Int) (i : Nat) : Int := if i = 0 then -1 else rd l ((i - 1 : Nat) : Int)
theorem nx_at {l : List Int} {i : Nat} (h : i > 0 → 0 ≤ rd l ((i - 1 : Nat) : Int)) : nx (lastOf l i) (ascUpto l i) (rd l (i : Int)) = ascUpto l (i + 1) := by
  unfold nx lastOf
  cases i with
  | zero => simp [ascUpto]
  | succ j =>
    have h := h (by omega)
    simp only [Nat.add_sub_cancel] at h
    simp only [ascUpto, show ¬ (j + 1 = 0) by omega, if_false, Nat.add_sub_cancel]
    by_cases hc : rd l (j : Int) < rd l ((j + 1 : Nat) : Int)
    · rw [if_pos ⟨h, hc⟩, if_pos hc]
    · rw [if_neg (fun e => hc e.2), if_neg hc]; omega
theorem topN_at {l : List Int} {i : Nat} (h : i > 0 → 0 ≤ rd l ((i - 1 : Nat) : Int)) : topN (lastOf l i) (ascUpto l i) = ascBound l i := by
  unfold topN lastOf ascBound
  cases i with
  | zero => simp
  | succ j =>
    have h := h (by omega)
    simp only [Nat.add_sub_cancel] at h
    simp only [show ¬ (j + 1 = 0) by omega, if_false, Nat.add_sub_cancel]
    rw [if_neg (by omega)]
theorem goes_from (l : List Int) (d : Nat) : ∀ i : Nat, i + d = l.length → (i > 0 → 0 ≤ rd l ((i - 1 : Nat) : Int)) → (ascFrom l d i = true ↔ Goes (lastOf l i) (ascUpto l i) (l.drop i)) := by
  induction d with
  | zero => intro i hi _; rw [List.drop_of_length_le (by omega)]; simp [ascFrom, Goes]
  | succ d ih =>
    intro i hi h0
    rw [List.drop_eq_getElem_cons (by omega : i < l.length)]
    simp only [ascFrom, Goes]
    rw [← rd_lt l i (by omega), nx_at h0, topN_at h0]
    by_cases h : 0 ≤ rd l (i : Int) ∧ rd l (i : Int) ≤ ascBound l i
    · rw [if_pos h]
      have e : lastOf l (i + 1) = rd l (i : Int) := by simp [lastOf]
      rw [ih (i + 1) (by omega) (fun _ => by simpa using h.1), e]
      simp [h.1, h.2]
    · rw [if_neg h]
      constructor
      · intro h'; cases h'
      · intro h'; exact absurd ⟨h'.1, h'.2.1⟩ h
theorem isAsc_goes {l : List Int} : isAsc l = true ↔ l.length ≤ 12 ∧ Goes (-1) 0 l := by
  unfold isAsc
  have := goes_from l l.length 0 (by omega) (fun h => by omega)
  simp only [List.drop_zero, show lastOf l 0 = -1 from rfl, show ascUpto l 0 = 0 from rfl] at this
  split
  · rename_i h; constructor
    · intro h'; cases h'
    · intro h'; omega
  · rw [this]; constructor
    · intro h'; exact ⟨by omega, h'⟩
    · intro h'; exact h'.2
theorem ascUpto_le (l : List Int) : ∀ q : Nat, ascUpto l (q + 1) ≤ q
  | 0 => by simp [ascUpto]
  | q + 1 => by
    have := ascUpto_le l q
    simp only [ascUpto]
    split <;> omega

end Go.Proofs.Ythhnfeebacnibaa.Pure
