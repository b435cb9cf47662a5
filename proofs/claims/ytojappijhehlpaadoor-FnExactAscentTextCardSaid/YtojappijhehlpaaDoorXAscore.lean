import Derived.Test.YtojappijhehlpaaDoorQImplWithin
import Derived.Test.YtojappijhehlpaaDoorQSpecAsascents
import Derived.Test.YtojappijhehlpaaDoorQSpecAsbound
import Derived.Test.YtojappijhehlpaaDoorQSpecL1In
import Derived.Test.YtojappijhehlpaaDoorXBase
namespace Go.Proofs.YtojappijhehlpaaDoor.Pure
open Go.RowKit Go.Proofs.YtojappijhehlpaaDoor.Q Go.Proofs.YtojappijhehlpaaDoorW.PrintWords Go.Proofs.YtojappijhehlpaaDoorW.PrintLast
set_option linter.unusedVariables false
set_option linter.unusedSimpArgs false

/-- how many ascents stand in the first i numbers -/
def ascUpto (l : List Int) : Nat → Int
 | 0 => 0
 | 1 => 0
 | i + 2 => ascUpto l (i + 1) + (if rd l (i : Int) < rd l ((i + 1 : Nat) : Int) then 1 else 0)
theorem ascUpto_range (l : List Int) : ∀ i, 0 ≤ ascUpto l i ∧ ascUpto l i ≤ i
 | 0 => by simp [ascUpto]
 | 1 => by simp [ascUpto]
 | i + 2 => by
  have h := ascUpto_range l (i + 1)
  simp only [ascUpto]
  split <;> omega
theorem sascents_l (l : List Int) (hl : l.length ≤ 1048576) (d : Nat) : ∀ (i : Nat), 1 ≤ i → i + d = l.length ∨ (d = 0 ∧ l.length ≤ i ∧ i ≤ 1) → Ev (fun k => spec_asAscents.l0 k l (ascUpto l i) i) (ascUpto l l.length) := by
 induction d with
 | zero =>
  intro i h1 hi
  refine Ev.shift ?_
  simp only [spec_asAscents.l0]
  refine Ev.neg (by omega) (Ev.ret ?_)
  rcases hi with hi | ⟨_, h2, h3⟩
  ·rw [show i = l.length by omega]
  ·obtain rfl : i = 1 := by omega
   rcases (show l.length = 0 ∨ l.length = 1 by omega) with e | e <;> rw [e] <;> simp [ascUpto]
 | succ d ih =>
  intro i h1 hi
  obtain ⟨j, rfl⟩ : ∃ j, i = j + 1 := ⟨i - 1, by omega⟩
  have hi' : j + 1 + (d + 1) = l.length := by omega
  have hr := ascUpto_range l (j + 1)
  refine Ev.shift ?_
  simp only [spec_asAscents.l0]
  have e1 : wrap64 (((j + 1 : Nat) : Int) - 1) = (j : Int) := by rw [wrap64_id (by omega) (by omega)]; omega
  have e2 : wrap64 (((j + 1 : Nat) : Int) + 1) = ((j + 2 : Nat) : Int) := by rw [wrap64_id (by omega) (by omega)]; omega
  have e3 : wrap64 (ascUpto l (j + 1) + 1) = ascUpto l (j + 1) + 1 := wrap64_id (by omega) (by omega)
  rw [e1, e2, e3]
  refine Ev.pos (by omega) (Ev.pos (by omega) (Ev.pos (by omega) (Ev.pos (by omega) ?_)))
  have ih' := ih (j + 2) (by omega) (by omega)
  by_cases hc : rd l (j : Int) < rd l ((j + 1 : Nat) : Int)
  ·refine Ev.pos hc ?_
   simp only [ascUpto, if_pos hc] at ih'
   exact ih'
  ·refine Ev.neg hc ?_
   simp only [ascUpto, if_neg hc, Int.add_zero] at ih'
   exact ih'
theorem ascents_spec (l : List Int) (hl : l.length ≤ 1048576) : Ev (fun k => spec_asAscents.f k l) (ascUpto l l.length) := by
 unfold spec_asAscents.f
 have := sascents_l l hl (l.length - 1) 1 (by omega) (by omega)
 simpa [ascUpto] using this
theorem ascUpto_take (l : List Int) (i : Nat) (hi : i ≤ l.length) : ∀ j, j ≤ i → ascUpto (l.take i) j = ascUpto l j
 | 0, _ => rfl
 | 1, _ => rfl
 | j + 2, h => by
  have e : ∀ m : Nat, m < i → rd (l.take i) (m : Int) = rd l (m : Int) := fun m hm => by simp [rd, List.getD, List.getElem?_take_of_lt hm]
  simp only [ascUpto]
  rw [ascUpto_take l i hi (j + 1) (by omega), e j (by omega), e (j + 1) (by omega)]
/-- what may stand at place i -/
def ascBound (l : List Int) (i : Nat) : Int := if i = 0 then 0 else ascUpto l i + 1
/-- is what stands from place i on as an ascent sequence asks, i more places being looked at -/
def ascFrom (l : List Int) : Nat → Nat → Bool
 | 0, _ => true
 | d + 1, i => if 0 ≤ rd l (i : Int) ∧ rd l (i : Int) ≤ ascBound l i then ascFrom l d (i + 1) else false
/-- is it an ascent sequence of at most 12 numbers -/
def isAsc (l : List Int) : Bool := if 12 < l.length then false else ascFrom l l.length 0
theorem spec_in (a b c : Int) : spec_l1In.f a b c = some (decide (b ≤ a ∧ a ≤ c)) := by
 unfold spec_l1In.f
 by_cases h : a ≥ b
 ·rw [if_pos h]; by_cases h2 : a ≤ c <;> simp [h2] <;> omega
 ·rw [if_neg h]; simp; omega
theorem impl_in (a b c : Int) : impl_within.f a b c = some (decide (b ≤ a ∧ a ≤ c)) := by
 unfold impl_within.f
 by_cases h : a ≥ b
 ·rw [if_pos h]; by_cases h2 : a ≤ c <;> simp [h2] <;> omega
 ·rw [if_neg h]; simp; omega
theorem bound_spec (l : List Int) (i : Nat) (hl : l.length ≤ 12) (hi : i ≤ l.length) : Ev (fun k => spec_asBound.f k (l.take i)) (ascBound l i) := by
 unfold spec_asBound.f
 have hlen : (l.take i).length = i := by simp; omega
 rw [hlen]
 by_cases h0 : i = 0
 ·exact Ev.pos (by omega) (Ev.ret (by simp [ascBound, h0]))
 ·refine Ev.neg (by omega) ?_
  have h := ascents_spec (l.take i) (by omega)
  rw [hlen, ascUpto_take l i hi i (Nat.le_refl _)] at h
  refine Ev.bind h (Ev.ret ?_)
  have hr := ascUpto_range l i
  rw [wrap64_id (by omega) (by omega)]
  simp [ascBound, h0]
theorem isAsc_len {l : List Int} (h : isAsc l = true) : l.length ≤ 12 := by
 unfold isAsc at h; split at h
 ·cases h
 ·omega

end Go.Proofs.YtojappijhehlpaaDoor.Pure
