import Derived.Test.YtojappijhehlpaaDoorXAscore
import Derived.Test.YtojappijhehlpaaDoorXAscplain
namespace Go.Proofs.YtojappijhehlpaaDoor.Pure
open Go.RowKit Go.Proofs.YtojappijhehlpaaDoor.Q Go.Proofs.YtojappijhehlpaaDoorW.PrintWords Go.Proofs.YtojappijhehlpaaDoorW.PrintLast
set_option linter.unusedVariables false
set_option linter.unusedSimpArgs false

-- what is plain of it lies ahead of impl_counter_most.f
/-- the number ahead of place i; -1 for none -/
def lastOf (l : List Int) (i : Nat) : Int := if i = 0 then -1 else rd l ((i - 1 : Nat) : Int)
theorem nx_at {l : List Int} {i : Nat} (h : i > 0 → 0 ≤ rd l ((i - 1 : Nat) : Int)) : nx (lastOf l i) (ascUpto l i) (rd l (i : Int)) = ascUpto l (i + 1) := by
 unfold nx lastOf
 cases i with
 | zero => simp [ascUpto]
 | succ j =>
  have h := h (by omega)
  simp only [Nat.add_sub_cancel] at h
  simp only [ascUpto, show ¬ (j + 1 = 0) by omega, if_false, Nat.add_sub_cancel]
  by_cases hc : rd l (j : Int) < rd l ((j + 1 : Nat) : Int)
  ·rw [if_pos ⟨h, hc⟩, if_pos hc]
  ·rw [if_neg (fun e => hc e.2), if_neg hc]; omega
theorem topN_at {l : List Int} {i : Nat} (h : i > 0 → 0 ≤ rd l ((i - 1 : Nat) : Int)) : topN (lastOf l i) (ascUpto l i) = ascBound l i := by
 unfold topN lastOf ascBound
 cases i with
 | zero => simp
 | succ j =>
  have h := h (by omega)
  simp only [Nat.add_sub_cancel] at h
  simp only [show ¬ (j + 1 = 0) by omega, if_false, Nat.add_sub_cancel]
  rw [if_neg (by omega)]
theorem goes_from (l : List Int) (d : Nat) : ∀ i : Nat, i + d = l.length → (i > 0 → 0 ≤ rd l ((i - 1 : Nat) : Int)) → (ascFrom l d i = true ↔ Goes (lastOf l i) (ascUpto l i) (l.drop i)) := by
 induction d with
 | zero => intro i hi _; rw [List.drop_of_length_le (by omega)]; simp [ascFrom, Goes]
 | succ d ih =>
  intro i hi h0
  rw [List.drop_eq_getElem_cons (by omega : i < l.length)]
  simp only [ascFrom, Goes]
  rw [← rd_lt l i (by omega), nx_at h0, topN_at h0]
  by_cases h : 0 ≤ rd l (i : Int) ∧ rd l (i : Int) ≤ ascBound l i
  ·rw [if_pos h]
   have e : lastOf l (i + 1) = rd l (i : Int) := by simp [lastOf]
   rw [ih (i + 1) (by omega) (fun _ => by simpa using h.1), e]
   simp [h.1, h.2]
  ·rw [if_neg h]
   constructor
   ·intro h'; cases h'
   ·intro h'; exact absurd ⟨h'.1, h'.2.1⟩ h
theorem isAsc_goes {l : List Int} : isAsc l = true ↔ l.length ≤ 12 ∧ Goes (-1) 0 l := by
 unfold isAsc
 have := goes_from l l.length 0 (by omega) (fun h => by omega)
 simp only [List.drop_zero, show lastOf l 0 = -1 from rfl, show ascUpto l 0 = 0 from rfl] at this
 split
 ·rename_i h; constructor
  ·intro h'; cases h'
  ·intro h'; omega
 ·rw [this]; constructor
  ·intro h'; exact ⟨by omega, h'⟩
  ·intro h'; exact h'.2
theorem ascUpto_le (l : List Int) : ∀ q : Nat, ascUpto l (q + 1) ≤ q
 | 0 => by simp [ascUpto]
 | q + 1 => by
  have := ascUpto_le l q
  simp only [ascUpto]
  split <;> omega

end Go.Proofs.YtojappijhehlpaaDoor.Pure
