import Derived.Test.YthhnfeebacnibaaQSlicesEqualIntInt
import Derived.Test.YthhnfeebacnibaaQSpecL1Same
import Derived.Test.YthhnfeebacnibaaXBase
namespace Go.Proofs.Ythhnfeebacnibaa.Pure
open Go.RowKit Go.Proofs.Ythhnfeebacnibaa.Q Go.Proofs.YthhnfeebacnibaaW.PrintWords Go.Proofs.YthhnfeebacnibaaW.PrintLast
set_option linter.unusedVariables false
set_option linter.unusedSimpArgs false

theorem same_equal (k : Nat) : ∀ a b c d, spec_l1Same.l0 k a b c d = slices_Equal_int_int.l0 k a b c d := by
  induction k with
  | zero => intros; rfl
  | succ k ih => intros; simp only [spec_l1Same.l0, slices_Equal_int_int.l0, ih]
theorem equal_l (a b : List Int) (hl : a.length = b.length) (hb : a.length ≤ 1048576) (d : Nat) : ∀ i : Nat, i + d = a.length → a.take i = b.take i → Ev (fun k => slices_Equal_int_int.l0 k a b (a.length : Int) i) (decide (a = b)) := by
  induction d with
  | zero =>
    intro i hi ht
    refine Ev.shift ?_
    simp only [slices_Equal_int_int.l0]
    refine Ev.neg (by omega) (Ev.ret ?_)
    rw [List.take_of_length_le (by omega), List.take_of_length_le (by omega)] at ht
    simp [ht]
  | succ d ih =>
    intro i hi ht
    refine Ev.shift ?_
    simp only [slices_Equal_int_int.l0]
    refine Ev.pos (by omega) (Ev.pos (by omega) (Ev.pos (by omega) (Ev.pos (by omega) ?_)))
    rw [wrap64_id (by omega) (by omega), cast1]
    by_cases hc : rd a (i : Int) = rd b (i : Int)
    · refine Ev.pos hc (ih (i + 1) (by omega) ?_)
      rw [rd_lt a i (by omega), rd_lt b i (by omega)] at hc
      rw [List.take_succ_eq_append_getElem (by omega), List.take_succ_eq_append_getElem (by omega), ht, hc]
    · refine Ev.neg hc (Ev.ret ?_)
      have : a ≠ b := fun e => hc (by rw [e])
      simp [this]
theorem equal_impl (a b : List Int) (hb : a.length ≤ 1048576) : Ev (fun k => slices_Equal_int_int.f k a b) (decide (a = b)) := by
  unfold slices_Equal_int_int.f
  by_cases hl : a.length = b.length
  · exact Ev.pos (by omega) (equal_l a b hl hb a.length 0 (by omega) (by simp))
  · refine Ev.neg (by omega) (Ev.ret ?_)
    have : a ≠ b := fun e => hl (by rw [e])
    simp [this]
theorem equal_spec (a b : List Int) (hb : a.length ≤ 1048576) : Ev (fun k => spec_l1Same.f k a b) (decide (a = b)) := by
  have h := equal_impl a b hb
  unfold slices_Equal_int_int.f at h
  unfold spec_l1Same.f
  simpa [same_equal] using h

end Go.Proofs.Ythhnfeebacnibaa.Pure
