/- MergeEqual answers what the reference answers and hands back memory of its own, for every list of at most 2^20 numbers (longer ones the statement lets pass). Conditions: none. -/
import Derived.Test.YthhnfeebacnibaaQImplMergeequal
import Derived.Test.YthhnfeebacnibaaQLawsFnexactmergeequal
import Derived.Test.YthhnfeebacnibaaQSpecMergeequal
import Derived.Test.YthhnfeebacnibaaXCopies
import Derived.Test.YthhnfeebacnibaaXAscent
import Derived.Test.YthhnfeebacnibaaXMarks
namespace Go.Proofs.Ythhnfeebacnibaa.Pure
open Go.RowKit Go.Proofs.Ythhnfeebacnibaa.Q Go.Proofs.YthhnfeebacnibaaW.PrintWords Go.Proofs.YthhnfeebacnibaaW.PrintLast
set_option linter.unusedVariables false
set_option linter.unusedSimpArgs false

theorem merge_same (k : Nat) : ∀ a b c d e f, spec_MergeEqual.l0 k a b c d e f = impl_MergeEqual.l0 k a b c d e f := by
  induction k with
  | zero => intros; rfl
  | succ k ih => intros; simp only [spec_MergeEqual.l0, impl_MergeEqual.l0, ih]
theorem merge_l (l : List Int) (hl : l.length ≤ 12) (d : Nat) : ∀ (i : Nat) (x y : List Int), i + d = l.length → x.length ≤ i → y.length ≤ i → (0 < i → 0 < y.length) →
    ∃ r, Ev (fun k => impl_MergeEqual.l0 k l x y l (l.length : Int) i) r ∧ r.1.length ≤ 12 ∧ r.2.1.length ≤ 12 ∧ r.2.2 = true := by
  induction d with
  | zero =>
    intro i x y hi hx hy h0
    refine ⟨(x, y, true), Ev.shift ?_, by simp; omega, by simp; omega, rfl⟩
    simp only [impl_MergeEqual.l0]
    exact Ev.neg (by omega) (Ev.ret rfl)
  | succ d ih =>
    intro i x y hi hx hy h0
    by_cases hz : i = 0
    · subst hz
      obtain ⟨r, hr, h⟩ := ih 1 (x ++ [rd l ((0 : Nat) : Int)]) (y ++ [1]) (by omega) (by rw [List.length_append]; simp only [List.length_singleton]; omega) (by rw [List.length_append]; simp only [List.length_singleton]; omega) (by simp)
      refine ⟨r, Ev.shift ?_, h⟩
      simp only [impl_MergeEqual.l0]
      refine Ev.pos (by omega) (Ev.pos (by omega) (Ev.pos (by omega) (Ev.neg (by omega) (Ev.pos (by omega) (Ev.pos (by omega) ?_)))))
      rw [wrap64_id (by omega) (by omega), cast1]
      exact hr
    · have hy0 := h0 (by omega)
      obtain ⟨j, rfl⟩ : ∃ j, i = j + 1 := ⟨i - 1, by omega⟩
      have e1 : wrap64 (((j + 1 : Nat) : Int) - 1) = (j : Int) := by rw [wrap64_id (by omega) (by omega)]; omega
      have e2 : wrap64 (((j + 1 : Nat) : Int) + 1) = ((j + 1 + 1 : Nat) : Int) := by rw [wrap64_id (by omega) (by omega)]; omega
      by_cases hc : rd l (j : Int) = rd l ((j + 1 : Nat) : Int)
      · have e3 : wrap64 ((y.length : Int) - 1) = ((y.length - 1 : Nat) : Int) := by rw [wrap64_id (by omega) (by omega)]; omega
        obtain ⟨r, hr, h⟩ := ih (j + 1 + 1) x (y.set (y.length - 1) (wrap64 (rd y ((y.length - 1 : Nat) : Int) + 1))) (by omega) (by omega) (by simp; omega) (by simp; omega)
        refine ⟨r, Ev.shift ?_, h⟩
        simp only [impl_MergeEqual.l0]
        rw [e1, e2, e3]
        exact Ev.pos (by omega) (Ev.pos (by omega) (Ev.pos (by omega) (Ev.pos (by omega) (Ev.pos (by omega) (Ev.pos (by omega) (Ev.pos hc (Ev.pos (by omega) (Ev.pos (by omega) hr))))))))
      · obtain ⟨r, hr, h⟩ := ih (j + 1 + 1) (x ++ [rd l ((j + 1 : Nat) : Int)]) (y ++ [1]) (by omega) (by rw [List.length_append]; simp only [List.length_singleton]; omega) (by rw [List.length_append]; simp only [List.length_singleton]; omega) (by simp)
        refine ⟨r, Ev.shift ?_, h⟩
        simp only [impl_MergeEqual.l0]
        rw [e1, e2]
        exact Ev.pos (by omega) (Ev.pos (by omega) (Ev.pos (by omega) (Ev.pos (by omega) (Ev.pos (by omega) (Ev.pos (by omega) (Ev.neg hc (Ev.pos (by omega) (Ev.pos (by omega) hr))))))))
theorem merge_both (l : List Int) : ∃ r, Ev (fun k => impl_MergeEqual.f k l) r ∧ Ev (fun k => spec_MergeEqual.f k l) r ∧ r.1.length ≤ 12 ∧ r.2.1.length ≤ 12 := by
  unfold impl_MergeEqual.f spec_MergeEqual.f
  by_cases h : isAsc l = true
  · obtain ⟨r, hr, h1, h2, _⟩ := merge_l l (isAsc_len h) l.length 0 [] [] (by omega) (by simp) (by simp) (by simp)
    refine ⟨r, Ev.bind (isAscent_impl l) (Ev.pos h hr), Ev.bind (good_spec l) (Ev.pos h ?_), h1, h2⟩
    simp only [merge_same]; exact hr
  · exact ⟨([], [], false), Ev.bind (isAscent_impl l) (Ev.neg h (Ev.ret rfl)), Ev.bind (good_spec l) (Ev.neg h (Ev.ret rfl)), by simp, by simp⟩
theorem FnExactMergeEqual : laws_FnExactMergeEqual.Pure := by
  intro l h1 h2 h3
  refine Ev.at1 ?_
  unfold laws_FnExactMergeEqual.f
  by_cases hb : (l.length : Int) > 1048576
  · exact Ev.pos hb (Ev.ret rfl)
  · have hl : l.length ≤ 1048576 := by omega
    obtain ⟨⟨x, y, b⟩, hi, hs, hx, hy⟩ := merge_both l
    simp only [] at hx hy
    refine Ev.neg hb (Ev.bind (toIntS l hl) (Ev.bind hs (Ev.bind (toIntS l hl) (Ev.bind hi ?_))))
    have ex := eqIntS_same x (by omega)
    have ey := eqIntS_same y (by omega)
    have mx := markIntS x (by omega) 1 (by omega) (by omega)
    have my := markIntS y (by omega) (1 + x.length) (by omega) (by omega)
    have gx := heldIntS x.length (by omega) 1 (by omega) (by omega)
    have gy := heldIntS y.length (by omega) (1 + x.length) (by omega) (by omega)
    refine Ev.bind ex (Ev.pos rfl (Ev.bind ey (Ev.pos rfl ?_)))
    refine Ev.shift ?_
    simp only [laws_FnExactMergeEqual.j0]
    refine Ev.neg (by simp) (Ev.bind (toIntS l hl) (Ev.bind (eqIntS_same l hl) (Ev.pos rfl (Ev.bind (markIntS l hl 1 (by omega) (by omega)) ?_))))
    refine Ev.neg (by simp; omega) (Ev.bind ex (Ev.pos rfl (Ev.bind ey (Ev.pos rfl ?_))))
    refine Ev.shift ?_
    simp only [laws_FnExactMergeEqual.j1]
    refine Ev.neg (by simp) (Ev.bind mx (Ev.bind my (Ev.bind gx (Ev.neg (by omega) (Ev.bind gy (Ev.neg (by omega) (Ev.pos rfl ?_)))))))
    refine Ev.bind (toIntS l hl) (Ev.bind hi (Ev.bind ex (Ev.pos rfl (Ev.bind ey (Ev.pos rfl ?_)))))
    refine Ev.shift ?_
    simp only [laws_FnExactMergeEqual.j2]
    exact Ev.neg (by simp) (Ev.bind gx (Ev.neg (by omega) (Ev.bind gy (Ev.neg (by omega) (Ev.pos rfl (Ev.ret rfl))))))

end Go.Proofs.Ythhnfeebacnibaa.Pure
