import Derived.Test.YtjojalbgpemjoaaQImplRefinelevels
import Derived.Test.YtjojalbgpemjoaaQSpecRefinelevels
import Derived.Test.YtjojalbgpemjoaaXRank
namespace Go.Proofs.Ytjojalbgpemjoaa.Pure
open Go.RowKit Go.Proofs.Ytjojalbgpemjoaa.Q Go.Proofs.YtjojalbgpemjoaaW.PrintWords Go.Proofs.YtjojalbgpemjoaaW.PrintLast
set_option linter.unusedVariables false
set_option linter.unusedSimpArgs false

theorem refine_zip (c : Int) (l m : List Int) (he : l.length = m.length) (i : Nat) (h : i < l.length) : (List.zipWith (fun x y => c * x + y) (l.take (i + 1)) (m.take (i + 1))) = List.zipWith (fun x y => c * x + y) (l.take i) (m.take i) ++ [c * rd l (i : Int) + rd m (i : Int)] := by
  rw [List.take_succ_eq_append_getElem h, List.take_succ_eq_append_getElem (by omega), List.zipWith_append (by simp; omega), rd_lt l i h, rd_lt m i (by omega)]
  rfl
theorem refine_spec (l m : List Int) (hl : l.length ≤ 10) (he : l.length = m.length) (hb : ∀ x ∈ l, 0 ≤ x ∧ x ≤ 10) (hc : ∀ x ∈ m, 0 ≤ x ∧ x ≤ 10) (d : Nat) : ∀ i : Nat, i + d = l.length → Ev (fun k => spec_RefineLevels.l0 k m (List.zipWith (fun x y => 100 * x + y) (l.take i) (m.take i)) l (l.length : Int) i) (lev (List.zipWith (fun x y => 100 * x + y) l m), true) := by
  induction d with
  | zero =>
    intro i hi
    refine Ev.shift ?_
    simp only [spec_RefineLevels.l0]
    exact Ev.neg (by omega) (Ev.bind (ofNumbers_ev _ (by simp; omega)) (Ev.ret (by rw [List.take_of_length_le (by omega), List.take_of_length_le (by omega)])))
  | succ d ih =>
    intro i hi
    have hx := hb (rd l (i : Int)) (by rw [rd_lt l i (by omega)]; exact List.getElem_mem _)
    have hy := hc (rd m (i : Int)) (by rw [rd_lt m i (by omega)]; exact List.getElem_mem _)
    refine Ev.shift ?_
    simp only [spec_RefineLevels.l0]
    refine Ev.pos (by omega) (Ev.pos (by omega) (Ev.pos (by omega) (Ev.pos (by omega) (Ev.pos (by simp; omega) ?_))))
    rw [wrap64_id (x := (i : Int) + 1) (by omega) (by omega), wrap64_id (x := 100 * rd l (i : Int)) (by omega) (by omega), wrap64_id (x := 100 * rd l (i : Int) + rd m (i : Int)) (by omega) (by omega), cast1]
    have := ih (i + 1) (by omega)
    rw [refine_zip 100 l m he i (by omega)] at this
    exact this
theorem refine_impl (l m : List Int) (hl : l.length ≤ 10) (he : l.length = m.length) (hb : ∀ x ∈ l, 0 ≤ x ∧ x ≤ 10) (hc : ∀ x ∈ m, 0 ≤ x ∧ x ≤ 10) (d : Nat) : ∀ i : Nat, i + d = l.length → Ev (fun k => impl_RefineLevels.l0 k m (List.zipWith (fun x y => 11 * x + y) (l.take i) (m.take i)) l (l.length : Int) i) (lev (List.zipWith (fun x y => 11 * x + y) l m), true) := by
  induction d with
  | zero =>
    intro i hi
    refine Ev.shift ?_
    simp only [impl_RefineLevels.l0]
    exact Ev.neg (by omega) (Ev.bind (leveled_ev _ (by simp; omega)) (Ev.ret (by rw [List.take_of_length_le (by omega), List.take_of_length_le (by omega)])))
  | succ d ih =>
    intro i hi
    have hx := hb (rd l (i : Int)) (by rw [rd_lt l i (by omega)]; exact List.getElem_mem _)
    have hy := hc (rd m (i : Int)) (by rw [rd_lt m i (by omega)]; exact List.getElem_mem _)
    refine Ev.shift ?_
    simp only [impl_RefineLevels.l0]
    refine Ev.pos (by omega) (Ev.pos (by omega) (Ev.pos (by omega) (Ev.pos (by omega) (Ev.pos (by simp; omega) ?_))))
    rw [Int.mul_comm, wrap64_id (x := (i : Int) + 1) (by omega) (by omega), wrap64_id (x := 11 * rd l (i : Int)) (by omega) (by omega), wrap64_id (x := 11 * rd l (i : Int) + rd m (i : Int)) (by omega) (by omega), cast1]
    have := ih (i + 1) (by omega)
    rw [refine_zip 11 l m he i (by omega)] at this
    exact this
theorem zip_mem {l m : List Int} {f : Int → Int → Int} {v : Int} (h : v ∈ List.zipWith f l m) : ∃ x ∈ l, ∃ y ∈ m, v = f x y := by
  obtain ⟨i, hi, rfl⟩ := List.mem_iff_getElem.1 h
  rw [List.length_zipWith] at hi
  exact ⟨l[i], List.getElem_mem _, m[i], List.getElem_mem _, by simp⟩
theorem zip_lev (l m : List Int) (hb : ∀ x ∈ l, 0 ≤ x ∧ x ≤ 10) (hc : ∀ x ∈ m, 0 ≤ x ∧ x ≤ 10) : lev (List.zipWith (fun x y => 100 * x + y) l m) = lev (List.zipWith (fun x y => 11 * x + y) l m) := by
  rw [← lev_map (List.zipWith (fun x y => 11 * x + y) l m) (fun v => 100 * (v / 11) + v % 11) (by
    intro x _ y _ h; omega), List.map_zipWith]
  congr 1
  apply List.ext_getElem (by simp)
  intro i h1 h2
  rw [List.getElem_zipWith, List.getElem_zipWith]
  rw [List.length_zipWith] at h1
  have := hb l[i] (List.getElem_mem _)
  have := hc m[i] (List.getElem_mem _)
  omega
theorem RefineLevels_both (l m : List Int) (hl : l.length ≤ 1048576) (hm : m.length ≤ 1048576) : ∃ r, Ev (fun k => impl_RefineLevels.f k l m) r ∧ Ev (fun k => spec_RefineLevels.f k l m) r ∧ r.1.length ≤ 1000 := by
  have hno : Ev (fun k => impl_RefineLevels.j0 k l m true) ([], false) ∧ Ev (fun k => spec_RefineLevels.j0 k l m true) ([], false) := by
    constructor
    · refine Ev.shift ?_
      simp only [impl_RefineLevels.j0]
      exact Ev.pos trivial (Ev.ret rfl)
    · refine Ev.shift ?_
      simp only [spec_RefineLevels.j0]
      exact Ev.pos trivial (Ev.ret rfl)
  unfold impl_RefineLevels.f spec_RefineLevels.f
  by_cases h : lvlP l
  · by_cases h' : lvlP m
    · by_cases he : l.length = m.length
      · refine ⟨(lev (List.zipWith (fun x y => 11 * x + y) l m), true), ?_, ?_, by simp [lev]; have := h.1; omega⟩
        · refine Ev.bind (levels_impl l hl) (Ev.pos (by simpa using h) (Ev.bind (levels_impl m hm) (Ev.pos (by simpa using h') (Ev.shift ?_))))
          simp only [impl_RefineLevels.j0]
          exact Ev.neg (by simp [he]) (refine_impl l m h.1 he h.2.1 h'.2.1 l.length 0 (by omega))
        · refine Ev.bind (levels_spec l hl) (Ev.pos (by simpa using h) (Ev.bind (levels_spec m hm) (Ev.pos (by simpa using h') (Ev.shift ?_))))
          simp only [spec_RefineLevels.j0]
          exact Ev.neg (by simp [he]) (Ev.eq (refine_spec l m h.1 he h.2.1 h'.2.1 l.length 0 (by omega)) (by rw [zip_lev l m h.2.1 h'.2.1]))
      · refine ⟨([], false), ?_, ?_, by simp⟩
        · refine Ev.bind (levels_impl l hl) (Ev.pos (by simpa using h) (Ev.bind (levels_impl m hm) (Ev.pos (by simpa using h') (Ev.shift ?_))))
          simp only [impl_RefineLevels.j0]
          exact Ev.pos (by simp; omega) (Ev.ret rfl)
        · refine Ev.bind (levels_spec l hl) (Ev.pos (by simpa using h) (Ev.bind (levels_spec m hm) (Ev.pos (by simpa using h') (Ev.shift ?_))))
          simp only [spec_RefineLevels.j0]
          exact Ev.pos (by simp; omega) (Ev.ret rfl)
    · refine ⟨([], false), ?_, ?_, by simp⟩
      · exact Ev.bind (levels_impl l hl) (Ev.pos (by simpa using h) (Ev.bind (levels_impl m hm) (Ev.neg (by simpa using h') hno.1)))
      · exact Ev.bind (levels_spec l hl) (Ev.pos (by simpa using h) (Ev.bind (levels_spec m hm) (Ev.neg (by simpa using h') hno.2)))
  · refine ⟨([], false), ?_, ?_, by simp⟩
    · exact Ev.bind (levels_impl l hl) (Ev.neg (by simpa using h) hno.1)
    · exact Ev.bind (levels_spec l hl) (Ev.neg (by simpa using h) hno.2)

end Go.Proofs.Ytjojalbgpemjoaa.Pure
