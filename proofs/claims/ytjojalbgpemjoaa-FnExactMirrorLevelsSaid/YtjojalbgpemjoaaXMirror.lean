import Derived.Test.YtjojalbgpemjoaaQImplMirrorlevels
import Derived.Test.YtjojalbgpemjoaaQSpecL1Most
import Derived.Test.YtjojalbgpemjoaaQSpecMirrorlevels
import Derived.Test.YtjojalbgpemjoaaXRank
namespace Go.Proofs.Ytjojalbgpemjoaa.Pure
open Go.RowKit Go.Proofs.Ytjojalbgpemjoaa.Q Go.Proofs.YtjojalbgpemjoaaW.PrintWords Go.Proofs.YtjojalbgpemjoaaW.PrintLast
set_option linter.unusedVariables false
set_option linter.unusedSimpArgs false

/-- levels are their own levels -/
theorem lev_fix {l : List Int} {n : Nat} (h : ∀ x, x ∈ l ↔ 0 ≤ x ∧ x < n) : lev l = l := by
  unfold lev
  rw [dif_iota h]
  have : ∀ x ∈ l, low (iota n) x = x := by
    intro x hx
    have hx := (h x).1 hx
    obtain ⟨i, rfl⟩ : ∃ i : Nat, x = i := ⟨x.toNat, by omega⟩
    have := low_get (iota_rising n) i (by rw [iota_length]; omega)
    rw [rd_lt _ i (by rw [iota_length]; omega)] at this
    simpa [iota] using this
  conv => rhs; rw [← List.map_id l]
  exact List.map_congr_left fun x hx => this x hx
theorem most_f (a b : Int) : spec_l1Most.f a b = some (max a b) := by
  unfold spec_l1Most.f
  by_cases h : a > b
  · rw [if_pos h]; congr 1; omega
  · rw [if_neg h]; congr 1; omega
theorem mirror_spec1 (l : List Int) (hl : l.length ≤ 10) (hb : ∀ x ∈ l, 0 ≤ x ∧ x ≤ 10) (M : Int) (hM : 0 ≤ M ∧ M ≤ 10) (d : Nat) : ∀ i : Nat, i + d = l.length → Ev (fun k => spec_MirrorLevels.l1 k M ((l.take i).map (M - ·)) l (l.length : Int) i) (l.map (M - ·), true) := by
  induction d with
  | zero =>
    intro i hi
    refine Ev.shift ?_
    simp only [spec_MirrorLevels.l1]
    exact Ev.neg (by omega) (Ev.ret (by rw [List.take_of_length_le (by omega)]))
  | succ d ih =>
    intro i hi
    have hx := hb (rd l (i : Int)) (by rw [rd_lt l i (by omega)]; exact List.getElem_mem _)
    refine Ev.shift ?_
    simp only [spec_MirrorLevels.l1]
    refine Ev.pos (by omega) (Ev.pos (by omega) (Ev.pos (by omega) (Ev.pos (by simp; omega) ?_)))
    rw [wrap64_id (x := (i : Int) + 1) (by omega) (by omega), wrap64_id (x := M - rd l (i : Int)) (by omega) (by omega), cast1]
    have := ih (i + 1) (by omega)
    rw [List.take_succ_eq_append_getElem (by omega), List.map_append, ← rd_lt l i (by omega)] at this
    exact this
theorem mirror_spec0 (l : List Int) (hl : l.length ≤ 10) (hb : ∀ x ∈ l, 0 ≤ x ∧ x ≤ 10) (M : Int) (hM : 0 ≤ M ∧ M ≤ 10) (d : Nat) : ∀ (i : Nat) (m : Int), i + d = l.length → (∀ x ∈ l.drop i, x ≤ M) → m ≤ M → (m = M ∨ M ∈ l.drop i) → Ev (fun k => spec_MirrorLevels.l0 k l m l (l.length : Int) i) (l.map (M - ·), true) := by
  induction d with
  | zero =>
    intro i m hi h1 h2 h3
    refine Ev.shift ?_
    simp only [spec_MirrorLevels.l0]
    rw [List.drop_of_length_le (by omega)] at h3
    obtain rfl : m = M := by simpa using h3
    exact Ev.neg (by omega) (mirror_spec1 l hl hb m hM l.length 0 (by omega))
  | succ d ih =>
    intro i m hi h1 h2 h3
    rw [drop_rd l i (by omega)] at h1 h3
    have hx := h1 (rd l (i : Int)) (by simp)
    refine Ev.shift ?_
    simp only [spec_MirrorLevels.l0]
    refine Ev.pos (by omega) (Ev.pos (by omega) (Ev.pos (by omega) (Ev.bindc (most_f _ _) ?_)))
    rw [wrap64_id (x := (i : Int) + 1) (by omega) (by omega), cast1]
    refine ih (i + 1) _ (by omega) (fun x hx => h1 x (by simp [hx])) (by omega) ?_
    rcases h3 with h | h
    · left; omega
    · rcases List.mem_cons.1 h with h | h
      · left; omega
      · exact .inr h
theorem mirror_impl (l : List Int) (hl : l.length ≤ 10) (hb : ∀ x ∈ l, 0 ≤ x ∧ x ≤ 10) (d : Nat) : ∀ i : Nat, i + d = l.length → Ev (fun k => impl_MirrorLevels.l0 k ((l.take i).map (- ·)) l (l.length : Int) i) (lev (l.map (- ·)), true) := by
  induction d with
  | zero =>
    intro i hi
    refine Ev.shift ?_
    simp only [impl_MirrorLevels.l0]
    exact Ev.neg (by omega) (Ev.bind (leveled_ev _ (by simp; omega)) (Ev.ret (by rw [List.take_of_length_le (by omega)])))
  | succ d ih =>
    intro i hi
    have hx := hb (rd l (i : Int)) (by rw [rd_lt l i (by omega)]; exact List.getElem_mem _)
    refine Ev.shift ?_
    simp only [impl_MirrorLevels.l0]
    refine Ev.pos (by omega) (Ev.pos (by omega) (Ev.pos (by omega) (Ev.pos (by simp; omega) ?_)))
    rw [wrap64_id (x := (i : Int) + 1) (by omega) (by omega), wrap64_id (x := - rd l (i : Int)) (by omega) (by omega), cast1]
    have := ih (i + 1) (by omega)
    rw [List.take_succ_eq_append_getElem (by omega), List.map_append, ← rd_lt l i (by omega)] at this
    exact this
theorem MirrorLevels_both (l : List Int) (hl : l.length ≤ 1048576) : ∃ r, Ev (fun k => impl_MirrorLevels.f k l) r ∧ Ev (fun k => spec_MirrorLevels.f k l) r ∧ r.1.length ≤ 1000 := by
  unfold impl_MirrorLevels.f spec_MirrorLevels.f
  by_cases h : lvlP l
  · obtain ⟨n, hn, hx⟩ := lvl_fill h
    have hb := h.2.1
    refine ⟨(l.map ((((n - 1 : Nat) : Int)) - ·), true), ?_, ?_, by simp; have := h.1; omega⟩
    · refine Ev.bind (levels_impl l hl) (Ev.pos (by simpa using h) (Ev.eq (mirror_impl l h.1 hb l.length 0 (by omega)) ?_))
      have e : lev (l.map (- ·)) = lev (l.map ((((n - 1 : Nat) : Int)) - ·)) := by
        rw [← lev_map (l.map (- ·)) (fun x => ((n - 1 : Nat) : Int) + x) (by intros; omega), List.map_map]
        congr 1
      have e2 : lev (l.map ((((n - 1 : Nat) : Int)) - ·)) = l.map ((((n - 1 : Nat) : Int)) - ·) := by
        apply lev_fix (n := n)
        intro x
        rw [List.mem_map]
        constructor
        · rintro ⟨a, ha, rfl⟩; have := (hx a).1 ha; omega
        · intro h; exact ⟨((n - 1 : Nat) : Int) - x, (hx _).2 (by omega), by omega⟩
      rw [e, e2]
    · refine Ev.bind (levels_spec l hl) (Ev.pos (by simpa using h) (mirror_spec0 l h.1 hb _ (by omega) l.length 0 0 (by omega) (fun x hx' => ?_) (by omega) ?_))
      · have := (hx x).1 (by simpa using hx'); omega
      · by_cases h0 : n ≤ 1
        · left; omega
        · right; rw [List.drop_zero]; exact (hx _).2 (by omega)
  · refine ⟨([], false), ?_, ?_, by simp⟩
    · exact Ev.bind (levels_impl l hl) (Ev.neg (by simpa using h) (Ev.ret rfl))
    · exact Ev.bind (levels_spec l hl) (Ev.neg (by simpa using h) (Ev.ret rfl))

end Go.Proofs.Ytjojalbgpemjoaa.Pure
