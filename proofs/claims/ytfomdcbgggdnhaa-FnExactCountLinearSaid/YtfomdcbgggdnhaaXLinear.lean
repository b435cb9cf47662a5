import Derived.Test.YtfomdcbgggdnhaaQImplCountlinear
import Derived.Test.YtfomdcbgggdnhaaQSpecCountlinear
import Derived.Test.YtfomdcbgggdnhaaXLevels
namespace Go.Proofs.Ytfomdcbgggdnhaa.Pure
open Go.RowKit Go.Proofs.Ytfomdcbgggdnhaa.Q Go.Proofs.YtfomdcbgggdnhaaW.PrintWords Go.Proofs.YtfomdcbgggdnhaaW.PrintLast
set_option linter.unusedVariables false
set_option linter.unusedSimpArgs false

theorem count_take (l : List Int) (v : Int) (i : Nat) (h : i < l.length) : List.count v (l.take (i + 1)) = List.count v (l.take i) + if rd l (i : Int) = v then 1 else 0 := by
 rw [List.take_succ_eq_append_getElem h, List.count_append, rd_lt l i h]
 by_cases e : l[i] = v <;> simp [e]
theorem linear_spec1 (l : List Int) (hl : l.length ≤ 10) (i : Nat) (hi : i < l.length) (x4 : Int) (r : Int × Bool) (hr : Ev (fun k => spec_CountLinear.l0 k l (wrap64 (x4 * (1 + (List.count (rd l (i : Int)) (l.take i) : Int)))) l (l.length : Int) ((i + 1 : Nat) : Int)) r) (d : Nat) :
  ∀ j : Nat, j + d = i → Ev (fun k => spec_CountLinear.l1 k l x4 (rd l (i : Int)) (1 + (List.count (rd l (i : Int)) (l.take j) : Int)) l (l.length : Int) (i : Int) (l.take i) ((l.take i).length : Int) (j : Int)) r := by
 have ht : (l.take i).length = i := by simp; omega
 induction d with
 | zero =>
  intro j hj
  obtain rfl : j = i := by omega
  refine Ev.shift ?_
  simp only [spec_CountLinear.l1]
  refine Ev.neg (by omega) ?_
  rw [wrap64_id (x := (j : Int) + 1) (by omega) (by omega), cast1]
  exact hr
 | succ d ih =>
  intro j hj
  have e : rd (l.take i) (j : Int) = rd l (j : Int) := by
   rw [rd_lt _ j (by omega), rd_lt l j (by omega)]; simp
  have hc : List.count (rd l (i : Int)) (l.take j) ≤ 10 := by
   have := List.count_le_length (a := rd l (i : Int)) (l := l.take j)
   simp at this; omega
  have := ih (j + 1) (by omega)
  rw [count_take l _ j (by omega)] at this
  refine Ev.shift ?_
  simp only [spec_CountLinear.l1]
  refine Ev.pos (by omega) (Ev.pos (by omega) (Ev.pos (by omega) ?_))
  rw [wrap64_id (x := (j : Int) + 1) (by omega) (by omega), wrap64_id (x := 1 + (List.count (rd l (i : Int)) (l.take j) : Int) + 1) (by omega) (by omega), e, cast1]
  by_cases h : rd l (i : Int) = rd l (j : Int)
  ·rw [if_pos h.symm] at this
   refine Ev.pos h ?_
   rw [Int.add_assoc, cast1]
   exact this
  ·rw [if_neg (Ne.symm h)] at this
   exact Ev.neg h this
theorem linear_both (l : List Int) (hl : l.length ≤ 10) (hb : ∀ x ∈ l, 0 ≤ x ∧ x < 10) (d : Nat) : ∀ (i : Nat) (x4 : Int) (y : List Int), i + d = l.length → y.length = 10 → (∀ v : Nat, v < 10 → rd y (v : Int) = (List.count (v : Int) (l.take i) : Int)) →
  ∃ r, Ev (fun k => impl_CountLinear.l0 k x4 y l (l.length : Int) (i : Int)) r ∧ Ev (fun k => spec_CountLinear.l0 k l x4 l (l.length : Int) (i : Int)) r := by
 induction d with
 | zero =>
  intro i x4 y hi hy hv
  refine ⟨(x4, true), Ev.shift ?_, Ev.shift ?_⟩
  ·simp only [impl_CountLinear.l0]
   exact Ev.neg (by omega) (Ev.ret rfl)
  ·simp only [spec_CountLinear.l0]
   exact Ev.neg (by omega) (Ev.ret rfl)
 | succ d ih =>
  intro i x4 y hi hy hv
  have hx := hb (rd l (i : Int)) (by rw [rd_lt l i (by omega)]; exact List.getElem_mem _)
  obtain ⟨v, hvx⟩ : ∃ v : Nat, rd l (i : Int) = v := ⟨(rd l (i : Int)).toNat, by omega⟩
  have hc : List.count (rd l (i : Int)) (l.take i) ≤ 10 := by
   have := List.count_le_length (a := rd l (i : Int)) (l := l.take i)
   simp at this; omega
  have hyv := hv v (by omega)
  have hs : rd (y.set v (wrap64 (rd y (v : Int) + 1))) (v : Int) = 1 + (List.count (v : Int) (l.take i) : Int) := by
   rw [rd_lt _ v (by simp; omega), List.getElem_set_self, hyv, wrap64_id (by rw [hvx] at hc; omega) (by rw [hvx] at hc; omega)]; omega
  obtain ⟨r, h1, h2⟩ := ih (i + 1) (wrap64 (x4 * (1 + (List.count (v : Int) (l.take i) : Int)))) (y.set v (wrap64 (rd y (v : Int) + 1))) (by omega) (by simp; omega) (fun u hu => by
   rw [count_take l _ i (by omega), hvx]
   by_cases e : v = u
   ·subst e; rw [hs]; simp; omega
   ·rw [rd_lt _ u (by simp; omega), List.getElem_set_ne e, ← rd_lt y u (by omega), hv u hu, if_neg (by omega)]; simp)
  refine ⟨r, Ev.shift ?_, Ev.shift ?_⟩
  ·simp only [impl_CountLinear.l0]
   refine Ev.pos (by omega) (Ev.pos (by omega) (Ev.pos (by omega) (Ev.pos (by omega) (Ev.pos (by omega) (Ev.bindc rfl ?_)))))
   rw [wrap64_id (x := (i : Int) + 1) (by omega) (by omega), hvx, cast1, Int.toNat_natCast, hs]
   exact h1
  ·have := linear_spec1 l hl i (by omega) x4 r (by rw [hvx]; exact h2) i 0 (by omega)
   simp only [spec_CountLinear.l0]
   refine Ev.pos (by omega) (Ev.pos (by omega) (Ev.pos (by omega) (Ev.pos (by omega) ?_)))
   rw [Int.toNat_natCast]
   simpa using this
theorem CountLinear_both (l : List Int) (hl : l.length ≤ 1048576) : ∃ r, Ev (fun k => impl_CountLinear.f k l) r ∧ Ev (fun k => spec_CountLinear.f k l) r := by
 unfold impl_CountLinear.f spec_CountLinear.f
 by_cases h : lvlP l
 ·obtain ⟨n, hn, hx⟩ := lvl_fill h
  obtain ⟨r, h1, h2⟩ := linear_both l h.1 (fun x hm => by have := (hx x).1 hm; omega) l.length 0 1 (List.replicate 10 0) (by omega) (by simp) (fun v hv => by rw [rd_lt _ v (by rw [List.length_replicate]; omega), List.getElem_replicate]; simp)
  exact ⟨r, Ev.bind (levels_impl l hl) (Ev.pos (by simpa using h) (Ev.pos (by omega) h1)), Ev.bind (levels_spec l hl) (Ev.pos (by simpa using h) h2)⟩
 ·exact ⟨(0, false), Ev.bind (levels_impl l hl) (Ev.neg (by simpa using h) (Ev.ret rfl)), Ev.bind (levels_spec l hl) (Ev.neg (by simpa using h) (Ev.ret rfl))⟩

end Go.Proofs.Ytfomdcbgggdnhaa.Pure
