import Derived.Test.YthhnfeebacnibaaQImplModified
import Derived.Test.YthhnfeebacnibaaQSlicesCloneIntInt
import Derived.Test.YthhnfeebacnibaaQSpecAsmodify
import Derived.Test.YthhnfeebacnibaaQSpecL1Own
import Derived.Test.YthhnfeebacnibaaXBase
namespace Go.Proofs.Ythhnfeebacnibaa.Pure
open Go.RowKit Go.Proofs.Ythhnfeebacnibaa.Q Go.Proofs.YthhnfeebacnibaaW.PrintWords Go.Proofs.YthhnfeebacnibaaW.PrintLast
set_option linter.unusedVariables false
set_option linter.unusedSimpArgs false

/-- one number, in a step of modifying -/
def upW (t y : Int) : Int := if y ≥ t then wrap64 (y + 1) else y
/-- the places j to i - 1, in a step of modifying -/
def upd (f : Int → Int) (j i : Nat) (s : List Int) : List Int := s.mapIdx fun m y => if j ≤ m ∧ m < i then f y else y
theorem upd_length (f : Int → Int) (j i : Nat) (s : List Int) : (upd f j i s).length = s.length := by simp [upd]
theorem upd_self (f : Int → Int) (i : Nat) (s : List Int) : upd f i i s = s := by
  apply List.ext_getElem?
  intro m
  simp only [upd, List.getElem?_mapIdx]
  rw [show (fun y => if i ≤ m ∧ m < i then f y else y) = id from by funext y; rw [if_neg (by omega)]; rfl]
  simp
theorem upd_set (f : Int → Int) (j i : Nat) (s : List Int) (hj : j < s.length) (hji : j < i) : upd f (j + 1) i (s.set j (f (rd s (j : Int)))) = upd f j i s := by
  apply List.ext_getElem?
  intro m
  simp only [upd, List.getElem?_mapIdx]
  by_cases e : j = m
  · subst e
    rw [List.getElem?_set_self hj, rd_lt s j hj]
    simp [hj, hji]
    omega
  · rw [List.getElem?_set_ne e]
    congr 1
    funext y
    by_cases h : j + 1 ≤ m ∧ m < i
    · rw [if_pos h, if_pos (by omega)]
    · rw [if_neg h, if_neg (by omega)]
theorem upd_skip (f : Int → Int) (j i : Nat) (s : List Int) (hj : j < s.length) (hf : f (rd s (j : Int)) = rd s (j : Int)) (hji : j < i) : upd f (j + 1) i s = upd f j i s := by
  rw [← upd_set f j i s hj hji, hf]
  congr 1
  apply List.ext_getElem?
  intro m
  by_cases e : j = m
  · subst e; rw [List.getElem?_set_self hj, rd_lt s j hj]; simp [hj]
  · rw [List.getElem?_set_ne e]
theorem rd_upd (f : Int → Int) (i : Nat) (s : List Int) (m : Nat) (hm : m < s.length) : rd (upd f 0 i s) (m : Int) = if m < i then f (rd s (m : Int)) else rd s (m : Int) := by
  rw [rd_lt _ _ (by rw [upd_length]; exact hm), rd_lt s m hm]
  simp [upd]
/-- what the list is behind the steps at places 1 to i -/
def st (l : List Int) : Nat → List Int
  | 0 => l
  | i + 1 => if rd l (i : Int) < rd l ((i + 1 : Nat) : Int) then upd (upW (rd l ((i + 1 : Nat) : Int))) 0 (i + 1) (st l i) else st l i
theorem st_length (l : List Int) : ∀ i, (st l i).length = l.length
  | 0 => rfl
  | i + 1 => by
    simp only [st]
    split
    · rw [upd_length, st_length l i]
    · exact st_length l i
theorem modified_in (l : List Int) (hl : l.length ≤ 12) (i : Nat) (hi : i < l.length) {r : List Int} (d : Nat) : ∀ (j : Nat) (s : List Int), j + d = i → s.length = l.length →
    Ev (fun k => impl_modified.l0 k l (upd (upW (rd l (i : Int))) j i s) (wrap64 ((i : Int) + 1))) r → Ev (fun k => impl_modified.l1 k l s i i j) r := by
  induction d with
  | zero =>
    intro j s hj hs h
    obtain rfl : j = i := by omega
    rw [upd_self] at h
    refine Ev.shift ?_
    simp only [impl_modified.l1]
    exact Ev.neg (by omega) h
  | succ d ih =>
    intro j s hj hs h
    refine Ev.shift ?_
    simp only [impl_modified.l1]
    refine Ev.pos (by omega) (Ev.pos (by omega) (Ev.pos (by omega) (Ev.pos (by omega) (Ev.pos (by omega) ?_))))
    rw [wrap64_id (x := (j : Int) + 1) (by omega) (by omega), cast1, Int.toNat_natCast]
    by_cases hc : rd s (j : Int) ≥ rd l (i : Int)
    · refine Ev.pos hc (ih (j + 1) _ (by omega) (by rw [List.length_set]; exact hs) ?_)
      have e : wrap64 (rd s (j : Int) + 1) = upW (rd l (i : Int)) (rd s (j : Int)) := by unfold upW; rw [if_pos hc]
      rw [e, upd_set _ _ _ _ (by omega) (by omega)]
      exact h
    · refine Ev.neg hc (ih (j + 1) _ (by omega) hs ?_)
      rw [upd_skip _ _ _ _ (by omega) (by unfold upW; rw [if_neg hc]) (by omega)]
      exact h
theorem modified_l (l : List Int) (hl : l.length ≤ 12) (d : Nat) : ∀ i : Nat, i + 1 + d = l.length → Ev (fun k => impl_modified.l0 k l (st l i) ((i + 1 : Nat) : Int)) (st l (l.length - 1)) := by
  induction d with
  | zero =>
    intro i hi
    refine Ev.shift ?_
    simp only [impl_modified.l0]
    exact Ev.neg (by omega) (Ev.ret (by rw [show l.length - 1 = i by omega]))
  | succ d ih =>
    intro i hi
    have e1 : wrap64 (((i + 1 : Nat) : Int) - 1) = (i : Int) := by rw [wrap64_id (by omega) (by omega)]; omega
    have e2 : wrap64 (((i + 1 : Nat) : Int) + 1) = ((i + 1 + 1 : Nat) : Int) := by rw [wrap64_id (by omega) (by omega)]; omega
    have h := ih (i + 1) (by omega)
    refine Ev.shift ?_
    simp only [impl_modified.l0]
    rw [e1, e2]
    refine Ev.pos (by omega) (Ev.pos (by omega) (Ev.pos (by omega) (Ev.pos (by omega) ?_)))
    by_cases hc : rd l (i : Int) < rd l ((i + 1 : Nat) : Int)
    · refine Ev.neg (by omega) ?_
      have := modified_in l hl (i + 1) (by omega) (r := st l (l.length - 1)) (i + 1) 0 (st l i) (by omega) (st_length l i)
      refine this ?_
      rw [e2]
      simp only [st, if_pos hc] at h
      exact h
    · refine Ev.pos (by omega) ?_
      simp only [st, if_neg hc] at h
      exact h
theorem modified_ev (l : List Int) (hl : l.length ≤ 12) : Ev (fun k => impl_modified.f k l) (st l (l.length - 1)) := by
  unfold impl_modified.f
  refine Ev.bindc (x := l) (by unfold slices_Clone_int_int.f; rw [if_pos (by omega)]) ?_
  by_cases h : l.length = 0
  · refine Ev.shift ?_
    simp only [impl_modified.l0]
    exact Ev.neg (by omega) (Ev.ret (by rw [h]; rfl))
  · exact modified_l l hl (l.length - 1) 0 (by omega)
theorem modify_same (k : Nat) : (∀ a b c, spec_asModify.l0 k a b c = impl_modified.l0 k a b c) ∧ (∀ a b c d, spec_asModify.l1 k a b c d = impl_modified.l1 k a b c c d) := by
  induction k with
  | zero => exact ⟨fun _ _ _ => rfl, fun _ _ _ _ => rfl⟩
  | succ k ih => exact ⟨fun _ _ _ => by simp only [spec_asModify.l0, impl_modified.l0, ih.1, ih.2], fun _ _ _ _ => by simp only [spec_asModify.l1, impl_modified.l1, ih.1, ih.2]⟩
theorem own_spec (l : List Int) (hl : l.length < 17592186044416) : spec_l1Own.f l = some l := by
  unfold spec_l1Own.f
  simp [hl]
theorem modify_ev (l : List Int) (hl : l.length ≤ 12) : Ev (fun k => spec_asModify.f k l) (st l (l.length - 1)) := by
  unfold spec_asModify.f
  refine Ev.bindc (x := l) (own_spec l (by omega)) ?_
  have h := modified_ev l hl
  unfold impl_modified.f at h
  have e : slices_Clone_int_int.f l = some l := by unfold slices_Clone_int_int.f; rw [if_pos (by omega)]
  simp only [e, Option.bind_some] at h
  simpa only [(modify_same _).1] using h

end Go.Proofs.Ythhnfeebacnibaa.Pure
