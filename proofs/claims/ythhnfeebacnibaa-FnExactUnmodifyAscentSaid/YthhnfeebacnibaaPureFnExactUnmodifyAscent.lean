/- UnmodifyAscent answers what the reference answers and hands back memory of its own, for every list of at most 2^20 numbers (longer ones the statement lets pass). Conditions: none. -/
import Derived.Test.YthhnfeebacnibaaQImplIsascent
import Derived.Test.YthhnfeebacnibaaQImplModified
import Derived.Test.YthhnfeebacnibaaQImplUnmodifyascent
import Derived.Test.YthhnfeebacnibaaQLawsFnexactunmodifyascent
import Derived.Test.YthhnfeebacnibaaQSlicesEqualIntInt
import Derived.Test.YthhnfeebacnibaaQSpecAsundo
import Derived.Test.YthhnfeebacnibaaQSpecL1All
import Derived.Test.YthhnfeebacnibaaQSpecUnmodifyascent
import Derived.Test.YthhnfeebacnibaaXCopies
import Derived.Test.YthhnfeebacnibaaXMarks
import Derived.Test.YthhnfeebacnibaaXUndo
namespace Go.Proofs.Ythhnfeebacnibaa.Pure
open Go.RowKit Go.Proofs.Ythhnfeebacnibaa.Q Go.Proofs.YthhnfeebacnibaaW.PrintWords Go.Proofs.YthhnfeebacnibaaW.PrintLast
set_option linter.unusedVariables false
set_option linter.unusedSimpArgs false

theorem undoOwn_length : ∀ (i : Nat) (s : List Int), (undoOwn i s).length = s.length
  | 0, s => rfl
  | i + 1, s => by simp only [undoOwn]; rw [undoOwn_length i]; split <;> simp [upd_length]
theorem undoBy_length (p : List Int) : ∀ (i : Nat) (s : List Int), (undoBy p i s).length = s.length
  | 0, s => rfl
  | i + 1, s => by simp only [undoBy]; rw [undoBy_length p i]; split <;> simp [upd_length]
theorem undo_in (i : Nat) (hi : i < 12) {r : List Int} (d : Nat) : ∀ (j : Nat) (s : List Int) (t : Int), j + d = i → i < s.length → s.length ≤ 12 → rd s (i : Int) = t →
    Ev (fun k => spec_asUndo.l0 k (upd (dnW t) j i s) (wrap64 ((i : Int) - 1))) r → Ev (fun k => spec_asUndo.l1 k s i j) r := by
  induction d with
  | zero =>
    intro j s t hj hs hl ht h
    obtain rfl : j = i := by omega
    rw [upd_self] at h
    refine Ev.shift ?_
    simp only [spec_asUndo.l1]
    exact Ev.neg (by omega) h
  | succ d ih =>
    intro j s t hj hs hl ht h
    refine Ev.shift ?_
    simp only [spec_asUndo.l1]
    refine Ev.pos (by omega) (Ev.pos (by omega) (Ev.pos (by omega) (Ev.pos (by omega) (Ev.pos (by omega) ?_))))
    rw [wrap64_id (x := (j : Int) + 1) (by omega) (by omega), cast1, Int.toNat_natCast]
    by_cases hc : rd s (j : Int) > rd s (i : Int)
    · refine Ev.pos hc (ih (j + 1) _ t (by omega) (by rw [List.length_set]; exact hs) (by rw [List.length_set]; exact hl) ?_ ?_)
      · rw [rd_lt _ i (by rw [List.length_set]; exact hs), List.getElem_set_ne (by omega), ← rd_lt _ i hs]; exact ht
      · have e : wrap64 (rd s (j : Int) - 1) = dnW t (rd s (j : Int)) := by unfold dnW; rw [if_pos (by omega)]
        rw [e, upd_set _ _ _ _ (by omega) (by omega)]
        exact h
    · refine Ev.neg hc (ih (j + 1) _ t (by omega) hs hl ht ?_)
      rw [upd_skip _ _ _ _ (by omega) (by unfold dnW; rw [if_neg (by omega)]) (by omega)]
      exact h
theorem undo_l : ∀ (i : Nat) (s : List Int), i < s.length → s.length ≤ 12 → Ev (fun k => spec_asUndo.l0 k s i) (undoOwn i s)
  | 0, s, _, _ => by
    refine Ev.shift ?_
    simp only [spec_asUndo.l0]
    exact Ev.neg (by omega) (Ev.ret rfl)
  | i + 1, s, h, hl => by
    have e1 : wrap64 (((i + 1 : Nat) : Int) - 1) = (i : Int) := by rw [wrap64_id (by omega) (by omega)]; omega
    refine Ev.shift ?_
    simp only [spec_asUndo.l0, undoOwn]
    rw [e1]
    refine Ev.pos (by omega) (Ev.pos (by omega) (Ev.pos (by omega) (Ev.pos (by omega) (Ev.pos (by omega) ?_))))
    by_cases hc : rd s (i : Int) < rd s ((i + 1 : Nat) : Int)
    · rw [if_pos hc]
      refine Ev.pos hc (undo_in (i + 1) (by omega) (i + 1) 0 s _ (by omega) h hl rfl ?_)
      rw [e1]
      exact undo_l i _ (by rw [upd_length]; omega) (by rw [upd_length]; exact hl)
    · rw [if_neg hc]
      exact Ev.neg hc (undo_l i s (by omega) hl)
theorem undo_spec (l : List Int) (hl : l.length ≤ 12) : Ev (fun k => spec_asUndo.f k l) (undoOwn (l.length - 1) l) := by
  unfold spec_asUndo.f
  refine Ev.bindc (x := l) (own_spec l (by omega)) ?_
  by_cases h : l.length = 0
  · refine Ev.shift ?_
    simp only [spec_asUndo.l0]
    rw [wrap64_id (by omega) (by omega)]
    exact Ev.neg (by omega) (Ev.ret (by rw [h]; rfl))
  · have e : wrap64 ((l.length : Int) - 1) = ((l.length - 1 : Nat) : Int) := by rw [wrap64_id (by omega) (by omega)]; omega
    rw [e]
    exact undo_l _ l (by omega) hl
theorem all_spec_l (a b : Int) (l : List Int) (hl : l.length ≤ 12) (d : Nat) : ∀ i : Nat, i + d = l.length → ∃ r, Ev (fun k => spec_l1All.l0 k a b l (l.length : Int) i) r ∧ (r = true ↔ ∀ m : Nat, i ≤ m → m < l.length → a ≤ rd l (m : Int) ∧ rd l (m : Int) ≤ b) := by
  induction d with
  | zero =>
    intro i hi
    refine ⟨true, Ev.shift ?_, by simp; intro m h1 h2; omega⟩
    simp only [spec_l1All.l0]
    exact Ev.neg (by omega) (Ev.ret rfl)
  | succ d ih =>
    intro i hi
    obtain ⟨r, hr, hq⟩ := ih (i + 1) (by omega)
    by_cases hc : a ≤ rd l (i : Int) ∧ rd l (i : Int) ≤ b
    · refine ⟨r, Ev.shift ?_, hq.trans ⟨fun h m h1 h2 => ?_, fun h m h1 h2 => h m (by omega) h2⟩⟩
      · simp only [spec_l1All.l0]
        refine Ev.pos (by omega) (Ev.pos (by omega) (Ev.pos (by omega) (Ev.bindc (spec_in _ _ _) (Ev.pos (by simpa using hc) ?_))))
        rw [wrap64_id (by omega) (by omega), cast1]
        exact hr
      · by_cases e : m = i
        · subst e; exact hc
        · exact h m (by omega) h2
    · refine ⟨false, Ev.shift ?_, by simp; exact ⟨i, Nat.le_refl _, by omega, fun h => by omega⟩⟩
      simp only [spec_l1All.l0]
      exact Ev.pos (by omega) (Ev.pos (by omega) (Ev.pos (by omega) (Ev.bindc (spec_in _ _ _) (Ev.neg (by simpa using hc) (Ev.ret rfl)))))
/-- what both answer for a list of at most 12 numbers, given the list that undoing gives -/
def unmod (l o : List Int) : List Int × Bool := if isAsc o = true ∧ st o (o.length - 1) = l then (o, true) else ([], false)
theorem un_end (l o : List Int) (ho : o.length ≤ 12) : Ev (fun k => (impl_IsAscent.f k o).bind fun t => if t = true then ((impl_modified.f k o).bind fun u => ((slices_Equal_int_int.f k u l).bind fun v => (if v = true then (some (o, true)) else (some (([] : List Int), false))))) else (some (([] : List Int), false))) (unmod l o) := by
  refine Ev.bind (isAscent_impl o) ?_
  by_cases h : isAsc o = true
  · refine Ev.pos h (Ev.bind (modified_ev o ho) (Ev.bind (equal_impl _ l (by rw [st_length]; omega)) ?_))
    by_cases e : st o (o.length - 1) = l
    · rw [show unmod l o = (o, true) from if_pos ⟨h, e⟩]; exact Ev.pos (by simp [e]) (Ev.ret rfl)
    · rw [show unmod l o = ([], false) from if_neg (fun x => e x.2)]; exact Ev.neg (by simp [e]) (Ev.ret rfl)
  · rw [show unmod l o = ([], false) from if_neg (fun x => h x.1)]; exact Ev.neg h (Ev.ret rfl)
theorem un_in (l : List Int) (hl : l.length ≤ 12) (i : Nat) (hi : i < l.length) {r : List Int × Bool} (d : Nat) : ∀ (j : Nat) (s : List Int) (t : Int), j + d = i → s.length = l.length → rd s (i : Int) = t →
    Ev (fun k => impl_UnmodifyAscent.l0 k l (upd (dnW t) j i s) (wrap64 ((i : Int) - 1))) r → Ev (fun k => impl_UnmodifyAscent.l1 k l s i i j) r := by
  induction d with
  | zero =>
    intro j s t hj hs ht h
    obtain rfl : j = i := by omega
    rw [upd_self] at h
    refine Ev.shift ?_
    simp only [impl_UnmodifyAscent.l1]
    exact Ev.neg (by omega) h
  | succ d ih =>
    intro j s t hj hs ht h
    refine Ev.shift ?_
    simp only [impl_UnmodifyAscent.l1]
    refine Ev.pos (by omega) (Ev.pos (by omega) (Ev.pos (by omega) (Ev.pos (by omega) (Ev.pos (by omega) ?_))))
    rw [wrap64_id (x := (j : Int) + 1) (by omega) (by omega), cast1, Int.toNat_natCast]
    by_cases hc : rd s (j : Int) > rd s (i : Int)
    · refine Ev.pos hc (ih (j + 1) _ t (by omega) (by rw [List.length_set]; exact hs) ?_ ?_)
      · rw [rd_lt _ i (by rw [List.length_set]; omega), List.getElem_set_ne (by omega), ← rd_lt _ i (by omega)]; exact ht
      · have e : wrap64 (rd s (j : Int) - 1) = dnW t (rd s (j : Int)) := by unfold dnW; rw [if_pos (by omega)]
        rw [e, upd_set _ _ _ _ (by omega) (by omega)]
        exact h
    · refine Ev.neg hc (ih (j + 1) _ t (by omega) hs ht ?_)
      rw [upd_skip _ _ _ _ (by omega) (by unfold dnW; rw [if_neg (by omega)]) (by omega)]
      exact h
theorem un_l (l : List Int) (hl : l.length ≤ 12) : ∀ (i : Nat) (s : List Int), i < l.length → s.length = l.length → Ev (fun k => impl_UnmodifyAscent.l0 k l s i) (unmod l (undoBy l i s))
  | 0, s, _, hs => by
    refine Ev.shift ?_
    simp only [impl_UnmodifyAscent.l0]
    exact Ev.neg (by omega) (un_end l s (by omega))
  | i + 1, s, h, hs => by
    have e1 : wrap64 (((i + 1 : Nat) : Int) - 1) = (i : Int) := by rw [wrap64_id (by omega) (by omega)]; omega
    refine Ev.shift ?_
    simp only [impl_UnmodifyAscent.l0, undoBy]
    rw [e1]
    refine Ev.pos (by omega) (Ev.pos (by omega) (Ev.pos (by omega) (Ev.pos (by omega) (Ev.pos (by omega) ?_))))
    by_cases hc : rd l (i : Int) < rd l ((i + 1 : Nat) : Int)
    · rw [if_pos hc]
      refine Ev.neg (by omega) (un_in l hl (i + 1) h (i + 1) 0 s _ (by omega) hs rfl ?_)
      rw [e1]
      exact un_l l hl i _ (by omega) (by rw [upd_length]; exact hs)
    · rw [if_neg hc]
      exact Ev.pos (by omega) (un_l l hl i s (by omega) hs)
theorem un_impl (l : List Int) (hl : l.length ≤ 12) : Ev (fun k => impl_UnmodifyAscent.f k l) (unmod l (undoBy l (l.length - 1) l)) := by
  unfold impl_UnmodifyAscent.f
  refine Ev.neg (by omega) ?_
  simp only [Option.bind_some, List.length_nil, List.nil_append]
  refine Ev.pos (by omega) ?_
  by_cases h : l.length = 0
  · refine Ev.shift ?_
    simp only [impl_UnmodifyAscent.l0]
    rw [wrap64_id (by omega) (by omega)]
    refine Ev.neg (by omega) ?_
    rw [h]
    exact un_end l l hl
  · have e : wrap64 ((l.length : Int) - 1) = ((l.length - 1 : Nat) : Int) := by rw [wrap64_id (by omega) (by omega)]; omega
    rw [e]
    exact un_l l hl _ l (by omega) rfl
theorem un_spec (l : List Int) (hl : l.length ≤ 12) (b : Bool) (hb : b = true → unmod l (undoOwn (l.length - 1) l) = ([], false)) : Ev (fun k => spec_UnmodifyAscent.j0 k l b) (unmod l (undoOwn (l.length - 1) l)) := by
  refine Ev.shift ?_
  simp only [spec_UnmodifyAscent.j0]
  cases b with
  | true => rw [hb rfl]; exact Ev.pos rfl (Ev.ret rfl)
  | false =>
    refine Ev.neg (by simp) (Ev.bind (undo_spec l hl) ?_)
    have ho : (undoOwn (l.length - 1) l).length ≤ 12 := by rw [undoOwn_length]; exact hl
    revert ho
    generalize undoOwn (l.length - 1) l = o
    intro ho
    refine Ev.bind (good_spec o) ?_
    by_cases h : isAsc o = true
    · refine Ev.pos h (Ev.bind (modify_ev o ho) (Ev.bind (equal_spec _ l (by rw [st_length]; omega)) ?_))
      by_cases e : st o (o.length - 1) = l
      · rw [show unmod l o = (o, true) from if_pos ⟨h, e⟩]; exact Ev.pos (by simp [e]) (Ev.ret rfl)
      · rw [show unmod l o = ([], false) from if_neg (fun x => e x.2)]; exact Ev.neg (by simp [e]) (Ev.ret rfl)
    · rw [show unmod l o = ([], false) from if_neg (fun x => h x.1)]; exact Ev.neg h (Ev.ret rfl)
theorem unmod_same (l : List Int) : unmod l (undoBy l (l.length - 1) l) = unmod l (undoOwn (l.length - 1) l) := by
  have hlen : ∀ o : List Int, st o (o.length - 1) = l → o.length = l.length := fun o h => by rw [← h, st_length]
  unfold unmod
  by_cases h1 : isAsc (undoBy l (l.length - 1) l) = true ∧ st (undoBy l (l.length - 1) l) ((undoBy l (l.length - 1) l).length - 1) = l
  · have e := undoOwn_modified h1.1
    rw [h1.2, hlen _ h1.2] at e
    rw [if_pos h1, e, if_pos h1]
  · rw [if_neg h1]
    by_cases h2 : isAsc (undoOwn (l.length - 1) l) = true ∧ st (undoOwn (l.length - 1) l) ((undoOwn (l.length - 1) l).length - 1) = l
    · have e := undoBy_modified h2.1
      rw [h2.2, hlen _ h2.2] at e
      rw [← e] at h2
      exact absurd h2 h1
    · rw [if_neg h2]
theorem UnmodifyAscent_both (l : List Int) (h3 : ∀ x ∈ l, (Lit.int .i64 x).wf = true) : ∃ r, Ev (fun k => impl_UnmodifyAscent.f k l) r ∧ Ev (fun k => spec_UnmodifyAscent.f k l) r ∧ r.1.length ≤ 1000 := by
  by_cases hl : 12 < l.length
  · refine ⟨([], false), ?_, ?_, by simp⟩
    · unfold impl_UnmodifyAscent.f; exact Ev.pos (by omega) (Ev.ret rfl)
    · unfold spec_UnmodifyAscent.f
      refine Ev.pos (by omega) (Ev.shift ?_)
      simp only [spec_UnmodifyAscent.j0]
      exact Ev.pos (by simp) (Ev.ret rfl)
  · have hl : l.length ≤ 12 := by omega
    refine ⟨_, un_impl l hl, ?_, ?_⟩
    · rw [unmod_same]
      unfold spec_UnmodifyAscent.f
      obtain ⟨r, hr, hq⟩ := all_spec_l 0 12 l hl l.length 0 (by omega)
      refine Ev.neg (by omega) (Ev.bind (a := r) (by unfold spec_l1All.f; exact hr) (un_spec l hl _ ?_))
      intro hb
      unfold unmod
      refine if_neg fun h => ?_
      have hr' : ¬ (r = true) := by simpa using hb
      refine hr' (hq.2 fun m _ hm => ?_)
      have hlen : (undoOwn (l.length - 1) l).length = l.length := undoOwn_length _ _
      have := modified_range h.1 m (by rw [hlen]; exact hm)
      rw [h.2] at this
      exact this
    · unfold unmod
      split
      · rw [undoBy_length]; omega
      · simp
theorem FnExactUnmodifyAscent : laws_FnExactUnmodifyAscent.Pure := by
  intro l h1 h2 h3
  refine Ev.at1 ?_
  unfold laws_FnExactUnmodifyAscent.f
  by_cases hb : (l.length : Int) > 1048576
  · exact Ev.pos hb (Ev.ret rfl)
  · have hl : l.length ≤ 1048576 := by omega
    obtain ⟨⟨x, b⟩, hi, hs, hx⟩ := UnmodifyAscent_both l h3
    replace hx : x.length ≤ 1000 := hx
    refine Ev.neg hb (Ev.bind (toIntS l hl) (Ev.bind hs (Ev.bind (toIntS l hl) (Ev.bind hi ?_))))
    have ex := eqIntS_same x (by omega)
    have mx := markIntS x (by omega) 1 (by omega) (by omega)
    have gx := heldIntS x.length (by omega) 1 (by omega) (by omega)
    refine Ev.bind ex (Ev.pos rfl ?_)
    refine Ev.shift ?_
    simp only [laws_FnExactUnmodifyAscent.j0]
    refine Ev.neg (by simp) (Ev.bind (toIntS l hl) (Ev.bind (eqIntS_same l hl) (Ev.pos rfl (Ev.bind (markIntS l hl 1 (by omega) (by omega)) ?_))))
    refine Ev.neg (by simp; omega) (Ev.bind ex (Ev.pos rfl ?_))
    refine Ev.shift ?_
    simp only [laws_FnExactUnmodifyAscent.j1]
    refine Ev.neg (by simp) (Ev.bind mx (Ev.bind gx (Ev.neg (by omega) (Ev.pos rfl ?_))))
    refine Ev.bind (toIntS l hl) (Ev.bind hi (Ev.bind ex (Ev.pos rfl ?_)))
    refine Ev.shift ?_
    simp only [laws_FnExactUnmodifyAscent.j2]
    exact Ev.neg (by simp) (Ev.bind gx (Ev.neg (by omega) (Ev.pos rfl (Ev.ret rfl))))

end Go.Proofs.Ythhnfeebacnibaa.Pure
