import Derived.Test.YthhnfeebacnibaaXAscent
import Derived.Test.YthhnfeebacnibaaXModify
import Derived.Test.YthhnfeebacnibaaXEqual
namespace Go.Proofs.Ythhnfeebacnibaa.Pure
open Go.RowKit Go.Proofs.Ythhnfeebacnibaa.Q Go.Proofs.YthhnfeebacnibaaW.PrintWords Go.Proofs.YthhnfeebacnibaaW.PrintLast
set_option linter.unusedVariables false
set_option linter.unusedSimpArgs false

theorem rd_st_above (l : List Int) : ∀ i m : Nat, i ≤ m → m < l.length → rd (st l i) (m : Int) = rd l (m : Int)
  | 0, m, _, _ => rfl
  | i + 1, m, h, hm => by
    simp only [st]
    split
    · rw [rd_upd _ _ _ _ (by rw [st_length]; exact hm), if_neg (by omega)]
      exact rd_st_above l i m (by omega) hm
    · exact rd_st_above l i m (by omega) hm
/-- what stays true of an ascent sequence while it is modified -/
theorem st_range (l : List Int) (hr : ∀ m : Nat, m < l.length → 0 ≤ rd l (m : Int) ∧ rd l (m : Int) ≤ ascBound l m) (hn : l.length ≤ 12) : ∀ i m : Nat, m ≤ i → i < l.length → 0 ≤ rd (st l i) (m : Int) ∧ rd (st l i) (m : Int) ≤ ascUpto l (i + 1) := by
  intro i
  induction i with
  | zero =>
    intro m hm hi
    obtain rfl : m = 0 := by omega
    have h := hr 0 hi
    simp only [ascBound, if_pos, ascUpto, st] at h ⊢
    exact h
  | succ i ih =>
    intro m hm hi
    have ha := ascUpto_range l (i + 1)
    have hu : ascUpto l (i + 1 + 1) = ascUpto l (i + 1) + (if rd l (i : Int) < rd l ((i + 1 : Nat) : Int) then 1 else 0) := rfl
    have hx := hr (i + 1) hi
    have hb : ascBound l (i + 1) = ascUpto l (i + 1) + 1 := by simp [ascBound]
    by_cases hc : rd l (i : Int) < rd l ((i + 1 : Nat) : Int)
    · rw [if_pos hc] at hu
      simp only [st, if_pos hc]
      rw [rd_upd _ _ _ _ (by rw [st_length]; omega)]
      by_cases hmi : m < i + 1
      · rw [if_pos hmi]
        have h := ih m (by omega) (by omega)
        unfold upW
        split
        · rw [wrap64_id (by omega) (by omega)]; omega
        · omega
      · rw [if_neg hmi]
        obtain rfl : m = i + 1 := by omega
        rw [rd_st_above l i (i + 1) (by omega) hi]
        omega
    · rw [if_neg hc] at hu
      simp only [st, if_neg hc]
      by_cases hmi : m < i + 1
      · have h := ih m (by omega) (by omega)
        omega
      · obtain rfl : m = i + 1 := by omega
        rw [rd_st_above l i (i + 1) (by omega) hi]
        have h := ih i (Nat.le_refl _) (by omega)
        rw [rd_st_above l i i (Nat.le_refl _) (by omega)] at h
        omega
/-- each list in between has its ascents where the first list has them -/
theorem st_ascent (l : List Int) (hr : ∀ m : Nat, m < l.length → 0 ≤ rd l (m : Int) ∧ rd l (m : Int) ≤ ascBound l m) (hn : l.length ≤ 12) (m : Nat) : ∀ i : Nat, m + 1 ≤ i → i < l.length → (rd (st l i) (m : Int) < rd (st l i) ((m + 1 : Nat) : Int) ↔ rd l (m : Int) < rd l ((m + 1 : Nat) : Int)) := by
  intro i
  induction i with
  | zero => intro h; omega
  | succ i ih =>
    intro h hi
    by_cases hmi : m = i
    · subst hmi
      rw [rd_st_above l (m + 1) (m + 1) (Nat.le_refl _) hi]
      by_cases hc : rd l (m : Int) < rd l ((m + 1 : Nat) : Int)
      · simp only [st, if_pos hc]
        rw [rd_upd _ _ _ _ (by rw [st_length]; omega), if_pos (by omega), rd_st_above l m m (Nat.le_refl _) (by omega)]
        unfold upW
        rw [if_neg (by omega)]
      · simp only [st, if_neg hc]
        rw [rd_st_above l m m (Nat.le_refl _) (by omega)]
    · have h1 := ih (by omega) (by omega)
      by_cases hc : rd l (i : Int) < rd l ((i + 1 : Nat) : Int)
      · simp only [st, if_pos hc]
        rw [rd_upd _ _ _ _ (by rw [st_length]; omega), rd_upd _ _ _ _ (by rw [st_length]; omega), if_pos (by omega), if_pos (by omega)]
        have b1 := st_range l hr hn i m (by omega) (by omega)
        have b2 := st_range l hr hn i (m + 1) (by omega) (by omega)
        have ha := ascUpto_range l (i + 1)
        unfold upW
        rw [wrap64_id (by omega) (by omega), wrap64_id (by omega) (by omega)]
        split <;> split <;> omega
      · simp only [st, if_neg hc]; exact h1
/-- one number, in a step of undoing -/
def dnW (t y : Int) : Int := if y > t then wrap64 (y - 1) else y
/-- undoing, from place i down; the ascents of p are looked at -/
def undoBy (p : List Int) : Nat → List Int → List Int
  | 0, s => s
  | i + 1, s => undoBy p i (if rd p (i : Int) < rd p ((i + 1 : Nat) : Int) then upd (dnW (rd s ((i + 1 : Nat) : Int))) 0 (i + 1) s else s)
/-- undoing; the ascents of the list itself are looked at -/
def undoOwn : Nat → List Int → List Int
  | 0, s => s
  | i + 1, s => undoOwn i (if rd s (i : Int) < rd s ((i + 1 : Nat) : Int) then upd (dnW (rd s ((i + 1 : Nat) : Int))) 0 (i + 1) s else s)
theorem undo_step (l : List Int) (hr : ∀ m : Nat, m < l.length → 0 ≤ rd l (m : Int) ∧ rd l (m : Int) ≤ ascBound l m) (hn : l.length ≤ 12) (i : Nat) (hi : i + 1 < l.length) :
    (if rd l (i : Int) < rd l ((i + 1 : Nat) : Int) then upd (dnW (rd (st l (i + 1)) ((i + 1 : Nat) : Int))) 0 (i + 1) (st l (i + 1)) else st l (i + 1)) = st l i := by
  by_cases hc : rd l (i : Int) < rd l ((i + 1 : Nat) : Int)
  · rw [if_pos hc, rd_st_above l (i + 1) (i + 1) (Nat.le_refl _) hi]
    simp only [st, if_pos hc]
    apply List.ext_getElem
    · rw [upd_length, upd_length]
    · intro m h1 h2
      have e1 := rd_lt _ m h1
      have e2 := rd_lt _ m h2
      rw [← e1, ← e2, rd_upd _ _ _ _ (by rw [upd_length]; exact h2), rd_upd _ _ _ _ h2]
      by_cases hm : m < i + 1
      · rw [if_pos hm, if_pos hm]
        have b1 := st_range l hr hn i m (by omega) (by omega)
        have ha := ascUpto_range l (i + 1)
        unfold upW dnW
        rw [wrap64_id (x := rd (st l i) (m : Int) + 1) (by omega) (by omega)]
        split
        · rw [if_pos (by omega), wrap64_id (by omega) (by omega)]; omega
        · rw [if_neg (by omega)]
      · rw [if_neg hm, if_neg hm]
  · rw [if_neg hc]
    simp only [st, if_neg hc]
theorem undoBy_st (l p : List Int) (hr : ∀ m : Nat, m < l.length → 0 ≤ rd l (m : Int) ∧ rd l (m : Int) ≤ ascBound l m) (hn : l.length ≤ 12) (hp : ∀ m : Nat, m + 1 < l.length → (rd p (m : Int) < rd p ((m + 1 : Nat) : Int) ↔ rd l (m : Int) < rd l ((m + 1 : Nat) : Int))) : ∀ i : Nat, i < l.length → undoBy p i (st l i) = l
  | 0, _ => rfl
  | i + 1, h => by
    simp only [undoBy]
    have e := undo_step l hr hn i h
    have hq := hp i h
    by_cases hc : rd l (i : Int) < rd l ((i + 1 : Nat) : Int)
    · rw [if_pos (hq.2 hc)]; rw [if_pos hc] at e; rw [e]; exact undoBy_st l p hr hn hp i (by omega)
    · rw [if_neg (fun h => hc (hq.1 h))]; rw [if_neg hc] at e; rw [e]; exact undoBy_st l p hr hn hp i (by omega)
theorem undoOwn_st (l : List Int) (hr : ∀ m : Nat, m < l.length → 0 ≤ rd l (m : Int) ∧ rd l (m : Int) ≤ ascBound l m) (hn : l.length ≤ 12) : ∀ i : Nat, i < l.length → undoOwn i (st l i) = l
  | 0, _ => rfl
  | i + 1, h => by
    simp only [undoOwn]
    have e := undo_step l hr hn i h
    have hq := st_ascent l hr hn i (i + 1) (Nat.le_refl _) h
    by_cases hc : rd l (i : Int) < rd l ((i + 1 : Nat) : Int)
    · rw [if_pos (hq.2 hc)]; rw [if_pos hc] at e; rw [e]; exact undoOwn_st l hr hn i (by omega)
    · rw [if_neg (fun h => hc (hq.1 h))]; rw [if_neg hc] at e; rw [e]; exact undoOwn_st l hr hn i (by omega)
theorem ascFrom_all (l : List Int) : ∀ d i : Nat, ascFrom l d i = true → ∀ m : Nat, i ≤ m → m < i + d → 0 ≤ rd l (m : Int) ∧ rd l (m : Int) ≤ ascBound l m
  | 0, i, _, m, h1, h2 => by omega
  | d + 1, i, h, m, h1, h2 => by
    simp only [ascFrom] at h
    split at h
    · rename_i hc
      by_cases e : m = i
      · subst e; exact hc
      · exact ascFrom_all l d (i + 1) h m (by omega) (by omega)
    · cases h
theorem isAsc_all {l : List Int} (h : isAsc l = true) : ∀ m : Nat, m < l.length → 0 ≤ rd l (m : Int) ∧ rd l (m : Int) ≤ ascBound l m := by
  unfold isAsc at h
  split at h
  · cases h
  · exact fun m hm => ascFrom_all l _ _ h m (by omega) (by omega)
/-- an accepted list, undone by itself -/
theorem undoOwn_modified {l : List Int} (h : isAsc l = true) : undoOwn (l.length - 1) (st l (l.length - 1)) = l := by
  by_cases h0 : l.length = 0
  · rw [h0]; rfl
  · exact undoOwn_st l (isAsc_all h) (isAsc_len h) _ (by omega)
theorem undoBy_modified {l : List Int} (h : isAsc l = true) : undoBy (st l (l.length - 1)) (l.length - 1) (st l (l.length - 1)) = l := by
  by_cases h0 : l.length = 0
  · rw [h0]; rfl
  · exact undoBy_st l _ (isAsc_all h) (isAsc_len h) (fun m hm => st_ascent l (isAsc_all h) (isAsc_len h) m _ (by omega) (by omega)) _ (by omega)
theorem modified_range {l : List Int} (h : isAsc l = true) (m : Nat) (hm : m < l.length) : 0 ≤ rd (st l (l.length - 1)) (m : Int) ∧ rd (st l (l.length - 1)) (m : Int) ≤ 12 := by
  have h1 := st_range l (isAsc_all h) (isAsc_len h) (l.length - 1) m (by omega) (by omega)
  have h2 := ascUpto_range l (l.length - 1 + 1)
  have h3 := isAsc_len h
  omega

end Go.Proofs.Ythhnfeebacnibaa.Pure
