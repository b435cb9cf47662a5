import Derived.Test.YtojappijhehlpaaDoorXAscwith
namespace Go.Proofs.YtojappijhehlpaaDoor.Pure
open Go.RowKit Go.Proofs.YtojappijhehlpaaDoor.Q Go.Proofs.YtojappijhehlpaaDoorW.PrintWords Go.Proofs.YtojappijhehlpaaDoorW.PrintLast
set_option linter.unusedVariables false
set_option linter.unusedSimpArgs false

/-- the next one's end, from place i on -/
def nextAt (l : List Int) (i : Nat) : Option (List Int) := nextL (lastOf l i) (ascUpto l i) (l.drop i)
theorem goes_at {l : List Int} (hg : Goes (-1) 0 l) : ∀ i, i ≤ l.length → Goes (lastOf l i) (ascUpto l i) (l.drop i) ∧ (i > 0 → 0 ≤ rd l ((i - 1 : Nat) : Int))
 | 0, _ => ⟨by simpa [lastOf, ascUpto] using hg, fun h => by omega⟩
 | i + 1, h => by
  obtain ⟨h1, h2⟩ := goes_at hg i (by omega)
  rw [drop_rd' l i (by omega)] at h1
  obtain ⟨g1, g2, g3⟩ := h1
  rw [nx_at h2] at g3
  exact ⟨by simpa [lastOf] using g3, fun _ => by simpa using g1⟩
theorem nextAt_step {l : List Int} (hg : Goes (-1) 0 l) {i : Nat} (hi : i < l.length) : nextAt l i = match nextAt l (i + 1) with
  | some t => some (rd l (i : Int) :: t)
  | none => if rd l (i : Int) < ascBound l i then some ((rd l (i : Int) + 1) :: List.replicate (l.length - i - 1) 0) else none := by
 have h := goes_at hg i (by omega)
 unfold nextAt
 rw [drop_rd' l i hi]
 simp only [nextL]
 rw [nx_at h.2, topN_at h.2, show lastOf l (i + 1) = rd l (i : Int) by simp [lastOf], List.length_drop, show l.length - (i + 1) = l.length - i - 1 by omega]
 cases nextL (rd l (i : Int)) (ascUpto l (i + 1)) (l.drop (i + 1)) <;> rfl
theorem nextAt_up {l : List Int} (hg : Goes (-1) 0 l) : ∀ (i : Nat) (s : List Int), i ≤ l.length → nextAt l i = some s → nextAt l 0 = some (l.take i ++ s)
 | 0, s, _, h => by simpa using h
 | i + 1, s, hi, h => by
  have h2 := nextAt_step hg (i := i) (by omega)
  rw [h] at h2
  have := nextAt_up hg i _ (by omega) h2
  rw [this, List.take_succ_eq_append_getElem (by omega), rd_lt l i (by omega)]
  simp only [List.append_assoc, List.cons_append, List.nil_append]
def nextR (l : List Int) : List Int × Bool := match nextL (-1) 0 l with
 | some t => (t, true)
 | none => ([], false)
theorem nextR_len {l : List Int} (hl : l.length ≤ 12) (hg : Goes (-1) 0 l) : (nextR l).1.length ≤ 12 := by
 unfold nextR
 cases h : nextL (-1) 0 l with
 | none => simp
 | some t => have := ((next_spec l (-1) 0 (by omega) hg).1 t h).2.1; simp; omega
/-- the one with the next rank is the next one -/
theorem with_next {l : List Int} (hl : l.length ≤ 12) (hg : Goes (-1) 0 l) : withR (l.length : Int) (rank (-1) 0 l + 1) = nextR l := by
 obtain ⟨h1, h2⟩ := next_spec l (-1) 0 (by omega) hg
 have hr := rank_range l (-1) 0 hg
 unfold withR nextR
 rw [Int.toNat_natCast]
 cases h : nextL (-1) 0 l with
 | none => rw [if_neg (by have := h2 h; omega)]
 | some t =>
  obtain ⟨g1, g2, g3⟩ := h1 t h
  have hr2 := rank_range t (-1) 0 g1
  rw [g2] at hr2
  rw [if_pos (by omega), ← g3, ← g2, unrank_rank t (-1) 0 (by omega) g1]

end Go.Proofs.YtojappijhehlpaaDoor.Pure
