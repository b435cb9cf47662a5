import Derived.Test.YtmdldleodieooaaQSpecAsnext
import Derived.Test.YtmdldleodieooaaQSpecL1Own
import Derived.Test.YtmdldleodieooaaXAscwith
namespace Go.Proofs.Ytmdldleodieooaa.Pure
open Go.RowKit Go.Proofs.Ytmdldleodieooaa.Q Go.Proofs.YtmdldleodieooaaW.PrintWords Go.Proofs.YtmdldleodieooaaW.PrintLast
set_option linter.unusedVariables false
set_option linter.unusedSimpArgs false

theorem own_take (l : List Int) (hl : l.length ≤ 1048576) : spec_l1Own.f l = some l := by
 unfold spec_l1Own.f
 rw [Option.bind_some, if_pos (by simp; omega)]; rfl
theorem asNext_l1 (x0 : List Int) (hl : x0.length ≤ 12) (d : Nat) : ∀ (x5 : List Int), x5.length + d = x0.length → Ev (fun k => spec_asNext.l1 k x0 x5) (x5 ++ List.replicate d 0, true) := by
 induction d with
 | zero =>
  intro x5 h
  refine Ev.shift ?_
  simp only [spec_asNext.l1]
  exact Ev.neg (by omega) (Ev.ret (by simp))
 | succ d ih =>
  intro x5 h
  refine Ev.shift ?_
  simp only [spec_asNext.l1]
  refine Ev.pos (by omega) (Ev.bindc rfl (Ev.pos (by simp; omega) ?_))
  have := ih (x5 ++ [0]) (by simp; omega)
  rw [List.append_assoc] at this
  exact this
/-- the next one's end, from place i on -/
def nextAt (l : List Int) (i : Nat) : Option (List Int) := nextL (lastOf l i) (ascUpto l i) (l.drop i)
theorem goes_at {l : List Int} (hg : Goes (-1) 0 l) : ∀ i, i ≤ l.length → Goes (lastOf l i) (ascUpto l i) (l.drop i) ∧ (i > 0 → 0 ≤ rd l ((i - 1 : Nat) : Int))
 | 0, _ => ⟨by simpa [lastOf, ascUpto] using hg, fun h => by omega⟩
 | i + 1, h => by
  obtain ⟨h1, h2⟩ := goes_at hg i (by omega)
  rw [drop_rd' l i (by omega)] at h1
  obtain ⟨g1, g2, g3⟩ := h1
  rw [nx_at h2] at g3
  exact ⟨by simpa [lastOf] using g3, fun _ => by simpa using g1⟩
theorem nextAt_step {l : List Int} (hg : Goes (-1) 0 l) {i : Nat} (hi : i < l.length) : nextAt l i = match nextAt l (i + 1) with
  | some t => some (rd l (i : Int) :: t)
  | none => if rd l (i : Int) < ascBound l i then some ((rd l (i : Int) + 1) :: List.replicate (l.length - i - 1) 0) else none := by
 have h := goes_at hg i (by omega)
 unfold nextAt
 rw [drop_rd' l i hi]
 simp only [nextL]
 rw [nx_at h.2, topN_at h.2, show lastOf l (i + 1) = rd l (i : Int) by simp [lastOf], List.length_drop, show l.length - (i + 1) = l.length - i - 1 by omega]
 cases nextL (rd l (i : Int)) (ascUpto l (i + 1)) (l.drop (i + 1)) <;> rfl
theorem nextAt_up {l : List Int} (hg : Goes (-1) 0 l) : ∀ (i : Nat) (s : List Int), i ≤ l.length → nextAt l i = some s → nextAt l 0 = some (l.take i ++ s)
 | 0, s, _, h => by simpa using h
 | i + 1, s, hi, h => by
  have h2 := nextAt_step hg (i := i) (by omega)
  rw [h] at h2
  have := nextAt_up hg i _ (by omega) h2
  rw [this, List.take_succ_eq_append_getElem (by omega), rd_lt l i (by omega)]
  simp only [List.append_assoc, List.cons_append, List.nil_append]
def nextR (l : List Int) : List Int × Bool := match nextL (-1) 0 l with
 | some t => (t, true)
 | none => ([], false)
theorem asNext_l0 (l : List Int) (hl : l.length ≤ 12) (hg : Goes (-1) 0 l) : ∀ (i : Nat), i < l.length → nextAt l (i + 1) = none → Ev (fun k => spec_asNext.l0 k l (i : Int)) (nextR l)
 | 0, hi, hn => by
  refine Ev.shift ?_
  simp only [spec_asNext.l0]
  refine Ev.neg (by omega) (Ev.ret ?_)
  have h := nextAt_step hg hi
  rw [hn] at h
  have h0 := goes_at hg 0 (by omega)
  rw [drop_rd' l 0 hi] at h0
  have h1 := h0.1.1
  rw [if_neg (by simp only [ascBound, if_true]; omega)] at h
  unfold nextR
  have e : nextL (-1) 0 l = nextAt l 0 := by simp [nextAt, lastOf, ascUpto]
  rw [e, h]
 | i + 1, hi, hn => by
  have h := nextAt_step hg hi
  rw [hn] at h
  have hga := goes_at hg (i + 1) (by omega)
  rw [drop_rd' l (i + 1) hi] at hga
  have hr := ascUpto_range l (i + 1)
  have g2 := hga.1.2.1
  rw [topN_at hga.2] at g2
  have hab : ascBound l (i + 1) = ascUpto l (i + 1) + 1 := by simp [ascBound]
  have e : nextL (-1) 0 l = nextAt l 0 := by simp [nextAt, lastOf, ascUpto]
  refine Ev.shift ?_
  simp only [spec_asNext.l0]
  refine Ev.pos (by omega) (Ev.pos (by omega) (Ev.pos (by omega) (Ev.pos (by omega) ?_)))
  rw [Int.toNat_natCast]
  refine Ev.bind (bound_spec l (i + 1) hl (by omega)) ?_
  by_cases hc : rd l ((i + 1 : Nat) : Int) < ascBound l (i + 1)
  ·refine Ev.pos hc (Ev.bindc (own_take _ (by simp; omega)) (Ev.bindc rfl (Ev.pos (by simp; omega) ?_)))
   rw [if_pos hc] at h
   have h2 := nextAt_up hg (i + 1) _ (by omega) h
   rw [wrap64_id (x := rd l ((i + 1 : Nat) : Int) + 1) (by have := hga.1.1; omega) (by omega)]
   have := asNext_l1 l hl (l.length - (i + 1) - 1) (l.take (i + 1) ++ [rd l ((i + 1 : Nat) : Int) + 1]) (by simp; omega)
   refine Ev.eq this ?_
   unfold nextR
   rw [e, h2]; simp
  ·rw [if_neg hc] at h
   refine Ev.neg hc ?_
   rw [wrap64_id (by omega) (by omega), show ((i + 1 : Nat) : Int) - 1 = (i : Int) by omega]
   exact asNext_l0 l hl hg i (by omega) h
theorem asNext_ev (l : List Int) (hl : l.length ≤ 12) (hg : Goes (-1) 0 l) : Ev (fun k => spec_asNext.f k l) (nextR l) := by
 unfold spec_asNext.f
 rw [wrap64_id (by omega) (by omega)]
 by_cases h : l.length = 0
 ·refine Ev.shift ?_
  simp only [spec_asNext.l0]
  refine Ev.neg (by omega) (Ev.ret ?_)
  have : l = [] := List.length_eq_zero_iff.1 h
  subst this; rfl
 ·rw [show (l.length : Int) - 1 = ((l.length - 1 : Nat) : Int) by omega]
  refine asNext_l0 l hl hg (l.length - 1) (by omega) ?_
  unfold nextAt
  rw [List.drop_of_length_le (by omega)]; rfl
theorem nextR_len {l : List Int} (hl : l.length ≤ 12) (hg : Goes (-1) 0 l) : (nextR l).1.length ≤ 12 := by
 unfold nextR
 cases h : nextL (-1) 0 l with
 | none => simp
 | some t => have := ((next_spec l (-1) 0 (by omega) hg).1 t h).2.1; simp; omega
/-- the one with the next rank is the next one -/
theorem with_next {l : List Int} (hl : l.length ≤ 12) (hg : Goes (-1) 0 l) : withR (l.length : Int) (rank (-1) 0 l + 1) = nextR l := by
 obtain ⟨h1, h2⟩ := next_spec l (-1) 0 (by omega) hg
 have hr := rank_range l (-1) 0 hg
 unfold withR nextR
 rw [Int.toNat_natCast]
 cases h : nextL (-1) 0 l with
 | none => rw [if_neg (by have := h2 h; omega)]
 | some t =>
  obtain ⟨g1, g2, g3⟩ := h1 t h
  have hr2 := rank_range t (-1) 0 g1
  rw [g2] at hr2
  rw [if_pos (by omega), ← g3, ← g2, unrank_rank t (-1) 0 (by omega) g1]

end Go.Proofs.Ytmdldleodieooaa.Pure
