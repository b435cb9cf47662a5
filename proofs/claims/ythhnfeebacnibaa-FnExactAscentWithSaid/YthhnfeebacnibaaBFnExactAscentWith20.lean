import Derived.Test.YthhnfeebacnibaaBFnExactAscentWith5
import Derived.Test.YthhnfeebacnibaaBFnExactAscentWith6
import Derived.Test.YthhnfeebacnibaaBFnExactAscentWith10
import Derived.Test.YthhnfeebacnibaaBFnExactAscentWith11
import Derived.Test.YthhnfeebacnibaaBFnExactAscentWith13
import Derived.Test.YthhnfeebacnibaaBFnExactAscentWith17
import Derived.Test.YthhnfeebacnibaaBFnExactAscentWith18
import Derived.Test.YthhnfeebacnibaaBFnExactAscentWith19
namespace Go.Proofs.Ythhnfeebacnibaa.Pure
open Go.RowKit Go.Proofs.Ythhnfeebacnibaa.Q Go.Proofs.YthhnfeebacnibaaW.PrintWords Go.Proofs.YthhnfeebacnibaaW.PrintLast
set_option linter.unusedVariables false
set_option linter.unusedSimpArgs false

theorem own_take (l : List Int) (hl : l.length ≤ 1048576) : spec_l1Own.f l = some l := by
  unfold spec_l1Own.f
  rw [Option.bind_some, if_pos (by simp; omega)]; rfl
theorem asNext_l1 (x0 : List Int) (hl : x0.length ≤ 12) (d : Nat) : ∀ (x5 : List Int), x5.length + d = x0.length → Ev (fun k => spec_asNext.l1 k x0 x5) (x5 ++ List.replicate d 0, true) := by
  induction d with
  | zero =>
    intro x5 h
    refine Ev.shift ?_
    simp only [spec_asNext.l1]
    exact Ev.neg (by omega) (Ev.ret (by simp))
  | succ d ih =>
    intro x5 h
    refine Ev.shift ?_
    simp only [spec_asNext.l1]
    refine Ev.pos (by omega) (Ev.bindc rfl (Ev.pos (by simp; omega) ?_))
    have := ih (x5 ++ [0]) (by simp; omega)
    rw [List.append_assoc] at this
    exact this
/-- the next one's end, from place i on -/
def nextAt (l : List Int) (i : Nat) : Option (List Int) := nextL (lastOf l i) (ascUpto l i) (l.drop i)
theorem goes_at {l : List Int} (hg : Goes (-1) 0 l) : ∀ i, i ≤ l.length → Goes (lastOf l i) (ascUpto l i) (l.drop i) ∧ (i > 0 → 0 ≤ rd l ((i - 1 : Nat) : Int))
  | 0, _ => ⟨by simpa [lastOf, ascUpto] using hg, fun h => by omega⟩
  | i + 1, h => by
    obtain ⟨h1, h2⟩ := goes_at hg i (by omega)
    rw [drop_rd' l i (by omega)] at h1
    obtain ⟨g1, g2, g3⟩ := h1
    rw [nx_at h2] at g3
    exact ⟨by simpa [lastOf] using g3, fun _ => by simpa using g1⟩
theorem nextAt_step {l : List Int} (hg : Goes (-1) 0 l) {i : Nat} (hi : i < l.length) : nextAt l i = match nextAt l (i + 1) with
    | some t => some (rd l (i : Int) :: t)
    | none => if rd l (i : Int) < ascBound l i then some ((rd l (i : Int) + 1) :: List.replicate (l.length - i - 1) 0) else none := by
  have h := goes_at hg i (by omega)
  unfold nextAt
  rw [drop_rd' l i hi]
  simp only [nextL]
  rw [nx_at h.2, topN_at h.2, show lastOf l (i + 1) = rd l (i : Int) by simp [lastOf], List.length_drop, show l.length - (i + 1) = l.length - i - 1 by omega]
  cases nextL (rd l (i : Int)) (ascUpto l (i + 1)) (l.drop (i + 1)) <;> rfl
theorem nextAt_up {l : List Int} (hg : Goes (-1) 0 l) : ∀ (i : Nat) (s : List Int), i ≤ l.length → nextAt l i = some s → nextAt l 0 = some (l.take i ++ s)
  | 0, s, _, h => by simpa using h
  | i + 1, s, hi, h => by
    have h2 := nextAt_step hg (i := i) (by omega)
    rw [h] at h2
    have := nextAt_up hg i _ (by omega) h2
    rw [this, List.take_succ_eq_append_getElem (by omega), rd_lt l i (by omega)]
    simp only [List.append_assoc, List.cons_append, List.nil_append]
def nextR (l : List Int) : List Int × Bool := match nextL (-1) 0 l with
  | some t => (t, true)
  | none => ([], false)
theorem asNext_l0 (l : List Int) (hl : l.length ≤ 12) (hg : Goes (-1) 0 l) : ∀ (i : Nat), i < l.length → nextAt l (i + 1) = none → Ev (fun k => spec_asNext.l0 k l (i : Int)) (nextR l)
  | 0, hi, hn => by
    refine Ev.shift ?_
    simp only [spec_asNext.l0]
    refine Ev.neg (by omega) (Ev.ret ?_)
    have h := nextAt_step hg hi
    rw [hn] at h
    have h0 := goes_at hg 0 (by omega)
    rw [drop_rd' l 0 hi] at h0
    have h1 := h0.1.1
    rw [if_neg (by simp only [ascBound, if_true]; omega)] at h
    unfold nextR
    have e : nextL (-1) 0 l = nextAt l 0 := by simp [nextAt, lastOf, ascUpto]
    rw [e, h]
  | i + 1, hi, hn => by
    have h := nextAt_step hg hi
    rw [hn] at h
    have hga := goes_at hg (i + 1) (by omega)
    rw [drop_rd' l (i + 1) hi] at hga
    have hr := ascUpto_range l (i + 1)
    have g2 := hga.1.2.1
    rw [topN_at hga.2] at g2
    have hab : ascBound l (i + 1) = ascUpto l (i + 1) + 1 := by simp [ascBound]
    have e : nextL (-1) 0 l = nextAt l 0 := by simp [nextAt, lastOf, ascUpto]
    refine Ev.shift ?_
    simp only [spec_asNext.l0]
    refine Ev.pos (by omega) (Ev.pos (by omega) (Ev.pos (by omega) (Ev.pos (by omega) ?_)))
    rw [Int.toNat_natCast]
    refine Ev.bind (bound_spec l (i + 1) hl (by omega)) ?_
    by_cases hc : rd l ((i + 1 : Nat) : Int) < ascBound l (i + 1)
    · refine Ev.pos hc (Ev.bindc (own_take _ (by simp; omega)) (Ev.bindc rfl (Ev.pos (by simp; omega) ?_)))
      rw [if_pos hc] at h
      have h2 := nextAt_up hg (i + 1) _ (by omega) h
      rw [wrap64_id (x := rd l ((i + 1 : Nat) : Int) + 1) (by have := hga.1.1; omega) (by omega)]
      have := asNext_l1 l hl (l.length - (i + 1) - 1) (l.take (i + 1) ++ [rd l ((i + 1 : Nat) : Int) + 1]) (by simp; omega)
      refine Ev.eq this ?_
      unfold nextR
      rw [e, h2]; simp
    · rw [if_neg hc] at h
      refine Ev.neg hc ?_
      rw [wrap64_id (by omega) (by omega), show ((i + 1 : Nat) : Int) - 1 = (i : Int) by omega]
      exact asNext_l0 l hl hg i (by omega) h
theorem asNext_ev (l : List Int) (hl : l.length ≤ 12) (hg : Goes (-1) 0 l) : Ev (fun k => spec_asNext.f k l) (nextR l) := by
  unfold spec_asNext.f
  rw [wrap64_id (by omega) (by omega)]
  by_cases h : l.length = 0
  · refine Ev.shift ?_
    simp only [spec_asNext.l0]
    refine Ev.neg (by omega) (Ev.ret ?_)
    have : l = [] := List.length_eq_zero_iff.1 h
    subst this; rfl
  · rw [show (l.length : Int) - 1 = ((l.length - 1 : Nat) : Int) by omega]
    refine asNext_l0 l hl hg (l.length - 1) (by omega) ?_
    unfold nextAt
    rw [List.drop_of_length_le (by omega)]; rfl
theorem nextR_len {l : List Int} (hl : l.length ≤ 12) (hg : Goes (-1) 0 l) : (nextR l).1.length ≤ 12 := by
  unfold nextR
  cases h : nextL (-1) 0 l with
  | none => simp
  | some t => have := ((next_spec l (-1) 0 (by omega) hg).1 t h).2.1; simp; omega
/-- the one with the next rank is the next one -/
theorem with_next {l : List Int} (hl : l.length ≤ 12) (hg : Goes (-1) 0 l) : withR (l.length : Int) (rank (-1) 0 l + 1) = nextR l := by
  obtain ⟨h1, h2⟩ := next_spec l (-1) 0 (by omega) hg
  have hr := rank_range l (-1) 0 hg
  unfold withR nextR
  rw [Int.toNat_natCast]
  cases h : nextL (-1) 0 l with
  | none => rw [if_neg (by have := h2 h; omega)]
  | some t =>
    obtain ⟨g1, g2, g3⟩ := h1 t h
    have hr2 := rank_range t (-1) 0 g1
    rw [g2] at hr2
    rw [if_pos (by omega), ← g3, ← g2, unrank_rank t (-1) 0 (by omega) g1]

end Go.Proofs.Ythhnfeebacnibaa.Pure

namespace Go.Proofs.Ythhnfeebacnibaa.Pure
open Go.RowKit Go.Proofs.Ythhnfeebacnibaa.Q Go.Proofs.YthhnfeebacnibaaW.PrintWords Go.Proofs.YthhnfeebacnibaaW.PrintLast
set_option linter.unusedVariables false
set_option linter.unusedSimpArgs false

theorem lastOf_take (l : List Int) (i : Nat) (hi : i ≤ l.length) : lastOf (l.take i) i = lastOf l i := by
  unfold lastOf
  by_cases h : i = 0
  · rw [if_pos h, if_pos h]
  · rw [if_neg h, if_neg h, rd_lt _ _ (by simp; omega), rd_lt l _ (by omega), List.getElem_take]
theorem srank_l1 (l : List Int) (hl : l.length ≤ 12) (i : Nat) (hi : i < l.length) (hg : i > 0 → 0 ≤ rd l ((i - 1 : Nat) : Int)) (hx : 0 ≤ rd l (i : Int) ∧ rd l (i : Int) ≤ 13) (acc : Int) (R : Int × Bool) (hacc : 0 ≤ acc)
    (hs : acc + sumTo (fun y => wys (l.length - i - 1) y (nx (lastOf l i) (ascUpto l i) y)) (rd l (i : Int)).toNat ≤ 1946195068359375)
    (hk : Ev (fun k => spec_RankAscent.l0 k l (acc + sumTo (fun y => wys (l.length - i - 1) y (nx (lastOf l i) (ascUpto l i) y)) (rd l (i : Int)).toNat) l (l.length : Int) ((i + 1 : Nat) : Int)) R) (d : Nat) :
    ∀ j : Nat, j + d = (rd l (i : Int)).toNat → Ev (fun k => spec_RankAscent.l1 k l (acc + sumTo (fun y => wys (l.length - i - 1) y (nx (lastOf l i) (ascUpto l i) y)) j) i (rd l (i : Int)) (j : Int) l (l.length : Int) i) R := by
  induction d with
  | zero =>
    intro j hj
    refine Ev.shift ?_
    simp only [spec_RankAscent.l1]
    refine Ev.neg (by omega) ?_
    rw [wrap64_id (x := (i : Int) + 1) (by omega) (by omega), cast1, show j = (rd l (i : Int)).toNat by omega]
    exact hk
  | succ d ih =>
    intro j hj
    have h1 := sumTo_mono (f := fun y => wys (l.length - i - 1) y (nx (lastOf l i) (ascUpto l i) y)) (m := j + 1) (n := (rd l (i : Int)).toNat) (by omega) (fun i _ => wys_nonneg _ _ _)
    have h2 := sumTo_nonneg (f := fun y => wys (l.length - i - 1) y (nx (lastOf l i) (ascUpto l i) y)) (n := j) (fun i _ => wys_nonneg _ _ _)
    have h3 : 0 ≤ wys (l.length - i - 1) (j : Int) (nx (lastOf l i) (ascUpto l i) (j : Int)) := wys_nonneg _ _ _
    simp only [sumTo] at h1
    have hlen : (l.take i).length = i := by simp; omega
    have hc := count_ev (l.take i) (j : Int) (l.length - i - 1) l.length (by rw [hlen]; omega) hl (by
      rw [hlen]; intro hp
      rw [rd_lt _ _ (by rw [hlen]; omega), List.getElem_take, ← rd_lt l (i - 1) (by omega)]
      exact hg hp) (by omega)
    rw [hlen, lastOf_take l i (by omega), ascUpto_take l i (by omega) i (Nat.le_refl _)] at hc
    refine Ev.shift ?_
    simp only [spec_RankAscent.l1]
    refine Ev.pos (by omega) (Ev.pos (by omega) (Ev.pos (by omega) ?_))
    rw [Int.toNat_natCast]
    refine Ev.bindc (own_take _ (by omega)) (Ev.pos (by omega) (Ev.bind hc ?_))
    rw [wrap64_id (x := (j : Int) + 1) (by omega) (by omega), cast1, wrap64_id (by omega) (by omega), Int.add_assoc]
    exact ih (j + 1) (by omega)
theorem srank_l0 (l : List Int) (hl : l.length ≤ 12) (hg : Goes (-1) 0 l) (T : Int) (hT : T ≤ 1946195068359375) (d : Nat) : ∀ (i : Nat) (acc : Int), i + d = l.length → 0 ≤ acc → acc + rank (lastOf l i) (ascUpto l i) (l.drop i) = T →
    Ev (fun k => spec_RankAscent.l0 k l acc l (l.length : Int) (i : Int)) (T, true) := by
  induction d with
  | zero =>
    intro i acc hi h0 hr
    refine Ev.shift ?_
    simp only [spec_RankAscent.l0]
    refine Ev.neg (by omega) (Ev.ret ?_)
    rw [List.drop_of_length_le (by omega)] at hr
    simp only [rank, Int.add_zero] at hr
    rw [hr]
  | succ d ih =>
    intro i acc hi h0 hr
    have hga := goes_at hg i (by omega)
    have hnx := nx_at hga.2
    rw [drop_rd' l i (by omega)] at hga hr
    obtain ⟨⟨g1, g2, g3⟩, g4⟩ := hga
    have hau := ascUpto_range l i
    have ht := topN_range (last := lastOf l i) hau.1
    have hrr := rank_range _ _ _ g3
    have hs0 := sumTo_nonneg (f := fun y => wys (l.length - i - 1) y (nx (lastOf l i) (ascUpto l i) y)) (n := (rd l (i : Int)).toNat) (fun i _ => wys_nonneg _ _ _)
    simp only [rank, List.length_drop] at hr
    rw [show l.length - (i + 1) = l.length - i - 1 by omega] at hr
    refine Ev.shift ?_
    simp only [spec_RankAscent.l0]
    refine Ev.pos (by omega) (Ev.pos (by omega) (Ev.pos (by omega) ?_))
    have := srank_l1 l hl i (by omega) g4 (by omega) acc (T, true) h0 (by omega) (ih (i + 1) _ (by omega) (by omega) (by
      rw [show lastOf l (i + 1) = rd l (i : Int) by simp [lastOf], ← hnx]; omega)) (rd l (i : Int)).toNat 0 (by omega)
    simpa [sumTo] using this
theorem srank_ev (l : List Int) (h : isAsc l = true) : Ev (fun k => spec_RankAscent.l0 k l 0 l (l.length : Int) 0) (rank (-1) 0 l, true) := by
  obtain ⟨hl, hg⟩ := isAsc_goes.1 h
  have hr := rank_range l (-1) 0 hg
  have hb := wys_big (m := l.length) (last := -1) (a := 0) (by omega) (by omega)
  have := srank_l0 l hl hg (rank (-1) 0 l) (by omega) l.length 0 0 (by omega) (by omega) (by simp [lastOf, ascUpto])
  simpa using this

end Go.Proofs.Ythhnfeebacnibaa.Pure

namespace Go.Proofs.Ythhnfeebacnibaa.Pure
open Go.RowKit Go.Proofs.Ythhnfeebacnibaa.Q Go.Proofs.YthhnfeebacnibaaW.PrintWords Go.Proofs.YthhnfeebacnibaaW.PrintLast
set_option linter.unusedVariables false
set_option linter.unusedSimpArgs false

theorem swith_l1 (n : Nat) (hn : n ≤ 12) (out : List Int) (m : Nat) (hm : out.length + (m + 1) = n) (hg : out.length > 0 → 0 ≤ rd out ((out.length - 1 : Nat) : Int)) (R : List Int × Bool) (d : Nat) : ∀ (k : Nat) (r : Int), ((k + d : Nat) : Int) = topN (lastOf out out.length) (ascUpto out out.length) → 0 ≤ r → r ≤ 1946195068359375 →
    r + sumTo (fun x => wys m x (nx (lastOf out out.length) (ascUpto out out.length) x)) k < sumTo (fun x => wys m x (nx (lastOf out out.length) (ascUpto out out.length) x)) (k + d + 1) →
    Ev (fun κ => spec_AscentWith.l0 κ n (findK (fun x => wys m x (nx (lastOf out out.length) (ascUpto out out.length) x)) d k r).2 (out ++ [(findK (fun x => wys m x (nx (lastOf out out.length) (ascUpto out out.length) x)) d k r).1])) R →
    Ev (fun κ => spec_AscentWith.l1 κ n r out (k : Int) (wys m k (nx (lastOf out out.length) (ascUpto out out.length) k))) R := by
  have hau := ascUpto_range out out.length
  have ht := topN_range (last := lastOf out out.length) hau.1
  have go : ∀ (k : Nat) (r : Int), r < wys m k (nx (lastOf out out.length) (ascUpto out out.length) k) → Ev (fun κ => spec_AscentWith.l0 κ n r (out ++ [(k : Int)])) R → Ev (fun κ => spec_AscentWith.l1 κ n r out (k : Int) (wys m k (nx (lastOf out out.length) (ascUpto out out.length) k))) R := by
    intro k r hr h
    refine Ev.shift ?_
    simp only [spec_AscentWith.l1]
    exact Ev.neg (by omega) (Ev.pos (by omega) h)
  induction d with
  | zero =>
    intro k r hk hr hrb hlt h
    simp only [findK] at h
    simp only [Nat.add_zero, sumTo] at hlt hk
    exact go k r (by omega) h
  | succ d ih =>
    intro k r hk hr hrb hlt h
    simp only [findK] at h
    by_cases hc : r < wys m k (nx (lastOf out out.length) (ascUpto out out.length) k)
    · rw [if_pos hc] at h
      exact go k r hc h
    · rw [if_neg hc] at h
      have hw : 0 ≤ wys m k (nx (lastOf out out.length) (ascUpto out out.length) k) := wys_nonneg _ _ _
      refine Ev.shift ?_
      simp only [spec_AscentWith.l1]
      refine Ev.pos (by omega) (Ev.bindc (own_take out (by omega)) (Ev.pos (by omega) ?_))
      rw [wrap64_id (x := (k : Int) + 1) (by omega) (by omega), wrap64_id (by omega) (by omega)]
      rw [show (k : Int) + 1 = ((k + 1 : Nat) : Int) by omega] at h ⊢
      refine Ev.bind (count_ev out _ m n (by omega) hn hg (by omega)) ?_
      refine ih (k + 1) _ (by omega) (by omega) (by omega) ?_ h
      rw [show k + (d + 1) + 1 = k + 1 + d + 1 by omega] at hlt
      simp only [sumTo] at hlt ⊢
      omega
theorem swith_l0 (n : Nat) (hn : n ≤ 12) : ∀ (m : Nat) (out : List Int) (r : Int), out.length + m = n → (out.length > 0 → 0 ≤ rd out ((out.length - 1 : Nat) : Int)) → 0 ≤ r → r < wys m (lastOf out out.length) (ascUpto out out.length) →
    Ev (fun κ => spec_AscentWith.l0 κ n r out) (out ++ unrank m (lastOf out out.length) (ascUpto out out.length) r, true)
  | 0, out, r, hm, hg, hr, hlt => by
    refine Ev.shift ?_
    simp only [spec_AscentWith.l0]
    exact Ev.neg (by omega) (Ev.ret (by simp [unrank]))
  | m + 1, out, r, hm, hg, hr, hlt => by
    have hau := ascUpto_range out out.length
    have ht := topN_range (last := lastOf out out.length) hau.1
    have hb := wys_big (m := m + 1) (last := lastOf out out.length) (a := ascUpto out out.length) hau.1 (by omega)
    have hlt2 := hlt
    simp only [wys] at hlt
    rw [show (topN (lastOf out out.length) (ascUpto out out.length) + 1).toNat = (topN (lastOf out out.length) (ascUpto out out.length)).toNat + 1 by omega] at hlt
    have hf := findK_range (fun x => wys m x (nx (lastOf out out.length) (ascUpto out out.length) x)) (fun i _ => wys_nonneg _ _ _) (topN (lastOf out out.length) (ascUpto out out.length)).toNat 0 r (by omega) hr (by simpa [sumTo] using hlt)
    obtain ⟨x, r', hxr⟩ : ∃ x r', findK (fun x => wys m x (nx (lastOf out out.length) (ascUpto out out.length) x)) (topN (lastOf out out.length) (ascUpto out out.length)).toNat 0 r = (x, r') := ⟨_, _, rfl⟩
    rw [hxr] at hf
    simp only at hf
    have hsn := ascUpto_snoc out x hg
    have hlo : lastOf (out ++ [x]) (out ++ [x]).length = x := by
      unfold lastOf
      rw [if_neg (by simp), rd_lt _ _ (by simp)]; simp
    have ih := swith_l0 n hn m (out ++ [x]) r' (by simp; omega) (fun _ => by
      rw [rd_lt _ _ (by simp)]; simp; omega) hf.2.2.1 (by rw [hlo, show (out ++ [x]).length = out.length + 1 by simp, hsn]; exact hf.2.2.2)
    rw [hlo, show (out ++ [x]).length = out.length + 1 by simp, hsn, List.append_assoc] at ih
    refine Ev.shift ?_
    simp only [spec_AscentWith.l0]
    refine Ev.pos (by omega) (Ev.bindc (own_take out (by omega)) (Ev.pos (by omega) (Ev.bind (count_ev out 0 m n (by omega) hn hg (by omega)) ?_)))
    have := swith_l1 n hn out m (by omega) hg _ (topN (lastOf out out.length) (ascUpto out out.length)).toNat 0 r (by omega) hr (by omega) (by simpa [sumTo] using hlt) (by
      rw [show ((0 : Nat) : Int) = 0 from rfl, hxr]; exact ih)
    simp only [unrank, hxr]
    exact this
theorem swith_ev (n r : Int) : Ev (fun k => spec_AscentWith.f k n r) (withR n r) := by
  unfold spec_AscentWith.f withR
  refine Ev.bindc (spec_in _ _ _) ?_
  have hno : Ev (fun k => spec_AscentWith.j0 k n r true) ([], false) := by
    refine Ev.shift ?_
    simp only [spec_AscentWith.j0]
    exact Ev.pos trivial (Ev.ret rfl)
  by_cases h : 0 ≤ n ∧ n ≤ 12
  · have hw := wys_nonneg n.toNat (-1) 0
    have hb := wys_big (m := n.toNat) (last := -1) (a := 0) (by omega) (by omega)
    have hn : ((n.toNat : Nat) : Int) = n := by omega
    have hf := all_ev (n := n.toNat) (by omega)
    rw [hn] at hf
    refine Ev.pos (by simpa using h) (Ev.bind hf (Ev.bindc (spec_in _ _ _) ?_))
    rw [wrap64_id (by omega) (by omega)]
    by_cases h2 : 0 ≤ r ∧ r < wys n.toNat (-1) 0
    · rw [if_pos ⟨h, h2⟩, show (!decide (0 ≤ r ∧ r ≤ wys n.toNat (-1) 0 - 1)) = false by simp; omega]
      refine Ev.shift ?_
      simp only [spec_AscentWith.j0]
      refine Ev.neg (by simp) ?_
      have := swith_l0 n.toNat (by omega) n.toNat [] r (by simp) (by simp) h2.1 (by simpa [lastOf, ascUpto] using h2.2)
      rw [hn] at this
      simpa [lastOf, ascUpto] using this
    · rw [if_neg (fun e => h2 e.2), show (!decide (0 ≤ r ∧ r ≤ wys n.toNat (-1) 0 - 1)) = true by simp; omega]
      exact hno
  · rw [if_neg (fun e => h e.1)]
    exact Ev.neg (by simpa using h) hno
theorem unrank_length : ∀ (m : Nat) (last a r : Int), (unrank m last a r).length = m
  | 0, _, _, _ => rfl
  | m + 1, last, a, r => by simp only [unrank, List.length_cons]; rw [unrank_length m]

end Go.Proofs.Ythhnfeebacnibaa.Pure

/- AscentWith answers what the reference answers and hands back memory of its own, for every two numbers. Conditions: none. -/
namespace Go.Proofs.Ythhnfeebacnibaa.Pure
open Go.RowKit Go.Proofs.Ythhnfeebacnibaa.Q Go.Proofs.YthhnfeebacnibaaW.PrintWords Go.Proofs.YthhnfeebacnibaaW.PrintLast
set_option linter.unusedVariables false
set_option linter.unusedSimpArgs false

theorem FnExactAscentWith : laws_FnExactAscentWith.Pure := by
  intro n r h1 h2
  refine Ev.at1 ?_
  unfold laws_FnExactAscentWith.f
  obtain ⟨x, b, hq⟩ : ∃ x b, withR n r = (x, b) := ⟨_, _, rfl⟩
  have hx : x.length ≤ 1000 := by
    have : (withR n r).1 = x := by rw [hq]
    rw [← this]; unfold withR
    split
    · rw [unrank_length]; omega
    · simp
  have hs := swith_ev n r
  have hi := with_ev n r
  rw [hq] at hs hi
  have ex := eqIntS_same x (by omega)
  have mx := markIntS x (by omega) 1 (by omega) (by omega)
  have gx := heldIntS x.length (by omega) 1 (by omega) (by omega)
  refine Ev.bind hs (Ev.bind hi (Ev.bind ex (Ev.pos rfl (Ev.shift ?_))))
  simp only [laws_FnExactAscentWith.j0]
  refine Ev.neg (by simp) (Ev.bind mx (Ev.bind gx (Ev.neg (by omega) (Ev.pos rfl ?_))))
  refine Ev.bind hi (Ev.bind ex (Ev.pos rfl (Ev.shift ?_)))
  simp only [laws_FnExactAscentWith.j1]
  exact Ev.neg (by simp) (Ev.bind gx (Ev.neg (by omega) (Ev.pos rfl (Ev.ret rfl))))

end Go.Proofs.Ythhnfeebacnibaa.Pure
