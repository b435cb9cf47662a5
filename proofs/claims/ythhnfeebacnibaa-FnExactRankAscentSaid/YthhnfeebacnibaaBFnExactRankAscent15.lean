import Derived.Test.YthhnfeebacnibaaBFnExactRankAscent4
import Derived.Test.YthhnfeebacnibaaBFnExactRankAscent5
import Derived.Test.YthhnfeebacnibaaBFnExactRankAscent9
import Derived.Test.YthhnfeebacnibaaBFnExactRankAscent10
import Derived.Test.YthhnfeebacnibaaBFnExactRankAscent12
import Derived.Test.YthhnfeebacnibaaBFnExactRankAscent13
import Derived.Test.YthhnfeebacnibaaBFnExactRankAscent14
namespace Go.Proofs.Ythhnfeebacnibaa.Pure
open Go.RowKit Go.Proofs.Ythhnfeebacnibaa.Q Go.Proofs.YthhnfeebacnibaaW.PrintWords Go.Proofs.YthhnfeebacnibaaW.PrintLast
set_option linter.unusedVariables false
set_option linter.unusedSimpArgs false

theorem ways_f {m : Nat} {l a : Int} (h : 0 ≤ a ∧ a + m ≤ 13 ∧ -1 ≤ l ∧ l ≤ 14) : impl_counter_ways.f (m : Int) l a = some (wys m l a) := by
  unfold impl_counter_ways.f
  rw [if_pos (by omega), Int.toNat_natCast]
theorem drop_rd' (l : List Int) (i : Nat) (h : i < l.length) : l.drop i = rd l (i : Int) :: l.drop (i + 1) := by
  rw [rd_lt l i h]; exact List.drop_eq_getElem_cons h
theorem rank_l1 (l : List Int) (hl : l.length ≤ 12) (i : Nat) (hi : i < l.length) (last a : Int) (ha : 0 ≤ a ∧ a ≤ i) (hx : 0 ≤ rd l (i : Int) ∧ rd l (i : Int) ≤ 13) (acc R : Int) (hacc : 0 ≤ acc)
    (hs : acc + sumTo (fun y => wys (l.length - i - 1) y (nx last a y)) (rd l (i : Int)).toNat ≤ 1946195068359375)
    (hk : Ev (fun k => impl_rankAscent.l0 k l (acc + sumTo (fun y => wys (l.length - i - 1) y (nx last a y)) (rd l (i : Int)).toNat) (rd l (i : Int)) (nx last a (rd l (i : Int))) l (l.length : Int) ((i + 1 : Nat) : Int)) R) (d : Nat) :
    ∀ j : Nat, j + d = (rd l (i : Int)).toNat → Ev (fun k => impl_rankAscent.l1 k l (acc + sumTo (fun y => wys (l.length - i - 1) y (nx last a y)) j) last a i (rd l (i : Int)) l (l.length : Int) i (rd l (i : Int)) (j : Int)) R := by
  induction d with
  | zero =>
    intro j hj
    refine Ev.shift ?_
    simp only [impl_rankAscent.l1]
    refine Ev.neg (by omega) (Ev.bindc (Counter.next_f last a (rd l (i : Int)) (by omega)) ?_)
    rw [wrap64_id (x := (i : Int) + 1) (by omega) (by omega), cast1, show j = (rd l (i : Int)).toNat by omega]
    exact hk
  | succ d ih =>
    intro j hj
    have hnr := nx_range (last := last) (a := a) (x := (j : Int))
    have h1 := sumTo_mono (f := fun y => wys (l.length - i - 1) y (nx last a y)) (m := j + 1) (n := (rd l (i : Int)).toNat) (by omega) (fun i _ => wys_nonneg _ _ _)
    have h2 := sumTo_nonneg (f := fun y => wys (l.length - i - 1) y (nx last a y)) (n := j) (fun i _ => wys_nonneg _ _ _)
    have h3 : 0 ≤ wys (l.length - i - 1) (j : Int) (nx last a (j : Int)) := wys_nonneg _ _ _
    simp only [sumTo] at h1
    refine Ev.shift ?_
    simp only [impl_rankAscent.l1]
    refine Ev.pos (by omega) (Ev.bindc (Counter.next_f last a (j : Int) (by omega)) ?_)
    rw [wrap64_id (x := (l.length : Int) - (i : Int)) (by omega) (by omega), wrap64_id (x := (l.length : Int) - (i : Int) - 1) (by omega) (by omega), show (l.length : Int) - (i : Int) - 1 = ((l.length - i - 1 : Nat) : Int) by omega]
    refine Ev.bindc (ways_f (by omega)) ?_
    rw [wrap64_id (x := (j : Int) + 1) (by omega) (by omega), cast1, wrap64_id (by omega) (by omega), Int.add_assoc]
    exact ih (j + 1) (by omega)
theorem rank_l0 (l : List Int) (hl : l.length ≤ 12) (T : Int) (hT : T ≤ 1946195068359375) (d : Nat) : ∀ (i : Nat) (last a acc : Int), i + d = l.length → 0 ≤ a ∧ a ≤ i → Goes last a (l.drop i) → 0 ≤ acc → acc + rank last a (l.drop i) = T →
    Ev (fun k => impl_rankAscent.l0 k l acc last a l (l.length : Int) (i : Int)) T := by
  induction d with
  | zero =>
    intro i last a acc hi ha hg h0 hr
    refine Ev.shift ?_
    simp only [impl_rankAscent.l0]
    refine Ev.neg (by omega) (Ev.ret ?_)
    rw [List.drop_of_length_le (by omega)] at hr
    simpa [rank] using hr
  | succ d ih =>
    intro i last a acc hi ha hg h0 hr
    rw [drop_rd' l i (by omega)] at hg hr
    obtain ⟨g1, g2, g3⟩ := hg
    have ht := topN_range (last := last) ha.1
    have hnr := nx_range (last := last) (a := a) (x := rd l (i : Int))
    have hrr := rank_range _ _ _ g3
    have hs0 := sumTo_nonneg (f := fun y => wys (l.length - i - 1) y (nx last a y)) (n := (rd l (i : Int)).toNat) (fun i _ => wys_nonneg _ _ _)
    simp only [rank, List.length_drop] at hr
    rw [show l.length - (i + 1) = l.length - i - 1 by omega] at hr
    refine Ev.shift ?_
    simp only [impl_rankAscent.l0]
    refine Ev.pos (by omega) (Ev.pos (by omega) (Ev.pos (by omega) ?_))
    have := rank_l1 l hl i (by omega) last a ha (by omega) acc T h0 (by omega) (ih (i + 1) _ _ _ (by omega) (by omega) g3 (by omega) (by omega)) (rd l (i : Int)).toNat 0 (by omega)
    simpa [sumTo] using this
theorem rankAscent_ev (l : List Int) (h : isAsc l = true) : Ev (fun k => impl_rankAscent.f k l) (rank (-1) 0 l) := by
  obtain ⟨hl, hg⟩ := isAsc_goes.1 h
  have hr := rank_range l (-1) 0 hg
  have hb := wys_big (m := l.length) (last := -1) (a := 0) (by omega) (by omega)
  unfold impl_rankAscent.f
  exact rank_l0 l hl (rank (-1) 0 l) (by omega) l.length 0 (-1) 0 0 (by omega) (by omega) (by simpa using hg) (by omega) (by simp)
theorem findK_range (f : Int → Int) (hf : ∀ i, 0 ≤ i → 0 ≤ f i) : ∀ (d : Nat) (k r : Int), 0 ≤ k → 0 ≤ r → r + sumTo f k.toNat < sumTo f (k.toNat + d + 1) →
    k ≤ (findK f d k r).1 ∧ (findK f d k r).1 ≤ k + d ∧ 0 ≤ (findK f d k r).2 ∧ (findK f d k r).2 < f (findK f d k r).1
  | 0, k, r, h0, hr, h => by
    simp only [findK, Nat.add_zero, sumTo] at h ⊢
    rw [show ((k.toNat : Nat) : Int) = k by omega] at h
    omega
  | d + 1, k, r, h0, hr, h => by
    simp only [findK]
    by_cases hc : r < f k
    · rw [if_pos hc]; exact ⟨by omega, by simp; omega, hr, hc⟩
    · rw [if_neg hc]
      have ih := findK_range f hf d (k + 1) (r - f k) (by omega) (by omega) (by
        rw [show (k + 1).toNat = k.toNat + 1 by omega, show k.toNat + 1 + d + 1 = k.toNat + (d + 1) + 1 by omega]
        simp only [sumTo] at h ⊢
        rw [show ((k.toNat : Nat) : Int) = k by omega]; omega)
      omega
theorem with_l1 (n : Nat) (hn : n ≤ 12) (out : List Int) (m : Nat) (hm : out.length + (m + 1) = n) (last a : Int) (ha : 0 ≤ a ∧ a ≤ out.length) (R : List Int × Bool) (d : Nat) : ∀ (k : Nat) (r : Int), ((k + d : Nat) : Int) = topN last a → 0 ≤ r → r ≤ 1946195068359375 →
    r + sumTo (fun x => wys m x (nx last a x)) k < sumTo (fun x => wys m x (nx last a x)) (k + d + 1) →
    Ev (fun κ => impl_AscentWith.l0 κ n (findK (fun x => wys m x (nx last a x)) d k r).2 (out ++ [(findK (fun x => wys m x (nx last a x)) d k r).1]) (findK (fun x => wys m x (nx last a x)) d k r).1 (nx last a (findK (fun x => wys m x (nx last a x)) d k r).1)) R →
    Ev (fun κ => impl_AscentWith.l1 κ n r out last a (k : Int)) R := by
  have ht := topN_range (last := last) ha.1
  have go : ∀ (k : Nat) (r : Int), (k : Int) ≤ topN last a → r < wys m k (nx last a k) → Ev (fun κ => impl_AscentWith.l0 κ n r (out ++ [(k : Int)]) k (nx last a k)) R → Ev (fun κ => impl_AscentWith.l1 κ n r out last a (k : Int)) R := by
    intro k r hk hr h
    have hnr := nx_range (last := last) (a := a) (x := (k : Int))
    refine Ev.shift ?_
    simp only [impl_AscentWith.l1]
    refine Ev.bindc (Counter.next_f last a (k : Int) (by omega)) ?_
    rw [wrap64_id (x := (n : Int) - (out.length : Int)) (by omega) (by omega), wrap64_id (by omega) (by omega), show (n : Int) - (out.length : Int) - 1 = (m : Int) by omega]
    exact Ev.bindc (ways_f (by omega)) (Ev.pos hr (Ev.bindc (Counter.next_f last a (k : Int) (by omega)) (Ev.pos (by omega) h)))
  induction d with
  | zero =>
    intro k r hk hr hrb hlt h
    simp only [findK] at h
    simp only [Nat.add_zero, sumTo] at hlt hk
    exact go k r (by omega) (by omega) h
  | succ d ih =>
    intro k r hk hr hrb hlt h
    simp only [findK] at h
    by_cases hc : r < wys m k (nx last a k)
    · rw [if_pos hc] at h
      exact go k r (by omega) hc h
    · rw [if_neg hc] at h
      have hnr := nx_range (last := last) (a := a) (x := (k : Int))
      have hw : 0 ≤ wys m k (nx last a k) := wys_nonneg _ _ _
      refine Ev.shift ?_
      simp only [impl_AscentWith.l1]
      refine Ev.bindc (Counter.next_f last a (k : Int) (by omega)) ?_
      rw [wrap64_id (x := (n : Int) - (out.length : Int)) (by omega) (by omega), wrap64_id (x := (n : Int) - (out.length : Int) - 1) (by omega) (by omega), show (n : Int) - (out.length : Int) - 1 = (m : Int) by omega]
      refine Ev.bindc (ways_f (by omega)) (Ev.neg hc ?_)
      rw [wrap64_id (x := (k : Int) + 1) (by omega) (by omega), wrap64_id (by omega) (by omega)]
      rw [show (k : Int) + 1 = ((k + 1 : Nat) : Int) by omega] at h ⊢
      refine ih (k + 1) _ (by omega) (by omega) (by omega) ?_ h
      rw [show k + (d + 1) + 1 = k + 1 + d + 1 by omega] at hlt
      simp only [sumTo] at hlt ⊢
      omega
theorem with_l0 (n : Nat) (hn : n ≤ 12) : ∀ (m : Nat) (out : List Int) (last a r : Int), out.length + m = n → 0 ≤ a ∧ a ≤ out.length → 0 ≤ r → r < wys m last a →
    Ev (fun κ => impl_AscentWith.l0 κ n r out last a) (out ++ unrank m last a r, true)
  | 0, out, last, a, r, hm, ha, hr, hlt => by
    refine Ev.shift ?_
    simp only [impl_AscentWith.l0]
    exact Ev.neg (by omega) (Ev.ret (by simp [unrank]))
  | m + 1, out, last, a, r, hm, ha, hr, hlt => by
    have ht := topN_range (last := last) ha.1
    have hb := wys_big (m := m + 1) (last := last) (a := a) ha.1 (by omega)
    have hlt2 := hlt
    simp only [wys] at hlt
    rw [show (topN last a + 1).toNat = (topN last a).toNat + 1 by omega] at hlt
    have hf := findK_range (fun x => wys m x (nx last a x)) (fun i _ => wys_nonneg _ _ _) (topN last a).toNat 0 r (by omega) hr (by simpa [sumTo] using hlt)
    have hnr := nx_range (last := last) (a := a) (x := (findK (fun x => wys m x (nx last a x)) (topN last a).toNat 0 r).1)
    have ih := with_l0 n hn m (out ++ [(findK (fun x => wys m x (nx last a x)) (topN last a).toNat 0 r).1]) (findK (fun x => wys m x (nx last a x)) (topN last a).toNat 0 r).1 (nx last a (findK (fun x => wys m x (nx last a x)) (topN last a).toNat 0 r).1) (findK (fun x => wys m x (nx last a x)) (topN last a).toNat 0 r).2 (by simp; omega) (by simp; omega) hf.2.2.1 hf.2.2.2
    rw [List.append_assoc] at ih
    refine Ev.shift ?_
    simp only [impl_AscentWith.l0]
    refine Ev.pos (by omega) ?_
    have := with_l1 n hn out m (by omega) last a ha _ (topN last a).toNat 0 r (by omega) hr (by omega) (by simpa [sumTo] using hlt) ih
    exact this
theorem impl_in' (a b c : Int) : impl_within.f a b c = some (decide (b ≤ a ∧ a ≤ c)) := impl_in a b c
/-- what AscentWith answers -/
def withR (n r : Int) : List Int × Bool := if (0 ≤ n ∧ n ≤ 12) ∧ 0 ≤ r ∧ r < wys n.toNat (-1) 0 then (unrank n.toNat (-1) 0 r, true) else ([], false)
theorem with_ev (n r : Int) : Ev (fun k => impl_AscentWith.f k n r) (withR n r) := by
  unfold impl_AscentWith.f withR
  refine Ev.bindc (impl_in _ _ _) ?_
  have hno : Ev (fun k => impl_AscentWith.j0 k n r true) ([], false) := by
    refine Ev.shift ?_
    simp only [impl_AscentWith.j0]
    exact Ev.pos trivial (Ev.ret rfl)
  by_cases h : 0 ≤ n ∧ n ≤ 12
  · have hw := wys_nonneg n.toNat (-1) 0
    have hb := wys_big (m := n.toNat) (last := -1) (a := 0) (by omega) (by omega)
    have hn : ((n.toNat : Nat) : Int) = n := by omega
    have hf := ways_f (m := n.toNat) (l := -1) (a := 0) (by omega)
    rw [hn] at hf
    refine Ev.pos (by simpa using h) (Ev.bindc hf (Ev.bindc (impl_in _ _ _) ?_))
    rw [wrap64_id (by omega) (by omega)]
    by_cases h2 : 0 ≤ r ∧ r < wys n.toNat (-1) 0
    · rw [if_pos ⟨h, h2⟩, show (!decide (0 ≤ r ∧ r ≤ wys n.toNat (-1) 0 - 1)) = false by simp; omega]
      refine Ev.shift ?_
      simp only [impl_AscentWith.j0]
      refine Ev.neg (by simp) ?_
      have := with_l0 n.toNat (by omega) n.toNat [] (-1) 0 r (by simp) (by simp) h2.1 h2.2
      rw [hn] at this
      exact this
    · rw [if_neg (fun e => h2 e.2), show (!decide (0 ≤ r ∧ r ≤ wys n.toNat (-1) 0 - 1)) = true by simp; omega]
      exact hno
  · rw [if_neg (fun e => h e.1)]
    exact Ev.neg (by simpa using h) hno

end Go.Proofs.Ythhnfeebacnibaa.Pure

namespace Go.Proofs.Ythhnfeebacnibaa.Pure
open Go.RowKit Go.Proofs.Ythhnfeebacnibaa.Q Go.Proofs.YthhnfeebacnibaaW.PrintWords Go.Proofs.YthhnfeebacnibaaW.PrintLast
set_option linter.unusedVariables false
set_option linter.unusedSimpArgs false

theorem ascUpto_snoc (out : List Int) (y : Int) (h : out.length > 0 → 0 ≤ rd out ((out.length - 1 : Nat) : Int)) : ascUpto (out ++ [y]) (out.length + 1) = nx (lastOf out out.length) (ascUpto out out.length) y := by
  have e1 : ∀ j : Nat, j < out.length → rd (out ++ [y]) (j : Int) = rd out (j : Int) := fun j hj => by
    rw [rd_lt _ j (by simp; omega), rd_lt _ j hj, List.getElem_append_left hj]
  have e2 : rd (out ++ [y]) (out.length : Int) = y := by rw [rd_lt _ _ (by simp)]; simp
  have e3 : ascUpto (out ++ [y]) out.length = ascUpto out out.length := by
    have := ascUpto_take (out ++ [y]) out.length (by simp) out.length (Nat.le_refl _)
    rw [List.take_left] at this; first | exact this | exact this.symm
  have := nx_at (l := out ++ [y]) (i := out.length) (fun hp => by rw [e1 _ (by omega)]; exact h hp)
  rw [e2, e3] at this
  rw [← this]
  congr 1
  unfold lastOf
  split
  · rfl
  · rw [e1 _ (by omega)]
theorem count_ev (out : List Int) (y : Int) (m n : Nat) (hn : out.length + 1 + m = n) (h12 : n ≤ 12) (h : out.length > 0 → 0 ≤ rd out ((out.length - 1 : Nat) : Int)) (hy : 0 ≤ y ∧ y ≤ 13) :
    Ev (fun k => spec_asCount.f k (out ++ [y]) (n : Int)) (wys m y (nx (lastOf out out.length) (ascUpto out out.length) y)) := by
  have hlen : (out ++ [y]).length = out.length + 1 := by simp
  have ha := ascUpto_snoc out y h
  have hr := ascUpto_range (out ++ [y]) (out.length + 1)
  have hr2 := ascUpto_range out out.length
  have hnr := nx_range (last := lastOf out out.length) (a := ascUpto out out.length) (x := y)
  have hle : nx (lastOf out out.length) (ascUpto out out.length) y ≤ out.length := by
    unfold nx lastOf at *
    by_cases h0 : out.length = 0
    · rw [h0] at hr2 ⊢; simp; omega
    · have hr3 := ascUpto_range out (out.length - 1 + 1)
      rw [show out.length - 1 + 1 = out.length by omega] at hr3
      have hb : ascUpto out out.length ≤ out.length - 1 := by
        obtain ⟨q, hq⟩ : ∃ q, out.length = q + 1 := ⟨out.length - 1, by omega⟩
        have := ascUpto_le out q
        rw [hq]; omega
      omega
  unfold spec_asCount.f
  rw [hlen, wrap64_id (x := (n : Int) - ((out.length + 1 : Nat) : Int)) (by omega) (by omega), wrap64_id (x := ((out.length + 1 : Nat) : Int) - 1) (by omega) (by omega), show (n : Int) - ((out.length + 1 : Nat) : Int) = (m : Int) by omega, show ((out.length + 1 : Nat) : Int) - 1 = (out.length : Int) by omega]
  have hasc := ascents_spec (out ++ [y]) (by omega)
  rw [hlen, ha] at hasc
  have hl := tabE_len ⟨m, by omega⟩
  have e2 : rd (out ++ [y]) (out.length : Int) = y := by rw [rd_lt _ _ (by simp)]; simp
  refine Ev.bind (ways_ev (by omega)) (Ev.bind hasc ?_)
  rw [e2]
  obtain ⟨A, hA⟩ : ∃ A : Nat, nx (lastOf out out.length) (ascUpto out out.length) y = (A : Int) := ⟨(nx (lastOf out out.length) (ascUpto out out.length) y).toNat, by omega⟩
  obtain ⟨Y, rfl⟩ : ∃ Y : Nat, y = (Y : Int) := ⟨y.toNat, by omega⟩
  rw [hA] at hle ⊢
  have hrow : rd_L1 (tabN m) (A : Int) = (tabN m).getD A [] := by simp [rd_L1]
  have hl2 := hl.2 ⟨A, by omega⟩
  have hl1 := hl.1
  simp only at hl1 hl2
  rw [hrow, hl1, hl2]
  refine Ev.pos (by omega) (Ev.pos (by omega) (Ev.pos (by omega) (Ev.pos (by omega) (Ev.pos (by omega) (Ev.pos (by omega) (Ev.ret ?_))))))
  have := tabE_tab m A Y (by omega) (by omega) (by omega)
  rw [tab_wys m A Y (by omega)] at this
  rw [← this, rd_nat]; rfl
theorem all_ev {n : Nat} (hn : n ≤ 12) : Ev (fun k => spec_asAll.f k (n : Int)) (wys n (-1) 0) := by
  unfold spec_asAll.f
  by_cases h : n = 0
  · subst h; exact Ev.pos rfl (Ev.ret rfl)
  · obtain ⟨m, rfl⟩ : ∃ m, n = m + 1 := ⟨n - 1, by omega⟩
    refine Ev.neg (by omega) ?_
    have := count_ev [] 0 m (m + 1) (by simp; omega) hn (fun h => by simp at h) (by omega)
    refine Ev.bind this (Ev.ret ?_)
    simp [wys, topN, sumTo, lastOf, ascUpto]

end Go.Proofs.Ythhnfeebacnibaa.Pure
