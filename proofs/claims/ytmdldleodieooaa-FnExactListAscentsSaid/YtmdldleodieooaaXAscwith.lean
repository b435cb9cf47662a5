import Derived.Test.YtmdldleodieooaaQImplAscentwith
import Derived.Test.YtmdldleodieooaaQImplCounterWays
import Derived.Test.YtmdldleodieooaaQImplWithin
import Derived.Test.YtmdldleodieooaaXAscgo
namespace Go.Proofs.Ytmdldleodieooaa.Pure
open Go.RowKit Go.Proofs.Ytmdldleodieooaa.Q Go.Proofs.YtmdldleodieooaaW.PrintWords Go.Proofs.YtmdldleodieooaaW.PrintLast
set_option linter.unusedVariables false
set_option linter.unusedSimpArgs false

theorem ways_f {m : Nat} {l a : Int} (h : 0 ≤ a ∧ a + m ≤ 13 ∧ -1 ≤ l ∧ l ≤ 14) : impl_counter_ways.f (m : Int) l a = some (wys m l a) := by
 unfold impl_counter_ways.f
 rw [if_pos (by omega), Int.toNat_natCast]
theorem drop_rd' (l : List Int) (i : Nat) (h : i < l.length) : l.drop i = rd l (i : Int) :: l.drop (i + 1) := by
 rw [rd_lt l i h]; exact List.drop_eq_getElem_cons h
theorem findK_range (f : Int → Int) (hf : ∀ i, 0 ≤ i → 0 ≤ f i) : ∀ (d : Nat) (k r : Int), 0 ≤ k → 0 ≤ r → r + sumTo f k.toNat < sumTo f (k.toNat + d + 1) →
  k ≤ (findK f d k r).1 ∧ (findK f d k r).1 ≤ k + d ∧ 0 ≤ (findK f d k r).2 ∧ (findK f d k r).2 < f (findK f d k r).1
 | 0, k, r, h0, hr, h => by
  simp only [findK, Nat.add_zero, sumTo] at h ⊢
  rw [show ((k.toNat : Nat) : Int) = k by omega] at h
  omega
 | d + 1, k, r, h0, hr, h => by
  simp only [findK]
  by_cases hc : r < f k
  ·rw [if_pos hc]; exact ⟨by omega, by simp; omega, hr, hc⟩
  ·rw [if_neg hc]
   have ih := findK_range f hf d (k + 1) (r - f k) (by omega) (by omega) (by
    rw [show (k + 1).toNat = k.toNat + 1 by omega, show k.toNat + 1 + d + 1 = k.toNat + (d + 1) + 1 by omega]
    simp only [sumTo] at h ⊢
    rw [show ((k.toNat : Nat) : Int) = k by omega]; omega)
   omega
theorem with_l1 (n : Nat) (hn : n ≤ 12) (out : List Int) (m : Nat) (hm : out.length + (m + 1) = n) (last a : Int) (ha : 0 ≤ a ∧ a ≤ out.length) (R : List Int × Bool) (d : Nat) : ∀ (k : Nat) (r : Int), ((k + d : Nat) : Int) = topN last a → 0 ≤ r → r ≤ 1946195068359375 →
  r + sumTo (fun x => wys m x (nx last a x)) k < sumTo (fun x => wys m x (nx last a x)) (k + d + 1) →
  Ev (fun κ => impl_AscentWith.l0 κ n (findK (fun x => wys m x (nx last a x)) d k r).2 (out ++ [(findK (fun x => wys m x (nx last a x)) d k r).1]) (findK (fun x => wys m x (nx last a x)) d k r).1 (nx last a (findK (fun x => wys m x (nx last a x)) d k r).1)) R →
  Ev (fun κ => impl_AscentWith.l1 κ n r out last a (k : Int)) R := by
 have ht := topN_range (last := last) ha.1
 have go : ∀ (k : Nat) (r : Int), (k : Int) ≤ topN last a → r < wys m k (nx last a k) → Ev (fun κ => impl_AscentWith.l0 κ n r (out ++ [(k : Int)]) k (nx last a k)) R → Ev (fun κ => impl_AscentWith.l1 κ n r out last a (k : Int)) R := by
  intro k r hk hr h
  have hnr := nx_range (last := last) (a := a) (x := (k : Int))
  refine Ev.shift ?_
  simp only [impl_AscentWith.l1]
  refine Ev.bindc (Counter.next_f last a (k : Int) (by omega)) ?_
  rw [wrap64_id (x := (n : Int) - (out.length : Int)) (by omega) (by omega), wrap64_id (by omega) (by omega), show (n : Int) - (out.length : Int) - 1 = (m : Int) by omega]
  exact Ev.bindc (ways_f (by omega)) (Ev.pos hr (Ev.bindc (Counter.next_f last a (k : Int) (by omega)) (Ev.pos (by omega) h)))
 induction d with
 | zero =>
  intro k r hk hr hrb hlt h
  simp only [findK] at h
  simp only [Nat.add_zero, sumTo] at hlt hk
  exact go k r (by omega) (by omega) h
 | succ d ih =>
  intro k r hk hr hrb hlt h
  simp only [findK] at h
  by_cases hc : r < wys m k (nx last a k)
  ·rw [if_pos hc] at h
   exact go k r (by omega) hc h
  ·rw [if_neg hc] at h
   have hnr := nx_range (last := last) (a := a) (x := (k : Int))
   have hw : 0 ≤ wys m k (nx last a k) := wys_nonneg _ _ _
   refine Ev.shift ?_
   simp only [impl_AscentWith.l1]
   refine Ev.bindc (Counter.next_f last a (k : Int) (by omega)) ?_
   rw [wrap64_id (x := (n : Int) - (out.length : Int)) (by omega) (by omega), wrap64_id (x := (n : Int) - (out.length : Int) - 1) (by omega) (by omega), show (n : Int) - (out.length : Int) - 1 = (m : Int) by omega]
   refine Ev.bindc (ways_f (by omega)) (Ev.neg hc ?_)
   rw [wrap64_id (x := (k : Int) + 1) (by omega) (by omega), wrap64_id (by omega) (by omega)]
   rw [show (k : Int) + 1 = ((k + 1 : Nat) : Int) by omega] at h ⊢
   refine ih (k + 1) _ (by omega) (by omega) (by omega) ?_ h
   rw [show k + (d + 1) + 1 = k + 1 + d + 1 by omega] at hlt
   simp only [sumTo] at hlt ⊢
   omega
theorem with_l0 (n : Nat) (hn : n ≤ 12) : ∀ (m : Nat) (out : List Int) (last a r : Int), out.length + m = n → 0 ≤ a ∧ a ≤ out.length → 0 ≤ r → r < wys m last a →
  Ev (fun κ => impl_AscentWith.l0 κ n r out last a) (out ++ unrank m last a r, true)
 | 0, out, last, a, r, hm, ha, hr, hlt => by
  refine Ev.shift ?_
  simp only [impl_AscentWith.l0]
  exact Ev.neg (by omega) (Ev.ret (by simp [unrank]))
 | m + 1, out, last, a, r, hm, ha, hr, hlt => by
  have ht := topN_range (last := last) ha.1
  have hb := wys_big (m := m + 1) (last := last) (a := a) ha.1 (by omega)
  have hlt2 := hlt
  simp only [wys] at hlt
  rw [show (topN last a + 1).toNat = (topN last a).toNat + 1 by omega] at hlt
  have hf := findK_range (fun x => wys m x (nx last a x)) (fun i _ => wys_nonneg _ _ _) (topN last a).toNat 0 r (by omega) hr (by simpa [sumTo] using hlt)
  have hnr := nx_range (last := last) (a := a) (x := (findK (fun x => wys m x (nx last a x)) (topN last a).toNat 0 r).1)
  have ih := with_l0 n hn m (out ++ [(findK (fun x => wys m x (nx last a x)) (topN last a).toNat 0 r).1]) (findK (fun x => wys m x (nx last a x)) (topN last a).toNat 0 r).1 (nx last a (findK (fun x => wys m x (nx last a x)) (topN last a).toNat 0 r).1) (findK (fun x => wys m x (nx last a x)) (topN last a).toNat 0 r).2 (by simp; omega) (by simp; omega) hf.2.2.1 hf.2.2.2
  rw [List.append_assoc] at ih
  refine Ev.shift ?_
  simp only [impl_AscentWith.l0]
  refine Ev.pos (by omega) ?_
  have := with_l1 n hn out m (by omega) last a ha _ (topN last a).toNat 0 r (by omega) hr (by omega) (by simpa [sumTo] using hlt) ih
  exact this
theorem impl_in' (a b c : Int) : impl_within.f a b c = some (decide (b ≤ a ∧ a ≤ c)) := impl_in a b c
/-- what AscentWith answers -/
def withR (n r : Int) : List Int × Bool := if (0 ≤ n ∧ n ≤ 12) ∧ 0 ≤ r ∧ r < wys n.toNat (-1) 0 then (unrank n.toNat (-1) 0 r, true) else ([], false)
theorem with_ev (n r : Int) : Ev (fun k => impl_AscentWith.f k n r) (withR n r) := by
 unfold impl_AscentWith.f withR
 refine Ev.bindc (impl_in _ _ _) ?_
 have hno : Ev (fun k => impl_AscentWith.j0 k n r true) ([], false) := by
  refine Ev.shift ?_
  simp only [impl_AscentWith.j0]
  exact Ev.pos trivial (Ev.ret rfl)
 by_cases h : 0 ≤ n ∧ n ≤ 12
 ·have hw := wys_nonneg n.toNat (-1) 0
  have hb := wys_big (m := n.toNat) (last := -1) (a := 0) (by omega) (by omega)
  have hn : ((n.toNat : Nat) : Int) = n := by omega
  have hf := ways_f (m := n.toNat) (l := -1) (a := 0) (by omega)
  rw [hn] at hf
  refine Ev.pos (by simpa using h) (Ev.bindc hf (Ev.bindc (impl_in _ _ _) ?_))
  rw [wrap64_id (by omega) (by omega)]
  by_cases h2 : 0 ≤ r ∧ r < wys n.toNat (-1) 0
  ·rw [if_pos ⟨h, h2⟩, show (!decide (0 ≤ r ∧ r ≤ wys n.toNat (-1) 0 - 1)) = false by simp; omega]
   refine Ev.shift ?_
   simp only [impl_AscentWith.j0]
   refine Ev.neg (by simp) ?_
   have := with_l0 n.toNat (by omega) n.toNat [] (-1) 0 r (by simp) (by simp) h2.1 h2.2
   rw [hn] at this
   exact this
  ·rw [if_neg (fun e => h2 e.2), show (!decide (0 ≤ r ∧ r ≤ wys n.toNat (-1) 0 - 1)) = true by simp; omega]
   exact hno
 ·rw [if_neg (fun e => h e.1)]
  exact Ev.neg (by simpa using h) hno

end Go.Proofs.Ytmdldleodieooaa.Pure
