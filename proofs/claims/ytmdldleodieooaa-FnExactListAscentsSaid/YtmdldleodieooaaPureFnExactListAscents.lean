/- ListAscents answers what the reference answers and hands back memory of its own, for every number. Conditions: none. -/
import Derived.Test.YtmdldleodieooaaQImplListascents
import Derived.Test.YtmdldleodieooaaQLawsFnexactlistascents
import Derived.Test.YtmdldleodieooaaQSpecListascents
import Derived.Test.YtmdldleodieooaaXRowskept
import Derived.Test.YtmdldleodieooaaXNextasc
namespace Go.Proofs.Ytmdldleodieooaa.Pure
open Go.RowKit Go.Proofs.Ytmdldleodieooaa.Q Go.Proofs.YtmdldleodieooaaW.PrintWords Go.Proofs.YtmdldleodieooaaW.PrintLast
set_option linter.unusedVariables false
set_option linter.unusedSimpArgs false

theorem wys7 : ∀ n : Fin 8, wys n.val (-1) 0 ≤ 1014 := by decide +kernel
/-- all ascent sequences of n numbers, in order -/
def lsA (n : Nat) : List (List Int) := (List.range (wys n (-1) 0).toNat).map fun (r : Nat) => unrank n (-1) 0 (r : Int)
theorem lsA_length (n : Nat) : (lsA n).length = (wys n (-1) 0).toNat := by simp [lsA]
theorem lsA_take (n : Nat) {r : Nat} (h : r < (wys n (-1) 0).toNat) : (lsA n).take (r + 1) = (lsA n).take r ++ [unrank n (-1) 0 (r : Int)] := by
 rw [List.take_succ_eq_append_getElem (by rw [lsA_length]; exact h)]
 simp [lsA]
theorem unrank_len : ∀ (m : Nat) (last a r : Int), (unrank m last a r).length = m
 | 0, _, _, _ => rfl
 | m + 1, last, a, r => by simp [unrank, unrank_len m]
theorem lsA_rows {n : Nat} (h : n ≤ 7) : rowsP (lsA n) := by
 have := wys7 ⟨n, by omega⟩
 dsimp only at this
 refine ⟨by rw [lsA_length]; omega, fun r hr => ?_⟩
 simp only [lsA, List.mem_map] at hr
 obtain ⟨i, _, rfl⟩ := hr
 rw [unrank_len]; omega
theorem withA {n r : Nat} (hn : n ≤ 12) (h : r < (wys n (-1) 0).toNat) : withR (n : Int) (r : Int) = (unrank n (-1) 0 (r : Int), true) := by
 unfold withR
 rw [Int.toNat_natCast, if_pos (by omega)]
theorem ilist_l {n : Nat} (hn : n ≤ 7) (d : Nat) : ∀ r : Nat, r + d = (wys n (-1) 0).toNat → Ev (fun k => impl_ListAscents.l0 k (n : Int) ((lsA n).take r) (wys n (-1) 0) (r : Int)) (lsA n, true) := by
 have hw := wys7 ⟨n, by omega⟩
 have h0 := wys_nonneg n (-1) 0
 dsimp only at hw
 induction d with
 | zero =>
  intro r hr
  refine Ev.shift ?_
  simp only [impl_ListAscents.l0]
  exact Ev.neg (by omega) (Ev.ret (by rw [List.take_of_length_le (by rw [lsA_length]; omega)]))
 | succ d ih =>
  intro r hr
  have := ih (r + 1) (by omega)
  rw [lsA_take n (by omega)] at this
  refine Ev.shift ?_
  simp only [impl_ListAscents.l0]
  refine Ev.pos (by omega) (Ev.bind (with_ev (n : Int) (r : Int)) (Ev.pos (by rw [List.length_take, lsA_length]; omega) ?_))
  rw [withA (by omega) (by omega), wrap64_id (by omega) (by omega), cast1]
  exact this
theorem slist_l {n : Nat} (hn : n ≤ 7) (d : Nat) : ∀ r : Nat, r + d = (wys n (-1) 0).toNat → Ev (fun k => spec_ListAscents.l0 k ((lsA n).take r) (withR (n : Int) (r : Int)).1 (withR (n : Int) (r : Int)).2) (lsA n, true) := by
 have hw := wys7 ⟨n, by omega⟩
 have h0 := wys_nonneg n (-1) 0
 dsimp only at hw
 induction d with
 | zero =>
  intro r hr
  refine Ev.shift ?_
  simp only [spec_ListAscents.l0]
  refine Ev.neg ?_ (Ev.ret (by rw [List.take_of_length_le (by rw [lsA_length]; omega)]))
  unfold withR
  rw [Int.toNat_natCast, if_neg (by omega)]
  simp
 | succ d ih =>
  intro r hr
  have := ih (r + 1) (by omega)
  obtain ⟨l, g1, g2, g3, g4⟩ := exists_rank n r (by omega)
  have hwn := with_next (l := l) (by omega) g1
  rw [g2, g3, cast1] at hwn
  rw [lsA_take n (by omega), hwn, g4] at this
  refine Ev.shift ?_
  simp only [spec_ListAscents.l0]
  rw [withA (show n ≤ 12 by omega) (show r < (wys n (-1) 0).toNat by omega), g4]
  exact Ev.pos rfl (Ev.pos (by rw [List.length_take, lsA_length]; omega) (Ev.bind (asNext_ev l (by omega) g1) this))
theorem ilist_ev {n : Nat} (hn : n ≤ 7) : Ev (fun k => impl_ListAscents.f k (n : Int)) (lsA n, true) := by
 unfold impl_ListAscents.f
 exact Ev.bindc (impl_in _ _ _) (Ev.pos (by simp; omega) (Ev.bindc (ways_f (m := n) (l := -1) (a := 0) (by omega)) (ilist_l hn (wys n (-1) 0).toNat 0 (Nat.zero_add _))))
theorem slist_ev {n : Nat} (hn : n ≤ 7) : Ev (fun k => spec_ListAscents.f k (n : Int)) (lsA n, true) := by
 have hz : unrank n (-1) 0 0 = List.replicate n 0 := by
  have := unrank_rank (List.replicate n 0) (-1) 0 (by omega) (goes_zeros n (-1) 0 (by omega))
  rwa [rank_zeros, List.length_replicate] at this
 have hg := goes_zeros n (-1) 0 (by omega)
 have hr := rank_range _ (-1) 0 hg
 rw [rank_zeros, List.length_replicate] at hr
 have hn1 := with_next (l := List.replicate n 0) (by rw [List.length_replicate]; omega) hg
 rw [rank_zeros, List.length_replicate] at hn1
 have := slist_l hn ((wys n (-1) 0).toNat - 1) 1 (by omega)
 rw [show ((1 : Nat) : Int) = 0 + 1 by rfl, hn1, lsA_take n (r := 0) (by omega)] at this
 simp only [List.take_zero, List.nil_append] at this
 rw [show ((0 : Nat) : Int) = 0 by rfl, hz] at this
 unfold spec_ListAscents.f
 refine Ev.bindc (spec_in _ _ _) (Ev.pos (by simp; omega) (Ev.pos (by omega) (Ev.pos (by omega) (Ev.bindc rfl ?_))))
 rw [Int.toNat_natCast]
 exact Ev.bind (asNext_ev _ (by rw [List.length_replicate]; omega) hg) this
theorem FnExactListAscents : laws_FnExactListAscents.Pure := by
 intro n _
 refine Ev.at1 ?_
 obtain ⟨L, b, hi, hs, hL⟩ : ∃ L b, Ev (fun k => impl_ListAscents.f k n) (L, b) ∧ Ev (fun k => spec_ListAscents.f k n) (L, b) ∧ rowsP L := by
  by_cases h : 0 ≤ n ∧ n ≤ 7
  ·obtain ⟨m, rfl⟩ : ∃ m : Nat, n = m := ⟨n.toNat, by omega⟩
   exact ⟨lsA m, true, ilist_ev (by omega), slist_ev (by omega), lsA_rows (by omega)⟩
  ·refine ⟨[], false, ?_, ?_, by simp [rowsP]⟩
   ·unfold impl_ListAscents.f
    exact Ev.bindc (impl_in _ _ _) (Ev.neg (by simpa using h) (Ev.ret rfl))
   ·unfold spec_ListAscents.f
    exact Ev.bindc (spec_in _ _ _) (Ev.neg (by simpa using h) (Ev.ret rfl))
 have ho := off_range hL L.length (Nat.le_refl _)
 unfold laws_FnExactListAscents.f
 exact Ev.bind hs (Ev.bind hi (Ev.pos rfl (Ev.bind (eqSS_same L hL) (Ev.pos rfl (Ev.bind (markK L hL) (Ev.neg (by dsimp only; omega) (Ev.bind (heldK L hL) (Ev.pos rfl (Ev.ret rfl)))))))))

end Go.Proofs.Ytmdldleodieooaa.Pure
