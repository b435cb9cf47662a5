import Derived.Test.YthhnfeebacnibaaBFnExactAscentWith4
import Derived.Test.YthhnfeebacnibaaBFnExactAscentWith16
import Derived.Test.YthhnfeebacnibaaBFnExactAscentWith17
namespace Go.Proofs.Ythhnfeebacnibaa.Pure
open Go.RowKit Go.Proofs.Ythhnfeebacnibaa.Q Go.Proofs.YthhnfeebacnibaaW.PrintWords Go.Proofs.YthhnfeebacnibaaW.PrintLast
set_option linter.unusedVariables false
set_option linter.unusedSimpArgs false

theorem ascUpto_snoc (out : List Int) (y : Int) (h : out.length > 0 → 0 ≤ rd out ((out.length - 1 : Nat) : Int)) : ascUpto (out ++ [y]) (out.length + 1) = nx (lastOf out out.length) (ascUpto out out.length) y := by
  have e1 : ∀ j : Nat, j < out.length → rd (out ++ [y]) (j : Int) = rd out (j : Int) := fun j hj => by
    rw [rd_lt _ j (by simp; omega), rd_lt _ j hj, List.getElem_append_left hj]
  have e2 : rd (out ++ [y]) (out.length : Int) = y := by rw [rd_lt _ _ (by simp)]; simp
  have e3 : ascUpto (out ++ [y]) out.length = ascUpto out out.length := by
    have := ascUpto_take (out ++ [y]) out.length (by simp) out.length (Nat.le_refl _)
    rw [List.take_left] at this; first | exact this | exact this.symm
  have := nx_at (l := out ++ [y]) (i := out.length) (fun hp => by rw [e1 _ (by omega)]; exact h hp)
  rw [e2, e3] at this
  rw [← this]
  congr 1
  unfold lastOf
  split
  · rfl
  · rw [e1 _ (by omega)]
theorem count_ev (out : List Int) (y : Int) (m n : Nat) (hn : out.length + 1 + m = n) (h12 : n ≤ 12) (h : out.length > 0 → 0 ≤ rd out ((out.length - 1 : Nat) : Int)) (hy : 0 ≤ y ∧ y ≤ 13) :
    Ev (fun k => spec_asCount.f k (out ++ [y]) (n : Int)) (wys m y (nx (lastOf out out.length) (ascUpto out out.length) y)) := by
  have hlen : (out ++ [y]).length = out.length + 1 := by simp
  have ha := ascUpto_snoc out y h
  have hr := ascUpto_range (out ++ [y]) (out.length + 1)
  have hr2 := ascUpto_range out out.length
  have hnr := nx_range (last := lastOf out out.length) (a := ascUpto out out.length) (x := y)
  have hle : nx (lastOf out out.length) (ascUpto out out.length) y ≤ out.length := by
    unfold nx lastOf at *
    by_cases h0 : out.length = 0
    · rw [h0] at hr2 ⊢; simp; omega
    · have hr3 := ascUpto_range out (out.length - 1 + 1)
      rw [show out.length - 1 + 1 = out.length by omega] at hr3
      have hb : ascUpto out out.length ≤ out.length - 1 := by
        obtain ⟨q, hq⟩ : ∃ q, out.length = q + 1 := ⟨out.length - 1, by omega⟩
        have := ascUpto_le out q
        rw [hq]; omega
      omega
  unfold spec_asCount.f
  rw [hlen, wrap64_id (x := (n : Int) - ((out.length + 1 : Nat) : Int)) (by omega) (by omega), wrap64_id (x := ((out.length + 1 : Nat) : Int) - 1) (by omega) (by omega), show (n : Int) - ((out.length + 1 : Nat) : Int) = (m : Int) by omega, show ((out.length + 1 : Nat) : Int) - 1 = (out.length : Int) by omega]
  have hasc := ascents_spec (out ++ [y]) (by omega)
  rw [hlen, ha] at hasc
  have hl := tabE_len ⟨m, by omega⟩
  have e2 : rd (out ++ [y]) (out.length : Int) = y := by rw [rd_lt _ _ (by simp)]; simp
  refine Ev.bind (ways_ev (by omega)) (Ev.bind hasc ?_)
  rw [e2]
  obtain ⟨A, hA⟩ : ∃ A : Nat, nx (lastOf out out.length) (ascUpto out out.length) y = (A : Int) := ⟨(nx (lastOf out out.length) (ascUpto out out.length) y).toNat, by omega⟩
  obtain ⟨Y, rfl⟩ : ∃ Y : Nat, y = (Y : Int) := ⟨y.toNat, by omega⟩
  rw [hA] at hle ⊢
  have hrow : rd_L1 (tabN m) (A : Int) = (tabN m).getD A [] := by simp [rd_L1]
  have hl2 := hl.2 ⟨A, by omega⟩
  have hl1 := hl.1
  simp only at hl1 hl2
  rw [hrow, hl1, hl2]
  refine Ev.pos (by omega) (Ev.pos (by omega) (Ev.pos (by omega) (Ev.pos (by omega) (Ev.pos (by omega) (Ev.pos (by omega) (Ev.ret ?_))))))
  have := tabE_tab m A Y (by omega) (by omega) (by omega)
  rw [tab_wys m A Y (by omega)] at this
  rw [← this, rd_nat]; rfl
theorem all_ev {n : Nat} (hn : n ≤ 12) : Ev (fun k => spec_asAll.f k (n : Int)) (wys n (-1) 0) := by
  unfold spec_asAll.f
  by_cases h : n = 0
  · subst h; exact Ev.pos rfl (Ev.ret rfl)
  · obtain ⟨m, rfl⟩ : ∃ m, n = m + 1 := ⟨n - 1, by omega⟩
    refine Ev.neg (by omega) ?_
    have := count_ev [] 0 m (m + 1) (by simp; omega) hn (fun h => by simp at h) (by omega)
    refine Ev.bind this (Ev.ret ?_)
    simp [wys, topN, sumTo, lastOf, ascUpto]

end Go.Proofs.Ythhnfeebacnibaa.Pure
