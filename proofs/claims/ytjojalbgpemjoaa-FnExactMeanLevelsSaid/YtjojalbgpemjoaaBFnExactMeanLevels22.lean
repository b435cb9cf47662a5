import Derived.Test.YtjojalbgpemjoaaBFnExactMeanLevels5
import Derived.Test.YtjojalbgpemjoaaBFnExactMeanLevels8
import Derived.Test.YtjojalbgpemjoaaBFnExactMeanLevels11
import Derived.Test.YtjojalbgpemjoaaBFnExactMeanLevels14
import Derived.Test.YtjojalbgpemjoaaBFnExactMeanLevels15
import Derived.Test.YtjojalbgpemjoaaBFnExactMeanLevels16
import Derived.Test.YtjojalbgpemjoaaBFnExactMeanLevels21
namespace Go.Proofs.Ytjojalbgpemjoaa.Pure
open Go.RowKit Go.Proofs.Ytjojalbgpemjoaa.Q Go.Proofs.YtjojalbgpemjoaaW.PrintWords Go.Proofs.YtjojalbgpemjoaaW.PrintLast
set_option linter.unusedVariables false
set_option linter.unusedSimpArgs false

/-- the sums, of which the first j have the row's numbers -/
def addUpto (s r : List Int) (j : Nat) : List Int := (List.zipWith (· + ·) s r).take j ++ s.drop j
theorem addUpto_len (s r : List Int) (h : r.length = s.length) (j : Nat) (hj : j ≤ s.length) : (addUpto s r j).length = s.length := by simp [addUpto]; omega
theorem addUpto_rd (s r : List Int) (h : r.length = s.length) (j : Nat) (hj : j < s.length) : rd (addUpto s r j) (j : Int) = rd s (j : Int) := by
  rw [rd_lt _ j (by rw [addUpto_len s r h j (by omega)]; exact hj), rd_lt s j hj]
  unfold addUpto
  rw [List.getElem_append_right (by simp; omega)]
  simp; congr 1; omega
theorem addUpto_set (s r : List Int) (h : r.length = s.length) (j : Nat) (hj : j < s.length) : (addUpto s r j).set j (rd s (j : Int) + rd r (j : Int)) = addUpto s r (j + 1) := by
  unfold addUpto
  have hl : ((List.zipWith (· + ·) s r).take j).length = j := by simp; omega
  rw [List.set_append_right _ _ (by omega), hl, Nat.sub_self, List.drop_eq_getElem_cons hj, List.set_cons_zero, List.take_succ_eq_append_getElem (by simp; omega), List.append_assoc, List.singleton_append]
  congr 2
  rw [List.getElem_zipWith, rd_lt s j hj, rd_lt r j (by omega)]
theorem addUpto_full (s r : List Int) (h : r.length = s.length) : addUpto s r s.length = List.zipWith (· + ·) s r := by
  unfold addUpto
  rw [List.take_of_length_le (by simp; omega), List.drop_of_length_le (by omega), List.append_nil]
def sums (s : List Int) (L : List (List Int)) : List Int := L.foldl (fun s r => List.zipWith (· + ·) s r) s
theorem imean_l1 (L : List (List Int)) (q : Nat) (hq : q < L.length) (hL : L.length ≤ 15) (s r : List Int) (hs : s.length ≤ 10) (hr : r.length = s.length) (hb : ∀ j : Nat, j < s.length → (0 ≤ rd s (j : Int) ∧ rd s (j : Int) ≤ 1000) ∧ 0 ≤ rd r (j : Int) ∧ rd r (j : Int) ≤ 10) (R : List Int × Bool)
    (hR : Ev (fun k => impl_MeanLevels.l0 k (List.zipWith (· + ·) s r) L (L.length : Int) ((q + 1 : Nat) : Int)) R) (d : Nat) : ∀ j : Nat, j + d = s.length → Ev (fun k => impl_MeanLevels.l1 k (addUpto s r j) L (L.length : Int) (q : Int) r (r.length : Int) (j : Int)) R := by
  induction d with
  | zero =>
    intro j hj
    refine Ev.shift ?_
    simp only [impl_MeanLevels.l1]
    refine Ev.neg (by omega) ?_
    rw [wrap64_id (by omega) (by omega), cast1, show j = s.length by omega, addUpto_full s r hr]
    exact hR
  | succ d ih =>
    intro j hj
    have hb1 := hb j (by omega)
    have hl := addUpto_len s r hr j (by omega)
    have h1 := addUpto_rd s r hr j (by omega)
    refine Ev.shift ?_
    simp only [impl_MeanLevels.l1]
    refine Ev.pos (by omega) (Ev.pos (by omega) (Ev.pos (by omega) (Ev.pos (by omega) ?_)))
    rw [wrap64_id (x := (j : Int) + 1) (by omega) (by omega), cast1, Int.toNat_natCast, h1, wrap64_id (by omega) (by omega), addUpto_set s r hr j (by omega)]
    exact ih (j + 1) (by omega)
theorem sum_bounds {s r : List Int} {c : Int} (hr : r.length = s.length) (hs : ∀ j : Nat, j < s.length → 0 ≤ rd s (j : Int) ∧ rd s (j : Int) ≤ c) (hb : ∀ j : Nat, j < s.length → 0 ≤ rd r (j : Int) ∧ rd r (j : Int) ≤ 10) : ∀ j : Nat, j < (List.zipWith (· + ·) s r).length → 0 ≤ rd (List.zipWith (· + ·) s r) (j : Int) ∧ rd (List.zipWith (· + ·) s r) (j : Int) ≤ c + 10 := by
  intro j hj
  have hj2 : j < s.length := by simp at hj; omega
  have h1 := hs j hj2
  have h2 := hb j hj2
  rw [rd_lt _ j hj, List.getElem_zipWith, ← rd_lt s j hj2, ← rd_lt r j (by omega)]
  omega
theorem imean_l0 (L : List (List Int)) (h : votP L) (R : List Int × Bool) (d : Nat) : ∀ (q : Nat) (s : List Int), q + d = L.length → s.length = (rd_L1 L 0).length → (∀ j : Nat, j < s.length → 0 ≤ rd s (j : Int) ∧ rd s (j : Int) ≤ 10 * (q : Int)) →
    Ev (fun k => (impl_leveled.f k (sums s (L.drop q))).bind fun t => some (t, true)) R → Ev (fun k => impl_MeanLevels.l0 k s L (L.length : Int) (q : Int)) R := by
  have hL := h.1
  induction d with
  | zero =>
    intro q s hq hs hb hR
    refine Ev.shift ?_
    simp only [impl_MeanLevels.l0]
    refine Ev.neg (by omega) ?_
    rw [List.drop_of_length_le (by omega)] at hR
    exact hR
  | succ d ih =>
    intro q s hq hs hb hR
    have hr := h.row (q := q) (by omega)
    rw [dropL L q (by omega)] at hR
    refine Ev.shift ?_
    simp only [impl_MeanLevels.l0]
    refine Ev.pos (by omega) (Ev.pos (by omega) (Ev.pos (by omega) ?_))
    have hz : (List.zipWith (· + ·) s (rd_L1 L (q : Int))).length = s.length := by simp; omega
    have := imean_l1 L q (by omega) hL.2 s (rd_L1 L (q : Int)) (by omega) (by omega) (fun j hj => ⟨by have := hb j hj; omega, hr.2.2 j (by omega)⟩) R (ih (q + 1) _ (by omega) (by omega) (fun j hj => by
      have := sum_bounds (by omega) hb (fun j hj => hr.2.2 j (by omega)) j hj
      omega) hR) s.length 0 (by omega)
    simpa [addUpto] using this
theorem smean_l1 (L : List (List Int)) (q : Nat) (hq : q < L.length) (hL : L.length ≤ 15) (s r : List Int) (hs : s.length ≤ 10) (hr : r.length = s.length) (hb : ∀ j : Nat, j < s.length → (0 ≤ rd s (j : Int) ∧ rd s (j : Int) ≤ 1000) ∧ 0 ≤ rd r (j : Int) ∧ rd r (j : Int) ≤ 10) (R : List Int × Bool)
    (hR : Ev (fun k => spec_MeanLevels.l0 k (List.zipWith (· + ·) s r) L (L.length : Int) ((q + 1 : Nat) : Int)) R) (d : Nat) : ∀ j : Nat, j + d = s.length → Ev (fun k => spec_MeanLevels.l1 k (addUpto s r j) L (L.length : Int) (q : Int) r (r.length : Int) (j : Int)) R := by
  induction d with
  | zero =>
    intro j hj
    refine Ev.shift ?_
    simp only [spec_MeanLevels.l1]
    refine Ev.neg (by omega) ?_
    rw [wrap64_id (by omega) (by omega), cast1, show j = s.length by omega, addUpto_full s r hr]
    exact hR
  | succ d ih =>
    intro j hj
    have hb1 := hb j (by omega)
    have hl := addUpto_len s r hr j (by omega)
    have h1 := addUpto_rd s r hr j (by omega)
    refine Ev.shift ?_
    simp only [spec_MeanLevels.l1]
    refine Ev.pos (by omega) (Ev.pos (by omega) (Ev.pos (by omega) (Ev.pos (by omega) ?_)))
    rw [wrap64_id (x := (j : Int) + 1) (by omega) (by omega), cast1, Int.toNat_natCast, h1, wrap64_id (by omega) (by omega), addUpto_set s r hr j (by omega)]
    exact ih (j + 1) (by omega)
theorem smean_l0 (L : List (List Int)) (h : votP L) (R : List Int × Bool) (d : Nat) : ∀ (q : Nat) (s : List Int), q + d = L.length → s.length = (rd_L1 L 0).length → (∀ j : Nat, j < s.length → 0 ≤ rd s (j : Int) ∧ rd s (j : Int) ≤ 10 * (q : Int)) →
    Ev (fun k => (spec_weOfNumbers.f k (sums s (L.drop q))).bind fun t => some (t, true)) R → Ev (fun k => spec_MeanLevels.l0 k s L (L.length : Int) (q : Int)) R := by
  have hL := h.1
  induction d with
  | zero =>
    intro q s hq hs hb hR
    refine Ev.shift ?_
    simp only [spec_MeanLevels.l0]
    refine Ev.neg (by omega) ?_
    rw [List.drop_of_length_le (by omega)] at hR
    exact hR
  | succ d ih =>
    intro q s hq hs hb hR
    have hr := h.row (q := q) (by omega)
    rw [dropL L q (by omega)] at hR
    refine Ev.shift ?_
    simp only [spec_MeanLevels.l0]
    refine Ev.pos (by omega) (Ev.pos (by omega) (Ev.pos (by omega) ?_))
    have hz : (List.zipWith (· + ·) s (rd_L1 L (q : Int))).length = s.length := by simp; omega
    have := smean_l1 L q (by omega) hL.2 s (rd_L1 L (q : Int)) (by omega) (by omega) (fun j hj => ⟨by have := hb j hj; omega, hr.2.2 j (by omega)⟩) R (ih (q + 1) _ (by omega) (by omega) (fun j hj => by
      have := sum_bounds (by omega) hb (fun j hj => hr.2.2 j (by omega)) j hj
      omega) hR) s.length 0 (by omega)
    simpa [addUpto] using this
theorem sums_len : ∀ (L : List (List Int)) (s : List Int), (∀ r ∈ L, r.length = s.length) → (sums s L).length = s.length
  | [], s, _ => rfl
  | r :: t, s, h => by
    have hz : (List.zipWith (· + ·) s r).length = s.length := by have := h r (by simp); simp; omega
    have := sums_len t (List.zipWith (· + ·) s r) (fun r' hr' => by rw [hz]; exact h r' (by simp [hr']))
    rw [hz] at this; exact this
theorem MeanLevels_both (L : List (List Int)) (h : rowsP L) : ∃ x b, Ev (fun k => impl_MeanLevels.f k L) (x, b) ∧ Ev (fun k => spec_MeanLevels.f k L) (x, b) ∧ x.length ≤ 1000 := by
  unfold impl_MeanLevels.f spec_MeanLevels.f
  by_cases hv : votP L
  · have hL := hv.1
    have h10 := (hv.row (q := 0) (by omega)).2.1
    rw [show ((0 : Nat) : Int) = 0 from rfl] at h10
    have hlen : (sums (List.replicate (rd_L1 L 0).length 0) L).length = (rd_L1 L 0).length := by
      rw [sums_len L _ (fun r hr => by rw [List.length_replicate]; exact (hv.2 r hr).2), List.length_replicate]
    have hz : ∀ j : Nat, j < (List.replicate (rd_L1 L 0).length (0 : Int)).length → 0 ≤ rd (List.replicate (rd_L1 L 0).length (0 : Int)) (j : Int) ∧ rd (List.replicate (rd_L1 L 0).length (0 : Int)) (j : Int) ≤ 10 * ((0 : Nat) : Int) := by
      intro j hj; rw [rd_lt _ j hj]; simp
    refine ⟨lev (sums (List.replicate (rd_L1 L 0).length 0) L), true, Ev.bind (areVoters_ev L h) (Ev.pos (by simpa using hv) (Ev.pos (by omega) (Ev.pos (by omega) (Ev.pos (by omega) ?_)))), Ev.bind (weVoters_ev L h) (Ev.pos (by simpa using hv) (Ev.pos (by omega) (Ev.pos (by omega) (Ev.pos (by omega) ?_)))), by rw [lev_length, hlen]; omega⟩
    · rw [Int.toNat_natCast]
      exact imean_l0 L hv _ L.length 0 _ (by omega) (by simp) hz (by rw [List.drop_zero]; exact Ev.bind (leveled_ev _ (by omega)) (Ev.ret rfl))
    · rw [Int.toNat_natCast]
      exact smean_l0 L hv _ L.length 0 _ (by omega) (by simp) hz (by rw [List.drop_zero]; exact Ev.bind (ofNumbers_ev _ (by omega)) (Ev.ret rfl))
  · exact ⟨[], false, Ev.bind (areVoters_ev L h) (Ev.neg (by simpa using hv) (Ev.ret rfl)), Ev.bind (weVoters_ev L h) (Ev.neg (by simpa using hv) (Ev.ret rfl)), by simp⟩

end Go.Proofs.Ytjojalbgpemjoaa.Pure

/- MeanLevels answers what the reference answers and hands back memory of its own, for every list of voters with at most 2^20 rows and numbers in all (greater ones the statement lets pass). Conditions: none. -/
namespace Go.Proofs.Ytjojalbgpemjoaa.Pure
open Go.RowKit Go.Proofs.Ytjojalbgpemjoaa.Q Go.Proofs.YtjojalbgpemjoaaW.PrintWords Go.Proofs.YtjojalbgpemjoaaW.PrintLast
set_option linter.unusedVariables false
set_option linter.unusedSimpArgs false

theorem FnExactMeanLevels (L : List (List Int)) (hL : L.length ≤ maxLen) (hr : ∀ r ∈ L, r.length ≤ maxLen ∧ ∀ x ∈ r, (Lit.int .i64 x).wf = true) : ∃ k, laws_FnExactMeanLevels.f k L = some true := by
  refine Ev.at1 ?_
  unfold laws_FnExactMeanLevels.f
  obtain ⟨s, hs, h0⟩ := szSS L hL (fun r h => (hr r h).1)
  refine Ev.bind hs ?_
  by_cases hneg : s < 0
  · exact Ev.pos hneg (Ev.ret rfl)
  have h := h0 (by omega)
  obtain ⟨x, b, hi, hs2, hx⟩ := MeanLevels_both L h
  have tS := toSS L h
  have eS := eqSS_same L h
  obtain ⟨c, hc, hc0⟩ := markSS L h
  have ex := eqIntS_same x (by omega)
  have mx := markIntS x (by omega) 1 (by omega) (by omega)
  have gx := heldIntS x.length (by omega) 1 (by omega) (by omega)
  refine Ev.neg hneg (Ev.bind tS (Ev.bind hs2 (Ev.bind tS (Ev.bind hi (Ev.bind ex (Ev.pos rfl (Ev.shift ?_)))))))
  simp only [laws_FnExactMeanLevels.j0]
  refine Ev.neg (by simp) (Ev.bind tS (Ev.bind eS (Ev.pos rfl (Ev.bind hc (Ev.neg (by omega) (Ev.bind ex (Ev.pos rfl (Ev.shift ?_))))))))
  simp only [laws_FnExactMeanLevels.j1]
  refine Ev.neg (by simp) (Ev.bind mx (Ev.bind gx (Ev.neg (by omega) (Ev.pos rfl ?_))))
  refine Ev.bind tS (Ev.bind hi (Ev.bind ex (Ev.pos rfl (Ev.shift ?_))))
  simp only [laws_FnExactMeanLevels.j2]
  exact Ev.neg (by simp) (Ev.bind gx (Ev.neg (by omega) (Ev.pos rfl (Ev.ret rfl))))

end Go.Proofs.Ytjojalbgpemjoaa.Pure
