import Derived.Test.YtjojalbgpemjoaaBFnExactIntervalsOfAscent2
import Derived.Test.YtjojalbgpemjoaaBFnExactIntervalsOfAscent3
import Derived.Test.YtjojalbgpemjoaaBFnExactIntervalsOfAscent4
import Derived.Test.YtjojalbgpemjoaaBFnExactIntervalsOfAscent5
import Derived.Test.YtjojalbgpemjoaaBFnExactIntervalsOfAscent6
import Derived.Test.YtjojalbgpemjoaaBFnExactIntervalsOfAscent7
import Derived.Test.YtjojalbgpemjoaaBFnExactIntervalsOfAscent8
import Derived.Test.YtjojalbgpemjoaaBFnExactIntervalsOfAscent9
import Derived.Test.YtjojalbgpemjoaaBFnExactIntervalsOfAscent10
import Derived.Test.YtjojalbgpemjoaaBFnExactIntervalsOfAscent11
import Derived.Test.YtjojalbgpemjoaaBFnExactIntervalsOfAscent12
import Derived.Test.YtjojalbgpemjoaaBFnExactIntervalsOfAscent13
import Derived.Test.YtjojalbgpemjoaaBFnExactIntervalsOfAscent14
import Derived.Test.YtjojalbgpemjoaaBFnExactIntervalsOfAscent15
namespace Go.Proofs.Ytjojalbgpemjoaa.Pure
open Go.RowKit Go.Proofs.Ytjojalbgpemjoaa.Q Go.Proofs.YtjojalbgpemjoaaW.PrintWords Go.Proofs.YtjojalbgpemjoaaW.PrintLast
set_option linter.unusedVariables false
set_option linter.unusedSimpArgs false

theorem rdIv_lt (l : List S61) (i : Nat) (h : i < l.length) : rd_T61 l (i : Int) = l[i] := by simp [rd_T61, h]
theorem dropIv (l : List S61) (i : Nat) (h : i < l.length) : l.drop i = rd_T61 l (i : Int) :: l.drop (i + 1) := by
  rw [rdIv_lt l i h]; exact List.drop_eq_getElem_cons h
theorem takeIv (l : List S61) (i : Nat) (h : i < l.length) : l.take (i + 1) = l.take i ++ [rd_T61 l (i : Int)] := by
  rw [rdIv_lt l i h]; exact List.take_succ_eq_append_getElem h
/-- as many different left ends as levels -/
theorem levels_len {l : List S61} {k last : Int} (h : IvOk l k last) : (dif (l.map (·.f0))).length = k.toNat := by
  have e : dif (l.map (·.f0)) = (List.range k.toNat).map (fun (n : Nat) => (n : Int)) := by
    refine rising_ext (dif_sorted _) ?_ fun x => ?_
    · rw [List.pairwise_map]
      exact List.Pairwise.imp (fun h => by omega) List.pairwise_lt_range
    · rw [mem_dif, List.mem_map, List.mem_map]
      constructor
      · rintro ⟨y, hy, rfl⟩
        have := h.ends y hy
        exact ⟨y.f0.toNat, by rw [List.mem_range]; omega, by omega⟩
      · rintro ⟨n, hn, rfl⟩
        rw [List.mem_range] at hn
        exact h.all n (by omega) (by omega)
  rw [e]; simp
theorem build_l0 (l : List S61) (hl : l.length ≤ 1000) (m : Int) (R : List S61) (hk : Ev (fun κ => (impl_different.f (l.map (·.f0))).bind fun t => (if (t.length : Int) = 0 then (some (([(⟨0, 0⟩ : S61)] : List S61))) else (impl_build.l1 κ l m (t.length : Int) (t.length : Int) l (l.length : Int) 0))) R) (d : Nat) :
    ∀ i : Nat, i + d = l.length → Ev (fun κ => impl_build.l0 κ l m ((l.take i).map (·.f0)) l (l.length : Int) (i : Int)) R := by
  induction d with
  | zero =>
    intro i hi
    refine Ev.shift ?_
    simp only [impl_build.l0]
    refine Ev.neg (by omega) ?_
    rw [List.take_of_length_le (by omega)]
    exact hk
  | succ d ih =>
    intro i hi
    refine Ev.shift ?_
    simp only [impl_build.l0]
    refine Ev.pos (by omega) (Ev.pos (by omega) (Ev.pos (by omega) (Ev.pos (by simp; omega) ?_)))
    rw [wrap64_id (by omega) (by omega), cast1]
    have := ih (i + 1) (by omega)
    rw [takeIv l i (by omega), List.map_append] at this
    exact this
theorem build_l1 (l : List S61) (hl : l.length ≤ 1000) (m k : Int) (hk0 : 0 < k ∧ k ≤ 1000) (R : List S61) (hR : ∀ D, D = leastIv k l k → Ev (fun κ => (impl_Interval.f l).bind fun t => (if m ≤ D then (if t.length < 8796093022208 then (some (t ++ [(⟨m, wrap64 (k - 1)⟩ : S61)])) else (none)) else (impl_build.l2 κ m k t l (l.length : Int) 0))) R) (d : Nat) :
    ∀ (i : Nat) (D : Int), i + d = l.length → leastIv k (l.drop i) D = leastIv k l k → Ev (fun κ => impl_build.l1 κ l m D k l (l.length : Int) (i : Int)) R := by
  induction d with
  | zero =>
    intro i D hi hD
    refine Ev.shift ?_
    simp only [impl_build.l1]
    refine Ev.neg (by omega) ?_
    rw [List.drop_of_length_le (by omega)] at hD
    exact hR D hD
  | succ d ih =>
    intro i D hi hD
    rw [dropIv l i (by omega)] at hD
    simp only [leastIv] at hD
    refine Ev.shift ?_
    simp only [impl_build.l1]
    refine Ev.pos (by omega) (Ev.pos (by omega) (Ev.pos (by omega) ?_))
    rw [wrap64_id (x := (i : Int) + 1) (by omega) (by omega), cast1, wrap64_id (x := k - 1) (by omega) (by omega)]
    by_cases hc : (rd_T61 l (i : Int)).f1 = k - 1
    · rw [if_pos hc] at hD
      refine Ev.pos hc (ih (i + 1) _ (by omega) ?_)
      rw [← hD]; congr 1; unfold mn; omega
    · rw [if_neg hc] at hD
      exact Ev.neg hc (ih (i + 1) _ (by omega) hD)
theorem shift_set (l : List S61) (m k : Int) (i : Nat) (hi : i < l.length) (x : S61) (hx : x = shiftIv m k (rd_T61 l (i : Int))) : ((l.take i).map (shiftIv m k) ++ l.drop i).set i x = (l.take (i + 1)).map (shiftIv m k) ++ l.drop (i + 1) := by
  rw [dropIv l i hi, List.set_append_right _ _ (by simp; omega), show i - ((l.take i).map (shiftIv m k)).length = 0 by simp; omega, List.set_cons_zero, takeIv l i hi, List.map_append, hx]
  simp
theorem shift_rd (l : List S61) (m k : Int) (i : Nat) (hi : i < l.length) : rd_T61 ((l.take i).map (shiftIv m k) ++ l.drop i) (i : Int) = rd_T61 l (i : Int) := by
  rw [rdIv_lt _ i (by simp; omega), rdIv_lt l i hi, List.getElem_append_right (by simp; omega)]
  simp; congr 1; omega
theorem build_l2 (l : List S61) (hl : l.length ≤ 1000) (m k : Int) (hk0 : 0 < k ∧ k ≤ 1000) (hends : ∀ x ∈ l, 0 ≤ x.f0 ∧ x.f0 < k ∧ 0 ≤ x.f1 ∧ x.f1 < k) (d : Nat) :
    ∀ (i : Nat), i + d = l.length → Ev (fun κ => impl_build.l2 κ m k ((l.take i).map (shiftIv m k) ++ l.drop i) l (l.length : Int) (i : Int)) (l.map (shiftIv m k) ++ [⟨m, k⟩]) := by
  induction d with
  | zero =>
    intro i hi
    refine Ev.shift ?_
    simp only [impl_build.l2]
    refine Ev.neg (by omega) ?_
    rw [List.take_of_length_le (by omega), List.drop_of_length_le (by omega), List.append_nil]
    exact Ev.pos (by simp; omega) (Ev.ret rfl)
  | succ d ih =>
    intro i hi
    have hb := hends (rd_T61 l (i : Int)) (by rw [rdIv_lt l i (by omega)]; exact List.getElem_mem _)
    have hlen : ((l.take i).map (shiftIv m k) ++ l.drop i).length = l.length := by simp; omega
    have hrd := shift_rd l m k i (by omega)
    have hset := fun x hx => shift_set l m k i (by omega) x hx
    have ih' := ih (i + 1) (by omega)
    have hsame : (l.take i).map (shiftIv m k) ++ l.drop i = ((l.take i).map (shiftIv m k) ++ l.drop i).set i (rd_T61 l (i : Int)) := by
      have := List.set_getElem_self (show i < ((l.take i).map (shiftIv m k) ++ l.drop i).length by rw [hlen]; omega)
      rw [← rdIv_lt _ i (by rw [hlen]; omega), hrd] at this
      exact this.symm
    generalize hG : (l.take i).map (shiftIv m k) ++ l.drop i = G at *
    refine Ev.shift ?_
    simp only [impl_build.l2]
    refine Ev.pos (by omega) (Ev.pos (by omega) (Ev.pos (by omega) ?_))
    rw [wrap64_id (x := (i : Int) + 1) (by omega) (by omega), cast1, wrap64_id (x := k - 1) (by omega) (by omega), Int.toNat_natCast]
    have hj3 : ∀ b : Bool, b = decide ((rd_T61 l (i : Int)).f1 = k - 1 ∧ (rd_T61 l (i : Int)).f0 < m) → (rd_T61 l (i : Int)).f1 ≥ m → Ev (fun κ => impl_build.j3 κ m k G (i : Int) l (l.length : Int) (i : Int) b (rd_T61 l (i : Int)).f0 (rd_T61 l (i : Int)).f1) (l.map (shiftIv m k) ++ [⟨m, k⟩]) := by
      intro b hb2 hge
      have hrs : ∀ y : S61, rd_T61 (G.set i y) (i : Int) = y := fun y => by rw [rdIv_lt _ i (by simp; omega), List.getElem_set_self]
      refine Ev.shift ?_
      simp only [impl_build.j3]
      rw [wrap64_id (x := (i : Int) + 1) (by omega) (by omega), cast1, Int.toNat_natCast]
      by_cases hbt : b = true
      · rw [hbt] at hb2
        have hc := of_decide_eq_true hb2.symm
        refine Ev.pos hbt (Ev.pos (by omega) (Ev.pos (by omega) (Ev.bindc rfl ?_)))
        rw [hrd, hrs]
        by_cases h0 : (rd_T61 l (i : Int)).f0 ≥ m
        · omega
        · refine Ev.neg h0 ?_
          rw [hset _ (by unfold shiftIv; rw [if_neg h0, if_pos hge, if_pos hc])]
          exact ih'
      · have hbf : b = false := by simpa using hbt
        rw [hbf] at hb2
        have hc := of_decide_eq_false hb2.symm
        refine Ev.neg hbt (Ev.pos (by omega) (Ev.pos (by omega) (Ev.bindc rfl ?_)))
        rw [hrd, hrs, wrap64_id (x := (rd_T61 l (i : Int)).f1 + 1) (by omega) (by omega)]
        by_cases h0 : (rd_T61 l (i : Int)).f0 ≥ m
        · refine Ev.pos h0 ?_
          rw [wrap64_id (x := (rd_T61 l (i : Int)).f0 + 1) (by omega) (by omega), List.set_set, hset _ (by unfold shiftIv; rw [if_pos h0, if_pos hge, if_neg hc])]
          exact ih'
        · refine Ev.neg h0 ?_
          rw [hset _ (by unfold shiftIv; rw [if_neg h0, if_pos hge, if_neg hc])]
          exact ih'
    by_cases hlt : (rd_T61 l (i : Int)).f1 < m
    · refine Ev.pos hlt ?_
      by_cases h0 : (rd_T61 l (i : Int)).f0 ≥ m
      · refine Ev.pos h0 (Ev.pos (by omega) ?_)
        rw [hrd, wrap64_id (x := (rd_T61 l (i : Int)).f0 + 1) (by omega) (by omega), hset _ (by unfold shiftIv; rw [if_pos h0, if_neg (by omega)])]
        exact ih'
      · refine Ev.neg h0 ?_
        rw [hsame, hset _ (by unfold shiftIv; rw [if_neg h0, if_neg (by omega)])]
        exact ih'
    · refine Ev.neg hlt ?_
      by_cases hc : (rd_T61 l (i : Int)).f1 = k - 1
      · exact Ev.pos hc (hj3 _ (by rw [Bool.eq_iff_iff, decide_eq_true_iff, decide_eq_true_iff]; simp [hc]) (by omega))
      · exact Ev.neg hc (hj3 _ (by symm; rw [decide_eq_false_iff_not]; exact fun h => hc h.1) (by omega))
theorem clone_f (l : List S61) (hl : l.length ≤ 1000) : impl_Interval.f l = some l := by
  unfold impl_Interval.f; rw [if_pos (by omega)]
theorem build_ev {l : List S61} {k last m : Int} (h : IvOk l k last) (hk : k ≤ 1000) (hl : l.length ≤ 1000) (hm : k = 0 → m = 0) : Ev (fun κ => impl_build.f κ l m) (growIv l m k).1 := by
  unfold impl_build.f
  refine build_l0 l hl m _ ?_ l.length 0 (by omega)
  refine Ev.bindc (different_f _ (by simp; omega)) ?_
  have hlen := levels_len h
  have hp := h.pos
  rw [show ((dif (l.map (·.f0))).length : Int) = k by rw [hlen]; omega]
  by_cases h0 : k = 0
  · refine Ev.pos h0 (Ev.ret ?_)
    rw [h.none h0, hm h0, h0]
    unfold growIv; rw [if_neg (by omega)]; rfl
  · refine Ev.neg h0 (build_l1 l hl m k (by omega) _ (fun D hD => ?_) l.length 0 k (by omega) (by rw [List.drop_zero]))
    refine Ev.bindc (clone_f l hl) ?_
    unfold growIv
    by_cases hc : m ≤ D
    · refine Ev.pos hc (Ev.pos (by omega) (Ev.ret ?_))
      rw [if_pos (show m ≤ leastIv k l k ∧ 0 < k by rw [← hD]; exact ⟨hc, by omega⟩), wrap64_id (by omega) (by omega)]
    · rw [if_neg (show ¬ (m ≤ leastIv k l k ∧ 0 < k) by rw [← hD]; exact fun h => hc h.1)]
      refine Ev.neg hc ?_
      have := build_l2 l hl m k (by omega) h.ends l.length 0 (by omega)
      simpa using this

end Go.Proofs.Ytjojalbgpemjoaa.Pure

namespace Go.Proofs.Ytjojalbgpemjoaa.Pure
open Go.RowKit Go.Proofs.Ytjojalbgpemjoaa.Q Go.Proofs.YtjojalbgpemjoaaW.PrintWords Go.Proofs.YtjojalbgpemjoaaW.PrintLast
set_option linter.unusedVariables false
set_option linter.unusedSimpArgs false

theorem least_f (a b : Int) : spec_l1Least.f a b = some (min a b) := by
  unfold spec_l1Least.f
  by_cases h : a < b
  · rw [if_pos h]; congr 1; omega
  · rw [if_neg h]; congr 1; omega
theorem grow_l1 (l : List S61) (hl : l.length ≤ 1000) (m k : Int) (hk0 : 0 ≤ k ∧ k ≤ 1000) (hends : ∀ x ∈ l, 0 ≤ x.f0 ∧ x.f0 < k ∧ 0 ≤ x.f1 ∧ x.f1 < k) (d : Nat) :
    ∀ (i : Nat), i + d = l.length → Ev (fun κ => spec_asGrow.l1 κ m k ((l.take i).map (shiftIv m k)) l (l.length : Int) (i : Int)) (l.map (shiftIv m k) ++ [⟨m, k⟩], k + 1) := by
  induction d with
  | zero =>
    intro i hi
    refine Ev.shift ?_
    simp only [spec_asGrow.l1]
    refine Ev.neg (by omega) ?_
    rw [List.take_of_length_le (by omega), wrap64_id (by omega) (by omega)]
    exact Ev.pos (by simp; omega) (Ev.ret rfl)
  | succ d ih =>
    intro i hi
    have hb := hends (rd_T61 l (i : Int)) (by rw [rdIv_lt l i (by omega)]; exact List.getElem_mem _)
    have ih' := ih (i + 1) (by omega)
    have hlen : ((l.take i).map (shiftIv m k)).length = i := by simp; omega
    rw [takeIv l i (by omega), List.map_append, List.map_singleton] at ih'
    generalize hG : (l.take i).map (shiftIv m k) = G at *
    have go : ∀ x : S61, x = shiftIv m k (rd_T61 l (i : Int)) → Ev (fun κ => spec_asGrow.l1 κ m k (G ++ [x]) l (l.length : Int) ((i + 1 : Nat) : Int)) (l.map (shiftIv m k) ++ [⟨m, k⟩], k + 1) := fun x hx => by rw [hx]; exact ih'
    have hj3 : ∀ b : Bool, b = decide ((rd_T61 l (i : Int)).f1 = k - 1 ∧ (rd_T61 l (i : Int)).f0 < m) → (rd_T61 l (i : Int)).f1 ≥ m → Ev (fun κ => spec_asGrow.j3 κ m k G l (l.length : Int) (i : Int) b (rd_T61 l (i : Int)).f0 (rd_T61 l (i : Int)).f1 (rd_T61 l (i : Int)).f0 ((rd_T61 l (i : Int)).f1 + 1)) (l.map (shiftIv m k) ++ [⟨m, k⟩], k + 1) := by
      intro b hb2 hge
      refine Ev.shift ?_
      simp only [spec_asGrow.j3]
      rw [wrap64_id (x := (i : Int) + 1) (by omega) (by omega), cast1, wrap64_id (x := (rd_T61 l (i : Int)).f0 + 1) (by omega) (by omega)]
      by_cases hbt : b = true
      · rw [hbt] at hb2
        have hc := of_decide_eq_true hb2.symm
        refine Ev.pos hbt (Ev.neg (by omega) (Ev.pos (by omega) (go _ ?_)))
        unfold shiftIv; rw [if_neg (by omega), if_pos hge, if_pos hc]
      · have hbf : b = false := by simpa using hbt
        rw [hbf] at hb2
        have hc := of_decide_eq_false hb2.symm
        refine Ev.neg hbt ?_
        by_cases h0 : (rd_T61 l (i : Int)).f0 ≥ m
        · refine Ev.pos h0 (Ev.pos (by omega) (go _ ?_))
          unfold shiftIv; rw [if_pos h0, if_pos hge, if_neg hc]
        · refine Ev.neg h0 (Ev.pos (by omega) (go _ ?_))
          unfold shiftIv; rw [if_neg h0, if_pos hge, if_neg hc]
    refine Ev.shift ?_
    simp only [spec_asGrow.l1]
    refine Ev.pos (by omega) (Ev.pos (by omega) (Ev.pos (by omega) ?_))
    rw [wrap64_id (x := (i : Int) + 1) (by omega) (by omega), cast1, wrap64_id (x := k - 1) (by omega) (by omega), wrap64_id (x := (rd_T61 l (i : Int)).f0 + 1) (by omega) (by omega), wrap64_id (x := (rd_T61 l (i : Int)).f1 + 1) (by omega) (by omega)]
    by_cases hge : (rd_T61 l (i : Int)).f1 ≥ m
    · refine Ev.pos hge ?_
      by_cases hc : (rd_T61 l (i : Int)).f1 = k - 1
      · exact Ev.pos hc (hj3 _ (by rw [Bool.eq_iff_iff, decide_eq_true_iff, decide_eq_true_iff]; simp [hc]) hge)
      · exact Ev.neg hc (hj3 _ (by symm; rw [decide_eq_false_iff_not]; exact fun h => hc h.1) hge)
    · refine Ev.neg hge ?_
      by_cases h0 : (rd_T61 l (i : Int)).f0 ≥ m
      · refine Ev.pos h0 (Ev.pos (by omega) (go _ ?_))
        unfold shiftIv; rw [if_pos h0, if_neg hge]
      · refine Ev.neg h0 (Ev.pos (by omega) (go _ ?_))
        unfold shiftIv; rw [if_neg h0, if_neg hge]
theorem grow_l0 (l : List S61) (hl : l.length ≤ 1000) (m k : Int) (hk0 : 0 ≤ k ∧ k ≤ 1000) (R : List S61 × Int) (hR : ∀ D, D = leastIv k l k → Ev (fun κ => (if m ≤ D then (spec_asGrow.j1 κ l m k (decide (k > 0))) else (spec_asGrow.j1 κ l m k false))) R) (d : Nat) :
    ∀ (i : Nat) (D : Int), i + d = l.length → leastIv k (l.drop i) D = leastIv k l k → Ev (fun κ => spec_asGrow.l0 κ l m k D l (l.length : Int) (i : Int)) R := by
  induction d with
  | zero =>
    intro i D hi hD
    refine Ev.shift ?_
    simp only [spec_asGrow.l0]
    refine Ev.neg (by omega) ?_
    rw [List.drop_of_length_le (by omega)] at hD
    exact hR D hD
  | succ d ih =>
    intro i D hi hD
    rw [dropIv l i (by omega)] at hD
    simp only [leastIv] at hD
    refine Ev.shift ?_
    simp only [spec_asGrow.l0]
    refine Ev.pos (by omega) (Ev.pos (by omega) (Ev.pos (by omega) ?_))
    rw [wrap64_id (x := (i : Int) + 1) (by omega) (by omega), cast1, wrap64_id (x := k - 1) (by omega) (by omega)]
    by_cases hc : (rd_T61 l (i : Int)).f1 = k - 1
    · rw [if_pos hc] at hD
      exact Ev.pos hc (Ev.bindc (least_f _ _) (ih (i + 1) _ (by omega) hD))
    · rw [if_neg hc] at hD
      exact Ev.neg hc (ih (i + 1) _ (by omega) hD)
theorem grow_ev {l : List S61} {k last m : Int} (h : IvOk l k last) (hk : k ≤ 1000) (hl : l.length ≤ 1000) : Ev (fun κ => spec_asGrow.f κ l m k) (growIv l m k) := by
  have hp := h.pos
  have hno : ∀ b : Bool, b = false → ¬ (m ≤ leastIv k l k ∧ 0 < k) → Ev (fun κ => spec_asGrow.j1 κ l m k b) (growIv l m k) := by
    intro b hb hc
    unfold growIv
    rw [if_neg hc]
    refine Ev.shift ?_
    simp only [spec_asGrow.j1]
    refine Ev.neg (by simp [hb]) ?_
    have := grow_l1 l hl m k (by omega) h.ends l.length 0 (by omega)
    simpa using this
  unfold spec_asGrow.f
  refine grow_l0 l hl m k (by omega) _ (fun D hD => ?_) l.length 0 k (by omega) (by rw [List.drop_zero])
  by_cases hc : m ≤ D
  · refine Ev.pos hc ?_
    by_cases h0 : k > 0
    · unfold growIv
      rw [if_pos (show m ≤ leastIv k l k ∧ 0 < k by rw [← hD]; exact ⟨hc, h0⟩)]
      refine Ev.shift ?_
      simp only [spec_asGrow.j1]
      refine Ev.pos (by simpa using h0) (Ev.bindc rfl (Ev.pos (by simp; omega) (Ev.bindc rfl (Ev.pos (by simp; omega) (Ev.ret ?_)))))
      rw [wrap64_id (by omega) (by omega)]; rfl
    · exact hno _ (by simpa using h0) (fun h => h0 h.2)
  · exact Ev.neg hc (hno _ rfl (by rw [← hD]; exact fun h => hc h.1))
/-- what the numbers make of intervals -/
def growAll : List S61 × Int → List Int → List S61 × Int
  | s, [] => s
  | s, m :: t => growAll (growIv s.1 m s.2) t
theorem grow_len (l : List S61) (m k : Int) : (growIv l m k).1.length = l.length + 1 := by unfold growIv; split <;> simp
theorem growAll_len : ∀ (t : List Int) (s : List S61 × Int), (growAll s t).1.length = s.1.length + t.length
  | [], s => rfl
  | m :: t, s => by simp only [growAll, List.length_cons]; rw [growAll_len t, grow_len]; omega
theorem both_l (L : List Int) (hL : L.length ≤ 10) (d : Nat) : ∀ (i : Nat) (l : List S61) (k last a : Int), i + d = L.length → l.length = i → IvOk l k last → (l = [] ∧ k = 0 ∧ last = -1 ∧ a = 0 ∨ 0 < k ∧ k = a + 1 ∧ 0 ≤ last) → 0 ≤ a ∧ a ≤ i → Goes last a (L.drop i) →
    Ev (fun κ => impl_intervalsOf.l0 κ l L (L.length : Int) (i : Int)) (growAll (l, k) (L.drop i)).1 ∧ Ev (fun κ => spec_asIntervals.l0 κ l k L (L.length : Int) (i : Int)) (growAll (l, k) (L.drop i)).1 := by
  induction d with
  | zero =>
    intro i l k last a hi hl h hk ha hg
    rw [List.drop_of_length_le (by omega)]
    constructor
    · refine Ev.shift ?_
      simp only [impl_intervalsOf.l0]
      exact Ev.neg (by omega) (Ev.ret rfl)
    · refine Ev.shift ?_
      simp only [spec_asIntervals.l0]
      exact Ev.neg (by omega) (Ev.ret rfl)
  | succ d ih =>
    intro i l k last a hi hl h hk ha hg
    have hdrop : L.drop i = rd L (i : Int) :: L.drop (i + 1) := by rw [rd_lt L i (by omega)]; exact List.drop_eq_getElem_cons (by omega)
    rw [hdrop] at hg ⊢
    obtain ⟨g1, g2, g3⟩ := hg
    obtain ⟨s1, s2, s3⟩ := h.step hk g1 g2
    have hnr := nx_range (last := last) (a := a) (x := rd L (i : Int))
    have hkk : k ≤ 1000 := by omega
    have ih' := ih (i + 1) (growIv l (rd L (i : Int)) k).1 (growIv l (rd L (i : Int)) k).2 (rd L (i : Int)) (nx last a (rd L (i : Int))) (by omega) (by rw [grow_len, hl]) s1 (.inr ⟨s2, s3, g1⟩) (by omega) g3
    have hm0 : k = 0 → rd L (i : Int) = 0 := by
      intro h0
      rcases hk with ⟨_, _, rfl, _⟩ | ⟨h1, _⟩
      · unfold topN at g2; simp at g2; omega
      · omega
    simp only [growAll]
    constructor
    · refine Ev.shift ?_
      simp only [impl_intervalsOf.l0]
      refine Ev.pos (by omega) (Ev.pos (by omega) (Ev.pos (by omega) (Ev.bind (build_ev h hkk (by omega) hm0) ?_)))
      rw [wrap64_id (by omega) (by omega), cast1]
      exact ih'.1
    · refine Ev.shift ?_
      simp only [spec_asIntervals.l0]
      refine Ev.pos (by omega) (Ev.pos (by omega) (Ev.pos (by omega) (Ev.bind (grow_ev h hkk (by omega)) ?_)))
      rw [wrap64_id (by omega) (by omega), cast1]
      exact ih'.2
/-- the intervals of an ascent sequence -/
def ivsOf (L : List Int) : List S61 := (growAll ([], 0) L).1
theorem ivsOf_len (L : List Int) : (ivsOf L).length = L.length := by unfold ivsOf; rw [growAll_len]; simp
theorem ivs_both (L : List Int) (h10 : L.length ≤ 10) (h : isAsc L = true) : Ev (fun κ => impl_intervalsOf.f κ L) (ivsOf L) ∧ Ev (fun κ => spec_asIntervals.f κ L) (ivsOf L) := by
  obtain ⟨_, hg⟩ := isAsc_goes.1 h
  have := both_l L h10 L.length 0 [] 0 (-1) 0 (by omega) rfl IvOk.start (.inl ⟨rfl, rfl, rfl, rfl⟩) (by omega) (by simpa using hg)
  rw [List.drop_zero] at this
  unfold impl_intervalsOf.f spec_asIntervals.f ivsOf
  exact this
theorem small_ev (L : List Int) : Ev (fun κ => impl_isSmallAscent.f κ L) (isAsc L && decide ((L.length : Int) ≤ 10)) := by
  unfold impl_isSmallAscent.f
  refine Ev.bind (isAscent_impl L) ?_
  by_cases h : isAsc L = true
  · exact Ev.pos h (Ev.ret (by rw [h]; simp))
  · exact Ev.neg h (Ev.ret (by simp [h]))

end Go.Proofs.Ytjojalbgpemjoaa.Pure

namespace Go.Proofs.Ytjojalbgpemjoaa.Pure
open Go.RowKit Go.Proofs.Ytjojalbgpemjoaa.Q Go.Proofs.YtjojalbgpemjoaaW.PrintWords Go.Proofs.YtjojalbgpemjoaaW.PrintLast
set_option linter.unusedVariables false
set_option linter.unusedSimpArgs false

-- what the statements' own helpers answer at intervals
theorem eqIv_l (l : List S61) (hl : l.length ≤ 1000) (d : Nat) : ∀ i : Nat, i + d = l.length → Ev (fun k => laws_eqIntervalS.l0 k l l (i : Int)) true := by
  induction d with
  | zero =>
    intro i hi
    refine Ev.shift ?_
    simp only [laws_eqIntervalS.l0]
    exact Ev.neg (by omega) (Ev.ret rfl)
  | succ d ih =>
    intro i hi
    refine Ev.shift ?_
    simp only [laws_eqIntervalS.l0]
    refine Ev.pos (by omega) (Ev.pos (by omega) (Ev.pos (by omega) (Ev.bindc (x := true) ?_ (Ev.pos rfl ?_))))
    · unfold laws_eqInterval.f; rw [if_pos rfl, if_pos rfl]
    · rw [wrap64_id (by omega) (by omega), cast1]; exact ih (i + 1) (by omega)
theorem eqIv_same (l : List S61) (hl : l.length ≤ 1000) : Ev (fun k => laws_eqIntervalS.f k l l) true := by
  unfold laws_eqIntervalS.f
  exact Ev.pos rfl (eqIv_l l hl l.length 0 (by omega))
/-- the intervals a, a+1; a+2, a+3; .. -/
def markIv (a : Int) (n : Nat) : List S61 := (List.range n).map fun (i : Nat) => ⟨a + 2 * i, a + 2 * i + 1⟩
theorem markIv_length (a : Int) (n : Nat) : (markIv a n).length = n := by simp [markIv]
theorem markIv_rd (a : Int) (n i : Nat) (h : i < n) : rd_T61 (markIv a n) (i : Int) = ⟨a + 2 * i, a + 2 * i + 1⟩ := by
  rw [rdIv_lt _ _ (by rw [markIv_length]; exact h)]; simp [markIv]
theorem markIv_prefix {a : Int} {m : List S61} {i n : Nat} (hm : m.length = n) (hi : i < n) (h : m.take i = markIv a i) : (m.set i ⟨a + 2 * i, a + 2 * i + 1⟩).take (i + 1) = markIv a (i + 1) := by
  apply List.ext_getElem?
  intro j
  by_cases hj : j < i + 1
  · rw [List.getElem?_take_of_lt hj]
    by_cases e : j = i
    · subst e; rw [List.getElem?_set_self (by omega)]; simp [markIv]
    · rw [List.getElem?_set_ne (by omega)]
      have := congrArg (fun t => t[j]?) h
      rw [List.getElem?_take_of_lt (by omega)] at this
      rw [this]; simp [markIv]; rw [List.getElem?_range (by omega), List.getElem?_range (by omega)]
  · rw [List.getElem?_eq_none (by simp; omega), List.getElem?_eq_none (by simp [markIv]; omega)]
theorem markIvS_l (n : Nat) (hn : n ≤ 1000) (a : Int) (h0 : 0 ≤ a) (h1 : a ≤ 1000) (d : Nat) : ∀ (i : Nat) (m : List S61), i + d = n → m.length = n → m.take i = markIv a i → Ev (fun k => laws_markIntervalS.l0 k m (a + 2 * i) i) (a + 2 * n, markIv a n) := by
  induction d with
  | zero =>
    intro i m hi hm ht
    refine Ev.shift ?_
    simp only [laws_markIntervalS.l0]
    refine Ev.neg (by omega) (Ev.ret ?_)
    rw [List.take_of_length_le (by omega)] at ht
    obtain rfl : i = n := by omega
    rw [ht]
  | succ d ih =>
    intro i m hi hm ht
    refine Ev.shift ?_
    simp only [laws_markIntervalS.l0]
    refine Ev.pos (by omega) (Ev.pos (by omega) (Ev.bindc rfl ?_))
    rw [wrap64_id (x := (i : Int) + 1) (by omega) (by omega), wrap64_id (x := a + 2 * (i : Int) + 1) (by omega) (by omega), wrap64_id (x := a + 2 * (i : Int) + 1 + 1) (by omega) (by omega), Int.toNat_natCast, List.set_set, rdIv_lt _ i (by simp; omega), List.getElem_set_self]
    have e : a + 2 * (i : Int) + 1 + 1 = a + 2 * ((i + 1 : Nat) : Int) := by omega
    rw [e, cast1]
    exact ih (i + 1) _ (by omega) (by rw [List.length_set]; exact hm) (markIv_prefix hm (by omega) ht)
theorem markIvS (l : List S61) (hl : l.length ≤ 1000) : Ev (fun k => laws_markIntervalS.f k l 1) (1 + 2 * l.length, markIv 1 l.length) := by
  unfold laws_markIntervalS.f
  have := markIvS_l l.length hl 1 (by omega) (by omega) l.length 0 l (by omega) rfl (by simp [markIv])
  simpa using this
theorem heldIvS_l (n : Nat) (hn : n ≤ 1000) (a : Int) (h0 : 0 ≤ a) (h1 : a ≤ 1000) (d : Nat) : ∀ (i : Nat), i + d = n → Ev (fun k => laws_heldIntervalS.l0 k (markIv a n) (a + 2 * i) i) (a + 2 * n) := by
  induction d with
  | zero =>
    intro i hi
    refine Ev.shift ?_
    simp only [laws_heldIntervalS.l0, markIv_length]
    refine Ev.neg (by omega) (Ev.ret ?_)
    rw [show i = n by omega]
  | succ d ih =>
    intro i hi
    refine Ev.shift ?_
    simp only [laws_heldIntervalS.l0, markIv_length]
    rw [markIv_rd a n i (by omega), wrap64_id (x := a + 2 * (i : Int) + 1) (by omega) (by omega), wrap64_id (x := a + 2 * (i : Int) + 1 + 1) (by omega) (by omega), wrap64_id (x := (i : Int) + 1) (by omega) (by omega)]
    have e : a + 2 * (i : Int) + 1 + 1 = a + 2 * ((i + 1 : Nat) : Int) := by omega
    rw [e, cast1]
    exact Ev.pos (by omega) (Ev.pos (by omega) (Ev.pos rfl (Ev.pos rfl (ih (i + 1) (by omega)))))
theorem heldIvS (n : Nat) (hn : n ≤ 1000) : Ev (fun k => laws_heldIntervalS.f k (markIv 1 n) 1) (1 + 2 * n) := by
  unfold laws_heldIntervalS.f
  have := heldIvS_l n hn 1 (by omega) (by omega) n 0 (by omega)
  simpa using this

end Go.Proofs.Ytjojalbgpemjoaa.Pure

/- IntervalsOfAscent answers what the reference answers and hands back memory of its own, for every list of at most 2^20 numbers (longer ones the statement lets pass). Conditions: none. -/
namespace Go.Proofs.Ytjojalbgpemjoaa.Pure
open Go.RowKit Go.Proofs.Ytjojalbgpemjoaa.Q Go.Proofs.YtjojalbgpemjoaaW.PrintWords Go.Proofs.YtjojalbgpemjoaaW.PrintLast
set_option linter.unusedVariables false
set_option linter.unusedSimpArgs false

theorem IntervalsOfAscent_both (l : List Int) : ∃ x b, Ev (fun k => impl_IntervalsOfAscent.f k l) (x, b) ∧ Ev (fun k => spec_IntervalsOfAscent.f k l) (x, b) ∧ x.length ≤ 10 := by
  unfold impl_IntervalsOfAscent.f spec_IntervalsOfAscent.f
  by_cases h : isAsc l = true
  · by_cases h10 : (l.length : Int) ≤ 10
    · have hb := ivs_both l (by omega) h
      exact ⟨ivsOf l, true, Ev.bind (small_ev l) (Ev.pos (by simp [h, h10]) (Ev.bind hb.1 (Ev.ret rfl))), Ev.bind (good_spec l) (Ev.pos h (Ev.neg (by omega) (Ev.bind hb.2 (Ev.ret rfl)))), by rw [ivsOf_len]; omega⟩
    · exact ⟨[], false, Ev.bind (small_ev l) (Ev.neg (by simp [h10]) (Ev.ret rfl)), Ev.bind (good_spec l) (Ev.pos h (Ev.pos (by omega) (Ev.ret rfl))), by simp⟩
  · exact ⟨[], false, Ev.bind (small_ev l) (Ev.neg (by simp [h]) (Ev.ret rfl)), Ev.bind (good_spec l) (Ev.neg h (Ev.ret rfl)), by simp⟩
theorem FnExactIntervalsOfAscent : laws_FnExactIntervalsOfAscent.Pure := by
  intro l h1 h2 h3
  refine Ev.at1 ?_
  unfold laws_FnExactIntervalsOfAscent.f
  by_cases hb : (l.length : Int) > 1048576
  · exact Ev.pos hb (Ev.ret rfl)
  · have hl : l.length ≤ 1048576 := by omega
    obtain ⟨x, b, hi, hs, hx⟩ := IntervalsOfAscent_both l
    refine Ev.neg hb (Ev.bind (toIntS l hl) (Ev.bind hs (Ev.bind (toIntS l hl) (Ev.bind hi ?_))))
    have ex := eqIv_same x (by omega)
    have mx := markIvS x (by omega)
    have gx := heldIvS x.length (by omega)
    refine Ev.bind ex (Ev.pos rfl ?_)
    refine Ev.shift ?_
    simp only [laws_FnExactIntervalsOfAscent.j0]
    refine Ev.neg (by simp) (Ev.bind (toIntS l hl) (Ev.bind (eqIntS_same l hl) (Ev.pos rfl (Ev.bind (markIntS l hl 1 (by omega) (by omega)) ?_))))
    refine Ev.neg (by simp; omega) (Ev.bind ex (Ev.pos rfl ?_))
    refine Ev.shift ?_
    simp only [laws_FnExactIntervalsOfAscent.j1]
    refine Ev.neg (by simp) (Ev.bind mx (Ev.bind gx (Ev.neg (by omega) (Ev.pos rfl ?_))))
    refine Ev.bind (toIntS l hl) (Ev.bind hi (Ev.bind ex (Ev.pos rfl ?_)))
    refine Ev.shift ?_
    simp only [laws_FnExactIntervalsOfAscent.j2]
    exact Ev.neg (by simp) (Ev.bind gx (Ev.neg (by omega) (Ev.pos rfl (Ev.ret rfl))))

end Go.Proofs.Ytjojalbgpemjoaa.Pure
