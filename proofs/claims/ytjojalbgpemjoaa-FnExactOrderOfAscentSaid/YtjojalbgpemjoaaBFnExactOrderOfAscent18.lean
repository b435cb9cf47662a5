import Derived.Test.YtjojalbgpemjoaaBFnExactOrderOfAscent3
import Derived.Test.YtjojalbgpemjoaaBFnExactOrderOfAscent4
import Derived.Test.YtjojalbgpemjoaaBFnExactOrderOfAscent5
import Derived.Test.YtjojalbgpemjoaaBFnExactOrderOfAscent6
import Derived.Test.YtjojalbgpemjoaaBFnExactOrderOfAscent8
import Derived.Test.YtjojalbgpemjoaaBFnExactOrderOfAscent9
import Derived.Test.YtjojalbgpemjoaaBFnExactOrderOfAscent10
import Derived.Test.YtjojalbgpemjoaaBFnExactOrderOfAscent11
import Derived.Test.YtjojalbgpemjoaaBFnExactOrderOfAscent12
import Derived.Test.YtjojalbgpemjoaaBFnExactOrderOfAscent13
import Derived.Test.YtjojalbgpemjoaaBFnExactOrderOfAscent14
import Derived.Test.YtjojalbgpemjoaaBFnExactOrderOfAscent16
import Derived.Test.YtjojalbgpemjoaaBFnExactOrderOfAscent17
namespace Go.Proofs.Ytjojalbgpemjoaa.Pure
open Go.RowKit Go.Proofs.Ytjojalbgpemjoaa.Q Go.Proofs.YtjojalbgpemjoaaW.PrintWords Go.Proofs.YtjojalbgpemjoaaW.PrintLast
set_option linter.unusedVariables false
set_option linter.unusedSimpArgs false

theorem rdIv_lt (l : List S61) (i : Nat) (h : i < l.length) : rd_T61 l (i : Int) = l[i] := by simp [rd_T61, h]
theorem dropIv (l : List S61) (i : Nat) (h : i < l.length) : l.drop i = rd_T61 l (i : Int) :: l.drop (i + 1) := by
  rw [rdIv_lt l i h]; exact List.drop_eq_getElem_cons h
theorem takeIv (l : List S61) (i : Nat) (h : i < l.length) : l.take (i + 1) = l.take i ++ [rd_T61 l (i : Int)] := by
  rw [rdIv_lt l i h]; exact List.take_succ_eq_append_getElem h
/-- as many different left ends as levels -/
theorem levels_len {l : List S61} {k last : Int} (h : IvOk l k last) : (dif (l.map (·.f0))).length = k.toNat := by
  have e : dif (l.map (·.f0)) = (List.range k.toNat).map (fun (n : Nat) => (n : Int)) := by
    refine rising_ext (dif_sorted _) ?_ fun x => ?_
    · rw [List.pairwise_map]
      exact List.Pairwise.imp (fun h => by omega) List.pairwise_lt_range
    · rw [mem_dif, List.mem_map, List.mem_map]
      constructor
      · rintro ⟨y, hy, rfl⟩
        have := h.ends y hy
        exact ⟨y.f0.toNat, by rw [List.mem_range]; omega, by omega⟩
      · rintro ⟨n, hn, rfl⟩
        rw [List.mem_range] at hn
        exact h.all n (by omega) (by omega)
  rw [e]; simp
theorem build_l0 (l : List S61) (hl : l.length ≤ 1000) (m : Int) (R : List S61) (hk : Ev (fun κ => (impl_different.f (l.map (·.f0))).bind fun t => (if (t.length : Int) = 0 then (some (([(⟨0, 0⟩ : S61)] : List S61))) else (impl_build.l1 κ l m (t.length : Int) (t.length : Int) l (l.length : Int) 0))) R) (d : Nat) :
    ∀ i : Nat, i + d = l.length → Ev (fun κ => impl_build.l0 κ l m ((l.take i).map (·.f0)) l (l.length : Int) (i : Int)) R := by
  induction d with
  | zero =>
    intro i hi
    refine Ev.shift ?_
    simp only [impl_build.l0]
    refine Ev.neg (by omega) ?_
    rw [List.take_of_length_le (by omega)]
    exact hk
  | succ d ih =>
    intro i hi
    refine Ev.shift ?_
    simp only [impl_build.l0]
    refine Ev.pos (by omega) (Ev.pos (by omega) (Ev.pos (by omega) (Ev.pos (by simp; omega) ?_)))
    rw [wrap64_id (by omega) (by omega), cast1]
    have := ih (i + 1) (by omega)
    rw [takeIv l i (by omega), List.map_append] at this
    exact this
theorem build_l1 (l : List S61) (hl : l.length ≤ 1000) (m k : Int) (hk0 : 0 < k ∧ k ≤ 1000) (R : List S61) (hR : ∀ D, D = leastIv k l k → Ev (fun κ => (impl_Interval.f l).bind fun t => (if m ≤ D then (if t.length < 8796093022208 then (some (t ++ [(⟨m, wrap64 (k - 1)⟩ : S61)])) else (none)) else (impl_build.l2 κ m k t l (l.length : Int) 0))) R) (d : Nat) :
    ∀ (i : Nat) (D : Int), i + d = l.length → leastIv k (l.drop i) D = leastIv k l k → Ev (fun κ => impl_build.l1 κ l m D k l (l.length : Int) (i : Int)) R := by
  induction d with
  | zero =>
    intro i D hi hD
    refine Ev.shift ?_
    simp only [impl_build.l1]
    refine Ev.neg (by omega) ?_
    rw [List.drop_of_length_le (by omega)] at hD
    exact hR D hD
  | succ d ih =>
    intro i D hi hD
    rw [dropIv l i (by omega)] at hD
    simp only [leastIv] at hD
    refine Ev.shift ?_
    simp only [impl_build.l1]
    refine Ev.pos (by omega) (Ev.pos (by omega) (Ev.pos (by omega) ?_))
    rw [wrap64_id (x := (i : Int) + 1) (by omega) (by omega), cast1, wrap64_id (x := k - 1) (by omega) (by omega)]
    by_cases hc : (rd_T61 l (i : Int)).f1 = k - 1
    · rw [if_pos hc] at hD
      refine Ev.pos hc (ih (i + 1) _ (by omega) ?_)
      rw [← hD]; congr 1; unfold mn; omega
    · rw [if_neg hc] at hD
      exact Ev.neg hc (ih (i + 1) _ (by omega) hD)
theorem shift_set (l : List S61) (m k : Int) (i : Nat) (hi : i < l.length) (x : S61) (hx : x = shiftIv m k (rd_T61 l (i : Int))) : ((l.take i).map (shiftIv m k) ++ l.drop i).set i x = (l.take (i + 1)).map (shiftIv m k) ++ l.drop (i + 1) := by
  rw [dropIv l i hi, List.set_append_right _ _ (by simp; omega), show i - ((l.take i).map (shiftIv m k)).length = 0 by simp; omega, List.set_cons_zero, takeIv l i hi, List.map_append, hx]
  simp
theorem shift_rd (l : List S61) (m k : Int) (i : Nat) (hi : i < l.length) : rd_T61 ((l.take i).map (shiftIv m k) ++ l.drop i) (i : Int) = rd_T61 l (i : Int) := by
  rw [rdIv_lt _ i (by simp; omega), rdIv_lt l i hi, List.getElem_append_right (by simp; omega)]
  simp; congr 1; omega
theorem build_l2 (l : List S61) (hl : l.length ≤ 1000) (m k : Int) (hk0 : 0 < k ∧ k ≤ 1000) (hends : ∀ x ∈ l, 0 ≤ x.f0 ∧ x.f0 < k ∧ 0 ≤ x.f1 ∧ x.f1 < k) (d : Nat) :
    ∀ (i : Nat), i + d = l.length → Ev (fun κ => impl_build.l2 κ m k ((l.take i).map (shiftIv m k) ++ l.drop i) l (l.length : Int) (i : Int)) (l.map (shiftIv m k) ++ [⟨m, k⟩]) := by
  induction d with
  | zero =>
    intro i hi
    refine Ev.shift ?_
    simp only [impl_build.l2]
    refine Ev.neg (by omega) ?_
    rw [List.take_of_length_le (by omega), List.drop_of_length_le (by omega), List.append_nil]
    exact Ev.pos (by simp; omega) (Ev.ret rfl)
  | succ d ih =>
    intro i hi
    have hb := hends (rd_T61 l (i : Int)) (by rw [rdIv_lt l i (by omega)]; exact List.getElem_mem _)
    have hlen : ((l.take i).map (shiftIv m k) ++ l.drop i).length = l.length := by simp; omega
    have hrd := shift_rd l m k i (by omega)
    have hset := fun x hx => shift_set l m k i (by omega) x hx
    have ih' := ih (i + 1) (by omega)
    have hsame : (l.take i).map (shiftIv m k) ++ l.drop i = ((l.take i).map (shiftIv m k) ++ l.drop i).set i (rd_T61 l (i : Int)) := by
      have := List.set_getElem_self (show i < ((l.take i).map (shiftIv m k) ++ l.drop i).length by rw [hlen]; omega)
      rw [← rdIv_lt _ i (by rw [hlen]; omega), hrd] at this
      exact this.symm
    generalize hG : (l.take i).map (shiftIv m k) ++ l.drop i = G at *
    refine Ev.shift ?_
    simp only [impl_build.l2]
    refine Ev.pos (by omega) (Ev.pos (by omega) (Ev.pos (by omega) ?_))
    rw [wrap64_id (x := (i : Int) + 1) (by omega) (by omega), cast1, wrap64_id (x := k - 1) (by omega) (by omega), Int.toNat_natCast]
    have hj3 : ∀ b : Bool, b = decide ((rd_T61 l (i : Int)).f1 = k - 1 ∧ (rd_T61 l (i : Int)).f0 < m) → (rd_T61 l (i : Int)).f1 ≥ m → Ev (fun κ => impl_build.j3 κ m k G (i : Int) l (l.length : Int) (i : Int) b (rd_T61 l (i : Int)).f0 (rd_T61 l (i : Int)).f1) (l.map (shiftIv m k) ++ [⟨m, k⟩]) := by
      intro b hb2 hge
      have hrs : ∀ y : S61, rd_T61 (G.set i y) (i : Int) = y := fun y => by rw [rdIv_lt _ i (by simp; omega), List.getElem_set_self]
      refine Ev.shift ?_
      simp only [impl_build.j3]
      rw [wrap64_id (x := (i : Int) + 1) (by omega) (by omega), cast1, Int.toNat_natCast]
      by_cases hbt : b = true
      · rw [hbt] at hb2
        have hc := of_decide_eq_true hb2.symm
        refine Ev.pos hbt (Ev.pos (by omega) (Ev.pos (by omega) (Ev.bindc rfl ?_)))
        rw [hrd, hrs]
        by_cases h0 : (rd_T61 l (i : Int)).f0 ≥ m
        · omega
        · refine Ev.neg h0 ?_
          rw [hset _ (by unfold shiftIv; rw [if_neg h0, if_pos hge, if_pos hc])]
          exact ih'
      · have hbf : b = false := by simpa using hbt
        rw [hbf] at hb2
        have hc := of_decide_eq_false hb2.symm
        refine Ev.neg hbt (Ev.pos (by omega) (Ev.pos (by omega) (Ev.bindc rfl ?_)))
        rw [hrd, hrs, wrap64_id (x := (rd_T61 l (i : Int)).f1 + 1) (by omega) (by omega)]
        by_cases h0 : (rd_T61 l (i : Int)).f0 ≥ m
        · refine Ev.pos h0 ?_
          rw [wrap64_id (x := (rd_T61 l (i : Int)).f0 + 1) (by omega) (by omega), List.set_set, hset _ (by unfold shiftIv; rw [if_pos h0, if_pos hge, if_neg hc])]
          exact ih'
        · refine Ev.neg h0 ?_
          rw [hset _ (by unfold shiftIv; rw [if_neg h0, if_pos hge, if_neg hc])]
          exact ih'
    by_cases hlt : (rd_T61 l (i : Int)).f1 < m
    · refine Ev.pos hlt ?_
      by_cases h0 : (rd_T61 l (i : Int)).f0 ≥ m
      · refine Ev.pos h0 (Ev.pos (by omega) ?_)
        rw [hrd, wrap64_id (x := (rd_T61 l (i : Int)).f0 + 1) (by omega) (by omega), hset _ (by unfold shiftIv; rw [if_pos h0, if_neg (by omega)])]
        exact ih'
      · refine Ev.neg h0 ?_
        rw [hsame, hset _ (by unfold shiftIv; rw [if_neg h0, if_neg (by omega)])]
        exact ih'
    · refine Ev.neg hlt ?_
      by_cases hc : (rd_T61 l (i : Int)).f1 = k - 1
      · exact Ev.pos hc (hj3 _ (by rw [Bool.eq_iff_iff, decide_eq_true_iff, decide_eq_true_iff]; simp [hc]) (by omega))
      · exact Ev.neg hc (hj3 _ (by symm; rw [decide_eq_false_iff_not]; exact fun h => hc h.1) (by omega))
theorem clone_f (l : List S61) (hl : l.length ≤ 1000) : impl_Interval.f l = some l := by
  unfold impl_Interval.f; rw [if_pos (by omega)]
theorem build_ev {l : List S61} {k last m : Int} (h : IvOk l k last) (hk : k ≤ 1000) (hl : l.length ≤ 1000) (hm : k = 0 → m = 0) : Ev (fun κ => impl_build.f κ l m) (growIv l m k).1 := by
  unfold impl_build.f
  refine build_l0 l hl m _ ?_ l.length 0 (by omega)
  refine Ev.bindc (different_f _ (by simp; omega)) ?_
  have hlen := levels_len h
  have hp := h.pos
  rw [show ((dif (l.map (·.f0))).length : Int) = k by rw [hlen]; omega]
  by_cases h0 : k = 0
  · refine Ev.pos h0 (Ev.ret ?_)
    rw [h.none h0, hm h0, h0]
    unfold growIv; rw [if_neg (by omega)]; rfl
  · refine Ev.neg h0 (build_l1 l hl m k (by omega) _ (fun D hD => ?_) l.length 0 k (by omega) (by rw [List.drop_zero]))
    refine Ev.bindc (clone_f l hl) ?_
    unfold growIv
    by_cases hc : m ≤ D
    · refine Ev.pos hc (Ev.pos (by omega) (Ev.ret ?_))
      rw [if_pos (show m ≤ leastIv k l k ∧ 0 < k by rw [← hD]; exact ⟨hc, by omega⟩), wrap64_id (by omega) (by omega)]
    · rw [if_neg (show ¬ (m ≤ leastIv k l k ∧ 0 < k) by rw [← hD]; exact fun h => hc h.1)]
      refine Ev.neg hc ?_
      have := build_l2 l hl m k (by omega) h.ends l.length 0 (by omega)
      simpa using this

end Go.Proofs.Ytjojalbgpemjoaa.Pure

namespace Go.Proofs.Ytjojalbgpemjoaa.Pure
open Go.RowKit Go.Proofs.Ytjojalbgpemjoaa.Q Go.Proofs.YtjojalbgpemjoaaW.PrintWords Go.Proofs.YtjojalbgpemjoaaW.PrintLast
set_option linter.unusedVariables false
set_option linter.unusedSimpArgs false

theorem least_f (a b : Int) : spec_l1Least.f a b = some (min a b) := by
  unfold spec_l1Least.f
  by_cases h : a < b
  · rw [if_pos h]; congr 1; omega
  · rw [if_neg h]; congr 1; omega
theorem grow_l1 (l : List S61) (hl : l.length ≤ 1000) (m k : Int) (hk0 : 0 ≤ k ∧ k ≤ 1000) (hends : ∀ x ∈ l, 0 ≤ x.f0 ∧ x.f0 < k ∧ 0 ≤ x.f1 ∧ x.f1 < k) (d : Nat) :
    ∀ (i : Nat), i + d = l.length → Ev (fun κ => spec_asGrow.l1 κ m k ((l.take i).map (shiftIv m k)) l (l.length : Int) (i : Int)) (l.map (shiftIv m k) ++ [⟨m, k⟩], k + 1) := by
  induction d with
  | zero =>
    intro i hi
    refine Ev.shift ?_
    simp only [spec_asGrow.l1]
    refine Ev.neg (by omega) ?_
    rw [List.take_of_length_le (by omega), wrap64_id (by omega) (by omega)]
    exact Ev.pos (by simp; omega) (Ev.ret rfl)
  | succ d ih =>
    intro i hi
    have hb := hends (rd_T61 l (i : Int)) (by rw [rdIv_lt l i (by omega)]; exact List.getElem_mem _)
    have ih' := ih (i + 1) (by omega)
    have hlen : ((l.take i).map (shiftIv m k)).length = i := by simp; omega
    rw [takeIv l i (by omega), List.map_append, List.map_singleton] at ih'
    generalize hG : (l.take i).map (shiftIv m k) = G at *
    have go : ∀ x : S61, x = shiftIv m k (rd_T61 l (i : Int)) → Ev (fun κ => spec_asGrow.l1 κ m k (G ++ [x]) l (l.length : Int) ((i + 1 : Nat) : Int)) (l.map (shiftIv m k) ++ [⟨m, k⟩], k + 1) := fun x hx => by rw [hx]; exact ih'
    have hj3 : ∀ b : Bool, b = decide ((rd_T61 l (i : Int)).f1 = k - 1 ∧ (rd_T61 l (i : Int)).f0 < m) → (rd_T61 l (i : Int)).f1 ≥ m → Ev (fun κ => spec_asGrow.j3 κ m k G l (l.length : Int) (i : Int) b (rd_T61 l (i : Int)).f0 (rd_T61 l (i : Int)).f1 (rd_T61 l (i : Int)).f0 ((rd_T61 l (i : Int)).f1 + 1)) (l.map (shiftIv m k) ++ [⟨m, k⟩], k + 1) := by
      intro b hb2 hge
      refine Ev.shift ?_
      simp only [spec_asGrow.j3]
      rw [wrap64_id (x := (i : Int) + 1) (by omega) (by omega), cast1, wrap64_id (x := (rd_T61 l (i : Int)).f0 + 1) (by omega) (by omega)]
      by_cases hbt : b = true
      · rw [hbt] at hb2
        have hc := of_decide_eq_true hb2.symm
        refine Ev.pos hbt (Ev.neg (by omega) (Ev.pos (by omega) (go _ ?_)))
        unfold shiftIv; rw [if_neg (by omega), if_pos hge, if_pos hc]
      · have hbf : b = false := by simpa using hbt
        rw [hbf] at hb2
        have hc := of_decide_eq_false hb2.symm
        refine Ev.neg hbt ?_
        by_cases h0 : (rd_T61 l (i : Int)).f0 ≥ m
        · refine Ev.pos h0 (Ev.pos (by omega) (go _ ?_))
          unfold shiftIv; rw [if_pos h0, if_pos hge, if_neg hc]
        · refine Ev.neg h0 (Ev.pos (by omega) (go _ ?_))
          unfold shiftIv; rw [if_neg h0, if_pos hge, if_neg hc]
    refine Ev.shift ?_
    simp only [spec_asGrow.l1]
    refine Ev.pos (by omega) (Ev.pos (by omega) (Ev.pos (by omega) ?_))
    rw [wrap64_id (x := (i : Int) + 1) (by omega) (by omega), cast1, wrap64_id (x := k - 1) (by omega) (by omega), wrap64_id (x := (rd_T61 l (i : Int)).f0 + 1) (by omega) (by omega), wrap64_id (x := (rd_T61 l (i : Int)).f1 + 1) (by omega) (by omega)]
    by_cases hge : (rd_T61 l (i : Int)).f1 ≥ m
    · refine Ev.pos hge ?_
      by_cases hc : (rd_T61 l (i : Int)).f1 = k - 1
      · exact Ev.pos hc (hj3 _ (by rw [Bool.eq_iff_iff, decide_eq_true_iff, decide_eq_true_iff]; simp [hc]) hge)
      · exact Ev.neg hc (hj3 _ (by symm; rw [decide_eq_false_iff_not]; exact fun h => hc h.1) hge)
    · refine Ev.neg hge ?_
      by_cases h0 : (rd_T61 l (i : Int)).f0 ≥ m
      · refine Ev.pos h0 (Ev.pos (by omega) (go _ ?_))
        unfold shiftIv; rw [if_pos h0, if_neg hge]
      · refine Ev.neg h0 (Ev.pos (by omega) (go _ ?_))
        unfold shiftIv; rw [if_neg h0, if_neg hge]
theorem grow_l0 (l : List S61) (hl : l.length ≤ 1000) (m k : Int) (hk0 : 0 ≤ k ∧ k ≤ 1000) (R : List S61 × Int) (hR : ∀ D, D = leastIv k l k → Ev (fun κ => (if m ≤ D then (spec_asGrow.j1 κ l m k (decide (k > 0))) else (spec_asGrow.j1 κ l m k false))) R) (d : Nat) :
    ∀ (i : Nat) (D : Int), i + d = l.length → leastIv k (l.drop i) D = leastIv k l k → Ev (fun κ => spec_asGrow.l0 κ l m k D l (l.length : Int) (i : Int)) R := by
  induction d with
  | zero =>
    intro i D hi hD
    refine Ev.shift ?_
    simp only [spec_asGrow.l0]
    refine Ev.neg (by omega) ?_
    rw [List.drop_of_length_le (by omega)] at hD
    exact hR D hD
  | succ d ih =>
    intro i D hi hD
    rw [dropIv l i (by omega)] at hD
    simp only [leastIv] at hD
    refine Ev.shift ?_
    simp only [spec_asGrow.l0]
    refine Ev.pos (by omega) (Ev.pos (by omega) (Ev.pos (by omega) ?_))
    rw [wrap64_id (x := (i : Int) + 1) (by omega) (by omega), cast1, wrap64_id (x := k - 1) (by omega) (by omega)]
    by_cases hc : (rd_T61 l (i : Int)).f1 = k - 1
    · rw [if_pos hc] at hD
      exact Ev.pos hc (Ev.bindc (least_f _ _) (ih (i + 1) _ (by omega) hD))
    · rw [if_neg hc] at hD
      exact Ev.neg hc (ih (i + 1) _ (by omega) hD)
theorem grow_ev {l : List S61} {k last m : Int} (h : IvOk l k last) (hk : k ≤ 1000) (hl : l.length ≤ 1000) : Ev (fun κ => spec_asGrow.f κ l m k) (growIv l m k) := by
  have hp := h.pos
  have hno : ∀ b : Bool, b = false → ¬ (m ≤ leastIv k l k ∧ 0 < k) → Ev (fun κ => spec_asGrow.j1 κ l m k b) (growIv l m k) := by
    intro b hb hc
    unfold growIv
    rw [if_neg hc]
    refine Ev.shift ?_
    simp only [spec_asGrow.j1]
    refine Ev.neg (by simp [hb]) ?_
    have := grow_l1 l hl m k (by omega) h.ends l.length 0 (by omega)
    simpa using this
  unfold spec_asGrow.f
  refine grow_l0 l hl m k (by omega) _ (fun D hD => ?_) l.length 0 k (by omega) (by rw [List.drop_zero])
  by_cases hc : m ≤ D
  · refine Ev.pos hc ?_
    by_cases h0 : k > 0
    · unfold growIv
      rw [if_pos (show m ≤ leastIv k l k ∧ 0 < k by rw [← hD]; exact ⟨hc, h0⟩)]
      refine Ev.shift ?_
      simp only [spec_asGrow.j1]
      refine Ev.pos (by simpa using h0) (Ev.bindc rfl (Ev.pos (by simp; omega) (Ev.bindc rfl (Ev.pos (by simp; omega) (Ev.ret ?_)))))
      rw [wrap64_id (by omega) (by omega)]; rfl
    · exact hno _ (by simpa using h0) (fun h => h0 h.2)
  · exact Ev.neg hc (hno _ rfl (by rw [← hD]; exact fun h => hc h.1))
/-- what the numbers make of intervals -/
def growAll : List S61 × Int → List Int → List S61 × Int
  | s, [] => s
  | s, m :: t => growAll (growIv s.1 m s.2) t
theorem grow_len (l : List S61) (m k : Int) : (growIv l m k).1.length = l.length + 1 := by unfold growIv; split <;> simp
theorem growAll_len : ∀ (t : List Int) (s : List S61 × Int), (growAll s t).1.length = s.1.length + t.length
  | [], s => rfl
  | m :: t, s => by simp only [growAll, List.length_cons]; rw [growAll_len t, grow_len]; omega
theorem both_l (L : List Int) (hL : L.length ≤ 10) (d : Nat) : ∀ (i : Nat) (l : List S61) (k last a : Int), i + d = L.length → l.length = i → IvOk l k last → (l = [] ∧ k = 0 ∧ last = -1 ∧ a = 0 ∨ 0 < k ∧ k = a + 1 ∧ 0 ≤ last) → 0 ≤ a ∧ a ≤ i → Goes last a (L.drop i) →
    Ev (fun κ => impl_intervalsOf.l0 κ l L (L.length : Int) (i : Int)) (growAll (l, k) (L.drop i)).1 ∧ Ev (fun κ => spec_asIntervals.l0 κ l k L (L.length : Int) (i : Int)) (growAll (l, k) (L.drop i)).1 := by
  induction d with
  | zero =>
    intro i l k last a hi hl h hk ha hg
    rw [List.drop_of_length_le (by omega)]
    constructor
    · refine Ev.shift ?_
      simp only [impl_intervalsOf.l0]
      exact Ev.neg (by omega) (Ev.ret rfl)
    · refine Ev.shift ?_
      simp only [spec_asIntervals.l0]
      exact Ev.neg (by omega) (Ev.ret rfl)
  | succ d ih =>
    intro i l k last a hi hl h hk ha hg
    have hdrop : L.drop i = rd L (i : Int) :: L.drop (i + 1) := by rw [rd_lt L i (by omega)]; exact List.drop_eq_getElem_cons (by omega)
    rw [hdrop] at hg ⊢
    obtain ⟨g1, g2, g3⟩ := hg
    obtain ⟨s1, s2, s3⟩ := h.step hk g1 g2
    have hnr := nx_range (last := last) (a := a) (x := rd L (i : Int))
    have hkk : k ≤ 1000 := by omega
    have ih' := ih (i + 1) (growIv l (rd L (i : Int)) k).1 (growIv l (rd L (i : Int)) k).2 (rd L (i : Int)) (nx last a (rd L (i : Int))) (by omega) (by rw [grow_len, hl]) s1 (.inr ⟨s2, s3, g1⟩) (by omega) g3
    have hm0 : k = 0 → rd L (i : Int) = 0 := by
      intro h0
      rcases hk with ⟨_, _, rfl, _⟩ | ⟨h1, _⟩
      · unfold topN at g2; simp at g2; omega
      · omega
    simp only [growAll]
    constructor
    · refine Ev.shift ?_
      simp only [impl_intervalsOf.l0]
      refine Ev.pos (by omega) (Ev.pos (by omega) (Ev.pos (by omega) (Ev.bind (build_ev h hkk (by omega) hm0) ?_)))
      rw [wrap64_id (by omega) (by omega), cast1]
      exact ih'.1
    · refine Ev.shift ?_
      simp only [spec_asIntervals.l0]
      refine Ev.pos (by omega) (Ev.pos (by omega) (Ev.pos (by omega) (Ev.bind (grow_ev h hkk (by omega)) ?_)))
      rw [wrap64_id (by omega) (by omega), cast1]
      exact ih'.2
/-- the intervals of an ascent sequence -/
def ivsOf (L : List Int) : List S61 := (growAll ([], 0) L).1
theorem ivsOf_len (L : List Int) : (ivsOf L).length = L.length := by unfold ivsOf; rw [growAll_len]; simp
theorem ivs_both (L : List Int) (h10 : L.length ≤ 10) (h : isAsc L = true) : Ev (fun κ => impl_intervalsOf.f κ L) (ivsOf L) ∧ Ev (fun κ => spec_asIntervals.f κ L) (ivsOf L) := by
  obtain ⟨_, hg⟩ := isAsc_goes.1 h
  have := both_l L h10 L.length 0 [] 0 (-1) 0 (by omega) rfl IvOk.start (.inl ⟨rfl, rfl, rfl, rfl⟩) (by omega) (by simpa using hg)
  rw [List.drop_zero] at this
  unfold impl_intervalsOf.f spec_asIntervals.f ivsOf
  exact this
theorem small_ev (L : List Int) : Ev (fun κ => impl_isSmallAscent.f κ L) (isAsc L && decide ((L.length : Int) ≤ 10)) := by
  unfold impl_isSmallAscent.f
  refine Ev.bind (isAscent_impl L) ?_
  by_cases h : isAsc L = true
  · exact Ev.pos h (Ev.ret (by rw [h]; simp))
  · exact Ev.neg h (Ev.ret (by simp [h]))

end Go.Proofs.Ytjojalbgpemjoaa.Pure

namespace Go.Proofs.Ytjojalbgpemjoaa.Pure
open Go.RowKit Go.Proofs.Ytjojalbgpemjoaa.Q Go.Proofs.YtjojalbgpemjoaaW.PrintWords Go.Proofs.YtjojalbgpemjoaaW.PrintLast
set_option linter.unusedVariables false
set_option linter.unusedSimpArgs false

theorem Ev.up {α : Type} {g : Nat → Option α} {r : α} (h : Ev g r) : Ev (fun k => g (k + 1)) r := by
  obtain ⟨K, hK⟩ := h; exact ⟨K, fun k hk => hK (k + 1) (by omega)⟩
/-- one more bit -/
def orb (x : Int) (j : Nat) : Int := Go.bits .or .i64 x (shl .i64 1 (j : Int))
/-- a row: the bits of those before d that p tells -/
def rowf (p : Nat → Bool) (d : Nat) : Int := (List.range d).foldl (fun x j => if p j then orb x j else x) 0
theorem rowf_succ (p : Nat → Bool) (d : Nat) : rowf p (d + 1) = if p d then orb (rowf p d) d else rowf p d := by
  simp [rowf, List.range_succ, List.foldl_append]
/-- the rows of a relation on n elements -/
def rel (p : Nat → Nat → Bool) (n : Nat) : List Int := (List.range n).map fun i => rowf (p i) n
theorem rel_length (p : Nat → Nat → Bool) (n : Nat) : (rel p n).length = n := by simp [rel]
theorem rel_get (p : Nat → Nat → Bool) (n i : Nat) (h : i < n) : rd (rel p n) (i : Int) = rowf (p i) n := by
  rw [rd_lt _ i (by rw [rel_length]; exact h)]; simp [rel]
theorem rel_congr {p q : Nat → Nat → Bool} {n : Nat} (h : ∀ i j, i < n → j < n → p i j = q i j) : rel p n = rel q n := by
  unfold rel
  refine List.map_congr_left fun i hi => ?_
  rw [List.mem_range] at hi
  have : ∀ d, d ≤ n → rowf (p i) d = rowf (q i) d := by
    intro d
    induction d with
    | zero => intro _; rfl
    | succ d ih => intro hd; rw [rowf_succ, rowf_succ, ih (by omega), h i d hi (by omega)]
  exact this n (Nat.le_refl _)
/-- the rows up to i are told, the ones behind are empty -/
def relUpto (p : Nat → Nat → Bool) (n i : Nat) : List Int := (rel p n).take i ++ List.replicate (n - i) 0
theorem relation_l1 (p : Nat → Nat → Bool) (n : Nat) (hn : n ≤ 1000) (i : Nat) (hi : i < n) (R : Int × List Int) (hR : ∀ g : Nat → Int → Int → Option Bool, (∀ i j : Nat, i < n → j < n → Ev (fun k => g k i j) (p i j)) → ∀ y : List Int, y.length = n → rd y (i : Int) = rowf (p i) n → (∀ m : Nat, m < n → m ≠ i → rd y (m : Int) = if m < i then rowf (p m) n else 0) → Ev (fun k => impl_relation.l0 k n (g k) n ((i + 1 : Nat) : Int) n y) R) (d : Nat) :
    ∀ (j : Nat) (y : List Int) (g : Nat → Int → Int → Option Bool), (∀ i j : Nat, i < n → j < n → Ev (fun k => g k i j) (p i j)) → j + d = n → y.length = n → rd y (i : Int) = rowf (p i) j → (∀ m : Nat, m < n → m ≠ i → rd y (m : Int) = if m < i then rowf (p m) n else 0) →
    Ev (fun k => impl_relation.l1 k n (g k) (i : Int) n (i : Int) n (j : Int) n y) R := by
  induction d with
  | zero =>
    intro j y g hg hj hy h1 h2
    obtain rfl : j = n := by omega
    refine Ev.shift ?_
    simp only [impl_relation.l1]
    refine Ev.neg (by omega) ?_
    rw [wrap64_id (x := (i : Int) + 1) (by omega) (by omega), cast1]
    exact hR (fun k => g (k + 1)) (fun a b ha hb => Ev.up (hg a b ha hb)) y hy h1 h2
  | succ d ih =>
    intro j y g hg hj hy h1 h2
    have hg' : ∀ i j : Nat, i < n → j < n → Ev (fun k => g (k + 1) i j) (p i j) := fun a b ha hb => Ev.up (hg a b ha hb)
    refine Ev.shift ?_
    simp only [impl_relation.l1]
    refine Ev.pos (by omega) (Ev.bind (hg' i j hi (by omega)) ?_)
    rw [wrap64_id (x := (j : Int) + 1) (by omega) (by omega), cast1]
    by_cases hp : p i j = true
    · refine Ev.pos hp (Ev.pos (by omega) (Ev.pos (by omega) (Ev.pos (by omega) ?_)))
      rw [Int.toNat_natCast]
      refine ih (j + 1) _ (fun k => g (k + 1)) hg' (by omega) (by simp; omega) ?_ ?_
      · rw [rd_lt _ i (by simp; omega), List.getElem_set_self, rowf_succ, if_pos hp, h1]; rfl
      · intro m hm hmi
        rw [rd_lt _ m (by simp; omega), List.getElem_set_ne (Ne.symm hmi), ← rd_lt y m (by omega)]
        exact h2 m hm hmi
    · refine Ev.neg hp (ih (j + 1) y (fun k => g (k + 1)) hg' (by omega) hy ?_ h2)
      rw [rowf_succ, if_neg hp]; exact h1
theorem relation_l0 (p : Nat → Nat → Bool) (n : Nat) (hn : n ≤ 1000) (d : Nat) : ∀ (i : Nat) (y : List Int) (g : Nat → Int → Int → Option Bool), (∀ i j : Nat, i < n → j < n → Ev (fun k => g k i j) (p i j)) → i + d = n → y.length = n → (∀ m : Nat, m < n → rd y (m : Int) = if m < i then rowf (p m) n else 0) →
    Ev (fun k => impl_relation.l0 k n (g k) n (i : Int) n y) ((n : Int), rel p n) := by
  induction d with
  | zero =>
    intro i y g hg hi hy h1
    refine Ev.shift ?_
    simp only [impl_relation.l0]
    refine Ev.neg (by omega) (Ev.ret ?_)
    congr 1
    apply List.ext_getElem (by rw [rel_length]; exact hy)
    intro m hm1 hm2
    have := h1 m (by omega)
    rw [if_pos (by omega), rd_lt y m hm1, ← rel_get p n m (by omega), rd_lt _ m hm2] at this
    exact this
  | succ d ih =>
    intro i y g hg hi hy h1
    refine Ev.shift ?_
    simp only [impl_relation.l0]
    refine Ev.pos (by omega) ?_
    refine relation_l1 p n hn i (by omega) _ (fun g' hg' y' hy' h1' h2' => ih (i + 1) y' g' hg' (by omega) hy' (fun m hm => ?_)) n 0 y (fun k => g (k + 1)) (fun a b ha hb => Ev.up (hg a b ha hb)) (by omega) hy ?_ ?_
    · by_cases e : m = i
      · subst e; rw [h1', if_pos (by omega)]
      · rw [h2' m hm e]
        by_cases hlt : m < i
        · rw [if_pos hlt, if_pos (by omega)]
        · rw [if_neg hlt, if_neg (by omega)]
    · rw [h1 i (by omega), if_neg (by omega)]; rfl
    · intro m hm e; exact h1 m hm
theorem relation_ev (p : Nat → Nat → Bool) (n : Nat) (hn : n ≤ 1000) (g : Nat → Int → Int → Option Bool) (hg : ∀ i j : Nat, i < n → j < n → Ev (fun k => g k i j) (p i j)) : Ev (fun k => impl_relation.f k n (g k)) ((n : Int), rel p n) := by
  unfold impl_relation.f
  refine Ev.pos (by omega) (Ev.pos (by omega) ?_)
  rw [Int.toNat_natCast]
  exact relation_l0 p n hn n 0 _ g hg (by omega) (by simp) (fun m hm => by rw [rd_lt _ m (by simp; omega), List.getElem_replicate, if_neg (by omega)])

end Go.Proofs.Ytjojalbgpemjoaa.Pure

namespace Go.Proofs.Ytjojalbgpemjoaa.Pure
open Go.RowKit Go.Proofs.Ytjojalbgpemjoaa.Q Go.Proofs.YtjojalbgpemjoaaW.PrintWords Go.Proofs.YtjojalbgpemjoaaW.PrintLast
set_option linter.unusedVariables false
set_option linter.unusedSimpArgs false

/-- wholly left of -/
def ivLt (l : List S61) (i j : Nat) : Bool := decide ((rd_T61 l (i : Int)).f1 < (rd_T61 l (j : Int)).f0)
theorem orderOf_ev (l : List S61) (hl : l.length ≤ 1000) : Ev (fun k => impl_orderOf.f k l) ((l.length : Int), rel (ivLt l) l.length) := by
  unfold impl_orderOf.f
  refine Ev.bind (relation_ev (ivLt l) l.length hl (fun _ u0_ u1_ => impl_orderOf_1.f u0_ u1_ l) (fun i j hi hj => ?_)) (Ev.ret rfl)
  refine Ev.const ?_
  unfold impl_orderOf_1.f
  rw [if_pos (by omega), if_pos (by omega), if_pos (by omega), if_pos (by omega)]
  rfl
theorem ivOrder_l1 (l : List S61) (hl : l.length ≤ 1000) (i : Nat) (hi : i < l.length) (y : List Int) (hy : y.length = i) (R : Int × List Int) (hR : Ev (fun k => spec_ivOrder.l0 k l l (l.length : Int) ((i + 1 : Nat) : Int) (l.length : Int) (y ++ [rowf (ivLt l i) l.length])) R) (d : Nat) :
    ∀ j : Nat, j + d = l.length → Ev (fun k => spec_ivOrder.l1 k l (rowf (ivLt l i) j) l (l.length : Int) (i : Int) l (l.length : Int) (j : Int) (l.length : Int) y (rd_T61 l (i : Int)).f0 (rd_T61 l (i : Int)).f1) R := by
  induction d with
  | zero =>
    intro j hj
    obtain rfl : j = l.length := by omega
    refine Ev.shift ?_
    simp only [spec_ivOrder.l1]
    refine Ev.neg (by omega) (Ev.pos (by omega) ?_)
    rw [wrap64_id (x := (i : Int) + 1) (by omega) (by omega), cast1]
    exact hR
  | succ d ih =>
    intro j hj
    have := ih (j + 1) (by omega)
    rw [rowf_succ] at this
    refine Ev.shift ?_
    simp only [spec_ivOrder.l1]
    refine Ev.pos (by omega) (Ev.pos (by omega) (Ev.pos (by omega) ?_))
    rw [wrap64_id (x := (j : Int) + 1) (by omega) (by omega), cast1]
    by_cases hc : (rd_T61 l (i : Int)).f1 < (rd_T61 l (j : Int)).f0
    · rw [if_pos (by simpa [ivLt] using hc)] at this
      exact Ev.pos hc this
    · rw [if_neg (by simpa [ivLt] using hc)] at this
      exact Ev.neg hc this
theorem ivOrder_l0 (l : List S61) (hl : l.length ≤ 1000) (d : Nat) : ∀ i : Nat, i + d = l.length → Ev (fun k => spec_ivOrder.l0 k l l (l.length : Int) (i : Int) (l.length : Int) ((rel (ivLt l) l.length).take i)) ((l.length : Int), rel (ivLt l) l.length) := by
  induction d with
  | zero =>
    intro i hi
    refine Ev.shift ?_
    simp only [spec_ivOrder.l0]
    exact Ev.neg (by omega) (Ev.ret (by rw [List.take_of_length_le (by rw [rel_length]; omega)]))
  | succ d ih =>
    intro i hi
    have := ih (i + 1) (by omega)
    rw [List.take_succ_eq_append_getElem (by rw [rel_length]; omega), ← rd_lt _ i (by rw [rel_length]; omega), rel_get _ _ i (by omega)] at this
    refine Ev.shift ?_
    simp only [spec_ivOrder.l0]
    refine Ev.pos (by omega) (Ev.pos (by omega) (Ev.pos (by omega) ?_))
    exact ivOrder_l1 l hl i (by omega) _ (by rw [List.length_take, rel_length]; omega) _ this l.length 0 (by omega)
theorem ivOrder_ev (l : List S61) (hl : l.length ≤ 1000) : Ev (fun k => spec_ivOrder.f k l) ((l.length : Int), rel (ivLt l) l.length) := by
  unfold spec_ivOrder.f
  exact ivOrder_l0 l hl l.length 0 (by omega)

end Go.Proofs.Ytjojalbgpemjoaa.Pure
