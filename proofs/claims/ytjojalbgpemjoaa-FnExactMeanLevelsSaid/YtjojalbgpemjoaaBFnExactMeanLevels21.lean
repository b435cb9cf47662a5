import Derived.Test.YtjojalbgpemjoaaBFnExactMeanLevels4
import Derived.Test.YtjojalbgpemjoaaBFnExactMeanLevels5
import Derived.Test.YtjojalbgpemjoaaBFnExactMeanLevels7
import Derived.Test.YtjojalbgpemjoaaBFnExactMeanLevels9
import Derived.Test.YtjojalbgpemjoaaBFnExactMeanLevels10
import Derived.Test.YtjojalbgpemjoaaBFnExactMeanLevels11
import Derived.Test.YtjojalbgpemjoaaBFnExactMeanLevels12
import Derived.Test.YtjojalbgpemjoaaBFnExactMeanLevels13
import Derived.Test.YtjojalbgpemjoaaBFnExactMeanLevels16
import Derived.Test.YtjojalbgpemjoaaBFnExactMeanLevels18
import Derived.Test.YtjojalbgpemjoaaBFnExactMeanLevels19
import Derived.Test.YtjojalbgpemjoaaBFnExactMeanLevels20
namespace Go.Proofs.Ytjojalbgpemjoaa.Pure
open Go.RowKit Go.Proofs.Ytjojalbgpemjoaa.Q Go.Proofs.YtjojalbgpemjoaaW.PrintWords Go.Proofs.YtjojalbgpemjoaaW.PrintLast
set_option linter.unusedVariables false
set_option linter.unusedSimpArgs false

/-- voters that tell levels of as many elements each -/
def votP (L : List (List Int)) : Prop := (1 ≤ L.length ∧ L.length ≤ 15) ∧ ∀ r ∈ L, lvlP r ∧ r.length = (rd_L1 L 0).length
instance (L : List (List Int)) : Decidable (votP L) := by unfold votP; infer_instance
/-- not as the others, or no levels -/
def badP (n : Nat) (r : List Int) : Bool := !decide (lvlP r) || (r.length : Int) != (n : Int)
theorem indexFunc_l (L : List (List Int)) (hL : L.length ≤ 1048576) (p : List Int → Bool) (d : Nat) : ∀ (i : Nat) (g : Nat → List Int → Option Bool), (∀ r ∈ L, Ev (fun k => g k r) (p r)) → i + d = L.length →
    ∃ s, Ev (fun k => slices_IndexFunc_int_int.l0 k L (g k) (L.length : Int) (i : Int)) s ∧ (0 ≤ s ↔ ∃ r ∈ L.drop i, p r = true) := by
  induction d with
  | zero =>
    intro i g hg hi
    refine ⟨-1, Ev.shift ?_, ?_⟩
    · simp only [slices_IndexFunc_int_int.l0]
      exact Ev.neg (by omega) (Ev.ret rfl)
    · rw [List.drop_of_length_le (by omega)]; simp
  | succ d ih =>
    intro i g hg hi
    have hg' : ∀ r ∈ L, Ev (fun k => g (k + 1) r) (p r) := fun r hr => Ev.up (hg r hr)
    have hm : rd_L1 L (i : Int) ∈ L := by rw [rdL_lt L i (by omega)]; exact List.getElem_mem _
    rw [dropL L i (by omega)]
    by_cases hp : p (rd_L1 L (i : Int)) = true
    · refine ⟨(i : Int), Ev.shift ?_, ?_⟩
      · simp only [slices_IndexFunc_int_int.l0]
        exact Ev.pos (by omega) (Ev.pos (by omega) (Ev.pos (by omega) (Ev.bind (hg' _ hm) (Ev.pos hp (Ev.ret rfl)))))
      · exact ⟨fun _ => ⟨_, by simp, hp⟩, fun _ => by omega⟩
    · obtain ⟨s, hs, h0⟩ := ih (i + 1) (fun k => g (k + 1)) hg' (by omega)
      refine ⟨s, Ev.shift ?_, ?_⟩
      · simp only [slices_IndexFunc_int_int.l0]
        refine Ev.pos (by omega) (Ev.pos (by omega) (Ev.pos (by omega) (Ev.bind (hg' _ hm) (Ev.neg hp ?_))))
        rw [wrap64_id (by omega) (by omega), cast1]
        exact hs
      · rw [h0]
        constructor
        · rintro ⟨r, hr, h⟩; exact ⟨r, by simp [hr], h⟩
        · rintro ⟨r, hr, h⟩
          rcases List.mem_cons.1 hr with rfl | hr
          · exact absurd h hp
          · exact ⟨r, hr, h⟩
theorem areVoters_ev (L : List (List Int)) (h : rowsP L) : Ev (fun k => impl_areVoters.f k L) (decide (votP L)) := by
  unfold impl_areVoters.f
  refine Ev.bindc (impl_in _ _ _) ?_
  by_cases hl : 1 ≤ L.length ∧ L.length ≤ 15
  · refine Ev.pos (by simp; omega) ?_
    obtain ⟨s, hs, h0⟩ := indexFunc_l L h.1 (badP (rd_L1 L 0).length) L.length 0 (fun k u0_ => impl_areVoters_1.f k u0_ L) (fun r hr => by
      unfold impl_areVoters_1.f
      refine Ev.bind (levels_impl r (h.2 r hr)) ?_
      by_cases hv : lvlP r
      · refine Ev.pos (by simpa using hv) (Ev.pos (by omega) (Ev.ret ?_))
        simp [badP, hv]
      · refine Ev.neg (by simpa using hv) (Ev.ret ?_)
        simp [badP, hv]) (by omega)
    unfold slices_ContainsFunc_int_int.f slices_IndexFunc_int_int.f
    refine Ev.bind (Ev.bind hs (Ev.ret rfl)) (Ev.ret ?_)
    rw [List.drop_zero] at h0
    rw [Bool.eq_iff_iff, decide_eq_true_iff, Bool.not_eq_true', decide_eq_false_iff_not]
    rw [show (s ≥ 0) = (0 ≤ s) from rfl, h0]
    unfold votP
    constructor
    · intro hn
      refine ⟨hl, fun r hr => ?_⟩
      have : ¬ badP (rd_L1 L 0).length r = true := fun hb => hn ⟨r, hr, hb⟩
      simp [badP] at this
      exact ⟨this.1, by omega⟩
    · rintro ⟨_, hv⟩ ⟨r, hr, hb⟩
      have := hv r hr
      simp [badP, this.1, this.2] at hb
  · refine Ev.neg (by simp; omega) (Ev.ret ?_)
    symm; rw [decide_eq_false_iff_not]; exact fun hv => hl hv.1
theorem weVoters_l (L : List (List Int)) (h : rowsP L) (d : Nat) : ∀ (i : Nat), i + d = L.length → Ev (fun k => spec_weVoters.l0 k L L (L.length : Int) (i : Int)) (decide ((1 ≤ L.length ∧ L.length ≤ 15) ∧ ∀ r ∈ L.drop i, lvlP r ∧ r.length = (rd_L1 L 0).length)) := by
  have hL := h.1
  induction d with
  | zero =>
    intro i hi
    refine Ev.shift ?_
    simp only [spec_weVoters.l0]
    refine Ev.neg (by omega) (Ev.bindc (spec_in _ _ _) (Ev.ret ?_))
    rw [List.drop_of_length_le (by omega), Bool.eq_iff_iff, decide_eq_true_iff, decide_eq_true_iff]
    simp; omega
  | succ d ih =>
    intro i hi
    refine Ev.shift ?_
    simp only [spec_weVoters.l0]
    refine Ev.pos (by omega) (Ev.pos (by omega) (Ev.pos (by omega) (Ev.bind (levels_spec _ (h.at (by omega))) ?_)))
    rw [wrap64_id (by omega) (by omega), cast1, dropL L i (by omega)]
    by_cases hv : lvlP (rd_L1 L (i : Int))
    · refine Ev.pos (by simpa using hv) (Ev.pos (by omega) ?_)
      by_cases he : ((rd_L1 L (i : Int)).length : Int) = ((rd_L1 L 0).length : Int)
      · refine Ev.pos he (Ev.eq (ih (i + 1) (by omega)) ?_)
        have he' : (rd_L1 L (i : Int)).length = (rd_L1 L 0).length := by omega
        rw [Bool.eq_iff_iff, decide_eq_true_iff, decide_eq_true_iff]
        simp [hv, he']
      · refine Ev.neg he (Ev.ret ?_)
        symm; rw [decide_eq_false_iff_not]
        intro hh
        have := (hh.2 _ (List.mem_cons_self ..)).2
        omega
    · refine Ev.neg (by simpa using hv) (Ev.ret ?_)
      symm; rw [decide_eq_false_iff_not]
      intro hh
      exact hv (hh.2 _ (List.mem_cons_self ..)).1
theorem weVoters_ev (L : List (List Int)) (h : rowsP L) : Ev (fun k => spec_weVoters.f k L) (decide (votP L)) := by
  unfold spec_weVoters.f
  have := weVoters_l L h L.length 0 (by omega)
  rw [List.drop_zero] at this
  exact this
theorem votP.row {L : List (List Int)} (h : votP L) {q : Nat} (hq : q < L.length) : (rd_L1 L (q : Int)).length = (rd_L1 L 0).length ∧ (rd_L1 L (q : Int)).length ≤ 10 ∧ ∀ j : Nat, j < (rd_L1 L 0).length → 0 ≤ rd (rd_L1 L (q : Int)) (j : Int) ∧ rd (rd_L1 L (q : Int)) (j : Int) ≤ 10 := by
  have hm : rd_L1 L (q : Int) ∈ L := by rw [rdL_lt L q hq]; exact List.getElem_mem _
  obtain ⟨h1, h2⟩ := h.2 _ hm
  refine ⟨h2, h1.1, fun j hj => h1.2.1 _ ?_⟩
  rw [rd_lt _ j (by omega)]; exact List.getElem_mem _
def sgn (d : Int) : Int := if d > 0 then 1 else if d < 0 then -1 else 0
/-- by how many rows j is higher than i, less those by which it is lower -/
def majD (i j : Nat) : List (List Int) → Int
  | [] => 0
  | r :: t => sgn (rd r (j : Int) - rd r (i : Int)) + majD i j t
theorem sgn_range (d : Int) : -1 ≤ sgn d ∧ sgn d ≤ 1 := by unfold sgn; repeat' split <;> omega
def majP (L : List (List Int)) (i j : Nat) : Bool := decide (majD i j L > 0)
theorem majority_l (L : List (List Int)) (h : votP L) (i j : Nat) (hi : i < (rd_L1 L 0).length) (hj : j < (rd_L1 L 0).length) (d : Nat) : ∀ (q : Nat) (a : Int), q + d = L.length → -15 ≤ a - (d : Int) → a + d ≤ 15 → Ev (fun k => impl_majority.l0 k (i : Int) (j : Int) a L (L.length : Int) (q : Int)) (a + majD i j (L.drop q)) := by
  have hL := h.1
  induction d with
  | zero =>
    intro q a hq h1 h2
    refine Ev.shift ?_
    simp only [impl_majority.l0]
    exact Ev.neg (by omega) (Ev.ret (by rw [List.drop_of_length_le (by omega)]; simp [majD]))
  | succ d ih =>
    intro q a hq h1 h2
    have hr := h.row (q := q) (by omega)
    rw [dropL L q (by omega)]
    simp only [majD]
    refine Ev.shift ?_
    simp only [impl_majority.l0]
    refine Ev.pos (by omega) (Ev.pos (by omega) (Ev.pos (by omega) (Ev.pos (by omega) (Ev.pos (by omega) (Ev.pos (by omega) (Ev.pos (by omega) ?_))))))
    rw [wrap64_id (x := (q : Int) + 1) (by omega) (by omega), cast1, wrap64_id (x := a + 1) (by omega) (by omega), wrap64_id (x := a - 1) (by omega) (by omega)]
    by_cases hc : rd (rd_L1 L (q : Int)) (j : Int) > rd (rd_L1 L (q : Int)) (i : Int)
    · refine Ev.pos hc (Ev.eq (ih (q + 1) _ (by omega) (by omega) (by omega)) ?_)
      unfold sgn; rw [if_pos (by omega)]; omega
    · refine Ev.neg hc ?_
      by_cases hc2 : rd (rd_L1 L (q : Int)) (j : Int) < rd (rd_L1 L (q : Int)) (i : Int)
      · refine Ev.pos hc2 (Ev.eq (ih (q + 1) _ (by omega) (by omega) (by omega)) ?_)
        unfold sgn; rw [if_neg (by omega), if_pos (by omega)]; omega
      · refine Ev.neg hc2 (Ev.eq (ih (q + 1) _ (by omega) (by omega) (by omega)) ?_)
        unfold sgn; rw [if_neg (by omega), if_neg (by omega)]; omega
theorem sign_f (d : Int) : spec_l1Sign.f d = some (sgn d) := by
  unfold spec_l1Sign.f sgn
  by_cases h : d > 0
  · rw [if_pos h, if_pos h]
  · rw [if_neg h, if_neg h]
    by_cases h2 : d < 0
    · rw [if_pos h2, if_pos h2]
    · rw [if_neg h2, if_neg h2]
theorem smaj_l2 (L : List (List Int)) (h : votP L) (i j : Nat) (hi : i < (rd_L1 L 0).length) (hj : j < (rd_L1 L 0).length) (x7 n : Int) (y : List Int) (R : Int × List Int × Bool)
    (hR : Ev (fun k => if majD i j L > 0 then (if 0 ≤ (j : Int) then (spec_MajorityOf.l1 k L ((rd_L1 L 0).length : Int) (i : Int) (Go.bits .or .i64 x7 (shl .i64 1 (j : Int))) (wrap64 ((j : Int) + 1)) n y) else none) else (spec_MajorityOf.l1 k L ((rd_L1 L 0).length : Int) (i : Int) x7 (wrap64 ((j : Int) + 1)) n y)) R) (d : Nat) :
    ∀ (q : Nat) (a : Int), q + d = L.length → -15 ≤ a - (d : Int) → a + d ≤ 15 → a + majD i j (L.drop q) = majD i j L → Ev (fun k => spec_MajorityOf.l2 k L ((rd_L1 L 0).length : Int) (i : Int) x7 (j : Int) a L (L.length : Int) (q : Int) n y) R := by
  have hL := h.1
  induction d with
  | zero =>
    intro q a hq h1 h2 ha
    refine Ev.shift ?_
    simp only [spec_MajorityOf.l2]
    refine Ev.neg (by omega) ?_
    rw [List.drop_of_length_le (by omega)] at ha
    simp only [majD, Int.add_zero] at ha
    rw [ha]; exact hR
  | succ d ih =>
    intro q a hq h1 h2 ha
    have hr := h.row (q := q) (by omega)
    have hr1 := hr.2.2 i hi
    have hr2 := hr.2.2 j hj
    have hs := sgn_range (rd (rd_L1 L (q : Int)) (j : Int) - rd (rd_L1 L (q : Int)) (i : Int))
    rw [dropL L q (by omega)] at ha
    simp only [majD] at ha
    refine Ev.shift ?_
    simp only [spec_MajorityOf.l2]
    refine Ev.pos (by omega) (Ev.pos (by omega) (Ev.pos (by omega) (Ev.pos (by omega) (Ev.pos (by omega) (Ev.pos (by omega) (Ev.pos (by omega) ?_))))))
    rw [wrap64_id (x := (q : Int) + 1) (by omega) (by omega), cast1, wrap64_id (x := rd (rd_L1 L (q : Int)) (j : Int) - rd (rd_L1 L (q : Int)) (i : Int)) (by omega) (by omega)]
    refine Ev.bindc (sign_f _) ?_
    rw [wrap64_id (by omega) (by omega)]
    exact ih (q + 1) _ (by omega) (by omega) (by omega) (by omega)
theorem smaj_l1 (L : List (List Int)) (h : votP L) (i : Nat) (hi : i < (rd_L1 L 0).length) (y : List Int) (hy : y.length = i) (R : Int × List Int × Bool)
    (hR : Ev (fun k => spec_MajorityOf.l0 k L ((rd_L1 L 0).length : Int) ((i + 1 : Nat) : Int) ((rd_L1 L 0).length : Int) (y ++ [rowf (majP L i) (rd_L1 L 0).length])) R) (d : Nat) :
    ∀ j : Nat, j + d = (rd_L1 L 0).length → Ev (fun k => spec_MajorityOf.l1 k L ((rd_L1 L 0).length : Int) (i : Int) (rowf (majP L i) j) (j : Int) ((rd_L1 L 0).length : Int) y) R := by
  have hL := h.1
  have h10 := (h.row (q := 0) (by omega)).2.1
  rw [show ((0 : Nat) : Int) = 0 from rfl] at h10
  induction d with
  | zero =>
    intro j hj
    obtain rfl : j = (rd_L1 L 0).length := by omega
    refine Ev.shift ?_
    simp only [spec_MajorityOf.l1]
    refine Ev.neg (by omega) (Ev.pos (by omega) ?_)
    rw [wrap64_id (x := (i : Int) + 1) (by omega) (by omega), cast1]
    exact hR
  | succ d ih =>
    intro j hj
    have := ih (j + 1) (by omega)
    rw [rowf_succ] at this
    refine Ev.shift ?_
    simp only [spec_MajorityOf.l1]
    refine Ev.pos (by omega) (smaj_l2 L h i j hi (by omega) _ _ y R ?_ L.length 0 0 (by omega) (by omega) (by omega) (by rw [List.drop_zero]; omega))
    rw [wrap64_id (x := (j : Int) + 1) (by omega) (by omega), cast1]
    by_cases hc : majD i j L > 0
    · rw [if_pos (by simpa [majP] using hc)] at this
      exact Ev.pos hc (Ev.pos (by omega) this)
    · rw [if_neg (by simpa [majP] using hc)] at this
      exact Ev.neg hc this
theorem smaj_l0 (L : List (List Int)) (h : votP L) (d : Nat) : ∀ i : Nat, i + d = (rd_L1 L 0).length → Ev (fun k => spec_MajorityOf.l0 k L ((rd_L1 L 0).length : Int) (i : Int) ((rd_L1 L 0).length : Int) ((rel (majP L) (rd_L1 L 0).length).take i)) (((rd_L1 L 0).length : Int), rel (majP L) (rd_L1 L 0).length, true) := by
  induction d with
  | zero =>
    intro i hi
    refine Ev.shift ?_
    simp only [spec_MajorityOf.l0]
    exact Ev.neg (by omega) (Ev.ret (by rw [List.take_of_length_le (by rw [rel_length]; omega)]))
  | succ d ih =>
    intro i hi
    have := ih (i + 1) (by omega)
    rw [List.take_succ_eq_append_getElem (by rw [rel_length]; omega), ← rd_lt _ i (by rw [rel_length]; omega), rel_get _ _ i (by omega)] at this
    refine Ev.shift ?_
    simp only [spec_MajorityOf.l0]
    refine Ev.pos (by omega) ?_
    exact smaj_l1 L h i (by omega) _ (by rw [List.length_take, rel_length]; omega) _ this (rd_L1 L 0).length 0 (by omega)
theorem MajorityOf_both (L : List (List Int)) (h : rowsP L) : ∃ n x b, Ev (fun k => impl_MajorityOf.f k L) (n, x, b) ∧ Ev (fun k => spec_MajorityOf.f k L) (n, x, b) ∧ x.length ≤ 1000 := by
  unfold impl_MajorityOf.f spec_MajorityOf.f
  by_cases hv : votP L
  · have hL := hv.1
    have h10 := (hv.row (q := 0) (by omega)).2.1
    rw [show ((0 : Nat) : Int) = 0 from rfl] at h10
    have hrel := relation_ev (majP L) (rd_L1 L 0).length (by omega) (fun k u0_ u1_ => impl_MajorityOf_1.f k u0_ u1_ L) (fun i j hi hj => by
      unfold impl_MajorityOf_1.f impl_majority.f
      refine Ev.bind (majority_l L hv i j hi hj L.length 0 0 (by omega) (by omega) (by omega)) (Ev.ret ?_)
      simp [majP])
    refine ⟨_, _, true, Ev.bind (areVoters_ev L h) (Ev.pos (by simpa using hv) (Ev.pos (by omega) (Ev.bind hrel (Ev.ret rfl)))), Ev.bind (weVoters_ev L h) (Ev.pos (by simpa using hv) (Ev.pos (by omega) ?_)), by rw [rel_length]; omega⟩
    exact smaj_l0 L hv (rd_L1 L 0).length 0 (by omega)
  · exact ⟨0, [], false, Ev.bind (areVoters_ev L h) (Ev.neg (by simpa using hv) (Ev.ret rfl)), Ev.bind (weVoters_ev L h) (Ev.neg (by simpa using hv) (Ev.ret rfl)), by simp⟩

end Go.Proofs.Ytjojalbgpemjoaa.Pure

namespace Go.Proofs.Ytjojalbgpemjoaa.Pure
open Go.RowKit Go.Proofs.Ytjojalbgpemjoaa.Q Go.Proofs.YtjojalbgpemjoaaW.PrintWords Go.Proofs.YtjojalbgpemjoaaW.PrintLast
set_option linter.unusedVariables false
set_option linter.unusedSimpArgs false

/-- how many of the numbers are less -/
def low (D : List Int) (x : Int) : Int := ((D.filter fun y => decide (y < x)).length : Int)
/-- for each number, how many different ones are less -/
def lev (l : List Int) : List Int := l.map (low (dif l))
theorem low_split {D : List Int} {x : Int} (p : Nat) (hp : p ≤ D.length) (h1 : ∀ j : Nat, j < p → rd D (j : Int) < x) (h2 : ∀ j : Nat, p ≤ j → j < D.length → x ≤ rd D (j : Int)) : low D x = p := by
  unfold low
  have e : D.filter (fun y => decide (y < x)) = D.take p := by
    conv => lhs; rw [← List.take_append_drop p D]
    rw [List.filter_append]
    have a : (D.take p).filter (fun y => decide (y < x)) = D.take p := by
      rw [List.filter_eq_self]
      intro y hy
      obtain ⟨j, hj, rfl⟩ := List.mem_iff_getElem.1 hy
      rw [List.length_take] at hj
      have := h1 j (by omega)
      rw [rd_lt D j (by omega)] at this
      simpa using this
    have b : (D.drop p).filter (fun y => decide (y < x)) = [] := by
      rw [List.filter_eq_nil_iff]
      intro y hy
      obtain ⟨j, hj, rfl⟩ := List.mem_iff_getElem.1 hy
      rw [List.length_drop] at hj
      have := h2 (p + j) (by omega) (by omega)
      rw [rd_lt D _ (by omega)] at this
      simp; omega
    rw [a, b, List.append_nil]
  rw [e, List.length_take, Nat.min_eq_left hp]
theorem rising_rd {D : List Int} (h : D.Pairwise (· < ·)) {i j : Nat} (hij : i < j) (hj : j < D.length) : rd D (i : Int) < rd D (j : Int) := by
  rw [rd_lt D i (by omega), rd_lt D j hj]
  exact List.pairwise_iff_getElem.1 h i j (by omega) hj hij
theorem low_get {D : List Int} (h : D.Pairwise (· < ·)) (i : Nat) (hi : i < D.length) : low D (rd D (i : Int)) = i := by
  refine low_split i (by omega) (fun j hj => rising_rd h hj hi) (fun j h1 h2 => ?_)
  by_cases e : i = j
  · subst e; omega
  · have := rising_rd h (show i < j by omega) h2; omega
theorem low_range (D : List Int) (x : Int) : 0 ≤ low D x ∧ low D x ≤ D.length := by
  unfold low
  have := List.length_filter_le (fun y => decide (y < x)) D
  omega
theorem notNaN (x : Int) : slices_isNaN_int.f x = some false := by simp [slices_isNaN_int.f]
theorem less_f (x y : Int) : cmp_Less_int.f x y = some (decide (x < y)) := by simp [cmp_Less_int.f, cmp_isNaN_int.f]
theorem search_l (D : List Int) (x : Int) (h : D.Pairwise (· < ·)) (hD : D.length ≤ 1048576) (d : Nat) : ∀ (i j : Nat), j - i ≤ d → i ≤ j → j ≤ D.length → (∀ m : Nat, m < i → rd D (m : Int) < x) → (∀ m : Nat, j ≤ m → m < D.length → x ≤ rd D (m : Int)) →
    ∃ b, Ev (fun k => slices_BinarySearch_int_int.l0 k D x (D.length : Int) i j) (low D x, b) := by
  have fin : ∀ i : Nat, i ≤ D.length → (∀ m : Nat, m < i → rd D (m : Int) < x) → (∀ m : Nat, i ≤ m → m < D.length → x ≤ rd D (m : Int)) → ∃ b, Ev (fun k => slices_BinarySearch_int_int.l0 k D x (D.length : Int) i i) (low D x, b) := by
    intro i hi h1 h2
    have hl := low_split i hi h1 h2
    by_cases hc : i < D.length
    · by_cases he : rd D (i : Int) = x
      · refine ⟨true, Ev.shift ?_⟩
        simp only [slices_BinarySearch_int_int.l0]
        exact Ev.neg (by omega) (Ev.pos (by omega) (Ev.pos (by omega) (Ev.pos (by omega) (Ev.pos he (Ev.ret (by rw [hl]))))))
      · refine ⟨false, Ev.shift ?_⟩
        simp only [slices_BinarySearch_int_int.l0]
        exact Ev.neg (by omega) (Ev.pos (by omega) (Ev.pos (by omega) (Ev.pos (by omega) (Ev.neg he (Ev.bindc (notNaN _) (Ev.neg (by simp) (Ev.ret (by rw [hl]))))))))
    · refine ⟨false, Ev.shift ?_⟩
      simp only [slices_BinarySearch_int_int.l0]
      exact Ev.neg (by omega) (Ev.neg (by omega) (Ev.ret (by rw [hl])))
  induction d with
  | zero =>
    intro i j hd hij hj h1 h2
    obtain rfl : i = j := by omega
    exact fin i hj h1 h2
  | succ d ih =>
    intro i j hd hij hj h1 h2
    by_cases hc : i < j
    · have em : wrap64 ((IntKind.u64.wrap (wrap64 ((i : Int) + (j : Int)))) / 2) = (((i + j) / 2 : Nat) : Int) := by
        rw [wrap64_id (x := (i : Int) + (j : Int)) (by omega) (by omega)]
        have e : IntKind.u64.wrap ((i : Int) + (j : Int)) = (i : Int) + (j : Int) := by
          simp [IntKind.wrap, IntKind.signed, IntKind.bits]; omega
        rw [e, wrap64_id (by omega) (by omega)]; omega
      have hm : (i + j) / 2 < j := by omega
      by_cases hlt : rd D (((i + j) / 2 : Nat) : Int) < x
      · obtain ⟨b, hb⟩ := ih ((i + j) / 2 + 1) j (by omega) (by omega) hj (fun m hm' => by
          by_cases e : m = (i + j) / 2
          · subst e; exact hlt
          · have := rising_rd h (show m < (i + j) / 2 by omega) (by omega); omega) h2
        refine ⟨b, Ev.shift ?_⟩
        simp only [slices_BinarySearch_int_int.l0]
        rw [em]
        refine Ev.pos (by omega) (Ev.pos (by omega) (Ev.pos (by omega) (Ev.bindc (less_f _ _) (Ev.pos (by simpa using hlt) ?_))))
        rw [wrap64_id (by omega) (by omega), cast1]
        exact hb
      · obtain ⟨b, hb⟩ := ih i ((i + j) / 2) (by omega) (by omega) (by omega) h1 (fun m hm1 hm2 => by
          by_cases e : (i + j) / 2 = m
          · subst e; omega
          · have := rising_rd h (show (i + j) / 2 < m by omega) hm2; omega)
        refine ⟨b, Ev.shift ?_⟩
        simp only [slices_BinarySearch_int_int.l0]
        rw [em]
        exact Ev.pos (by omega) (Ev.pos (by omega) (Ev.pos (by omega) (Ev.bindc (less_f _ _) (Ev.neg (by simpa using hlt) hb))))
    · obtain rfl : i = j := by omega
      exact fin i hj h1 h2
theorem search_ev (D : List Int) (x : Int) (h : D.Pairwise (· < ·)) (hD : D.length ≤ 1048576) : ∃ b, Ev (fun k => slices_BinarySearch_int_int.f k D x) (low D x, b) := by
  unfold slices_BinarySearch_int_int.f
  exact search_l D x h hD D.length 0 D.length (by omega) (by omega) (by omega) (fun m hm => by omega) (fun m h1 h2 => by omega)
theorem leveled_l (l D : List Int) (h : D.Pairwise (· < ·)) (hD : D.length ≤ 1048576) (hl : l.length ≤ 1048576) (d : Nat) : ∀ (i : Nat), i + d = l.length → Ev (fun k => impl_leveled.l0 k ((l.take i).map (low D)) D l (l.length : Int) i) (l.map (low D)) := by
  induction d with
  | zero =>
    intro i hi
    refine Ev.shift ?_
    simp only [impl_leveled.l0]
    exact Ev.neg (by omega) (Ev.ret (by rw [List.take_of_length_le (by omega)]))
  | succ d ih =>
    intro i hi
    obtain ⟨b, hb⟩ := search_ev D (rd l (i : Int)) h hD
    refine Ev.shift ?_
    simp only [impl_leveled.l0]
    refine Ev.pos (by omega) (Ev.pos (by omega) (Ev.pos (by omega) (Ev.bind hb (Ev.pos (by simp; omega) ?_))))
    rw [wrap64_id (by omega) (by omega), cast1]
    have := ih (i + 1) (by omega)
    rw [List.take_succ_eq_append_getElem (by omega), List.map_append, ← rd_lt l i (by omega)] at this
    exact this
theorem leveled_ev (l : List Int) (hl : l.length ≤ 1048576) : Ev (fun k => impl_leveled.f k l) (lev l) := by
  unfold impl_leveled.f
  have hd := dif_length l
  exact Ev.bindc (different_f l hl) (leveled_l l (dif l) (dif_sorted l) (by omega) hl l.length 0 (by omega))
theorem put_l (D : List Int) (x : Int) (h : D.Pairwise (· < ·)) (hD : D.length ≤ 1048576) (d : Nat) : ∀ (i : Nat), i + d = D.length → (∀ m : Nat, m < i → rd D (m : Int) < x) →
    ∃ r, Ev (fun k => spec_l1Put.l0 k D x i) r ∧ r.Pairwise (· < ·) ∧ (∀ y, y ∈ r ↔ y = x ∨ y ∈ D) ∧ r.length ≤ D.length + 1 := by
  have ins : ∀ i : Nat, i ≤ D.length → (∀ m : Nat, m < i → rd D (m : Int) < x) → (∀ m : Nat, i ≤ m → m < D.length → x < rd D (m : Int)) → (D.take i ++ [x] ++ D.drop i).Pairwise (· < ·) ∧ (∀ y, y ∈ D.take i ++ [x] ++ D.drop i ↔ y = x ∨ y ∈ D) ∧ (D.take i ++ [x] ++ D.drop i).length ≤ D.length + 1 := by
    intro i hi h1 h2
    have a : ∀ y ∈ D.take i, y < x := by
      intro y hy
      obtain ⟨j, hj, rfl⟩ := List.mem_iff_getElem.1 hy
      rw [List.length_take] at hj
      have := h1 j (by omega)
      rw [rd_lt D j (by omega)] at this
      simpa using this
    have b : ∀ y ∈ D.drop i, x < y := by
      intro y hy
      obtain ⟨j, hj, rfl⟩ := List.mem_iff_getElem.1 hy
      rw [List.length_drop] at hj
      have := h2 (i + j) (by omega) (by omega)
      rw [rd_lt D _ (by omega)] at this
      simpa using this
    refine ⟨?_, fun y => ?_, by simp; omega⟩
    · rw [List.pairwise_append, List.pairwise_append]
      refine ⟨⟨h.sublist (List.take_sublist _ _), by simp, fun y hy z hz => ?_⟩, h.sublist (List.drop_sublist _ _), fun y hy z hz => ?_⟩
      · rw [List.mem_singleton] at hz; subst hz; exact a y hy
      · rw [List.mem_append, List.mem_singleton] at hy
        rcases hy with hy | rfl
        · have := a y hy; have := b z hz; omega
        · exact b z hz
    · conv => rhs; rw [← List.take_append_drop i D]
      simp only [List.mem_append, List.mem_singleton]
      constructor
      · rintro ((h | h) | h)
        · exact .inr (.inl h)
        · exact .inl h
        · exact .inr (.inr h)
      · rintro (h | h | h)
        · exact .inl (.inr h)
        · exact .inl (.inl h)
        · exact .inr h
  induction d with
  | zero =>
    intro i hi h1
    refine ⟨_, Ev.shift ?_, ins i (by omega) h1 (fun m a b => by omega)⟩
    simp only [spec_l1Put.l0, Option.bind_some, List.nil_append, List.length_nil]
    refine Ev.neg (by omega) (Ev.pos (by omega) (Ev.pos (by omega) (Ev.pos (by simp; omega) (Ev.pos (by simp; omega) (Ev.pos (by simp; omega) (Ev.ret (by simp)))))))
  | succ d ih =>
    intro i hi h1
    by_cases hc : rd D (i : Int) < x
    · obtain ⟨r, hr, hq⟩ := ih (i + 1) (by omega) (fun m hm => by
        by_cases e : m = i
        · subst e; exact hc
        · exact h1 m (by omega))
      refine ⟨r, Ev.shift ?_, hq⟩
      simp only [spec_l1Put.l0]
      refine Ev.pos (by omega) (Ev.pos (by omega) (Ev.pos hc ?_))
      rw [wrap64_id (by omega) (by omega), cast1]
      exact hr
    · by_cases he : rd D (i : Int) = x
      · refine ⟨D, Ev.shift ?_, h, fun y => ⟨fun hy => .inr hy, fun hy => hy.elim (fun e => by rw [e, ← he, rd_lt D i (by omega)]; exact List.getElem_mem _) id⟩, by omega⟩
        simp only [spec_l1Put.l0]
        exact Ev.pos (by omega) (Ev.pos (by omega) (Ev.neg hc (Ev.pos he (Ev.ret rfl))))
      · refine ⟨_, Ev.shift ?_, ins i (by omega) h1 (fun m a b => by
          by_cases e : i = m
          · subst e; omega
          · have := rising_rd h (show i < m by omega) b; omega)⟩
        simp only [spec_l1Put.l0, Option.bind_some, List.nil_append, List.length_nil]
        refine Ev.pos (by omega) (Ev.pos (by omega) (Ev.neg hc (Ev.neg he (Ev.pos (by omega) (Ev.pos (by simp; omega) (Ev.pos (by simp; omega) (Ev.pos (by simp; omega) (Ev.ret (by simp)))))))))
theorem place_l (D : List Int) (x : Int) (h : D.Pairwise (· < ·)) (hD : D.length ≤ 1048576) (p : Nat) (hp : p < D.length) (he : rd D (p : Int) = x) (d : Nat) : ∀ i : Nat, i + d = p → Ev (fun k => spec_orPlace.l0 k x D (D.length : Int) i) (low D x) := by
  induction d with
  | zero =>
    intro i hi
    obtain rfl : i = p := by omega
    refine Ev.shift ?_
    simp only [spec_orPlace.l0]
    refine Ev.pos (by omega) (Ev.pos (by omega) (Ev.pos (by omega) (Ev.pos he (Ev.ret ?_))))
    rw [← he, low_get h i hp]
  | succ d ih =>
    intro i hi
    have := rising_rd h (show i < p by omega) hp
    refine Ev.shift ?_
    simp only [spec_orPlace.l0]
    refine Ev.pos (by omega) (Ev.pos (by omega) (Ev.pos (by omega) (Ev.neg (by omega) ?_)))
    rw [wrap64_id (by omega) (by omega), cast1]
    exact ih (i + 1) (by omega)
theorem place_ev (D : List Int) (x : Int) (h : D.Pairwise (· < ·)) (hD : D.length ≤ 1048576) (hx : x ∈ D) : Ev (fun k => spec_orPlace.f k D x) (low D x) := by
  unfold spec_orPlace.f
  obtain ⟨p, hp, rfl⟩ := List.mem_iff_getElem.1 hx
  exact place_l D _ h hD p hp (rd_lt D p hp) p 0 (by omega)
theorem ofNumbers_in (l D : List Int) (h : D.Pairwise (· < ·)) (hD : D.length ≤ 1048576) (hm : ∀ x ∈ l, x ∈ D) (hl : l.length ≤ 1048576) (d : Nat) : ∀ (i : Nat), i + d = l.length → Ev (fun k => spec_weOfNumbers.l1 k D ((l.take i).map (low D)) l (l.length : Int) i) (l.map (low D)) := by
  induction d with
  | zero =>
    intro i hi
    refine Ev.shift ?_
    simp only [spec_weOfNumbers.l1]
    exact Ev.neg (by omega) (Ev.ret (by rw [List.take_of_length_le (by omega)]))
  | succ d ih =>
    intro i hi
    refine Ev.shift ?_
    simp only [spec_weOfNumbers.l1]
    refine Ev.pos (by omega) (Ev.pos (by omega) (Ev.pos (by omega) (Ev.bind (place_ev D (rd l (i : Int)) h hD (hm _ (by rw [rd_lt l i (by omega)]; exact List.getElem_mem _))) (Ev.pos (by simp; omega) ?_))))
    rw [wrap64_id (by omega) (by omega), cast1]
    have := ih (i + 1) (by omega)
    rw [List.take_succ_eq_append_getElem (by omega), List.map_append, ← rd_lt l i (by omega)] at this
    exact this
theorem ofNumbers_l (l : List Int) (hl : l.length ≤ 1000000) (d : Nat) : ∀ (i : Nat) (D : List Int), i + d = l.length → D.Pairwise (· < ·) → D.length ≤ i → (∀ x, x ∈ D ↔ x ∈ l.take i) → Ev (fun k => spec_weOfNumbers.l0 k l D l (l.length : Int) i) (lev l) := by
  induction d with
  | zero =>
    intro i D hi h hD hm
    rw [List.take_of_length_le (by omega)] at hm
    have e : D = dif l := rising_ext h (dif_sorted l) fun x => by rw [hm, mem_dif]
    refine Ev.shift ?_
    simp only [spec_weOfNumbers.l0]
    refine Ev.neg (by omega) ?_
    subst e
    exact ofNumbers_in l (dif l) h (by omega) (fun x hx => mem_dif.2 hx) (by omega) l.length 0 (by omega)
  | succ d ih =>
    intro i D hi h hD hm
    obtain ⟨r, hr, h1, h2, h3⟩ := put_l D (rd l (i : Int)) h (by omega) D.length 0 (by omega) (fun m hm => by omega)
    refine Ev.shift ?_
    simp only [spec_weOfNumbers.l0]
    refine Ev.pos (by omega) (Ev.pos (by omega) (Ev.pos (by omega) (Ev.bind (a := r) (by unfold spec_l1Put.f; exact hr) ?_)))
    rw [wrap64_id (by omega) (by omega), cast1]
    refine ih (i + 1) r (by omega) h1 (by omega) fun x => ?_
    rw [h2, hm, List.take_succ_eq_append_getElem (by omega), List.mem_append, List.mem_singleton, rd_lt l i (by omega)]
    exact Or.comm
theorem ofNumbers_ev (l : List Int) (hl : l.length ≤ 1000000) : Ev (fun k => spec_weOfNumbers.f k l) (lev l) := by
  unfold spec_weOfNumbers.f
  exact ofNumbers_l l hl l.length 0 [] (by omega) (by simp) (by simp) (by simp)
/-- a rising function of the numbers changes no level -/
theorem lev_map (l : List Int) (f : Int → Int) (hf : ∀ x ∈ l, ∀ y ∈ l, x < y → f x < f y) : lev (l.map f) = lev l := by
  have e : dif (l.map f) = (dif l).map f := by
    refine rising_ext (dif_sorted _) ?_ fun x => ?_
    · rw [List.pairwise_map]
      refine (dif_sorted l).imp_of_mem fun {a b} ha hb h => ?_
      exact hf a (mem_dif.1 ha) b (mem_dif.1 hb) h
    · rw [mem_dif, List.mem_map, List.mem_map]
      exact ⟨fun ⟨a, ha, h⟩ => ⟨a, mem_dif.2 ha, h⟩, fun ⟨a, ha, h⟩ => ⟨a, mem_dif.1 ha, h⟩⟩
  unfold lev
  rw [e, List.map_map]
  refine List.map_congr_left fun x hx => ?_
  show low ((dif l).map f) (f x) = low (dif l) x
  unfold low
  rw [List.filter_map, List.length_map]
  congr 2
  refine List.filter_congr fun y hy => ?_
  have hy' := mem_dif.1 hy
  simp only [Function.comp]
  rcases Int.lt_trichotomy y x with h | h | h
  · have := hf y hy' x hx h
    rw [decide_eq_true h, decide_eq_true this]
  · subst h; simp
  · have := hf x hx y hy' h
    rw [decide_eq_false (by omega), decide_eq_false (by omega)]
theorem lev_length (l : List Int) : (lev l).length = l.length := by simp [lev]

end Go.Proofs.Ytjojalbgpemjoaa.Pure
