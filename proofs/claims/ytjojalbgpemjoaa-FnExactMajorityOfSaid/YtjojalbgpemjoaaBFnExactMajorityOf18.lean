import Derived.Test.YtjojalbgpemjoaaBFnExactMajorityOf4
import Derived.Test.YtjojalbgpemjoaaBFnExactMajorityOf5
import Derived.Test.YtjojalbgpemjoaaBFnExactMajorityOf6
import Derived.Test.YtjojalbgpemjoaaBFnExactMajorityOf9
import Derived.Test.YtjojalbgpemjoaaBFnExactMajorityOf11
import Derived.Test.YtjojalbgpemjoaaBFnExactMajorityOf12
import Derived.Test.YtjojalbgpemjoaaBFnExactMajorityOf13
import Derived.Test.YtjojalbgpemjoaaBFnExactMajorityOf15
import Derived.Test.YtjojalbgpemjoaaBFnExactMajorityOf16
import Derived.Test.YtjojalbgpemjoaaBFnExactMajorityOf17
namespace Go.Proofs.Ytjojalbgpemjoaa.Pure
open Go.RowKit Go.Proofs.Ytjojalbgpemjoaa.Q Go.Proofs.YtjojalbgpemjoaaW.PrintWords Go.Proofs.YtjojalbgpemjoaaW.PrintLast
set_option linter.unusedVariables false
set_option linter.unusedSimpArgs false

/-- voters that tell levels of as many elements each -/
def votP (L : List (List Int)) : Prop := (1 ≤ L.length ∧ L.length ≤ 15) ∧ ∀ r ∈ L, lvlP r ∧ r.length = (rd_L1 L 0).length
instance (L : List (List Int)) : Decidable (votP L) := by unfold votP; infer_instance
/-- not as the others, or no levels -/
def badP (n : Nat) (r : List Int) : Bool := !decide (lvlP r) || (r.length : Int) != (n : Int)
theorem indexFunc_l (L : List (List Int)) (hL : L.length ≤ 1048576) (p : List Int → Bool) (d : Nat) : ∀ (i : Nat) (g : Nat → List Int → Option Bool), (∀ r ∈ L, Ev (fun k => g k r) (p r)) → i + d = L.length →
    ∃ s, Ev (fun k => slices_IndexFunc_int_int.l0 k L (g k) (L.length : Int) (i : Int)) s ∧ (0 ≤ s ↔ ∃ r ∈ L.drop i, p r = true) := by
  induction d with
  | zero =>
    intro i g hg hi
    refine ⟨-1, Ev.shift ?_, ?_⟩
    · simp only [slices_IndexFunc_int_int.l0]
      exact Ev.neg (by omega) (Ev.ret rfl)
    · rw [List.drop_of_length_le (by omega)]; simp
  | succ d ih =>
    intro i g hg hi
    have hg' : ∀ r ∈ L, Ev (fun k => g (k + 1) r) (p r) := fun r hr => Ev.up (hg r hr)
    have hm : rd_L1 L (i : Int) ∈ L := by rw [rdL_lt L i (by omega)]; exact List.getElem_mem _
    rw [dropL L i (by omega)]
    by_cases hp : p (rd_L1 L (i : Int)) = true
    · refine ⟨(i : Int), Ev.shift ?_, ?_⟩
      · simp only [slices_IndexFunc_int_int.l0]
        exact Ev.pos (by omega) (Ev.pos (by omega) (Ev.pos (by omega) (Ev.bind (hg' _ hm) (Ev.pos hp (Ev.ret rfl)))))
      · exact ⟨fun _ => ⟨_, by simp, hp⟩, fun _ => by omega⟩
    · obtain ⟨s, hs, h0⟩ := ih (i + 1) (fun k => g (k + 1)) hg' (by omega)
      refine ⟨s, Ev.shift ?_, ?_⟩
      · simp only [slices_IndexFunc_int_int.l0]
        refine Ev.pos (by omega) (Ev.pos (by omega) (Ev.pos (by omega) (Ev.bind (hg' _ hm) (Ev.neg hp ?_))))
        rw [wrap64_id (by omega) (by omega), cast1]
        exact hs
      · rw [h0]
        constructor
        · rintro ⟨r, hr, h⟩; exact ⟨r, by simp [hr], h⟩
        · rintro ⟨r, hr, h⟩
          rcases List.mem_cons.1 hr with rfl | hr
          · exact absurd h hp
          · exact ⟨r, hr, h⟩
theorem areVoters_ev (L : List (List Int)) (h : rowsP L) : Ev (fun k => impl_areVoters.f k L) (decide (votP L)) := by
  unfold impl_areVoters.f
  refine Ev.bindc (impl_in _ _ _) ?_
  by_cases hl : 1 ≤ L.length ∧ L.length ≤ 15
  · refine Ev.pos (by simp; omega) ?_
    obtain ⟨s, hs, h0⟩ := indexFunc_l L h.1 (badP (rd_L1 L 0).length) L.length 0 (fun k u0_ => impl_areVoters_1.f k u0_ L) (fun r hr => by
      unfold impl_areVoters_1.f
      refine Ev.bind (levels_impl r (h.2 r hr)) ?_
      by_cases hv : lvlP r
      · refine Ev.pos (by simpa using hv) (Ev.pos (by omega) (Ev.ret ?_))
        simp [badP, hv]
      · refine Ev.neg (by simpa using hv) (Ev.ret ?_)
        simp [badP, hv]) (by omega)
    unfold slices_ContainsFunc_int_int.f slices_IndexFunc_int_int.f
    refine Ev.bind (Ev.bind hs (Ev.ret rfl)) (Ev.ret ?_)
    rw [List.drop_zero] at h0
    rw [Bool.eq_iff_iff, decide_eq_true_iff, Bool.not_eq_true', decide_eq_false_iff_not]
    rw [show (s ≥ 0) = (0 ≤ s) from rfl, h0]
    unfold votP
    constructor
    · intro hn
      refine ⟨hl, fun r hr => ?_⟩
      have : ¬ badP (rd_L1 L 0).length r = true := fun hb => hn ⟨r, hr, hb⟩
      simp [badP] at this
      exact ⟨this.1, by omega⟩
    · rintro ⟨_, hv⟩ ⟨r, hr, hb⟩
      have := hv r hr
      simp [badP, this.1, this.2] at hb
  · refine Ev.neg (by simp; omega) (Ev.ret ?_)
    symm; rw [decide_eq_false_iff_not]; exact fun hv => hl hv.1
theorem weVoters_l (L : List (List Int)) (h : rowsP L) (d : Nat) : ∀ (i : Nat), i + d = L.length → Ev (fun k => spec_weVoters.l0 k L L (L.length : Int) (i : Int)) (decide ((1 ≤ L.length ∧ L.length ≤ 15) ∧ ∀ r ∈ L.drop i, lvlP r ∧ r.length = (rd_L1 L 0).length)) := by
  have hL := h.1
  induction d with
  | zero =>
    intro i hi
    refine Ev.shift ?_
    simp only [spec_weVoters.l0]
    refine Ev.neg (by omega) (Ev.bindc (spec_in _ _ _) (Ev.ret ?_))
    rw [List.drop_of_length_le (by omega), Bool.eq_iff_iff, decide_eq_true_iff, decide_eq_true_iff]
    simp; omega
  | succ d ih =>
    intro i hi
    refine Ev.shift ?_
    simp only [spec_weVoters.l0]
    refine Ev.pos (by omega) (Ev.pos (by omega) (Ev.pos (by omega) (Ev.bind (levels_spec _ (h.at (by omega))) ?_)))
    rw [wrap64_id (by omega) (by omega), cast1, dropL L i (by omega)]
    by_cases hv : lvlP (rd_L1 L (i : Int))
    · refine Ev.pos (by simpa using hv) (Ev.pos (by omega) ?_)
      by_cases he : ((rd_L1 L (i : Int)).length : Int) = ((rd_L1 L 0).length : Int)
      · refine Ev.pos he (Ev.eq (ih (i + 1) (by omega)) ?_)
        have he' : (rd_L1 L (i : Int)).length = (rd_L1 L 0).length := by omega
        rw [Bool.eq_iff_iff, decide_eq_true_iff, decide_eq_true_iff]
        simp [hv, he']
      · refine Ev.neg he (Ev.ret ?_)
        symm; rw [decide_eq_false_iff_not]
        intro hh
        have := (hh.2 _ (List.mem_cons_self ..)).2
        omega
    · refine Ev.neg (by simpa using hv) (Ev.ret ?_)
      symm; rw [decide_eq_false_iff_not]
      intro hh
      exact hv (hh.2 _ (List.mem_cons_self ..)).1
theorem weVoters_ev (L : List (List Int)) (h : rowsP L) : Ev (fun k => spec_weVoters.f k L) (decide (votP L)) := by
  unfold spec_weVoters.f
  have := weVoters_l L h L.length 0 (by omega)
  rw [List.drop_zero] at this
  exact this
theorem votP.row {L : List (List Int)} (h : votP L) {q : Nat} (hq : q < L.length) : (rd_L1 L (q : Int)).length = (rd_L1 L 0).length ∧ (rd_L1 L (q : Int)).length ≤ 10 ∧ ∀ j : Nat, j < (rd_L1 L 0).length → 0 ≤ rd (rd_L1 L (q : Int)) (j : Int) ∧ rd (rd_L1 L (q : Int)) (j : Int) ≤ 10 := by
  have hm : rd_L1 L (q : Int) ∈ L := by rw [rdL_lt L q hq]; exact List.getElem_mem _
  obtain ⟨h1, h2⟩ := h.2 _ hm
  refine ⟨h2, h1.1, fun j hj => h1.2.1 _ ?_⟩
  rw [rd_lt _ j (by omega)]; exact List.getElem_mem _
def sgn (d : Int) : Int := if d > 0 then 1 else if d < 0 then -1 else 0
/-- by how many rows j is higher than i, less those by which it is lower -/
def majD (i j : Nat) : List (List Int) → Int
  | [] => 0
  | r :: t => sgn (rd r (j : Int) - rd r (i : Int)) + majD i j t
theorem sgn_range (d : Int) : -1 ≤ sgn d ∧ sgn d ≤ 1 := by unfold sgn; repeat' split <;> omega
def majP (L : List (List Int)) (i j : Nat) : Bool := decide (majD i j L > 0)
theorem majority_l (L : List (List Int)) (h : votP L) (i j : Nat) (hi : i < (rd_L1 L 0).length) (hj : j < (rd_L1 L 0).length) (d : Nat) : ∀ (q : Nat) (a : Int), q + d = L.length → -15 ≤ a - (d : Int) → a + d ≤ 15 → Ev (fun k => impl_majority.l0 k (i : Int) (j : Int) a L (L.length : Int) (q : Int)) (a + majD i j (L.drop q)) := by
  have hL := h.1
  induction d with
  | zero =>
    intro q a hq h1 h2
    refine Ev.shift ?_
    simp only [impl_majority.l0]
    exact Ev.neg (by omega) (Ev.ret (by rw [List.drop_of_length_le (by omega)]; simp [majD]))
  | succ d ih =>
    intro q a hq h1 h2
    have hr := h.row (q := q) (by omega)
    rw [dropL L q (by omega)]
    simp only [majD]
    refine Ev.shift ?_
    simp only [impl_majority.l0]
    refine Ev.pos (by omega) (Ev.pos (by omega) (Ev.pos (by omega) (Ev.pos (by omega) (Ev.pos (by omega) (Ev.pos (by omega) (Ev.pos (by omega) ?_))))))
    rw [wrap64_id (x := (q : Int) + 1) (by omega) (by omega), cast1, wrap64_id (x := a + 1) (by omega) (by omega), wrap64_id (x := a - 1) (by omega) (by omega)]
    by_cases hc : rd (rd_L1 L (q : Int)) (j : Int) > rd (rd_L1 L (q : Int)) (i : Int)
    · refine Ev.pos hc (Ev.eq (ih (q + 1) _ (by omega) (by omega) (by omega)) ?_)
      unfold sgn; rw [if_pos (by omega)]; omega
    · refine Ev.neg hc ?_
      by_cases hc2 : rd (rd_L1 L (q : Int)) (j : Int) < rd (rd_L1 L (q : Int)) (i : Int)
      · refine Ev.pos hc2 (Ev.eq (ih (q + 1) _ (by omega) (by omega) (by omega)) ?_)
        unfold sgn; rw [if_neg (by omega), if_pos (by omega)]; omega
      · refine Ev.neg hc2 (Ev.eq (ih (q + 1) _ (by omega) (by omega) (by omega)) ?_)
        unfold sgn; rw [if_neg (by omega), if_neg (by omega)]; omega
theorem sign_f (d : Int) : spec_l1Sign.f d = some (sgn d) := by
  unfold spec_l1Sign.f sgn
  by_cases h : d > 0
  · rw [if_pos h, if_pos h]
  · rw [if_neg h, if_neg h]
    by_cases h2 : d < 0
    · rw [if_pos h2, if_pos h2]
    · rw [if_neg h2, if_neg h2]
theorem smaj_l2 (L : List (List Int)) (h : votP L) (i j : Nat) (hi : i < (rd_L1 L 0).length) (hj : j < (rd_L1 L 0).length) (x7 n : Int) (y : List Int) (R : Int × List Int × Bool)
    (hR : Ev (fun k => if majD i j L > 0 then (if 0 ≤ (j : Int) then (spec_MajorityOf.l1 k L ((rd_L1 L 0).length : Int) (i : Int) (Go.bits .or .i64 x7 (shl .i64 1 (j : Int))) (wrap64 ((j : Int) + 1)) n y) else none) else (spec_MajorityOf.l1 k L ((rd_L1 L 0).length : Int) (i : Int) x7 (wrap64 ((j : Int) + 1)) n y)) R) (d : Nat) :
    ∀ (q : Nat) (a : Int), q + d = L.length → -15 ≤ a - (d : Int) → a + d ≤ 15 → a + majD i j (L.drop q) = majD i j L → Ev (fun k => spec_MajorityOf.l2 k L ((rd_L1 L 0).length : Int) (i : Int) x7 (j : Int) a L (L.length : Int) (q : Int) n y) R := by
  have hL := h.1
  induction d with
  | zero =>
    intro q a hq h1 h2 ha
    refine Ev.shift ?_
    simp only [spec_MajorityOf.l2]
    refine Ev.neg (by omega) ?_
    rw [List.drop_of_length_le (by omega)] at ha
    simp only [majD, Int.add_zero] at ha
    rw [ha]; exact hR
  | succ d ih =>
    intro q a hq h1 h2 ha
    have hr := h.row (q := q) (by omega)
    have hr1 := hr.2.2 i hi
    have hr2 := hr.2.2 j hj
    have hs := sgn_range (rd (rd_L1 L (q : Int)) (j : Int) - rd (rd_L1 L (q : Int)) (i : Int))
    rw [dropL L q (by omega)] at ha
    simp only [majD] at ha
    refine Ev.shift ?_
    simp only [spec_MajorityOf.l2]
    refine Ev.pos (by omega) (Ev.pos (by omega) (Ev.pos (by omega) (Ev.pos (by omega) (Ev.pos (by omega) (Ev.pos (by omega) (Ev.pos (by omega) ?_))))))
    rw [wrap64_id (x := (q : Int) + 1) (by omega) (by omega), cast1, wrap64_id (x := rd (rd_L1 L (q : Int)) (j : Int) - rd (rd_L1 L (q : Int)) (i : Int)) (by omega) (by omega)]
    refine Ev.bindc (sign_f _) ?_
    rw [wrap64_id (by omega) (by omega)]
    exact ih (q + 1) _ (by omega) (by omega) (by omega) (by omega)
theorem smaj_l1 (L : List (List Int)) (h : votP L) (i : Nat) (hi : i < (rd_L1 L 0).length) (y : List Int) (hy : y.length = i) (R : Int × List Int × Bool)
    (hR : Ev (fun k => spec_MajorityOf.l0 k L ((rd_L1 L 0).length : Int) ((i + 1 : Nat) : Int) ((rd_L1 L 0).length : Int) (y ++ [rowf (majP L i) (rd_L1 L 0).length])) R) (d : Nat) :
    ∀ j : Nat, j + d = (rd_L1 L 0).length → Ev (fun k => spec_MajorityOf.l1 k L ((rd_L1 L 0).length : Int) (i : Int) (rowf (majP L i) j) (j : Int) ((rd_L1 L 0).length : Int) y) R := by
  have hL := h.1
  have h10 := (h.row (q := 0) (by omega)).2.1
  rw [show ((0 : Nat) : Int) = 0 from rfl] at h10
  induction d with
  | zero =>
    intro j hj
    obtain rfl : j = (rd_L1 L 0).length := by omega
    refine Ev.shift ?_
    simp only [spec_MajorityOf.l1]
    refine Ev.neg (by omega) (Ev.pos (by omega) ?_)
    rw [wrap64_id (x := (i : Int) + 1) (by omega) (by omega), cast1]
    exact hR
  | succ d ih =>
    intro j hj
    have := ih (j + 1) (by omega)
    rw [rowf_succ] at this
    refine Ev.shift ?_
    simp only [spec_MajorityOf.l1]
    refine Ev.pos (by omega) (smaj_l2 L h i j hi (by omega) _ _ y R ?_ L.length 0 0 (by omega) (by omega) (by omega) (by rw [List.drop_zero]; omega))
    rw [wrap64_id (x := (j : Int) + 1) (by omega) (by omega), cast1]
    by_cases hc : majD i j L > 0
    · rw [if_pos (by simpa [majP] using hc)] at this
      exact Ev.pos hc (Ev.pos (by omega) this)
    · rw [if_neg (by simpa [majP] using hc)] at this
      exact Ev.neg hc this
theorem smaj_l0 (L : List (List Int)) (h : votP L) (d : Nat) : ∀ i : Nat, i + d = (rd_L1 L 0).length → Ev (fun k => spec_MajorityOf.l0 k L ((rd_L1 L 0).length : Int) (i : Int) ((rd_L1 L 0).length : Int) ((rel (majP L) (rd_L1 L 0).length).take i)) (((rd_L1 L 0).length : Int), rel (majP L) (rd_L1 L 0).length, true) := by
  induction d with
  | zero =>
    intro i hi
    refine Ev.shift ?_
    simp only [spec_MajorityOf.l0]
    exact Ev.neg (by omega) (Ev.ret (by rw [List.take_of_length_le (by rw [rel_length]; omega)]))
  | succ d ih =>
    intro i hi
    have := ih (i + 1) (by omega)
    rw [List.take_succ_eq_append_getElem (by rw [rel_length]; omega), ← rd_lt _ i (by rw [rel_length]; omega), rel_get _ _ i (by omega)] at this
    refine Ev.shift ?_
    simp only [spec_MajorityOf.l0]
    refine Ev.pos (by omega) ?_
    exact smaj_l1 L h i (by omega) _ (by rw [List.length_take, rel_length]; omega) _ this (rd_L1 L 0).length 0 (by omega)
theorem MajorityOf_both (L : List (List Int)) (h : rowsP L) : ∃ n x b, Ev (fun k => impl_MajorityOf.f k L) (n, x, b) ∧ Ev (fun k => spec_MajorityOf.f k L) (n, x, b) ∧ x.length ≤ 1000 := by
  unfold impl_MajorityOf.f spec_MajorityOf.f
  by_cases hv : votP L
  · have hL := hv.1
    have h10 := (hv.row (q := 0) (by omega)).2.1
    rw [show ((0 : Nat) : Int) = 0 from rfl] at h10
    have hrel := relation_ev (majP L) (rd_L1 L 0).length (by omega) (fun k u0_ u1_ => impl_MajorityOf_1.f k u0_ u1_ L) (fun i j hi hj => by
      unfold impl_MajorityOf_1.f impl_majority.f
      refine Ev.bind (majority_l L hv i j hi hj L.length 0 0 (by omega) (by omega) (by omega)) (Ev.ret ?_)
      simp [majP])
    refine ⟨_, _, true, Ev.bind (areVoters_ev L h) (Ev.pos (by simpa using hv) (Ev.pos (by omega) (Ev.bind hrel (Ev.ret rfl)))), Ev.bind (weVoters_ev L h) (Ev.pos (by simpa using hv) (Ev.pos (by omega) ?_)), by rw [rel_length]; omega⟩
    exact smaj_l0 L hv (rd_L1 L 0).length 0 (by omega)
  · exact ⟨0, [], false, Ev.bind (areVoters_ev L h) (Ev.neg (by simpa using hv) (Ev.ret rfl)), Ev.bind (weVoters_ev L h) (Ev.neg (by simpa using hv) (Ev.ret rfl)), by simp⟩

end Go.Proofs.Ytjojalbgpemjoaa.Pure

/- MajorityOf answers what the reference answers and hands back memory of its own, for every list of voters with at most 2^20 rows and numbers in all (greater ones the statement lets pass). Conditions: none. -/
namespace Go.Proofs.Ytjojalbgpemjoaa.Pure
open Go.RowKit Go.Proofs.Ytjojalbgpemjoaa.Q Go.Proofs.YtjojalbgpemjoaaW.PrintWords Go.Proofs.YtjojalbgpemjoaaW.PrintLast
set_option linter.unusedVariables false
set_option linter.unusedSimpArgs false

theorem FnExactMajorityOf (L : List (List Int)) (hL : L.length ≤ maxLen) (hr : ∀ r ∈ L, r.length ≤ maxLen ∧ ∀ x ∈ r, (Lit.int .i64 x).wf = true) : ∃ k, laws_FnExactMajorityOf.f k L = some true := by
  refine Ev.at1 ?_
  unfold laws_FnExactMajorityOf.f
  obtain ⟨s, hs, h0⟩ := szSS L hL (fun r h => (hr r h).1)
  refine Ev.bind hs ?_
  by_cases hneg : s < 0
  · exact Ev.pos hneg (Ev.ret rfl)
  have h := h0 (by omega)
  obtain ⟨n, x, b, hi, hs2, hx⟩ := MajorityOf_both L h
  have tS := toSS L h
  have eS := eqSS_same L h
  obtain ⟨c, hc, hc0⟩ := markSS L h
  have ex := eqOrder_same n x (by omega)
  have mx := markOrder n x (by omega) 1 (by omega) (by omega)
  have gx := heldOrder n x.length (by omega) 1 (by omega) (by omega)
  refine Ev.neg hneg (Ev.bind tS (Ev.bind hs2 (Ev.bind tS (Ev.bind hi (Ev.bind ex (Ev.pos rfl (Ev.shift ?_)))))))
  simp only [laws_FnExactMajorityOf.j0]
  refine Ev.neg (by simp) (Ev.bind tS (Ev.bind eS (Ev.pos rfl (Ev.bind hc (Ev.neg (by omega) (Ev.bind ex (Ev.pos rfl (Ev.shift ?_))))))))
  simp only [laws_FnExactMajorityOf.j1]
  refine Ev.neg (by simp) (Ev.bind mx (Ev.bind gx (Ev.neg (by omega) (Ev.pos rfl ?_))))
  refine Ev.bind tS (Ev.bind hi (Ev.bind ex (Ev.pos rfl (Ev.shift ?_))))
  simp only [laws_FnExactMajorityOf.j2]
  exact Ev.neg (by simp) (Ev.bind gx (Ev.neg (by omega) (Ev.pos rfl (Ev.ret rfl))))

end Go.Proofs.Ytjojalbgpemjoaa.Pure
