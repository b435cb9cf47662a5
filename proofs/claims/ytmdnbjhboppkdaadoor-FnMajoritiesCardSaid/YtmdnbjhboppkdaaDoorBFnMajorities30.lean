import Derived.Test.YtmdnbjhboppkdaaDoorBFnMajorities12
import Derived.Test.YtmdnbjhboppkdaaDoorBFnMajorities29
namespace Go.Proofs.YtmdnbjhboppkdaaDoor.Pure
open Go.RowKit Go.Proofs.YtmdnbjhboppkdaaDoor.Q Go.Proofs.YtmdnbjhboppkdaaDoorW.PrintWords Go.Proofs.YtmdnbjhboppkdaaDoorW.PrintLast
set_option linter.unusedVariables false
set_option linter.unusedSimpArgs false
def votP (L : List (List Int)) : Prop := (1 ≤ L.length ∧ L.length ≤ 15) ∧ ∀ r ∈ L, lvlP r ∧ r.length = (rd_L2 L 0).length
instance (L : List (List Int)) : Decidable (votP L) := by unfold votP; infer_instance
def badP (n : Nat) (r : List Int) : Bool := !decide (lvlP r) || (r.length : Int) != (n : Int)
theorem indexFunc_l (L : List (List Int)) (hL : L.length ≤ 1048576) (p : List Int → Bool) (d : Nat) : ∀ (i : Nat) (g : Nat → List Int → Option Bool), (∀ r ∈ L, Ev (fun k => g k r) (p r)) → i + d = L.length →
  ∃ s, Ev (fun k => slices_IndexFunc_int_int.l0 k L (g k) (L.length : Int) (i : Int)) s ∧ (0 ≤ s ↔ ∃ r ∈ L.drop i, p r = true) := by
 induction d with
 | zero =>
  intro i g hg hi
  refine ⟨-1, Ev.shift ?_, ?_⟩
  ·simp only [slices_IndexFunc_int_int.l0]
   exact Ev.neg (by omega) (Ev.ret rfl)
  ·rw [List.drop_of_length_le (by omega)]; simp
 | succ d ih =>
  intro i g hg hi
  have hg' : ∀ r ∈ L, Ev (fun k => g (k + 1) r) (p r) := fun r hr => Ev.up (hg r hr)
  have hm : rd_L2 L (i : Int) ∈ L := by rw [rdL_lt L i (by omega)]; exact List.getElem_mem _
  rw [dropL L i (by omega)]
  by_cases hp : p (rd_L2 L (i : Int)) = true
  ·refine ⟨(i : Int), Ev.shift ?_, ?_⟩
   ·simp only [slices_IndexFunc_int_int.l0]
    exact Ev.pos (by omega) (Ev.pos (by omega) (Ev.pos (by omega) (Ev.bind (hg' _ hm) (Ev.pos hp (Ev.ret rfl)))))
   ·exact ⟨fun _ => ⟨_, by simp, hp⟩, fun _ => by omega⟩
  ·obtain ⟨s, hs, h0⟩ := ih (i + 1) (fun k => g (k + 1)) hg' (by omega)
   refine ⟨s, Ev.shift ?_, ?_⟩
   ·simp only [slices_IndexFunc_int_int.l0]
    refine Ev.pos (by omega) (Ev.pos (by omega) (Ev.pos (by omega) (Ev.bind (hg' _ hm) (Ev.neg hp ?_))))
    rw [wrap64_id (by omega) (by omega), cast1]
    exact hs
   ·rw [h0]
    constructor
    ·rintro ⟨r, hr, h⟩; exact ⟨r, by simp [hr], h⟩
    ·rintro ⟨r, hr, h⟩
     rcases List.mem_cons.1 hr with rfl | hr
     ·exact absurd h hp
     ·exact ⟨r, hr, h⟩
theorem areVoters_ev (L : List (List Int)) (h : rowsP L) : Ev (fun k => impl_areVoters.f k L) (decide (votP L)) := by
 unfold impl_areVoters.f
 refine Ev.bindc (impl_in _ _ _) ?_
 by_cases hl : 1 ≤ L.length ∧ L.length ≤ 15
 ·refine Ev.pos (by simp; omega) ?_
  obtain ⟨s, hs, h0⟩ := indexFunc_l L h.1 (badP (rd_L2 L 0).length) L.length 0 (fun k u0_ => impl_areVoters_1.f k u0_ L) (fun r hr => by
   unfold impl_areVoters_1.f
   refine Ev.bind (levels_impl r (h.2 r hr)) ?_
   by_cases hv : lvlP r
   ·refine Ev.pos (by simpa using hv) (Ev.pos (by omega) (Ev.ret ?_))
    simp [badP, hv]
   ·refine Ev.neg (by simpa using hv) (Ev.ret ?_)
    simp [badP, hv]) (by omega)
  unfold slices_ContainsFunc_int_int.f slices_IndexFunc_int_int.f
  refine Ev.bind (Ev.bind hs (Ev.ret rfl)) (Ev.ret ?_)
  rw [List.drop_zero] at h0
  rw [Bool.eq_iff_iff, decide_eq_true_iff, Bool.not_eq_true', decide_eq_false_iff_not]
  rw [show (s ≥ 0) = (0 ≤ s) from rfl, h0]
  unfold votP
  constructor
  ·intro hn
   refine ⟨hl, fun r hr => ?_⟩
   have : ¬ badP (rd_L2 L 0).length r = true := fun hb => hn ⟨r, hr, hb⟩
   simp [badP] at this
   exact ⟨this.1, by omega⟩
  ·rintro ⟨_, hv⟩ ⟨r, hr, hb⟩
   have := hv r hr
   simp [badP, this.1, this.2] at hb
 ·refine Ev.neg (by simp; omega) (Ev.ret ?_)
  symm; rw [decide_eq_false_iff_not]; exact fun hv => hl hv.1
theorem weVoters_l (L : List (List Int)) (h : rowsP L) (d : Nat) : ∀ (i : Nat), i + d = L.length → Ev (fun k => spec_weVoters.l0 k L L (L.length : Int) (i : Int)) (decide ((1 ≤ L.length ∧ L.length ≤ 15) ∧ ∀ r ∈ L.drop i, lvlP r ∧ r.length = (rd_L2 L 0).length)) := by
 have hL := h.1
 induction d with
 | zero =>
  intro i hi
  refine Ev.shift ?_
  simp only [spec_weVoters.l0]
  refine Ev.neg (by omega) (Ev.bindc (spec_in _ _ _) (Ev.ret ?_))
  rw [List.drop_of_length_le (by omega), Bool.eq_iff_iff, decide_eq_true_iff, decide_eq_true_iff]
  simp; omega
 | succ d ih =>
  intro i hi
  refine Ev.shift ?_
  simp only [spec_weVoters.l0]
  refine Ev.pos (by omega) (Ev.pos (by omega) (Ev.pos (by omega) (Ev.bind (levels_spec _ (h.at (by omega))) ?_)))
  rw [wrap64_id (by omega) (by omega), cast1, dropL L i (by omega)]
  by_cases hv : lvlP (rd_L2 L (i : Int))
  ·refine Ev.pos (by simpa using hv) (Ev.pos (by omega) ?_)
   by_cases he : ((rd_L2 L (i : Int)).length : Int) = ((rd_L2 L 0).length : Int)
   ·refine Ev.pos he (Ev.eq (ih (i + 1) (by omega)) ?_)
    have he' : (rd_L2 L (i : Int)).length = (rd_L2 L 0).length := by omega
    rw [Bool.eq_iff_iff, decide_eq_true_iff, decide_eq_true_iff]
    simp [hv, he']
   ·refine Ev.neg he (Ev.ret ?_)
    symm; rw [decide_eq_false_iff_not]
    intro hh
    have := (hh.2 _ (List.mem_cons_self ..)).2
    omega
  ·refine Ev.neg (by simpa using hv) (Ev.ret ?_)
   symm; rw [decide_eq_false_iff_not]
   intro hh
   exact hv (hh.2 _ (List.mem_cons_self ..)).1
theorem weVoters_ev (L : List (List Int)) (h : rowsP L) : Ev (fun k => spec_weVoters.f k L) (decide (votP L)) := by
 unfold spec_weVoters.f
 have := weVoters_l L h L.length 0 (by omega)
 rw [List.drop_zero] at this
 exact this
theorem votP.row {L : List (List Int)} (h : votP L) {q : Nat} (hq : q < L.length) : (rd_L2 L (q : Int)).length = (rd_L2 L 0).length ∧ (rd_L2 L (q : Int)).length ≤ 10 ∧ ∀ j : Nat, j < (rd_L2 L 0).length → 0 ≤ rd (rd_L2 L (q : Int)) (j : Int) ∧ rd (rd_L2 L (q : Int)) (j : Int) ≤ 10 := by
 have hm : rd_L2 L (q : Int) ∈ L := by rw [rdL_lt L q hq]; exact List.getElem_mem _
 obtain ⟨h1, h2⟩ := h.2 _ hm
 refine ⟨h2, h1.1, fun j hj => h1.2.1 _ ?_⟩
 rw [rd_lt _ j (by omega)]; exact List.getElem_mem _
def sgn (d : Int) : Int := if d > 0 then 1 else if d < 0 then -1 else 0
def majD (i j : Nat) : List (List Int) → Int
 | [] => 0
 | r :: t => sgn (rd r (j : Int) - rd r (i : Int)) + majD i j t
theorem sgn_range (d : Int) : -1 ≤ sgn d ∧ sgn d ≤ 1 := by unfold sgn; repeat' split <;> omega
def majP (L : List (List Int)) (i j : Nat) : Bool := decide (majD i j L > 0)
theorem majority_l (L : List (List Int)) (h : votP L) (i j : Nat) (hi : i < (rd_L2 L 0).length) (hj : j < (rd_L2 L 0).length) (d : Nat) : ∀ (q : Nat) (a : Int), q + d = L.length → -15 ≤ a - (d : Int) → a + d ≤ 15 → Ev (fun k => impl_majority.l0 k (i : Int) (j : Int) a L (L.length : Int) (q : Int)) (a + majD i j (L.drop q)) := by
 have hL := h.1
 induction d with
 | zero =>
  intro q a hq h1 h2
  refine Ev.shift ?_
  simp only [impl_majority.l0]
  exact Ev.neg (by omega) (Ev.ret (by rw [List.drop_of_length_le (by omega)]; simp [majD]))
 | succ d ih =>
  intro q a hq h1 h2
  have hr := h.row (q := q) (by omega)
  rw [dropL L q (by omega)]
  simp only [majD]
  refine Ev.shift ?_
  simp only [impl_majority.l0]
  refine Ev.pos (by omega) (Ev.pos (by omega) (Ev.pos (by omega) (Ev.pos (by omega) (Ev.pos (by omega) (Ev.pos (by omega) (Ev.pos (by omega) ?_))))))
  rw [wrap64_id (x := (q : Int) + 1) (by omega) (by omega), cast1, wrap64_id (x := a + 1) (by omega) (by omega), wrap64_id (x := a - 1) (by omega) (by omega)]
  by_cases hc : rd (rd_L2 L (q : Int)) (j : Int) > rd (rd_L2 L (q : Int)) (i : Int)
  ·refine Ev.pos hc (Ev.eq (ih (q + 1) _ (by omega) (by omega) (by omega)) ?_)
   unfold sgn; rw [if_pos (by omega)]; omega
  ·refine Ev.neg hc ?_
   by_cases hc2 : rd (rd_L2 L (q : Int)) (j : Int) < rd (rd_L2 L (q : Int)) (i : Int)
   ·refine Ev.pos hc2 (Ev.eq (ih (q + 1) _ (by omega) (by omega) (by omega)) ?_)
    unfold sgn; rw [if_neg (by omega), if_pos (by omega)]; omega
   ·refine Ev.neg hc2 (Ev.eq (ih (q + 1) _ (by omega) (by omega) (by omega)) ?_)
    unfold sgn; rw [if_neg (by omega), if_neg (by omega)]; omega
theorem sign_f (d : Int) : spec_l1Sign.f d = some (sgn d) := by
 unfold spec_l1Sign.f sgn
 by_cases h : d > 0
 ·rw [if_pos h, if_pos h]
 ·rw [if_neg h, if_neg h]
  by_cases h2 : d < 0
  ·rw [if_pos h2, if_pos h2]
  ·rw [if_neg h2, if_neg h2]
theorem smaj_l2 (L : List (List Int)) (h : votP L) (i j : Nat) (hi : i < (rd_L2 L 0).length) (hj : j < (rd_L2 L 0).length) (x7 n : Int) (y : List Int) (R : Int × List Int × Bool)
  (hR : Ev (fun k => if majD i j L > 0 then (if 0 ≤ (j : Int) then (spec_MajorityOf.l1 k L ((rd_L2 L 0).length : Int) (i : Int) (Go.bits .or .i64 x7 (shl .i64 1 (j : Int))) (wrap64 ((j : Int) + 1)) n y) else none) else (spec_MajorityOf.l1 k L ((rd_L2 L 0).length : Int) (i : Int) x7 (wrap64 ((j : Int) + 1)) n y)) R) (d : Nat) :
  ∀ (q : Nat) (a : Int), q + d = L.length → -15 ≤ a - (d : Int) → a + d ≤ 15 → a + majD i j (L.drop q) = majD i j L → Ev (fun k => spec_MajorityOf.l2 k L ((rd_L2 L 0).length : Int) (i : Int) x7 (j : Int) a L (L.length : Int) (q : Int) n y) R := by
 have hL := h.1
 induction d with
 | zero =>
  intro q a hq h1 h2 ha
  refine Ev.shift ?_
  simp only [spec_MajorityOf.l2]
  refine Ev.neg (by omega) ?_
  rw [List.drop_of_length_le (by omega)] at ha
  simp only [majD, Int.add_zero] at ha
  rw [ha]; exact hR
 | succ d ih =>
  intro q a hq h1 h2 ha
  have hr := h.row (q := q) (by omega)
  have hr1 := hr.2.2 i hi
  have hr2 := hr.2.2 j hj
  have hs := sgn_range (rd (rd_L2 L (q : Int)) (j : Int) - rd (rd_L2 L (q : Int)) (i : Int))
  rw [dropL L q (by omega)] at ha
  simp only [majD] at ha
  refine Ev.shift ?_
  simp only [spec_MajorityOf.l2]
  refine Ev.pos (by omega) (Ev.pos (by omega) (Ev.pos (by omega) (Ev.pos (by omega) (Ev.pos (by omega) (Ev.pos (by omega) (Ev.pos (by omega) ?_))))))
  rw [wrap64_id (x := (q : Int) + 1) (by omega) (by omega), cast1, wrap64_id (x := rd (rd_L2 L (q : Int)) (j : Int) - rd (rd_L2 L (q : Int)) (i : Int)) (by omega) (by omega)]
  refine Ev.bindc (sign_f _) ?_
  rw [wrap64_id (by omega) (by omega)]
  exact ih (q + 1) _ (by omega) (by omega) (by omega) (by omega)
theorem smaj_l1 (L : List (List Int)) (h : votP L) (i : Nat) (hi : i < (rd_L2 L 0).length) (y : List Int) (hy : y.length = i) (R : Int × List Int × Bool)
  (hR : Ev (fun k => spec_MajorityOf.l0 k L ((rd_L2 L 0).length : Int) ((i + 1 : Nat) : Int) ((rd_L2 L 0).length : Int) (y ++ [rowf (majP L i) (rd_L2 L 0).length])) R) (d : Nat) :
  ∀ j : Nat, j + d = (rd_L2 L 0).length → Ev (fun k => spec_MajorityOf.l1 k L ((rd_L2 L 0).length : Int) (i : Int) (rowf (majP L i) j) (j : Int) ((rd_L2 L 0).length : Int) y) R := by
 have hL := h.1
 have h10 := (h.row (q := 0) (by omega)).2.1
 rw [show ((0 : Nat) : Int) = 0 from rfl] at h10
 induction d with
 | zero =>
  intro j hj
  obtain rfl : j = (rd_L2 L 0).length := by omega
  refine Ev.shift ?_
  simp only [spec_MajorityOf.l1]
  refine Ev.neg (by omega) (Ev.pos (by omega) ?_)
  rw [wrap64_id (x := (i : Int) + 1) (by omega) (by omega), cast1]
  exact hR
 | succ d ih =>
  intro j hj
  have := ih (j + 1) (by omega)
  rw [rowf_succ] at this
  refine Ev.shift ?_
  simp only [spec_MajorityOf.l1]
  refine Ev.pos (by omega) (smaj_l2 L h i j hi (by omega) _ _ y R ?_ L.length 0 0 (by omega) (by omega) (by omega) (by rw [List.drop_zero]; omega))
  rw [wrap64_id (x := (j : Int) + 1) (by omega) (by omega), cast1]
  by_cases hc : majD i j L > 0
  ·rw [if_pos (by simpa [majP] using hc)] at this
   exact Ev.pos hc (Ev.pos (by omega) this)
  ·rw [if_neg (by simpa [majP] using hc)] at this
   exact Ev.neg hc this
theorem smaj_l0 (L : List (List Int)) (h : votP L) (d : Nat) : ∀ i : Nat, i + d = (rd_L2 L 0).length → Ev (fun k => spec_MajorityOf.l0 k L ((rd_L2 L 0).length : Int) (i : Int) ((rd_L2 L 0).length : Int) ((rel (majP L) (rd_L2 L 0).length).take i)) (((rd_L2 L 0).length : Int), rel (majP L) (rd_L2 L 0).length, true) := by
 induction d with
 | zero =>
  intro i hi
  refine Ev.shift ?_
  simp only [spec_MajorityOf.l0]
  exact Ev.neg (by omega) (Ev.ret (by rw [List.take_of_length_le (by rw [rel_length]; omega)]))
 | succ d ih =>
  intro i hi
  have := ih (i + 1) (by omega)
  rw [List.take_succ_eq_append_getElem (by rw [rel_length]; omega), ← rd_lt _ i (by rw [rel_length]; omega), rel_get _ _ i (by omega)] at this
  refine Ev.shift ?_
  simp only [spec_MajorityOf.l0]
  refine Ev.pos (by omega) ?_
  exact smaj_l1 L h i (by omega) _ (by rw [List.length_take, rel_length]; omega) _ this (rd_L2 L 0).length 0 (by omega)
theorem notNaN (x : Int) : slices_isNaN_int.f x = some false := by simp [slices_isNaN_int.f]
theorem less_f (x y : Int) : cmp_Less_int.f x y = some (decide (x < y)) := by simp [cmp_Less_int.f, cmp_isNaN_int.f]
theorem search_l (D : List Int) (x : Int) (h : D.Pairwise (· < ·)) (hD : D.length ≤ 1048576) (d : Nat) : ∀ (i j : Nat), j - i ≤ d → i ≤ j → j ≤ D.length → (∀ m : Nat, m < i → rd D (m : Int) < x) → (∀ m : Nat, j ≤ m → m < D.length → x ≤ rd D (m : Int)) →
  ∃ b, Ev (fun k => slices_BinarySearch_int_int.l0 k D x (D.length : Int) i j) (low D x, b) := by
 have fin : ∀ i : Nat, i ≤ D.length → (∀ m : Nat, m < i → rd D (m : Int) < x) → (∀ m : Nat, i ≤ m → m < D.length → x ≤ rd D (m : Int)) → ∃ b, Ev (fun k => slices_BinarySearch_int_int.l0 k D x (D.length : Int) i i) (low D x, b) := by
  intro i hi h1 h2
  have hl := low_split i hi h1 h2
  by_cases hc : i < D.length
  ·by_cases he : rd D (i : Int) = x
   ·refine ⟨true, Ev.shift ?_⟩
    simp only [slices_BinarySearch_int_int.l0]
    exact Ev.neg (by omega) (Ev.pos (by omega) (Ev.pos (by omega) (Ev.pos (by omega) (Ev.pos he (Ev.ret (by rw [hl]))))))
   ·refine ⟨false, Ev.shift ?_⟩
    simp only [slices_BinarySearch_int_int.l0]
    exact Ev.neg (by omega) (Ev.pos (by omega) (Ev.pos (by omega) (Ev.pos (by omega) (Ev.neg he (Ev.bindc (notNaN _) (Ev.neg (by simp) (Ev.ret (by rw [hl]))))))))
  ·refine ⟨false, Ev.shift ?_⟩
   simp only [slices_BinarySearch_int_int.l0]
   exact Ev.neg (by omega) (Ev.neg (by omega) (Ev.ret (by rw [hl])))
 induction d with
 | zero =>
  intro i j hd hij hj h1 h2
  obtain rfl : i = j := by omega
  exact fin i hj h1 h2
 | succ d ih =>
  intro i j hd hij hj h1 h2
  by_cases hc : i < j
  ·have em : wrap64 ((IntKind.u64.wrap (wrap64 ((i : Int) + (j : Int)))) / 2) = (((i + j) / 2 : Nat) : Int) := by
    rw [wrap64_id (x := (i : Int) + (j : Int)) (by omega) (by omega)]
    have e : IntKind.u64.wrap ((i : Int) + (j : Int)) = (i : Int) + (j : Int) := by
     simp [IntKind.wrap, IntKind.signed, IntKind.bits]; omega
    rw [e, wrap64_id (by omega) (by omega)]; omega
   have hm : (i + j) / 2 < j := by omega
   by_cases hlt : rd D (((i + j) / 2 : Nat) : Int) < x
   ·obtain ⟨b, hb⟩ := ih ((i + j) / 2 + 1) j (by omega) (by omega) hj (fun m hm' => by
     by_cases e : m = (i + j) / 2
     ·subst e; exact hlt
     ·have := rising_rd h (show m < (i + j) / 2 by omega) (by omega); omega) h2
    refine ⟨b, Ev.shift ?_⟩
    simp only [slices_BinarySearch_int_int.l0]
    rw [em]
    refine Ev.pos (by omega) (Ev.pos (by omega) (Ev.pos (by omega) (Ev.bindc (less_f _ _) (Ev.pos (by simpa using hlt) ?_))))
    rw [wrap64_id (by omega) (by omega), cast1]
    exact hb
   ·obtain ⟨b, hb⟩ := ih i ((i + j) / 2) (by omega) (by omega) (by omega) h1 (fun m hm1 hm2 => by
     by_cases e : (i + j) / 2 = m
     ·subst e; omega
     ·have := rising_rd h (show (i + j) / 2 < m by omega) hm2; omega)
    refine ⟨b, Ev.shift ?_⟩
    simp only [slices_BinarySearch_int_int.l0]
    rw [em]
    exact Ev.pos (by omega) (Ev.pos (by omega) (Ev.pos (by omega) (Ev.bindc (less_f _ _) (Ev.neg (by simpa using hlt) hb))))
  ·obtain rfl : i = j := by omega
   exact fin i hj h1 h2
theorem search_ev (D : List Int) (x : Int) (h : D.Pairwise (· < ·)) (hD : D.length ≤ 1048576) : ∃ b, Ev (fun k => slices_BinarySearch_int_int.f k D x) (low D x, b) := by
 unfold slices_BinarySearch_int_int.f
 exact search_l D x h hD D.length 0 D.length (by omega) (by omega) (by omega) (fun m hm => by omega) (fun m h1 h2 => by omega)
theorem leveled_l (l D : List Int) (h : D.Pairwise (· < ·)) (hD : D.length ≤ 1048576) (hl : l.length ≤ 1048576) (d : Nat) : ∀ (i : Nat), i + d = l.length → Ev (fun k => impl_leveled.l0 k ((l.take i).map (low D)) D l (l.length : Int) i) (l.map (low D)) := by
 induction d with
 | zero =>
  intro i hi
  refine Ev.shift ?_
  simp only [impl_leveled.l0]
  exact Ev.neg (by omega) (Ev.ret (by rw [List.take_of_length_le (by omega)]))
 | succ d ih =>
  intro i hi
  obtain ⟨b, hb⟩ := search_ev D (rd l (i : Int)) h hD
  refine Ev.shift ?_
  simp only [impl_leveled.l0]
  refine Ev.pos (by omega) (Ev.pos (by omega) (Ev.pos (by omega) (Ev.bind hb (Ev.pos (by simp; omega) ?_))))
  rw [wrap64_id (by omega) (by omega), cast1]
  have := ih (i + 1) (by omega)
  rw [List.take_succ_eq_append_getElem (by omega), List.map_append, ← rd_lt l i (by omega)] at this
  exact this
theorem leveled_ev (l : List Int) (hl : l.length ≤ 1048576) : Ev (fun k => impl_leveled.f k l) (lev l) := by
 unfold impl_leveled.f
 have hd := dif_length l
 exact Ev.bindc (different_f l hl) (leveled_l l (dif l) (dif_sorted l) (by omega) hl l.length 0 (by omega))
def addUpto (s r : List Int) (j : Nat) : List Int := (List.zipWith (· + ·) s r).take j ++ s.drop j
theorem addUpto_len (s r : List Int) (h : r.length = s.length) (j : Nat) (hj : j ≤ s.length) : (addUpto s r j).length = s.length := by simp [addUpto]; omega
theorem addUpto_rd (s r : List Int) (h : r.length = s.length) (j : Nat) (hj : j < s.length) : rd (addUpto s r j) (j : Int) = rd s (j : Int) := by
 rw [rd_lt _ j (by rw [addUpto_len s r h j (by omega)]; exact hj), rd_lt s j hj]
 unfold addUpto
 rw [List.getElem_append_right (by simp; omega)]
 simp; congr 1; omega
theorem addUpto_set (s r : List Int) (h : r.length = s.length) (j : Nat) (hj : j < s.length) : (addUpto s r j).set j (rd s (j : Int) + rd r (j : Int)) = addUpto s r (j + 1) := by
 unfold addUpto
 have hl : ((List.zipWith (· + ·) s r).take j).length = j := by simp; omega
 rw [List.set_append_right _ _ (by omega), hl, Nat.sub_self, List.drop_eq_getElem_cons hj, List.set_cons_zero, List.take_succ_eq_append_getElem (by simp; omega), List.append_assoc, List.singleton_append]
 congr 2
 rw [List.getElem_zipWith, rd_lt s j hj, rd_lt r j (by omega)]
theorem addUpto_full (s r : List Int) (h : r.length = s.length) : addUpto s r s.length = List.zipWith (· + ·) s r := by
 unfold addUpto
 rw [List.take_of_length_le (by simp; omega), List.drop_of_length_le (by omega), List.append_nil]
def sums (s : List Int) (L : List (List Int)) : List Int := L.foldl (fun s r => List.zipWith (· + ·) s r) s
theorem imean_l1 (L : List (List Int)) (q : Nat) (hq : q < L.length) (hL : L.length ≤ 15) (s r : List Int) (hs : s.length ≤ 10) (hr : r.length = s.length) (hb : ∀ j : Nat, j < s.length → (0 ≤ rd s (j : Int) ∧ rd s (j : Int) ≤ 1000) ∧ 0 ≤ rd r (j : Int) ∧ rd r (j : Int) ≤ 10) (R : List Int × Bool)
  (hR : Ev (fun k => impl_MeanLevels.l0 k (List.zipWith (· + ·) s r) L (L.length : Int) ((q + 1 : Nat) : Int)) R) (d : Nat) : ∀ j : Nat, j + d = s.length → Ev (fun k => impl_MeanLevels.l1 k (addUpto s r j) L (L.length : Int) (q : Int) r (r.length : Int) (j : Int)) R := by
 induction d with
 | zero =>
  intro j hj
  refine Ev.shift ?_
  simp only [impl_MeanLevels.l1]
  refine Ev.neg (by omega) ?_
  rw [wrap64_id (by omega) (by omega), cast1, show j = s.length by omega, addUpto_full s r hr]
  exact hR
 | succ d ih =>
  intro j hj
  have hb1 := hb j (by omega)
  have hl := addUpto_len s r hr j (by omega)
  have h1 := addUpto_rd s r hr j (by omega)
  refine Ev.shift ?_
  simp only [impl_MeanLevels.l1]
  refine Ev.pos (by omega) (Ev.pos (by omega) (Ev.pos (by omega) (Ev.pos (by omega) ?_)))
  rw [wrap64_id (x := (j : Int) + 1) (by omega) (by omega), cast1, Int.toNat_natCast, h1, wrap64_id (by omega) (by omega), addUpto_set s r hr j (by omega)]
  exact ih (j + 1) (by omega)
theorem sum_bounds {s r : List Int} {c : Int} (hr : r.length = s.length) (hs : ∀ j : Nat, j < s.length → 0 ≤ rd s (j : Int) ∧ rd s (j : Int) ≤ c) (hb : ∀ j : Nat, j < s.length → 0 ≤ rd r (j : Int) ∧ rd r (j : Int) ≤ 10) : ∀ j : Nat, j < (List.zipWith (· + ·) s r).length → 0 ≤ rd (List.zipWith (· + ·) s r) (j : Int) ∧ rd (List.zipWith (· + ·) s r) (j : Int) ≤ c + 10 := by
 intro j hj
 have hj2 : j < s.length := by simp at hj; omega
 have h1 := hs j hj2
 have h2 := hb j hj2
 rw [rd_lt _ j hj, List.getElem_zipWith, ← rd_lt s j hj2, ← rd_lt r j (by omega)]
 omega
theorem imean_l0 (L : List (List Int)) (h : votP L) (R : List Int × Bool) (d : Nat) : ∀ (q : Nat) (s : List Int), q + d = L.length → s.length = (rd_L2 L 0).length → (∀ j : Nat, j < s.length → 0 ≤ rd s (j : Int) ∧ rd s (j : Int) ≤ 10 * (q : Int)) →
  Ev (fun k => (impl_leveled.f k (sums s (L.drop q))).bind fun t => some (t, true)) R → Ev (fun k => impl_MeanLevels.l0 k s L (L.length : Int) (q : Int)) R := by
 have hL := h.1
 induction d with
 | zero =>
  intro q s hq hs hb hR
  refine Ev.shift ?_
  simp only [impl_MeanLevels.l0]
  refine Ev.neg (by omega) ?_
  rw [List.drop_of_length_le (by omega)] at hR
  exact hR
 | succ d ih =>
  intro q s hq hs hb hR
  have hr := h.row (q := q) (by omega)
  rw [dropL L q (by omega)] at hR
  refine Ev.shift ?_
  simp only [impl_MeanLevels.l0]
  refine Ev.pos (by omega) (Ev.pos (by omega) (Ev.pos (by omega) ?_))
  have hz : (List.zipWith (· + ·) s (rd_L2 L (q : Int))).length = s.length := by simp; omega
  have := imean_l1 L q (by omega) hL.2 s (rd_L2 L (q : Int)) (by omega) (by omega) (fun j hj => ⟨by have := hb j hj; omega, hr.2.2 j (by omega)⟩) R (ih (q + 1) _ (by omega) (by omega) (fun j hj => by
   have := sum_bounds (by omega) hb (fun j hj => hr.2.2 j (by omega)) j hj
   omega) hR) s.length 0 (by omega)
  simpa [addUpto] using this
theorem smean_l1 (L : List (List Int)) (q : Nat) (hq : q < L.length) (hL : L.length ≤ 15) (s r : List Int) (hs : s.length ≤ 10) (hr : r.length = s.length) (hb : ∀ j : Nat, j < s.length → (0 ≤ rd s (j : Int) ∧ rd s (j : Int) ≤ 1000) ∧ 0 ≤ rd r (j : Int) ∧ rd r (j : Int) ≤ 10) (R : List Int × Bool)
  (hR : Ev (fun k => spec_MeanLevels.l0 k (List.zipWith (· + ·) s r) L (L.length : Int) ((q + 1 : Nat) : Int)) R) (d : Nat) : ∀ j : Nat, j + d = s.length → Ev (fun k => spec_MeanLevels.l1 k (addUpto s r j) L (L.length : Int) (q : Int) r (r.length : Int) (j : Int)) R := by
 induction d with
 | zero =>
  intro j hj
  refine Ev.shift ?_
  simp only [spec_MeanLevels.l1]
  refine Ev.neg (by omega) ?_
  rw [wrap64_id (by omega) (by omega), cast1, show j = s.length by omega, addUpto_full s r hr]
  exact hR
 | succ d ih =>
  intro j hj
  have hb1 := hb j (by omega)
  have hl := addUpto_len s r hr j (by omega)
  have h1 := addUpto_rd s r hr j (by omega)
  refine Ev.shift ?_
  simp only [spec_MeanLevels.l1]
  refine Ev.pos (by omega) (Ev.pos (by omega) (Ev.pos (by omega) (Ev.pos (by omega) ?_)))
  rw [wrap64_id (x := (j : Int) + 1) (by omega) (by omega), cast1, Int.toNat_natCast, h1, wrap64_id (by omega) (by omega), addUpto_set s r hr j (by omega)]
  exact ih (j + 1) (by omega)
theorem smean_l0 (L : List (List Int)) (h : votP L) (R : List Int × Bool) (d : Nat) : ∀ (q : Nat) (s : List Int), q + d = L.length → s.length = (rd_L2 L 0).length → (∀ j : Nat, j < s.length → 0 ≤ rd s (j : Int) ∧ rd s (j : Int) ≤ 10 * (q : Int)) →
  Ev (fun k => (spec_weOfNumbers.f k (sums s (L.drop q))).bind fun t => some (t, true)) R → Ev (fun k => spec_MeanLevels.l0 k s L (L.length : Int) (q : Int)) R := by
 have hL := h.1
 induction d with
 | zero =>
  intro q s hq hs hb hR
  refine Ev.shift ?_
  simp only [spec_MeanLevels.l0]
  refine Ev.neg (by omega) ?_
  rw [List.drop_of_length_le (by omega)] at hR
  exact hR
 | succ d ih =>
  intro q s hq hs hb hR
  have hr := h.row (q := q) (by omega)
  rw [dropL L q (by omega)] at hR
  refine Ev.shift ?_
  simp only [spec_MeanLevels.l0]
  refine Ev.pos (by omega) (Ev.pos (by omega) (Ev.pos (by omega) ?_))
  have hz : (List.zipWith (· + ·) s (rd_L2 L (q : Int))).length = s.length := by simp; omega
  have := smean_l1 L q (by omega) hL.2 s (rd_L2 L (q : Int)) (by omega) (by omega) (fun j hj => ⟨by have := hb j hj; omega, hr.2.2 j (by omega)⟩) R (ih (q + 1) _ (by omega) (by omega) (fun j hj => by
   have := sum_bounds (by omega) hb (fun j hj => hr.2.2 j (by omega)) j hj
   omega) hR) s.length 0 (by omega)
  simpa [addUpto] using this
theorem sums_len : ∀ (L : List (List Int)) (s : List Int), (∀ r ∈ L, r.length = s.length) → (sums s L).length = s.length
 | [], s, _ => rfl
 | r :: t, s, h => by
  have hz : (List.zipWith (· + ·) s r).length = s.length := by have := h r (by simp); simp; omega
  have := sums_len t (List.zipWith (· + ·) s r) (fun r' hr' => by rw [hz]; exact h r' (by simp [hr']))
  rw [hz] at this; exact this
theorem low_mono {D : List Int} (hD : D.Pairwise (· < ·)) {x y : Int} (hx : x ∈ D) (hxy : x < y) : low D x < low D y := by
 obtain ⟨p, hp, rfl⟩ := List.mem_iff_getElem.1 hx
 have e := low_get hD p hp
 rw [rd_lt D p hp] at e
 rw [e]
 refine Classical.byContradiction fun hno => ?_
 -- all of the first p + 1 elements are below y
 have : ((p + 1 : Nat) : Int) ≤ low D y := by
  unfold low
  have hs : (D.take (p + 1)).Sublist D := List.take_sublist _ _
  have h2 : (D.take (p + 1)).filter (fun z => decide (z < y)) = D.take (p + 1) := by
   rw [List.filter_eq_self]
   intro z hz
   obtain ⟨q, hq, rfl⟩ := List.mem_iff_getElem.1 hz
   rw [List.length_take] at hq
   rw [List.getElem_take]
   by_cases e : q = p
   ·subst e; simpa using hxy
   ·have := List.pairwise_iff_getElem.1 hD q p (by omega) hp (by omega)
    simp; omega
  have h3 := (hs.filter (fun z => decide (z < y))).length_le
  rw [h2, List.length_take] at h3
  omega
 omega
theorem rd_lev (a : List Int) {i : Nat} (hi : i < a.length) : rd (lev a) (i : Int) = low (dif a) (rd a (i : Int)) := by
 rw [rd_lt _ i (by rw [lev_length]; exact hi), rd_lt a i hi]; simp [lev]
theorem rd_dif (a : List Int) {i : Nat} (hi : i < a.length) : rd a (i : Int) ∈ dif a := mem_dif.2 (by rw [rd_lt a i hi]; exact List.getElem_mem _)
theorem lev_lt (a : List Int) {i j : Nat} (hi : i < a.length) (hj : j < a.length) : rd (lev a) (i : Int) < rd (lev a) (j : Int) ↔ rd a (i : Int) < rd a (j : Int) := by
 rw [rd_lev a hi, rd_lev a hj]
 constructor
 ·intro h
  refine Classical.byContradiction fun hno => ?_
  rcases Int.lt_or_eq_of_le (Int.not_lt.1 hno) with g | g
  ·have := low_mono (dif_sorted a) (rd_dif a hj) g; omega
  ·rw [g] at h; omega
 ·exact low_mono (dif_sorted a) (rd_dif a hi)
theorem lev_lvl (l : List Int) (hl : l.length ≤ 10) : lvlP (lev l) := by
 have hd : (dif l).length ≤ 10 := by have := dif_length l; omega
 refine ⟨by rw [lev_length]; exact hl, fun x hx => ?_, fun x hx hp => ?_⟩
 ·obtain ⟨y, hy, rfl⟩ := List.mem_map.1 hx
  have := low_range (dif l) y
  omega
 ·obtain ⟨y, hy, rfl⟩ := List.mem_map.1 hx
  have hr := low_range (dif l) y
  obtain ⟨p, hp2⟩ : ∃ p : Nat, low (dif l) y = p + 1 := ⟨(low (dif l) y - 1).toNat, by omega⟩
  have hpl : p < (dif l).length := by omega
  refine List.mem_map.2 ⟨rd (dif l) (p : Int), ?_, ?_⟩
  ·rw [← mem_dif, rd_lt _ p hpl]; exact List.getElem_mem _
  ·rw [low_get (dif_sorted l) p hpl, hp2]; omega
theorem lev_fix {l : List Int} {n : Nat} (h : ∀ x, x ∈ l ↔ 0 ≤ x ∧ x < n) : lev l = l := by
 unfold lev
 rw [dif_iota h]
 have : ∀ x ∈ l, low (iota n) x = x := by
  intro x hx
  have hx := (h x).1 hx
  obtain ⟨i, rfl⟩ : ∃ i : Nat, x = i := ⟨x.toNat, by omega⟩
  have := low_get (iota_rising n) i (by rw [iota_length]; omega)
  rw [rd_lt _ i (by rw [iota_length]; omega)] at this
  simpa [iota] using this
 conv => rhs; rw [← List.map_id l]
 exact List.map_congr_left fun x hx => this x hx
end Go.Proofs.YtmdnbjhboppkdaaDoor.Pure
