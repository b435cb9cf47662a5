import Derived.Test.YteechpappfagpaaDoorBFnExactIsWeak6
import Derived.Test.YteechpappfagpaaDoorBFnExactIsWeak7
import Derived.Test.YteechpappfagpaaDoorBFnExactIsWeak8
import Derived.Test.YteechpappfagpaaDoorBFnExactIsWeak9
import Derived.Test.YteechpappfagpaaDoorBFnExactIsWeak15
import Derived.Test.YteechpappfagpaaDoorBFnExactIsWeak16
import Derived.Test.YteechpappfagpaaDoorBFnExactIsWeak17
import Derived.Test.YteechpappfagpaaDoorBFnExactIsWeak18
import Derived.Test.YteechpappfagpaaDoorBFnExactIsWeak19
import Derived.Test.YteechpappfagpaaDoorBFnExactIsWeak20
import Derived.Test.YteechpappfagpaaDoorBFnExactIsWeak21
namespace Go.Proofs.YteechpappfagpaaDoor.Pure
open Go.RowKit Go.Proofs.YteechpappfagpaaDoor.Q Go.Proofs.YteechpappfagpaaDoorW.PrintWords Go.Proofs.YteechpappfagpaaDoorW.PrintLast
set_option linter.unusedVariables false
set_option linter.unusedSimpArgs false

theorem rowf_bits (p : Nat → Bool) (d : Nat) : d ≤ 10 → setP (rowf p d) ∧ ∀ m, bit (rowf p d) m = (decide (m < d) && p m) := by
  induction d with
  | zero => intro _; exact ⟨set_zero, fun m => by rw [show rowf p 0 = 0 from rfl, bit_zero]; simp⟩
  | succ d ih =>
    intro hd
    obtain ⟨h1, h2⟩ := ih (by omega)
    rw [rowf_succ]
    by_cases hp : p d = true
    · rw [if_pos hp]
      have hs := set_shl (j := d) (by omega)
      have ho := set_or h1 hs.1
      refine ⟨ho.1, fun m => ?_⟩
      show bit (Go.bits .or .i64 (rowf p d) (shl .i64 1 (d : Int))) m = _
      rw [ho.2, h2, hs.2]
      by_cases e : m = d
      · subst e; simp [hp]
      · by_cases l : m < d
        · simp [l, e, show m < d + 1 by omega]
        · simp [l, e, show ¬ m < d + 1 by omega]
    · rw [if_neg hp]
      refine ⟨h1, fun m => ?_⟩
      rw [h2]
      by_cases e : m = d
      · subst e; simp [hp]
      · by_cases l : m < d
        · simp [l, show m < d + 1 by omega]
        · simp [l, show ¬ m < d + 1 by omega]
theorem rel_set {p : Nat → Nat → Bool} {n i : Nat} (hn : n ≤ 10) (hi : i < n) : setP (rd (rel p n) (i : Int)) := by
  rw [rel_get p n i hi]; exact (rowf_bits (p i) n hn).1
theorem rel_lt {p : Nat → Nat → Bool} {n i : Nat} (hn : n ≤ 10) (hi : i < n) (j : Nat) : lt (rel p n) i j = (decide (j < n) && p i j) := by
  unfold lt; rw [rel_get p n i hi]; exact (rowf_bits (p i) n hn).2 j

end Go.Proofs.YteechpappfagpaaDoor.Pure

namespace Go.Proofs.YteechpappfagpaaDoor.Pure
open Go.RowKit Go.Proofs.YteechpappfagpaaDoor.Q Go.Proofs.YteechpappfagpaaDoorW.PrintWords Go.Proofs.YteechpappfagpaaDoorW.PrintLast
set_option linter.unusedVariables false
set_option linter.unusedSimpArgs false

/-- indifferent to i, and not i -/
def freeP (L : List Int) (i j : Nat) : Bool := !lt L i j && !lt L j i && !decide (j = i)
theorem mirror_ev {n : Int} {L : List Int} (h : relP n L) : Ev (fun k => impl_Order_mirror.f k n L) (n, rel (fun i j => lt L j i) L.length) := by
  have e1 := h.2.1
  have e3 := h.1
  unfold impl_Order_mirror.f
  have hrel := relation_ev (fun i j => lt L j i) L.length (by omega) (fun _ u0_ u1_ => impl_Order_mirror_1.f u0_ u1_ n L) (fun i j hi hj => Ev.const (by
    unfold impl_Order_mirror_1.f
    rw [better_f n L hj (h.set hj) (by omega), Option.bind_some]; rfl))
  rw [e1] at hrel
  exact Ev.bind hrel (Ev.ret rfl)
theorem all_f {n : Int} {L : List Int} (h : relP n L) : impl_Order_all.f n L = some (full n) := by
  unfold impl_Order_all.f
  rw [if_pos h.1.1]; rfl
theorem near_val {n : Int} {L : List Int} (h : relP n L) {i : Nat} (hi : i < L.length) :
    Go.bits .andNot .i64 (Go.bits .andNot .i64 (Go.bits .andNot .i64 (full n) (rd L (i : Int))) (rd (rel (fun i j => lt L j i) L.length) (i : Int))) (shl .i64 1 (i : Int)) = rowf (freeP L i) L.length := by
  have e1 := h.2.1
  have e3 := h.1
  have hf := set_full (n := L.length) (by omega)
  rw [e1] at hf
  have hm := rel_set (p := fun i j => lt L j i) (n := L.length) (by omega) hi
  have hm2 := rel_lt (p := fun i j => lt L j i) (n := L.length) (by omega) hi
  have a1 := set_andNot hf.1 (h.set hi)
  have a2 := set_andNot a1.1 hm
  have a3 := set_andNot a2.1 (set_shl (j := i) (by omega)).1
  have hr := rowf_bits (freeP L i) L.length (by omega)
  refine set_ext a3.1 hr.1 (fun j hj => ?_)
  rw [a3.2, a2.2, a1.2, hf.2, (set_shl (j := i) (by omega)).2, hr.2]
  rw [show bit (rd (rel (fun i j => lt L j i) L.length) (i : Int)) j = (decide (j < L.length) && lt L j i) from hm2 j]
  unfold freeP lt
  by_cases hjn : j < L.length
  · simp [hjn]
    try (cases bit (rd L (i : Int)) j <;> cases bit (rd L (j : Int)) i <;> simp)
  · simp [hjn]
theorem near_l {n : Int} {L : List Int} (h : relP n L) (d : Nat) : ∀ (i : Nat), i + d = L.length → Ev (fun k => impl_Order_indifferent.l0 k ((rel (freeP L) L.length).take i) n (i : Int) n L n (rel (fun i j => lt L j i) L.length)) (rel (freeP L) L.length) := by
  have e1 := h.2.1
  have e3 := h.1
  induction d with
  | zero =>
    intro i hi
    refine Ev.shift ?_
    simp only [impl_Order_indifferent.l0]
    exact Ev.neg (by omega) (Ev.ret (by rw [List.take_of_length_le (by rw [rel_length]; omega)]))
  | succ d ih =>
    intro i hi
    have := ih (i + 1) (by omega)
    rw [List.take_succ_eq_append_getElem (by rw [rel_length]; omega), ← rd_lt _ i (by rw [rel_length]; omega), rel_get _ _ i (by omega)] at this
    refine Ev.shift ?_
    simp only [impl_Order_indifferent.l0]
    refine Ev.pos (by omega) (Ev.bindc (all_f h) (Ev.pos (by omega) (Ev.pos (by omega) (Ev.pos (by rw [rel_length]; omega) (Ev.pos (by rw [List.length_take, rel_length]; omega) ?_)))))
    rw [wrap64_id (by omega) (by omega), cast1, near_val h (by omega)]
    exact this
theorem near_ev {n : Int} {L : List Int} (h : relP n L) : Ev (fun k => impl_Order_indifferent.f k n L) (rel (freeP L) L.length) := by
  unfold impl_Order_indifferent.f
  exact Ev.bind (mirror_ev h) (near_l h L.length 0 (by omega))
theorem below_l {n : Int} {L : List Int} (h : relP n L) (i : Nat) (hi : i < L.length) (d : Nat) : ∀ (j : Nat), j + d = L.length → Ev (fun k => spec_orBelow.l0 k (i : Int) (rowf (fun j => lt L j i) j) L (L.length : Int) (j : Int)) (rowf (fun j => lt L j i) L.length) := by
  have e1 := h.2.1
  have e3 := h.1
  induction d with
  | zero =>
    intro j hj
    refine Ev.shift ?_
    simp only [spec_orBelow.l0]
    exact Ev.neg (by omega) (Ev.ret (by rw [show j = L.length by omega]))
  | succ d ih =>
    intro j hj
    have := ih (j + 1) (by omega)
    rw [rowf_succ] at this
    refine Ev.shift ?_
    simp only [spec_orBelow.l0]
    refine Ev.pos (by omega) (Ev.pos (by omega) (Ev.pos (by omega) (Ev.bindc (orHas_f (h.set (i := j) (by omega)).1 (h.set (i := j) (by omega)).2 (by omega)) ?_)))
    rw [wrap64_id (by omega) (by omega), cast1]
    by_cases hb : bit (rd L (j : Int)) i = true
    · rw [if_pos (show lt L j i = true from hb)] at this
      exact Ev.pos hb this
    · rw [if_neg (show ¬ lt L j i = true from hb)] at this
      exact Ev.neg hb this
theorem below_ev {n : Int} {L : List Int} (h : relP n L) {i : Nat} (hi : i < L.length) : Ev (fun k => spec_orBelow.f k n L (i : Int)) (rowf (fun j => lt L j i) L.length) := by
  unfold spec_orBelow.f
  exact below_l h i hi L.length 0 (by omega)
theorem free_ev {n : Int} {L : List Int} (h : relP n L) {i : Nat} (hi : i < L.length) : Ev (fun k => spec_orFree.f k n L (i : Int)) (rowf (freeP L i) L.length) := by
  have e1 := h.2.1
  have e3 := h.1
  unfold spec_orFree.f
  refine Ev.pos h.1.1 (Ev.pos (by omega) (Ev.pos (by omega) (Ev.bind (below_ev h hi) (Ev.ret ?_))))
  have hf := set_full (n := L.length) (by omega)
  rw [e1] at hf
  have hb := rowf_bits (fun j => lt L j i) L.length (by omega)
  have o1 := set_or (h.set hi) hb.1
  have o2 := set_or o1.1 (set_shl (j := i) (by omega)).1
  have a1 := set_andNot hf.1 o2.1
  have hr := rowf_bits (freeP L i) L.length (by omega)
  refine set_ext a1.1 hr.1 (fun j hj => ?_)
  show bit (Go.bits .andNot .i64 (full n) _) j = _
  rw [a1.2, o2.2, o1.2, hb.2, hf.2, (set_shl (j := i) (by omega)).2, hr.2]
  unfold freeP lt
  by_cases hjn : j < L.length
  · simp [hjn]
    try (cases bit (rd L (i : Int)) j <;> cases bit (rd L (j : Int)) i <;> simp)
  · simp [hjn]

end Go.Proofs.YteechpappfagpaaDoor.Pure

namespace Go.Proofs.YteechpappfagpaaDoor.Pure
open Go.RowKit Go.Proofs.YteechpappfagpaaDoor.Q Go.Proofs.YteechpappfagpaaDoorW.PrintWords Go.Proofs.YteechpappfagpaaDoorW.PrintLast
set_option linter.unusedVariables false
set_option linter.unusedSimpArgs false

theorem bitsOf_nil {x : Int} (hx : setP x) : bitsOf x = [] ↔ x = 0 := by
  rw [set_eq_zero hx, List.eq_nil_iff_forall_not_mem]
  constructor
  · intro h j hj
    cases hb : bit x j
    · rfl
    · exact absurd (mem_bitsOf.2 ⟨j, hj, hb, rfl⟩) (h _)
  · intro h y hy
    obtain ⟨j, hj, hb, _⟩ := mem_bitsOf.1 hy
    rw [h j hj] at hb; cases hb
theorem bitsOf_len (x : Int) : (bitsOf x).length ≤ 10 := by
  have := List.length_filter_le (bit x) (List.range 10)
  simpa [bitsOf] using this
theorem twoOne_l {n : Int} {L : List Int} (h : relP n L) (d : Nat) : ∀ i : Nat, i + d = L.length → ∃ x, Ev (fun k => impl_Order_twoOne.l0 k (rel (freeP L) L.length) n (i : Int) n L) x ∧ Ev (fun k => spec_TwoOneOf.l0 k (i : Int) n L) (x, x != []) ∧ x.length ≤ 3 := by
  have e1 := h.2.1
  have e3 := h.1
  induction d with
  | zero =>
    intro i hi
    refine ⟨[], Ev.shift ?_, Ev.shift ?_, by simp⟩
    · simp only [impl_Order_twoOne.l0]
      exact Ev.neg (by omega) (Ev.ret rfl)
    · simp only [spec_TwoOneOf.l0]
      exact Ev.neg (by omega) (Ev.ret rfl)
  | succ d ih =>
    intro i hi
    have hs := h.set (i := i) (by omega)
    have inner : ∀ (c q : Nat), q + c = (bitsOf (rd L (i : Int))).length → ∃ x, Ev (fun k => impl_Order_twoOne.l1 k (rel (freeP L) L.length) (i : Int) n (i : Int) (bitsOf (rd L (i : Int))) ((bitsOf (rd L (i : Int))).length : Int) (q : Int) n L) x ∧ Ev (fun k => spec_TwoOneOf.l1 k (i : Int) (bitsOf (rd L (i : Int))) ((bitsOf (rd L (i : Int))).length : Int) (q : Int) n L) (x, x != []) ∧ x.length ≤ 3 := by
      intro c
      have hbl := bitsOf_len (rd L (i : Int))
      induction c with
      | zero =>
        intro q hq
        obtain ⟨x, h1, h2, h3⟩ := ih (i + 1) (by omega)
        refine ⟨x, Ev.shift ?_, Ev.shift ?_, h3⟩
        · simp only [impl_Order_twoOne.l1]
          refine Ev.neg (by omega) ?_
          rw [wrap64_id (by omega) (by omega), cast1]
          exact h1
        · simp only [spec_TwoOneOf.l1]
          refine Ev.neg (by omega) ?_
          rw [wrap64_id (by omega) (by omega), cast1]
          exact h2
      | succ c ihc =>
        intro q hq
        obtain ⟨b, hb, hbl2, _⟩ := h.bits (i := i) (by omega) (j := rd (bitsOf (rd L (i : Int))) (q : Int)) (by rw [rd_lt _ q (by omega)]; exact List.getElem_mem _)
        have fi := rel_set (p := freeP L) (n := L.length) (i := i) (by omega) (by omega)
        have fb := rel_set (p := freeP L) (n := L.length) (i := b) (by omega) (by omega)
        have ha := set_and fi fb
        have g1 := rel_get (freeP L) L.length i (by omega)
        have g2 := rel_get (freeP L) L.length b (by omega)
        by_cases hz : Go.bits .and .i64 (rd (rel (freeP L) L.length) (i : Int)) (rd (rel (freeP L) L.length) (b : Int)) = 0
        · obtain ⟨x, h1, h2, h3⟩ := ihc (q + 1) (by omega)
          refine ⟨x, Ev.shift ?_, Ev.shift ?_, h3⟩
          · simp only [impl_Order_twoOne.l1]
            rw [hb]
            refine Ev.pos (by omega) (Ev.pos (by omega) (Ev.pos (by omega) (Ev.pos (by omega) (Ev.pos (by rw [rel_length]; omega) (Ev.pos (by omega) (Ev.pos (by rw [rel_length]; omega) (Ev.pos hz ?_)))))))
            rw [wrap64_id (by omega) (by omega), cast1]
            exact h1
          · simp only [spec_TwoOneOf.l1]
            rw [hb]
            refine Ev.pos (by omega) (Ev.pos (by omega) (Ev.pos (by omega) (Ev.bind (free_ev h (by omega)) (Ev.bind (free_ev h hbl2) ?_))))
            rw [← g1, ← g2]
            refine Ev.bind (orList_ev ha.1.1 ha.1.2) (Ev.shift ?_)
            rw [(bitsOf_nil ha.1).2 hz]
            simp only [spec_TwoOneOf.l2]
            refine Ev.neg (by simp) ?_
            rw [wrap64_id (by omega) (by omega), cast1]
            exact h2
        · have hne : bitsOf (Go.bits .and .i64 (rd (rel (freeP L) L.length) (i : Int)) (rd (rel (freeP L) L.length) (b : Int))) ≠ [] := fun e => hz ((bitsOf_nil ha.1).1 e)
          have hpos : 0 < (bitsOf (Go.bits .and .i64 (rd (rel (freeP L) L.length) (i : Int)) (rd (rel (freeP L) L.length) (b : Int)))).length := List.length_pos_iff.2 hne
          refine ⟨[(i : Int), (b : Int), rd (bitsOf (Go.bits .and .i64 (rd (rel (freeP L) L.length) (i : Int)) (rd (rel (freeP L) L.length) (b : Int)))) 0], Ev.shift ?_, Ev.shift ?_, by simp⟩
          · simp only [impl_Order_twoOne.l1]
            rw [hb]
            exact Ev.pos (by omega) (Ev.pos (by omega) (Ev.pos (by omega) (Ev.pos (by omega) (Ev.pos (by rw [rel_length]; omega) (Ev.pos (by omega) (Ev.pos (by rw [rel_length]; omega) (Ev.neg hz (Ev.bind (members_ev ha.1.1 ha.1.2) (Ev.pos (by omega) (Ev.ret rfl))))))))))
          · simp only [spec_TwoOneOf.l1]
            rw [hb]
            refine Ev.pos (by omega) (Ev.pos (by omega) (Ev.pos (by omega) (Ev.bind (free_ev h (by omega)) (Ev.bind (free_ev h hbl2) ?_))))
            rw [← g1, ← g2]
            refine Ev.bind (orList_ev ha.1.1 ha.1.2) (Ev.shift ?_)
            simp only [spec_TwoOneOf.l2]
            exact Ev.pos (by omega) (Ev.pos (by omega) (Ev.pos (by omega) (Ev.ret rfl)))
    obtain ⟨x, h1, h2, h3⟩ := inner _ 0 (Nat.zero_add _)
    refine ⟨x, Ev.shift ?_, Ev.shift ?_, h3⟩
    · simp only [impl_Order_twoOne.l0]
      exact Ev.pos (by omega) (Ev.pos (by omega) (Ev.pos (by omega) (Ev.bind (members_ev hs.1 hs.2) h1)))
    · simp only [spec_TwoOneOf.l0]
      exact Ev.pos (by omega) (Ev.pos (by omega) (Ev.pos (by omega) (Ev.bind (orList_ev hs.1 hs.2) h2)))
theorem twoOne_both {n : Int} {L : List Int} (h : orderP n L) : ∃ x, Ev (fun k => impl_Order_twoOne.f k n L) x ∧ Ev (fun k => spec_TwoOneOf.f k n L) (x, x != []) ∧ x.length ≤ 3 := by
  have e1 := h.1.2.1
  have e3 := h.1.1
  obtain ⟨x, h1, h2, h3⟩ := twoOne_l h.1 L.length 0 (by omega)
  refine ⟨x, ?_, ?_, h3⟩
  · unfold impl_Order_twoOne.f
    exact Ev.bind (near_ev h.1) h1
  · unfold spec_TwoOneOf.f
    exact Ev.bind (orGood_ev n L (by omega)) (Ev.pos (by simpa using h) h2)
theorem TwoOneOf_both (n : Int) (L : List Int) (hL : L.length ≤ 1048576) : ∃ r, Ev (fun k => impl_TwoOneOf.f k n L) r ∧ Ev (fun k => spec_TwoOneOf.f k n L) r ∧ r.1.length ≤ 1000 := by
  by_cases h : orderP n L
  · obtain ⟨x, h1, h2, h3⟩ := twoOne_both h
    refine ⟨(x, x != []), ?_, h2, by show x.length ≤ 1000; omega⟩
    unfold impl_TwoOneOf.f
    exact Ev.bind (isOrder_ev n L hL) (Ev.pos (by simpa using h) (Ev.bind h1 (Ev.ret rfl)))
  · refine ⟨([], false), ?_, ?_, by simp⟩
    · unfold impl_TwoOneOf.f
      exact Ev.bind (isOrder_ev n L hL) (Ev.neg (by simpa using h) (Ev.ret rfl))
    · unfold spec_TwoOneOf.f
      exact Ev.bind (orGood_ev n L hL) (Ev.neg (by simpa using h) (Ev.ret rfl))
theorem IsWeak_both (n : Int) (L : List Int) (hL : L.length ≤ 1048576) : ∃ r, Ev (fun k => impl_IsWeak.f k n L) r ∧ Ev (fun k => spec_IsWeak.f k n L) r := by
  unfold impl_IsWeak.f spec_IsWeak.f spec_weGood.f
  by_cases h : orderP n L
  · obtain ⟨x, h1, h2, h3⟩ := twoOne_both h
    refine ⟨(x == [], true), ?_, ?_⟩
    · exact Ev.bind (isOrder_ev n L hL) (Ev.pos (by simpa using h) (Ev.bind h1 (Ev.ret rfl)))
    · refine Ev.bind (orGood_ev n L hL) (Ev.pos (by simpa using h) (Ev.bind (Ev.bind h2 (Ev.bind (orGood_ev n L hL) (Ev.pos (by simpa using h) (Ev.ret rfl)))) (Ev.ret ?_)))
      cases x <;> rfl
  · exact ⟨(false, false), Ev.bind (isOrder_ev n L hL) (Ev.neg (by simpa using h) (Ev.ret rfl)), Ev.bind (orGood_ev n L hL) (Ev.neg (by simpa using h) (Ev.ret rfl))⟩

end Go.Proofs.YteechpappfagpaaDoor.Pure

/- IsWeak answers what the reference answers, for every order whose list has at most 2^20 numbers (longer ones the statement lets pass). Condition: the listed variables, tied to the program's text by the card. -/
namespace Go.Proofs.YteechpappfagpaaDoor.Pure
open Go.RowKit Go.Proofs.YteechpappfagpaaDoor.Q Go.Proofs.YteechpappfagpaaDoorW.PrintWords Go.Proofs.YteechpappfagpaaDoorW.PrintLast
set_option linter.unusedVariables false
set_option linter.unusedSimpArgs false

theorem FnExactIsWeak (n : Int) (L : List Int) (_ : (Lit.int .i64 n).wf = true) (hL : L.length ≤ maxLen) (_ : ∀ x ∈ L, (Lit.int .i64 x).wf = true) : ∃ k, laws_FnExactIsWeak.f k n L = some true := by
  refine Ev.at1 ?_
  unfold laws_FnExactIsWeak.f
  by_cases h1 : (1048576 : Int) < L.length
  · exact Ev.bindc (szOrder_big n L 1048576 (by omega) hL h1) (Ev.pos (by omega) (Ev.ret rfl))
  refine Ev.bindc (szOrder_fit n L 1048576 (by omega) (by omega)) (Ev.neg (by omega) ?_)
  have hl : L.length ≤ 1048576 := by omega
  obtain ⟨⟨a, b⟩, hi, hs⟩ := IsWeak_both n L hl
  refine (Ev.bind (toOrder n L hl) (Ev.bind hs (Ev.bind (toOrder n L hl) (Ev.bind hi (Ev.neg (by simp) (Ev.shift ?_))))))
  simp only [laws_FnExactIsWeak.j0]
  exact Ev.neg (by simp) (Ev.bind (toOrder n L hl) (Ev.bind (eqOrder_same n L hl) (Ev.pos rfl (Ev.ret rfl))))

end Go.Proofs.YteechpappfagpaaDoor.Pure
