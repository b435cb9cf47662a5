import Derived.Test.YtjahodklmegglaaDoorBFnExactWeakLevels6
import Derived.Test.YtjahodklmegglaaDoorBFnExactWeakLevels7
import Derived.Test.YtjahodklmegglaaDoorBFnExactWeakLevels8
import Derived.Test.YtjahodklmegglaaDoorBFnExactWeakLevels9
import Derived.Test.YtjahodklmegglaaDoorBFnExactWeakLevels20
import Derived.Test.YtjahodklmegglaaDoorBFnExactWeakLevels23
import Derived.Test.YtjahodklmegglaaDoorBFnExactWeakLevels24
import Derived.Test.YtjahodklmegglaaDoorBFnExactWeakLevels25
import Derived.Test.YtjahodklmegglaaDoorBFnExactWeakLevels26
namespace Go.Proofs.YtjahodklmegglaaDoor.Pure
open Go.RowKit Go.Proofs.YtjahodklmegglaaDoor.Q Go.Proofs.YtjahodklmegglaaDoorW.PrintWords Go.Proofs.YtjahodklmegglaaDoorW.PrintLast
set_option linter.unusedVariables false
set_option linter.unusedSimpArgs false

/-- nothing found: no such three -/
theorem no21_of {n : Int} {L : List Int} (h : orderP n L) (hz : ∀ a : Nat, 0 ≤ a → a < L.length → ∀ b ∈ bitsOf (rd L (a : Int)), nearZ L a b) : No21 L.length (lt L) := by
  have h10 : L.length ≤ 10 := by have := h.1.1; have := h.1.2.1; omega
  intro a b c ha hb hc hab h1 h2 h3 h4 h5 h6
  have hn := hz a (Nat.zero_le _) ha (b : Int) (mem_bitsOf.2 ⟨b, by omega, hab, rfl⟩)
  unfold nearZ at hn
  have fa := rel_set (p := freeP L) (n := L.length) (i := a) h10 ha
  have fb := rel_set (p := freeP L) (n := L.length) (i := b) h10 hb
  have hab2 := set_and fa fb
  rw [set_eq_zero hab2.1] at hn
  have := hn c (by omega)
  rw [hab2.2] at this
  have e1 := rel_lt (p := freeP L) h10 ha c
  have e2 := rel_lt (p := freeP L) h10 hb c
  unfold lt at e1 e2
  rw [e1, e2] at this
  simp [freeP, hc, h1, h2, h3, h4, h5, h6] at this

end Go.Proofs.YtjahodklmegglaaDoor.Pure

namespace Go.Proofs.YtjahodklmegglaaDoor.Pure
open Go.RowKit Go.Proofs.YtjahodklmegglaaDoor.Q Go.Proofs.YtjahodklmegglaaDoorW.PrintWords Go.Proofs.YtjahodklmegglaaDoorW.PrintLast
set_option linter.unusedVariables false
set_option linter.unusedSimpArgs false

theorem most_f (a b : Int) : spec_l1Most.f a b = some (max a b) := by
  unfold spec_l1Most.f
  by_cases h : a > b
  · rw [if_pos h]; congr 1; omega
  · rw [if_neg h]; congr 1; omega
theorem height_ev {n : Int} {L : List Int} (h : orderP n L) (h21 : No21 L.length (lt L)) (c : Nat) : ∀ i : Nat, i < L.length → lvc L i = c → Ev (fun k => spec_weHeight.f k n L (i : Int)) (lvc L i : Int) := by
  have h10 : L.length ≤ 10 := by have := h.1.1; have := h.1.2.1; omega
  induction c using Nat.strongRecOn with
  | ind c ih =>
    intro i hi e
    have hs := (dn_set h.1 i).1
    have hb := (dn_set h.1 i).2
    have hbl := bitsOf_len (dn L i)
    have loop : ∀ (cc q : Nat) (m : Int), q + cc = (bitsOf (dn L i)).length → Ev (fun k => spec_weHeight.l0 k m (bitsOf (dn L i)) ((bitsOf (dn L i)).length : Int) (q : Int) n L) (((bitsOf (dn L i)).drop q).foldl (fun m x => max m (1 + (lvc L x.toNat : Int))) m) := by
      intro cc
      induction cc with
      | zero =>
        intro q m hq
        refine Ev.shift ?_
        simp only [spec_weHeight.l0]
        exact Ev.neg (by omega) (Ev.ret (by rw [List.drop_of_length_le (by omega)]; rfl))
      | succ cc ihc =>
        intro q m hq
        obtain ⟨j, hj, hbj, ej⟩ := mem_bitsOf.1 (show rd (bitsOf (dn L i)) (q : Int) ∈ bitsOf (dn L i) by rw [rd_lt _ q (by omega)]; exact List.getElem_mem _)
        rw [hb] at hbj; simp at hbj
        have hl := lvc_less h hi hbj.1 hbj.2
        have hll := lvc_le L j
        refine Ev.shift ?_
        simp only [spec_weHeight.l0]
        rw [drop_rd _ q (by omega), List.foldl_cons, ej, Int.toNat_natCast]
        refine Ev.pos (by omega) (Ev.pos (by omega) (Ev.pos (by omega) (Ev.bind (ih (lvc L j) (by omega) j hbj.1 rfl) ?_)))
        rw [wrap64_id (x := 1 + (lvc L j : Int)) (by omega) (by omega), wrap64_id (x := (q : Int) + 1) (by omega) (by omega), cast1]
        exact Ev.bindc (most_f _ _) (ihc (q + 1) _ (by omega))
    refine Ev.shift ?_
    simp only [spec_weHeight.f]
    refine Ev.bind (below_ev h.1 hi : Ev _ (dn L i)) (Ev.bind (orList_ev hs.1 hs.2) (Ev.eq (loop _ 0 0 (Nat.zero_add _)) ?_))
    rw [List.drop_zero]
    exact height_fold h h21 hi
theorem spec_levels_l {n : Int} {L : List Int} (h : orderP n L) (h21 : No21 L.length (lt L)) (d : Nat) : ∀ i : Nat, i + d = L.length → Ev (fun k => spec_WeakLevels.l0 k ((List.range i).map fun j => (lvc L j : Int)) (i : Int) n L) (lvs L, true) := by
  have h10 : L.length ≤ 10 := by have := h.1.1; have := h.1.2.1; omega
  have e1 := h.1.2.1
  induction d with
  | zero =>
    intro i hi
    refine Ev.shift ?_
    simp only [spec_WeakLevels.l0]
    exact Ev.neg (by omega) (Ev.ret (by rw [lvs_eq, show i = L.length by omega]))
  | succ d ih =>
    intro i hi
    refine Ev.shift ?_
    simp only [spec_WeakLevels.l0]
    refine Ev.pos (by omega) (Ev.bind (height_ev h h21 _ i (by omega) rfl) (Ev.pos (by simp; omega) ?_))
    rw [wrap64_id (by omega) (by omega), cast1]
    have := ih (i + 1) (by omega)
    rw [List.range_succ, List.map_append, List.map_singleton] at this
    exact this
theorem WeakLevels_both (n : Int) (L : List Int) (hL : L.length ≤ 1048576) : ∃ r, Ev (fun k => impl_WeakLevels.f k n L) r ∧ Ev (fun k => spec_WeakLevels.f k n L) r ∧ r.1.length ≤ 1000 := by
  unfold impl_WeakLevels.f spec_WeakLevels.f spec_weGood.f
  by_cases h : orderP n L
  · have h10 : L.length ≤ 10 := by have := h.1.1; have := h.1.2.1; omega
    obtain ⟨x, h1, h2, h3, h4⟩ := twoOne_more h
    by_cases hx : x = []
    · subst hx
      have h21 := no21_of h (h4 rfl)
      refine ⟨(lvs L, true), ?_, ?_, by show (lvs L).length ≤ 1000; rw [lvs_length]; omega⟩
      · exact Ev.bind (isOrder_ev n L hL) (Ev.pos (by simpa using h) (Ev.bind h1 (Ev.pos rfl (Ev.bind (olevels_ev h.1) (Ev.ret rfl)))))
      · refine Ev.bind (Ev.bind h2 (Ev.bind (orGood_ev n L hL) (Ev.pos (by simpa using h) (Ev.ret rfl)))) (Ev.pos rfl ?_)
        have := spec_levels_l h h21 L.length 0 (by omega)
        simpa using this
    · refine ⟨([], false), ?_, ?_, by simp⟩
      · exact Ev.bind (isOrder_ev n L hL) (Ev.pos (by simpa using h) (Ev.bind h1 (Ev.neg hx (Ev.ret rfl))))
      · exact Ev.bind (Ev.bind h2 (Ev.bind (orGood_ev n L hL) (Ev.pos (by simpa using h) (Ev.ret rfl)))) (Ev.neg (by simpa using hx) (Ev.ret rfl))
  · have h2 : Ev (fun k => spec_TwoOneOf.f k n L) ([], false) := by
      unfold spec_TwoOneOf.f
      exact Ev.bind (orGood_ev n L hL) (Ev.neg (by simpa using h) (Ev.ret rfl))
    refine ⟨([], false), ?_, ?_, by simp⟩
    · exact Ev.bind (isOrder_ev n L hL) (Ev.neg (by simpa using h) (Ev.ret rfl))
    · exact Ev.bind (Ev.bind h2 (Ev.bind (orGood_ev n L hL) (Ev.neg (by simpa using h) (Ev.ret rfl)))) (Ev.neg (by simp) (Ev.ret rfl))

end Go.Proofs.YtjahodklmegglaaDoor.Pure

/- WeakLevels answers what the reference answers, for every order whose list has at most 2^20 numbers (longer ones the statement lets pass). Condition: the listed variables, tied to the program's text by the card. -/
namespace Go.Proofs.YtjahodklmegglaaDoor.Pure
open Go.RowKit Go.Proofs.YtjahodklmegglaaDoor.Q Go.Proofs.YtjahodklmegglaaDoorW.PrintWords Go.Proofs.YtjahodklmegglaaDoorW.PrintLast
set_option linter.unusedVariables false
set_option linter.unusedSimpArgs false

theorem FnExactWeakLevels (n : Int) (L : List Int) (_ : (Lit.int .i64 n).wf = true) (hL : L.length ≤ maxLen) (_ : ∀ x ∈ L, (Lit.int .i64 x).wf = true) : ∃ k, laws_FnExactWeakLevels.f k n L = some true := by
  refine Ev.at1 ?_
  unfold laws_FnExactWeakLevels.f
  by_cases h1 : (1048576 : Int) < L.length
  · exact Ev.bindc (szOrder_big n L 1048576 (by omega) hL h1) (Ev.pos (by omega) (Ev.ret rfl))
  refine Ev.bindc (szOrder_fit n L 1048576 (by omega) (by omega)) (Ev.neg (by omega) ?_)
  have hl : L.length ≤ 1048576 := by omega
  obtain ⟨⟨x, b⟩, hi, hs, hx⟩ := WeakLevels_both n L hl
  replace hx : x.length ≤ 1000 := hx
  have ex := eqIntS_same x (by omega)
  have mx := markIntS x (by omega) 1 (by omega) (by omega)
  have gx := heldIntS x.length (by omega) 1 (by omega) (by omega)
  refine (Ev.bind (toOrder n L hl) (Ev.bind hs (Ev.bind (toOrder n L hl) (Ev.bind hi (Ev.bind ex (Ev.pos rfl (Ev.shift ?_)))))))
  simp only [laws_FnExactWeakLevels.j0]
  refine Ev.neg (by simp) (Ev.bind (toOrder n L hl) (Ev.bind (eqOrder_same n L hl) (Ev.pos rfl (Ev.bind (markOrder n L hl 1 (by omega) (by omega)) ?_))))
  refine Ev.neg (by simp; omega) (Ev.bind ex (Ev.pos rfl (Ev.shift ?_)))
  simp only [laws_FnExactWeakLevels.j1]
  refine Ev.neg (by simp) (Ev.bind mx (Ev.bind gx (Ev.neg (by omega) (Ev.pos rfl ?_))))
  refine (Ev.bind (toOrder n L hl) (Ev.bind hi (Ev.bind ex (Ev.pos rfl (Ev.shift ?_)))))
  simp only [laws_FnExactWeakLevels.j2]
  exact Ev.neg (by simp) (Ev.bind gx (Ev.neg (by omega) (Ev.pos rfl (Ev.ret rfl))))

end Go.Proofs.YtjahodklmegglaaDoor.Pure
