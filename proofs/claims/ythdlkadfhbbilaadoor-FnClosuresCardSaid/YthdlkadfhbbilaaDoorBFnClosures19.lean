import Derived.Test.YthdlkadfhbbilaaDoorBFnClosures14
import Derived.Test.YthdlkadfhbbilaaDoorBFnClosures18
/- A closed relation is transitive, closing it again changes nothing, and an order is closed from its covers, for every two strings of bytes. Condition: the listed variables, tied to the program's text by the card. -/
namespace Go.Proofs.YthdlkadfhbbilaaDoor.Pure
open Go.RowKit Go.Proofs.YthdlkadfhbbilaaDoor.Q Go.Proofs.YthdlkadfhbbilaaDoorW.PrintWords Go.Proofs.YthdlkadfhbbilaaDoorW.PrintLast
set_option linter.unusedVariables false
set_option linter.unusedSimpArgs false
theorem sub_all : ∀ x : Fin 1024, ∀ j : Fin 10, bit (x.val : Int) j.val = true → wrap64 ((x.val : Int) - shl .i64 1 (j.val : Int)) = Go.bits .andNot .i64 (x.val : Int) (shl .i64 1 (j.val : Int)) := by decide +kernel
theorem sub_bit {x : Int} (hx : setP x) {j : Nat} (hj : j < 10) (hb : bit x j = true) : wrap64 (x - shl .i64 1 (j : Int)) = Go.bits .andNot .i64 x (shl .i64 1 (j : Int)) := by
 obtain ⟨h0, h1⟩ := hx
 obtain ⟨m, rfl⟩ : ∃ m : Nat, x = m := ⟨x.toNat, by omega⟩
 exact sub_all ⟨m, by omega⟩ ⟨j, hj⟩ hb
section
variable {n : Int} {L : List Int}
def covLess (L : List Int) (i j : Nat) : List Int := (cov L).set i (Go.bits .andNot .i64 (rd (cov L) (i : Int)) (shl .i64 1 (j : Int)))
theorem covLess_lt (h : relP n L) {i j : Nat} (hi : i < L.length) (hj : j < L.length) (a b : Nat) : lt (covLess L i j) a b = (lt (cov L) a b && !(decide (a = i) && decide (b = j))) := by
 have h10 : L.length ≤ 10 := by have := h.1; have := h.2.1; omega
 have hc := cov_relP h
 have ha := set_andNot (hc.set (i := i) (by rw [cov_length]; exact hi)) (set_shl (j := j) (by omega)).1
 unfold covLess
 show bit (rd ((cov L).set i _) (a : Int)) b = _
 rw [set_rd (cov L) i _ (by rw [cov_length]; exact hi) a]
 by_cases e : a = i
 ·subst e
  rw [if_pos rfl, ha.2 b, (set_shl (j := j) (by omega)).2]
  simp; rfl
 ·rw [if_neg e]; simp [e]; rfl
theorem covLess_relP (h : relP n L) {i j : Nat} (hi : i < L.length) (hj : j < L.length) : relP n (covLess L i j) := by
 have h10 : L.length ≤ 10 := by have := h.1; have := h.2.1; omega
 have hc := cov_relP h
 have ha := set_andNot (hc.set (i := i) (by rw [cov_length]; exact hi)) (set_shl (j := j) (by omega)).1
 refine relP_of_rows hc (by unfold covLess; simp) (fun a haa => ?_) (fun a b haa hb => ?_)
 ·unfold covLess
  rw [set_rd (cov L) i _ (by rw [cov_length]; exact hi) a]
  split
  ·exact ha.1
  ·exact hc.set haa
 ·rw [covLess_lt h hi hj, Bool.and_eq_true] at hb
  exact hc.lt_len haa hb.1
theorem loop_l2 (h : orderP n L) {i : Nat} (hi : i < L.length) (R : Bool) (hR : Ev (fun k => laws_FnClosures.l1 k (L.length : Int) ((i + 1 : Nat) : Int) n (cov L)) R) (d : Nat) : ∀ j : Nat, j + d = L.length → Ev (fun k => laws_FnClosures.l2 k (i : Int) (L.length : Int) (i : Int) (L.length : Int) (j : Int) n (cov L)) R := by
 have h10 : L.length ≤ 10 := by have := h.1.1; have := h.1.2.1; omega
 have hc := cov_relP h.1
 have hs := hc.set (i := i) (by rw [cov_length]; exact hi)
 have hcl := cov_length L
 induction d with
 | zero =>
  intro j hj
  refine Ev.shift ?_
  simp only [laws_FnClosures.l2]
  rw [wrap64_id (x := (i : Int) + 1) (by omega) (by omega), cast1]
  exact Ev.neg (by omega) hR
 | succ d ih =>
  intro j hj
  have hjl : j < L.length := by omega
  have this := ih (j + 1) (by omega)
  have hp : laws_pIn.f (rd (cov L) (i : Int)) (j : Int) = some (lt (cov L) i j) := pIn_f hs.1 hs.2 (by omega)
  refine Ev.shift ?_
  simp only [laws_FnClosures.l2]
  rw [wrap64_id (x := (j : Int) + 1) (by omega) (by omega), cast1]
  refine Ev.pos (by omega) (Ev.pos (by omega) (Ev.pos (by omega) (Ev.bindc hp ?_)))
  by_cases hb : lt (cov L) i j = true
  ·have hcb : covB L i j = true := by rw [← cov_lt h.1 hi hjl]; exact hb
   have hM := covLess_relP h.1 hi hjl
   have hcM := clo_relP hM
   have hlM : (clo (covLess L i j)).length = L.length := by rw [clo_length]; unfold covLess; rw [List.length_set]; exact hcl
   have hsM := hcM.set (i := i) (by omega)
   have hf := cov_less h hM hi hcb (fun a b ha g => by
    rw [covLess_lt h.1 hi hjl, Bool.and_eq_true] at g
    have hb2 : b < L.length := by have := hc.lt_len (by omega) g.1; omega
    refine ⟨by rw [← cov_lt h.1 ha hb2]; exact g.1, fun e => ?_⟩
    have := g.2
    simp [e.1, e.2] at this)
   have hp2 : laws_pIn.f (rd (clo (covLess L i j)) (i : Int)) (j : Int) = some false := by
    rw [pIn_f hsM.1 hsM.2 (by omega)]; exact congrArg some hf
   refine Ev.pos hb ?_
   simp only [Option.bind_some, List.nil_append, List.length_nil, Nat.zero_add]
   rw [Int.toNat_natCast, sub_bit hs (by omega) hb]
   exact Ev.pos (by omega) (Ev.pos (by omega) (Ev.pos (by omega) (Ev.bind (iClose_ev hM) (Ev.pos rfl (Ev.pos (show (i : Int) < ((clo (covLess L i j)).length : Int) by omega) (Ev.bindc hp2 (Ev.neg (by simp) this)))))))
  ·exact Ev.neg hb this
theorem loop_l1 (h : orderP n L) (d : Nat) : ∀ i : Nat, i + d = L.length → Ev (fun k => laws_FnClosures.l1 k (L.length : Int) (i : Int) n (cov L)) true := by
 induction d with
 | zero =>
  intro i hi
  refine Ev.shift ?_
  simp only [laws_FnClosures.l1]
  exact Ev.neg (by omega) (Ev.ret rfl)
 | succ d ih =>
  intro i hi
  refine Ev.shift ?_
  simp only [laws_FnClosures.l1]
  rw [cov_length]
  exact Ev.pos (by omega) (loop_l2 h (by omega) true (ih (i + 1) (by omega)) L.length 0 (by omega))
theorem loop_l0 (h : relP n L) (told : Bool) (ht : told = true ↔ orderP n L) (M : List Int) (m : Int) (hM : orderP n L → M = cov L ∧ m = n) (d : Nat) : ∀ (i : Nat) (b : Bool), i + d = L.length → (b = true ↔ ∃ j, j < i ∧ lt (clo L) j j = true) → Ev (fun k => laws_FnClosures.l0 k told b (clo L) (L.length : Int) (i : Int) n L n (clo L) m M) true := by
 have h10 : L.length ≤ 10 := by have := h.1; have := h.2.1; omega
 have hc := clo_relP h
 have hcl := clo_length L
 induction d with
 | zero =>
  intro i b hi hb
  have e1 := clo_orderP h
  refine Ev.shift ?_
  simp only [laws_FnClosures.l0]
  refine Ev.neg (by omega) (Ev.bind (isOrder_ev n (clo L) (by omega)) (Ev.neg ?_ ?_))
  ·rw [beq_iff_eq]
   intro e
   have hb2 : b = true ↔ ¬ orderP n (clo L) := by
    rw [hb, e1]
    constructor
    ·rintro ⟨j, hj, g⟩ g2
     have := g2 j (by omega); rw [g] at this; cases this
    ·intro g
     refine Classical.byContradiction fun hn => g fun j hj => ?_
     cases g3 : lt (clo L) j j
     ·rfl
     ·exact (hn ⟨j, by omega, g3⟩).elim
   by_cases ho : orderP n (clo L)
   ·have : b = true := by rw [← e]; simpa using ho
    exact (hb2.1 this) ho
   ·have : ¬ b = true := by rw [← e]; simpa using ho
    exact this (hb2.2 ho)
  ·by_cases ho : orderP n L
   ·obtain ⟨rfl, rfl⟩ := hM ho
    have hcc := clo_cov ho
    have hclose := iClose_ev (cov_relP ho.1)
    rw [hcc] at hclose
    refine Ev.pos (ht.2 ho) (Ev.bind hclose (Ev.pos rfl (Ev.bind (pSameOrder_self m L (by omega)) (Ev.shift ?_))))
    simp only [laws_FnClosures.j4]
    refine Ev.neg (by simp) ?_
    rw [cov_length]
    exact loop_l1 ho L.length 0 (by omega)
   ·exact Ev.neg (fun g => ho (ht.1 g)) (Ev.ret rfl)
 | succ d ih =>
  intro i b hi hb
  have hi' : i < L.length := by omega
  have hs := hc.set (i := i) (by omega)
  have hz : Go.bits .andNot .i64 (rd L (i : Int)) (rd (clo L) (i : Int)) = 0 := by
   have ha := set_andNot (h.set hi') hs
   refine (set_eq_zero ha.1).2 fun m hm => ?_
   rw [ha.2 m]
   cases g : bit (rd L (i : Int)) m
   ·rfl
   ·have := clo_more h hi' (show lt L i m = true from g)
    have g2 : bit (rd (clo L) (i : Int)) m = true := this
    rw [g2]; rfl
  have hp : laws_pIn.f (rd (clo L) (i : Int)) (i : Int) = some (lt (clo L) i i) := pIn_f hs.1 hs.2 (by omega)
  refine Ev.shift ?_
  simp only [laws_FnClosures.l0]
  rw [wrap64_id (by omega) (by omega), cast1]
  refine Ev.pos (by omega) (Ev.pos (by omega) (Ev.pos (by omega) (Ev.pos (by omega) (Ev.pos hz ?_))))
  by_cases hbt : b = true
  ·refine Ev.pos hbt (ih (i + 1) true (by omega) ⟨fun _ => ?_, fun _ => rfl⟩)
   obtain ⟨j, hj, g⟩ := hb.1 hbt
   exact ⟨j, by omega, g⟩
  ·refine Ev.neg hbt (Ev.bindc hp (ih (i + 1) _ (by omega) ⟨fun g => ⟨i, by omega, g⟩, ?_⟩))
   rintro ⟨j, hj, g⟩
   by_cases e : j = i
   ·subst e; exact g
   ·exact (hbt (hb.2 ⟨j, by omega, g⟩)).elim
end
theorem FnClosures (l0 : List Int) (hm0 : l0.length ≤ maxLen) (hw0 : ∀ x ∈ l0, (Lit.int .u8 x).wf = true) (l1 : List Int) (hm1 : l1.length ≤ maxLen) (hw1 : ∀ x ∈ l1, (Lit.int .u8 x).wf = true) : ∃ k, laws_FnClosures.f k l0 l1 = some true := by
 refine Ev.at1 ?_
 unfold laws_FnClosures.f
 obtain ⟨b, hb⟩ := big_f l0 l1 hm0
 refine Ev.bindc hb ?_
 by_cases hbt : b = true
 ·exact Ev.pos hbt (Ev.ret rfl)
 refine Ev.neg hbt ?_
 obtain ⟨n, L, hd, hL⟩ : ∃ n L, Ev (fun k => spec_DrawCloseRelation.f k l0) (n, L) ∧ L.length ≤ 10 := by
  unfold spec_DrawCloseRelation.f
  obtain ⟨y, a1, s1, e1, _, h2, h3⟩ := one_d (bytesP.of hw0) (a := 0) 0 2 (by omega) (by omega) (by omega)
  by_cases hy : y = true
  ·obtain ⟨n, L, a2, s2, e2, hn, _, _⟩ := relation_d (bytesP.of hw0) (a := a1) s1 6 (by omega) (by omega) ⟨by omega, by omega⟩
   exact ⟨n, L, Ev.bindc e1 (Ev.pos hy (Ev.bind e2 (Ev.ret rfl))), hn.near.2.1⟩
  ·obtain ⟨n, L, a2, s2, e2, hn, _, _⟩ := anyOrder_d (bytesP.of hw0) (a := a1) s1 6 (by omega) (by omega) ⟨by omega, by omega⟩
   exact ⟨n, L, Ev.bindc e1 (Ev.neg hy (Ev.bind e2 (Ev.ret rfl))), hn.2.1⟩
 have hl : L.length ≤ 1048576 := by omega
 refine Ev.bind hd ?_
 by_cases h : relP n L
 ·have hcl := clo_length L
  have hcc := iClose_ev (clo_relP h)
  rw [clo_clo h] at hcc
  refine Ev.bind (iClose_ev h) (Ev.bind (sCloseRelation_ev h) (Ev.neg (by simp) (Ev.bind (pSameOrder_self n (clo L) (by omega)) (Ev.shift ?_))))
  simp only [laws_FnClosures.j0]
  refine Ev.neg (by simp) ?_
  have fin : ∀ (t : Bool) (m : Int) (M : List Int), (t = true ↔ orderP n L) → (orderP n L → M = cov L ∧ m = n) → Ev (fun k => laws_FnClosures.j1 k true t false n L n (clo L) m M) true := by
   intro t m M ht hM
   refine Ev.shift ?_
   simp only [laws_FnClosures.j1]
   refine Ev.neg (by simp) (Ev.pos ⟨⟩ (Ev.bind hcc (Ev.pos rfl (Ev.bind (pSameOrder_self n (clo L) (by omega)) (Ev.pos rfl (Ev.bind (isOrder_ev n L hl) ?_))))))
   have tail : Ev (fun k => laws_FnClosures.j2 k t false n L n (clo L) m M) true := by
    refine Ev.shift ?_
    simp only [laws_FnClosures.j2]
    refine Ev.neg (by simp) ?_
    rw [hcl]
    exact loop_l0 h t ht M m hM L.length 0 false (by omega) ⟨fun g => (by cases g), fun ⟨j, hj, _⟩ => by omega⟩
   by_cases ho : orderP n L
   ·have hs := pSameOrder_self n L hl
    rw [clo_order ho] at tail ⊢
    exact Ev.pos (by simpa using ho) (Ev.bind hs tail)
   ·exact Ev.neg (by simpa using ho) tail
  by_cases ho : orderP n L
  ·refine Ev.bind (iCovers_yes ho hl) (Ev.bind (sCovers_yes ho hl) (Ev.neg (by simp) (Ev.bind (pSameOrder_self n (cov L) (by rw [cov_length]; exact hl)) (Ev.pos rfl (Ev.bind (isOrder_ev n L hl) ?_)))))
   simp only [ho, decide_true, bne_self_eq_false]
   exact fin true n (cov L) ⟨fun _ => ho, fun _ => rfl⟩ (fun _ => ⟨rfl, rfl⟩)
  ·refine Ev.bind (iCovers_no ho hl) (Ev.bind (sCovers_no ho hl) (Ev.neg (by simp) (Ev.bind (pSameOrder_self 0 [] (by simp)) (Ev.pos rfl (Ev.bind (isOrder_ev n L hl) ?_)))))
   simp only [ho, decide_false, bne_self_eq_false]
   exact fin false 0 [] ⟨fun g => (by cases g), fun g => (ho g).elim⟩ (fun g => (ho g).elim)
 ·have ho : ¬ orderP n L := fun g => h g.1
  refine Ev.bind (iClose_no hl h) (Ev.bind (sCloseRelation_no hl h) (Ev.neg (by simp) (Ev.bind (pSameOrder_self 0 [] (by simp)) (Ev.shift ?_))))
  simp only [laws_FnClosures.j0]
  refine Ev.neg (by simp) (Ev.bind (iCovers_no ho hl) (Ev.bind (sCovers_no ho hl) (Ev.neg (by simp) (Ev.bind (pSameOrder_self 0 [] (by simp)) (Ev.pos rfl (Ev.bind (isOrder_ev n L hl) ?_))))))
  simp only [ho, decide_false, bne_self_eq_false]
  refine Ev.shift ?_
  simp only [laws_FnClosures.j1]
  exact Ev.neg (by simp) (Ev.neg (by simp) (Ev.ret rfl))
end Go.Proofs.YthdlkadfhbbilaaDoor.Pure
