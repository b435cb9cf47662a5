import Derived.Test.YtdmheeenoklijaaDoorBFnSetsAlong27
import Derived.Test.YtdmheeenoklijaaDoorBFnSetsAlong35
namespace Go.Proofs.YtdmheeenoklijaaDoor.Pure
open Go.RowKit Go.Proofs.YtdmheeenoklijaaDoor.Q Go.Proofs.YtdmheeenoklijaaDoorW.PrintWords Go.Proofs.YtdmheeenoklijaaDoorW.PrintLast
set_option linter.unusedVariables false
set_option linter.unusedSimpArgs false
def fits (L : List Int) (S : Int) (i : Nat) : Prop := Go.bits .andNot .i64 (Go.bits .andNot .i64 S (rd (rel (freeP L) L.length) (i : Int))) (shl .i64 1 (i : Int)) = 0
instance (L : List Int) (S : Int) (i : Nat) : Decidable (fits L S i) := by unfold fits; infer_instance
def antiP (L : List Int) (S : Int) : Prop := ∀ i, i < L.length → bit S i = true → fits L S i
section
variable {n : Int} {L : List Int}
theorem fits_iff (h : relP n L) {S : Int} (hS : setP S) {i : Nat} (hi : i < L.length) : fits L S i ↔ ∀ j, j < 10 → bit S j = true → (j < L.length ∧ freeP L i j = true) ∨ j = i := by
 have h10 : L.length ≤ 10 := by have := h.1; have := h.2.1; omega
 have hm := rel_set (p := freeP L) (n := L.length) h10 hi
 have a1 := set_andNot hS hm
 have a2 := set_andNot a1.1 (set_shl (j := i) (by omega)).1
 unfold fits
 rw [set_eq_zero a2.1]
 refine forall_congr' fun j => ?_
 refine imp_congr_right fun hj => ?_
 rw [a2.2, a1.2, (set_shl (j := i) (by omega)).2, show bit (rd (rel (freeP L) L.length) (i : Int)) j = (decide (j < L.length) && freeP L i j) from rel_lt h10 hi j]
 constructor
 ·intro g hb
  by_cases e2 : j = i
  ·exact .inr e2
  ·refine .inl ?_
   rw [hb] at g
   simp only [Bool.true_and, e2, decide_false, Bool.not_false, Bool.and_true, Bool.not_eq_false', Bool.and_eq_true, decide_eq_true_eq] at g
   exact g
 ·intro g
  cases hb : bit S j
  ·rfl
  ·rcases g hb with ⟨g1, g2⟩ | g1
   ·simp [g1, g2]
   ·simp [g1]
theorem cmp_f (a b : Int) : cmp_Compare_int.f a b = some (if a < b then -1 else if a > b then 1 else 0) := by
 unfold cmp_Compare_int.f cmp_isNaN_int.f
 simp only [Option.bind_some, bne_self_eq_false, Bool.false_eq_true, if_false]
 by_cases h : a < b
 ·simp [h]
 ·by_cases h2 : a > b
  ·simp [h, h2]
  ·simp [h, h2]
theorem compare_l (l m : List Int) (hl : l.length ≤ 1000) (d : Nat) : ∀ i : Nat, i + d = l.length → ∃ r, Ev (fun k => slices_Compare_int_int.l0 k l m l (l.length : Int) (i : Int)) r := by
 induction d with
 | zero =>
  intro i hi
  by_cases hc : (l.length : Int) < m.length
  ·refine ⟨-1, Ev.shift ?_⟩
   simp only [slices_Compare_int_int.l0]
   exact Ev.neg (by omega) (Ev.pos hc (Ev.ret rfl))
  ·refine ⟨0, Ev.shift ?_⟩
   simp only [slices_Compare_int_int.l0]
   exact Ev.neg (by omega) (Ev.neg hc (Ev.ret rfl))
 | succ d ih =>
  intro i hi
  obtain ⟨r, r1⟩ := ih (i + 1) (by omega)
  by_cases hc : (i : Int) ≥ m.length
  ·refine ⟨1, Ev.shift ?_⟩
   simp only [slices_Compare_int_int.l0]
   exact Ev.pos (by omega) (Ev.pos (by omega) (Ev.pos (by omega) (Ev.pos hc (Ev.ret rfl))))
  ·by_cases hz : (if rd l (i : Int) < rd m (i : Int) then (-1 : Int) else if rd l (i : Int) > rd m (i : Int) then 1 else 0) = 0
   ·refine ⟨r, Ev.shift ?_⟩
    simp only [slices_Compare_int_int.l0]
    refine Ev.pos (by omega) (Ev.pos (by omega) (Ev.pos (by omega) (Ev.neg hc (Ev.pos (by omega) (Ev.bindc (cmp_f _ _) (Ev.pos hz ?_))))))
    rw [wrap64_id (by omega) (by omega), cast1]
    exact r1
   ·refine ⟨(if rd l (i : Int) < rd m (i : Int) then (-1 : Int) else if rd l (i : Int) > rd m (i : Int) then 1 else 0), Ev.shift ?_⟩
    ·simp only [slices_Compare_int_int.l0]
     exact Ev.pos (by omega) (Ev.pos (by omega) (Ev.pos (by omega) (Ev.neg hc (Ev.pos (by omega) (Ev.bindc (cmp_f _ _) (Ev.neg hz (Ev.ret rfl)))))))
theorem compare_ev (l m : List Int) (hl : l.length ≤ 1000) : ∃ r, Ev (fun k => slices_Compare_int_int.f k l m) r := by
 unfold slices_Compare_int_int.f
 exact compare_l l m hl l.length 0 (by omega)
theorem anti_no (h : relP n L) (S N : Int) (x3 : List Int) (hS : setP S) (R : List Int) (hR : Ev (fun k => impl_Order_antichain.l0 k x3 (rel (freeP L) L.length) N (wrap64 (S + 1))) R) (d : Nat) :
  ∀ q : Nat, q + d = (bitsOf S).length → Ev (fun k => impl_Order_antichain.l1 k x3 (rel (freeP L) L.length) S (bitsOf S) false N S (bitsOf S) ((bitsOf S).length : Int) (q : Int)) R := by
 have hl := bitsOf_len S
 induction d with
 | zero =>
  intro q hq
  refine Ev.shift ?_
  simp only [impl_Order_antichain.l1]
  exact Ev.neg (by omega) (Ev.neg (by simp) hR)
 | succ d ih =>
  intro q hq
  refine Ev.shift ?_
  simp only [impl_Order_antichain.l1]
  refine Ev.pos (by omega) (Ev.pos (by omega) (Ev.pos (by omega) (Ev.neg (by simp) ?_)))
  rw [wrap64_id (by omega) (by omega), cast1]
  exact ih (q + 1) (by omega)
theorem el_of (S : Int) {q : Nat} (hq : q < (bitsOf S).length) : ∃ i : Nat, i < 10 ∧ bit S i = true ∧ rd (bitsOf S) (q : Int) = i := by
 have := List.getElem_mem hq
 rw [← rd_lt _ q hq] at this
 obtain ⟨i, h1, h2, h3⟩ := mem_bitsOf.1 this
 exact ⟨i, h1, h2, h3⟩
theorem anti_l1 (h : relP n L) (S N : Int) (x3 : List Int) (hS : setP S) (hb : ∀ j, bit S j = true → j < L.length) (R : List Int) (hF : ¬ antiP L S → Ev (fun k => impl_Order_antichain.l0 k x3 (rel (freeP L) L.length) N (wrap64 (S + 1))) R)
  (hT : antiP L S → Ev (fun k => (if ((bitsOf S).length : Int) > (x3.length : Int) then (impl_Order_antichain.l0 k (bitsOf S) (rel (freeP L) L.length) N (wrap64 (S + 1))) else (if ((bitsOf S).length : Int) = (x3.length : Int) then ((slices_Compare_int_int.f k (bitsOf S) x3).bind fun t => (if t < 0 then (impl_Order_antichain.l0 k (bitsOf S) (rel (freeP L) L.length) N (wrap64 (S + 1))) else (impl_Order_antichain.l0 k x3 (rel (freeP L) L.length) N (wrap64 (S + 1))))) else (impl_Order_antichain.l0 k x3 (rel (freeP L) L.length) N (wrap64 (S + 1)))))) R) (d : Nat) :
  ∀ q : Nat, q + d = (bitsOf S).length → (∀ p : Nat, p < q → ∀ i : Nat, rd (bitsOf S) (p : Int) = i → fits L S i) → Ev (fun k => impl_Order_antichain.l1 k x3 (rel (freeP L) L.length) S (bitsOf S) true N S (bitsOf S) ((bitsOf S).length : Int) (q : Int)) R := by
 have hl := bitsOf_len S
 induction d with
 | zero =>
  intro q hq hp
  have ha : antiP L S := fun i hi hbi => by
   obtain ⟨p, hp2, e⟩ := List.mem_iff_getElem.1 (mem_bitsOf.2 ⟨i, by have := h.1; have := h.2.1; omega, hbi, rfl⟩ : (i : Int) ∈ bitsOf S)
   exact hp p (by omega) i (by rw [rd_lt _ p hp2]; exact e)
  refine Ev.shift ?_
  simp only [impl_Order_antichain.l1]
  exact Ev.neg (by omega) (Ev.pos ⟨⟩ (hT ha))
 | succ d ih =>
  intro q hq hp
  obtain ⟨i, h1, h2, h3⟩ := el_of S (q := q) (by omega)
  have hi := hb i h2
  refine Ev.shift ?_
  simp only [impl_Order_antichain.l1]
  rw [h3, wrap64_id (x := (q : Int) + 1) (by omega) (by omega), cast1]
  refine Ev.pos (by omega) (Ev.pos (by omega) (Ev.pos (by omega) (Ev.pos ⟨⟩ (Ev.pos (by omega) (Ev.pos (by rw [rel_length]; omega) ?_)))))
  by_cases hf : fits L S i
  ·have := ih (q + 1) (by omega) (fun p hp2 j hj => by
    by_cases e : p = q
    ·subst e
     have : j = i := by omega
     subst this; exact hf
    ·exact hp p (by omega) j hj)
   rw [show (Go.bits .andNot .i64 (Go.bits .andNot .i64 S (rd (rel (freeP L) L.length) (i : Int))) (shl .i64 1 (i : Int)) == 0) = true from beq_iff_eq.2 hf]
   exact this
  ·have := anti_no h S N x3 hS R (hF fun ha => hf (ha i hi h2)) d (q + 1) (by omega)
   rw [show (Go.bits .andNot .i64 (Go.bits .andNot .i64 S (rd (rel (freeP L) L.length) (i : Int))) (shl .i64 1 (i : Int)) == 0) = false from beq_eq_false_iff_ne.2 hf]
   exact this
def bestP (L : List Int) (x : List Int) : Prop := x = [] ∨ ∃ S, (setP S ∧ ∀ j, bit S j = true → j < L.length) ∧ antiP L S ∧ x = bitsOf S
theorem set_below {S : Nat} {N : Nat} (hN : N ≤ 10) (hS : S < 2 ^ N) : setP (S : Int) ∧ ∀ j, bit (S : Int) j = true → j < N := by
 have : 2 ^ N ≤ 2 ^ 10 := Nat.pow_le_pow_right (by omega) hN
 refine ⟨⟨by omega, by omega⟩, fun j hj => ?_⟩
 rw [bit_nat] at hj
 refine Nat.lt_of_not_le fun hle => ?_
 have h2 : S < 2 ^ j := Nat.lt_of_lt_of_le hS (Nat.pow_le_pow_right (by omega) hle)
 rw [Nat.testBit_lt_two_pow h2] at hj
 cases hj
theorem anti_l0 (h : relP n L) (d : Nat) : ∀ (S : Nat) (x3 : List Int), S + d = 2 ^ L.length → bestP L x3 → x3.length ≤ 10 → ∃ x, Ev (fun k => impl_Order_antichain.l0 k x3 (rel (freeP L) L.length) ((2 ^ L.length : Nat) : Int) (S : Int)) x ∧ bestP L x ∧ x3.length ≤ x.length ∧ x.length ≤ 10 ∧ ∀ T : Nat, S ≤ T → T < 2 ^ L.length → antiP L (T : Int) → (bitsOf (T : Int)).length ≤ x.length := by
 have h10 : L.length ≤ 10 := by have := h.1; have := h.2.1; omega
 have hp : 2 ^ L.length ≤ 2 ^ 10 := Nat.pow_le_pow_right (by omega) h10
 induction d with
 | zero =>
  intro S x3 hS hb hx
  refine ⟨x3, Ev.shift ?_, hb, Nat.le_refl _, hx, fun T h1 h2 => by omega⟩
  simp only [impl_Order_antichain.l0]
  exact Ev.neg (by omega) (Ev.ret rfl)
 | succ d ih =>
  intro S x3 hS hb hx
  have hs := set_below h10 (S := S) (by omega)
  have hl := bitsOf_len (S : Int)
  have w : wrap64 ((S : Int) + 1) = ((S + 1 : Nat) : Int) := by rw [wrap64_id (by omega) (by omega), cast1]
  have hm := members_ev hs.1.1 hs.1.2
  by_cases ha : antiP L (S : Int)
  ·have hbS : bestP L (bitsOf (S : Int)) := .inr ⟨(S : Int), hs, ha, rfl⟩
   obtain ⟨c, c1⟩ := compare_ev (bitsOf (S : Int)) x3 (by omega)
   have key : ∀ y, bestP L y → y.length ≤ 10 → x3.length ≤ y.length → (bitsOf (S : Int)).length ≤ y.length → (∀ R, Ev (fun k => impl_Order_antichain.l0 k y (rel (freeP L) L.length) ((2 ^ L.length : Nat) : Int) ((S + 1 : Nat) : Int)) R → Ev (fun k => (if ((bitsOf (S : Int)).length : Int) > (x3.length : Int) then (impl_Order_antichain.l0 k (bitsOf (S : Int)) (rel (freeP L) L.length) ((2 ^ L.length : Nat) : Int) (wrap64 ((S : Int) + 1))) else (if ((bitsOf (S : Int)).length : Int) = (x3.length : Int) then ((slices_Compare_int_int.f k (bitsOf (S : Int)) x3).bind fun t => (if t < 0 then (impl_Order_antichain.l0 k (bitsOf (S : Int)) (rel (freeP L) L.length) ((2 ^ L.length : Nat) : Int) (wrap64 ((S : Int) + 1))) else (impl_Order_antichain.l0 k x3 (rel (freeP L) L.length) ((2 ^ L.length : Nat) : Int) (wrap64 ((S : Int) + 1))))) else (impl_Order_antichain.l0 k x3 (rel (freeP L) L.length) ((2 ^ L.length : Nat) : Int) (wrap64 ((S : Int) + 1)))))) R) →
     ∃ x, Ev (fun k => impl_Order_antichain.l0 k x3 (rel (freeP L) L.length) ((2 ^ L.length : Nat) : Int) (S : Int)) x ∧ bestP L x ∧ x3.length ≤ x.length ∧ x.length ≤ 10 ∧ ∀ T : Nat, S ≤ T → T < 2 ^ L.length → antiP L (T : Int) → (bitsOf (T : Int)).length ≤ x.length := by
    intro y hy1 hy2 hy3 hy4 hy5
    obtain ⟨x, x1, x2, x3', x4, x5⟩ := ih (S + 1) y (by omega) hy1 hy2
    refine ⟨x, Ev.shift ?_, x2, by omega, x4, fun T h1 h2 h3 => ?_⟩
    ·simp only [impl_Order_antichain.l0]
     exact Ev.pos (by omega) (Ev.bind hm (anti_l1 h (S : Int) _ x3 hs.1 hs.2 x (fun g => (g ha).elim) (fun _ => hy5 x x1) (bitsOf (S : Int)).length 0 (by omega) (fun p hp => by omega)))
    ·by_cases e : T = S
     ·subst e; omega
     ·exact x5 T (by omega) h2 h3
   by_cases h1 : ((bitsOf (S : Int)).length : Int) > (x3.length : Int)
   ·exact key (bitsOf (S : Int)) hbS hl (by omega) (Nat.le_refl _) (fun R hR => by rw [w]; exact Ev.pos h1 hR)
   ·by_cases h2 : ((bitsOf (S : Int)).length : Int) = (x3.length : Int)
    ·by_cases h3 : c < 0
     ·exact key (bitsOf (S : Int)) hbS hl (by omega) (Nat.le_refl _) (fun R hR => by rw [w]; exact Ev.neg h1 (Ev.pos h2 (Ev.bind c1 (Ev.pos h3 hR))))
     ·exact key x3 hb hx (Nat.le_refl _) (by omega) (fun R hR => by rw [w]; exact Ev.neg h1 (Ev.pos h2 (Ev.bind c1 (Ev.neg h3 hR))))
    ·exact key x3 hb hx (Nat.le_refl _) (by omega) (fun R hR => by rw [w]; exact Ev.neg h1 (Ev.neg h2 hR))
  ·obtain ⟨x, x1, x2, x3', x4, x5⟩ := ih (S + 1) x3 (by omega) hb hx
   refine ⟨x, Ev.shift ?_, x2, x3', x4, fun T h1 h2 h3 => ?_⟩
   ·simp only [impl_Order_antichain.l0]
    exact Ev.pos (by omega) (Ev.bind hm (anti_l1 h (S : Int) _ x3 hs.1 hs.2 x (fun _ => by rw [w]; exact x1) (fun g => (ha g).elim) (bitsOf (S : Int)).length 0 (by omega) (fun p hp => by omega)))
   ·by_cases e : T = S
    ·subst e; exact (ha h3).elim
    ·exact x5 T (by omega) h2 h3
theorem pow_all : ∀ m : Fin 11, shl .i64 1 (m.val : Int) = ((2 ^ m.val : Nat) : Int) := by decide +kernel
theorem iAnti_yes (h : orderP n L) (hL : L.length ≤ 1048576) : ∃ x, Ev (fun k => impl_LargestAntichain.f k n L) (x, true) ∧ bestP L x ∧ x.length ≤ 10 ∧ ∀ T : Nat, T < 2 ^ L.length → antiP L (T : Int) → (bitsOf (T : Int)).length ≤ x.length := by
 have e1 := h.1.2.1
 have e0 := h.1.1
 have e := pow_all ⟨L.length, by omega⟩
 obtain ⟨x, x1, x2, _, x4, x5⟩ := anti_l0 h.1 (2 ^ L.length) 0 [] (by omega) (.inl rfl) (by simp)
 unfold impl_LargestAntichain.f impl_Order_antichain.f
 refine ⟨x, Ev.bind (isOrder_ev n L hL) (Ev.pos (by simpa using h) (Ev.bind (Ev.bind (near_ev h.1) (Ev.pos (by omega) ?_)) (Ev.ret rfl))), x2, x4, fun T h1 h2 => x5 T (Nat.zero_le _) h1 h2⟩
 rw [show n = ((L.length : Nat) : Int) by omega, e]
 exact x1
end
-- a set asked by the statements
theorem pIn_all : ∀ x : Fin 1024, ∀ j : Fin 10, laws_pIn.f (x.val : Int) (j.val : Int) = some (bit (x.val : Int) j.val) := by decide +kernel
theorem pIn_f {x : Int} (h0 : 0 ≤ x) (h1 : x < 1024) {j : Nat} (hj : j < 10) : laws_pIn.f x (j : Int) = some (bit x j) := by
 obtain ⟨m, rfl⟩ : ∃ m : Nat, x = m := ⟨x.toNat, by omega⟩
 exact pIn_all ⟨m, by omega⟩ ⟨j, hj⟩
-- as many elements as a set has
theorem pMany_all : ∀ x : Fin 1024, laws_pMany.f 12 (x.val : Int) = some ((bitsOf (x.val : Int)).length : Int) := by decide +kernel
theorem pMany_ev {x : Int} (h0 : 0 ≤ x) (h1 : x < 1024) : Ev (fun k => laws_pMany.f k x) ((bitsOf x).length : Int) := by
 obtain ⟨m, rfl⟩ : ∃ m : Nat, x = m := ⟨x.toNat, by omega⟩
 exact Ev.of_mono (laws_pMany.mono _) (pMany_all ⟨m, by omega⟩)
end Go.Proofs.YtdmheeenoklijaaDoor.Pure
namespace Go.Proofs.YtdmheeenoklijaaDoor.Q
open Go.RowKit Go.Proofs.YtdmheeenoklijaaDoorW.PrintWords Go.Proofs.YtdmheeenoklijaaDoorW.PrintLast Go.Proofs.YtdmheeenoklijaaDoorW.PrintMore
attribute [local go_sem] max2_int min2_int max_two min_two max_three min_three max_four min_four neB_f
set_option linter.unusedVariables false
set_option maxHeartbeats 8000000
set_option maxRecDepth 100000
set_option linter.unusedSimpArgs false
def laws_pSameOrder.f (k : Nat) (a0_0 : Int) (l0_1 : List Int) (a1_0 : Int) (l1_1 : List Int) : Option (Bool) := if a0_0 = a1_0 then ((laws_pSame.f k l0_1 l1_1).bind fun t770 => (some t770)) else (some false)
theorem laws_pSameOrder.mono : ∀ a0 a1 a2 a3 k, LeO (laws_pSameOrder.f k a0 a1 a2 a3) (laws_pSameOrder.f (k + 1) a0 a1 a2 a3) := by
 intro a0 a1 a2 a3 k
 unfold laws_pSameOrder.f
 repeat' (with_reducible first|apply laws_pSame.mono|apply LeO.refl|apply LeO.none|apply LeO.ite|apply LeO.bind|intro)
theorem laws_pSameOrder.calls (k : Nat) (a0_0 : Int) (A0_1 : Option Addr) (c0_1 : Nat) (l0_1 : List Int) (a1_0 : Int) (A1_1 : Option Addr) (c1_1 : Nat) (l1_1 : List Int) (r : Bool) (w : World) (hr0_1 : Kd.C (Kd.int .i64) w A0_1 l0_1.length l0_1) (hc0_1 : l0_1.length ≤ c0_1) (hr1_1 : Kd.C (Kd.int .i64) w A1_1 l1_1.length l1_1) (hc1_1 : l1_1.length ≤ c1_1) (h : laws_pSameOrder.f k a0_0 l0_1 a1_0 l1_1 = some r) :
  Calls Tryd.prog 19 #[.agg #[.int .i64 a0_0, .slice A0_1 l0_1.length c0_1], .agg #[.int .i64 a1_0, .slice A1_1 l1_1.length c1_1]] w fun e w' => e = .returned (.bool r) ∧ Below w.heap.size w w' := by
 have hu26 := Tryd.underlying26
 have HR0_1 := mkA hr0_1
 have HC0_1 := mkA hc0_1
 clear hr0_1 hc0_1
 have HR1_1 := mkA hr1_1
 have HC1_1 := mkA hc1_1
 clear hr1_1 hc1_1
 have HB := mkA (Below.refl w.heap.size w)
 have H := h
 clear h
 unfold laws_pSameOrder.f at H
 rcases iteP H with ⟨c3, H⟩ | ⟨c3, H⟩
 ·have c3b0 := beq_iff_eq.mpr c3
  have c3b1 := bne_eq_false_iff_eq.mpr c3
  clear c3
  obtain ⟨t770, A4, H⟩ := obE H
  obtain rfl := Option.some.inj H
  go_enter Tryd.func19, Tryd.ntmps19
  go_wp2_with (first | ((with_reducible refine gate_dst (N := 2) rfl ?_); refine boxG HB #[.int .i64 a0_0, .slice A0_1 l0_1.length c0_1] 26 ?_; intro gb768 hg w5 BK768 GE768 hb; replace HB := bst HB hb; clear hb hg) | ((with_reducible refine gate_dst (N := 3) rfl ?_); refine boxG HB #[.int .i64 a1_0, .slice A1_1 l1_1.length c1_1] 26 ?_; intro gb769 hg w6 BK769 GE769 hb; have NB768_769 := neL7 BK768 hg; have NB769_768 := neR7 BK768 hg; replace BK768 := blkB BK768 hb; replace HB := bst HB hb; clear hb hg; obtain ⟨_, _, _, _⟩ := blk2 BK768; obtain ⟨_, _, _, _⟩ := blk2 BK769) | (go_at_call 25; (with_reducible refine (laws_pSame.calls k _ _ l0_1 _ _ l1_1 t770 _ ?_ ?_ ?_ ?_ A4.out).mono ?_); exact C_g HR0_1 HB; exact HC0_1.out; exact C_g HR1_1 HB; exact HC1_1.out; rintro e w' ⟨rfl, ⟨nd, rfl⟩⟩))
  go_ret
  exact ⟨eqE, bel_g HB.out⟩
 ·have c3b0 := beq_eq_false_iff_ne.mpr c3
  have c3b1 := bne_iff_ne.mpr c3
  obtain rfl := Option.some.inj H
  go_enter Tryd.func19, Tryd.ntmps19
  go_wp2_with (first | ((with_reducible refine gate_dst (N := 2) rfl ?_); refine boxG HB #[.int .i64 a0_0, .slice A0_1 l0_1.length c0_1] 26 ?_; intro gb768 hg w10 BK768 GE768 hb; replace HB := bst HB hb; clear hb hg) | ((with_reducible refine gate_dst (N := 3) rfl ?_); refine boxG HB #[.int .i64 a1_0, .slice A1_1 l1_1.length c1_1] 26 ?_; intro gb769 hg w11 BK769 GE769 hb; have NB768_769 := neL7 BK768 hg; have NB769_768 := neR7 BK768 hg; replace BK768 := blkB BK768 hb; replace HB := bst HB hb; clear hb hg; obtain ⟨_, _, _, _⟩ := blk2 BK768; obtain ⟨_, _, _, _⟩ := blk2 BK769))
  go_ret
  exact ⟨eqE, bel_g HB.out⟩
end Go.Proofs.YtdmheeenoklijaaDoor.Q
namespace Go.Proofs.YtdmheeenoklijaaDoor.Pure
open Go.RowKit Go.Proofs.YtdmheeenoklijaaDoor.Q Go.Proofs.YtdmheeenoklijaaDoorW.PrintWords Go.Proofs.YtdmheeenoklijaaDoorW.PrintLast
set_option linter.unusedVariables false
set_option linter.unusedSimpArgs false
-- the statements' own comparisons
theorem pSame_l (l m : List Int) (hlm : l.length = m.length) (hl : l.length ≤ 1048576) (d : Nat) : ∀ i : Nat, i + d = l.length → Ev (fun k => laws_pSame.l0 k l m (l.length : Int) (i : Int)) (l.drop i == m.drop i) := by
 induction d with
 | zero =>
  intro i hi
  refine Ev.shift ?_
  simp only [laws_pSame.l0]
  refine Ev.neg (by omega) (Ev.ret ?_)
  rw [List.drop_of_length_le (by omega), List.drop_of_length_le (by omega)]; rfl
 | succ d ih =>
  intro i hi
  have e := ih (i + 1) (by omega)
  have f1 : (i : Int) < l.length := by omega
  have f2 : (i : Int) < m.length := by omega
  refine Ev.shift ?_
  simp only [laws_pSame.l0]
  refine Ev.pos f1 (Ev.pos (by omega) (Ev.pos f1 (Ev.pos f2 ?_)))
  rw [wrap64_id (by omega) (by omega), cast1, drop_rd l i (by omega), drop_rd m i (by omega)]
  by_cases hc : rd l (i : Int) = rd m (i : Int)
  ·refine Ev.pos hc (Ev.eq e ?_)
   rw [hc]; simp
  ·refine Ev.neg hc (Ev.ret ?_)
   symm; rw [beq_eq_false_iff_ne]; intro h; exact hc (List.cons.inj h).1
theorem pSame_ev (l m : List Int) (hl : l.length ≤ 1048576) : Ev (fun k => laws_pSame.f k l m) (l == m) := by
 unfold laws_pSame.f
 by_cases h : (l.length : Int) = m.length
 ·refine Ev.pos h ?_
  simpa using pSame_l l m (by omega) hl l.length 0 (by omega)
 ·refine Ev.neg h (Ev.ret ?_)
  symm; rw [beq_eq_false_iff_ne]; intro e; exact h (by rw [e])
end Go.Proofs.YtdmheeenoklijaaDoor.Pure
/- The sets along the line are antichains to which nothing can be added, and each element is in those between its ends, for every two strings of bytes. Condition: the listed variables, tied to the program's text by the card. -/
namespace Go.Proofs.YtdmheeenoklijaaDoor.Pure
open Go.RowKit Go.Proofs.YtdmheeenoklijaaDoor.Q Go.Proofs.YtdmheeenoklijaaDoorW.PrintWords Go.Proofs.YtdmheeenoklijaaDoorW.PrintLast
set_option linter.unusedVariables false
set_option linter.unusedSimpArgs false
section
variable {n : Int} {L : List Int}
theorem sal_bits (h : ivP n L) (t : Nat) : setP (rowf (inT L t) L.length) ∧ ∀ j, bit (rowf (inT L t) L.length) j = (decide (j < L.length) && inT L t j) := rowf_bits (inT L t) L.length h.len
theorem fits_along (h : ivP n L) {t : Nat} (ht : t < mag L) {i : Nat} (hi : i < L.length) : fits L (rowf (inT L t) L.length) i ↔ inT L t i = true := by
 obtain ⟨hs, hb⟩ := sal_bits h t
 have h10 := h.len
 rw [fits_iff h.1.1 hs hi]
 obtain ⟨m, hm, em⟩ := h.mag.cov t ht
 constructor
 ·intro g
  have := along_full (ord_lt h.1) h.lam hi hm (t := t) (by omega) (fun j hj h1 h2 hne => by
   have := g j (by omega) (by rw [hb j]; simp [hj]; unfold inT; simp [h1, h2])
   rcases this with ⟨_, g2⟩ | g2
   ·unfold freeP at g2
    simp only [Bool.and_eq_true, Bool.not_eq_true'] at g2
    exact ⟨g2.1.1, g2.1.2⟩
   ·exact (hne g2).elim)
  unfold inT; rw [decide_eq_true_iff]; exact this
 ·intro g j hj hbj
  rw [hb j] at hbj
  simp only [Bool.and_eq_true, decide_eq_true_eq] at hbj
  by_cases e : j = i
  ·exact .inr e
  ·refine .inl ⟨hbj.1, ?_⟩
   have g1 := hbj.2
   unfold inT at g g1
   rw [decide_eq_true_iff] at g g1
   have f1 := along_free (ord_lt h.1) h.lam hi hbj.1 g.1 g.2 g1.1
   have f2 := along_free (ord_lt h.1) h.lam hbj.1 hi g1.1 g1.2 g.1
   unfold freeP
   simp [f1, f2, e]
theorem inner (h : ivP n L) (x : List Int) (m : Int) {t : Nat} (ht : t < mag L) (R : Bool) (hR : Ev (fun k => laws_FnSetsAlong.l0 k (ens L) x m (sal L) (mag L : Int) ((t + 1 : Nat) : Int) n L) R) (d : Nat) :
  ∀ i : Nat, i + d = L.length → Ev (fun k => laws_FnSetsAlong.l1 k (ens L) x m (t : Int) (rowf (inT L t) L.length) (sal L) (mag L : Int) (t : Int) (ens L) (L.length : Int) (i : Int) n L) R := by
 have h10 := h.len
 have hm := magL L
 obtain ⟨hs, hb⟩ := sal_bits h t
 induction d with
 | zero =>
  intro i hi
  refine Ev.shift ?_
  simp only [laws_FnSetsAlong.l1]
  rw [wrap64_id (x := (t : Int) + 1) (by omega) (by omega), cast1]
  exact Ev.neg (by omega) hR
 | succ d ih =>
  intro i hi
  have hi' : i < L.length := by omega
  have this := ih (i + 1) (by omega)
  have hp : laws_pIn.f (rowf (inT L t) L.length) (i : Int) = some (inT L t i) := by
   rw [pIn_f hs.1 hs.2 (by omega), hb i]; simp [hi']
  have hf := fits_along h ht hi'
  have tail : ∀ b : Bool, b = false → Ev (fun k => laws_FnSetsAlong.j5 k (ens L) x m (t : Int) (rowf (inT L t) L.length) (i : Int) (rd (rel (freeP L) L.length) (i : Int)) (sal L) (mag L : Int) (t : Int) (ens L) (L.length : Int) (i : Int) b n L) R := by
   intro b hbf
   refine Ev.shift ?_
   simp only [laws_FnSetsAlong.j5]
   refine Ev.neg (by simp [hbf]) (Ev.pos (by omega) (Ev.bindc hp (Ev.neg ?_ ?_)))
   ·have e : (Go.bits .andNot .i64 (Go.bits .andNot .i64 (rowf (inT L t) L.length) (rd (rel (freeP L) L.length) (i : Int))) (shl .i64 1 (i : Int)) == 0) = inT L t i := by
     rw [Bool.eq_iff_iff, beq_iff_eq]; exact hf
    rw [e]; simp
   ·rw [wrap64_id (x := (i : Int) + 1) (by omega) (by omega), cast1]
    exact this
  refine Ev.shift ?_
  simp only [laws_FnSetsAlong.l1]
  rw [ens_rd L hi']
  dsimp only
  refine Ev.pos (by omega) (Ev.pos (by omega) (Ev.pos (by rw [ens_length]; omega) (Ev.bind (IndifferentTo_ev h.1.1 hi') (Ev.pos rfl (Ev.bindc hp ?_)))))
  by_cases h1 : (lvc L i : Int) ≤ (t : Int)
  ·refine Ev.pos h1 (tail _ ?_)
   have h2 : lvc L i ≤ t := by omega
   unfold inT
   by_cases h3 : t ≤ rho L.length (lt L) (lvc L) i
   ·have : (t : Int) ≤ (rho L.length (lt L) (lvc L) i : Int) := by omega
    simp [h2, h3]
   ·have : ¬ (t : Int) ≤ (rho L.length (lt L) (lvc L) i : Int) := by omega
    simp [h2, h3]
  ·refine Ev.neg h1 (tail _ ?_)
   have h2 : ¬ lvc L i ≤ t := by omega
   unfold inT; simp [h2]
theorem sal_anti (h : ivP n L) {t : Nat} (ht : t < mag L) : antiP L (rowf (inT L t) L.length) := by
 intro i hi hbi
 rw [(sal_bits h t).2 i] at hbi
 simp only [Bool.and_eq_true, decide_eq_true_eq] at hbi
 exact (fits_along h ht hi).2 hbi.2
theorem sal_nat (h : ivP n L) (t : Nat) : ∃ T : Nat, (T : Int) = rowf (inT L t) L.length ∧ T < 2 ^ L.length := by
 obtain ⟨hs, hb⟩ := sal_bits h t
 have := setP_full h.len hs (fun j hj => by
  rw [hb j] at hj
  simp only [Bool.and_eq_true, decide_eq_true_eq] at hj
  exact hj.1)
 rw [full_pow h.len] at this
 have h2 : ((2 ^ L.length : Nat) : Int) = (2 : Int) ^ L.length := by simp
 exact ⟨(rowf (inT L t) L.length).toNat, by omega, by omega⟩
theorem bits_le {S T : Int} (h : ∀ j, j < 10 → bit S j = true → bit T j = true) : (bitsOf S).length ≤ (bitsOf T).length := by
 unfold bitsOf
 rw [List.length_map, List.length_map, ← List.countP_eq_length_filter, ← List.countP_eq_length_filter]
 exact List.countP_mono_left fun j hj hb => h j (List.mem_range.1 hj) hb
theorem anti_in (h : ivP n L) {S : Int} (hS : setP S) (hb : ∀ j, bit S j = true → j < L.length) (ha : antiP L S) (hne : (bitsOf S).length ≠ 0) : ∃ t, t < mag L ∧ (bitsOf S).length ≤ (bitsOf (rowf (inT L t) L.length)).length := by
 have h10 := h.len
 have hex : ∃ i, i < L.length ∧ bit S i = true := by
  cases e : bitsOf S with
  | nil => rw [e] at hne; exact (hne rfl).elim
  | cons y l =>
   obtain ⟨i, _, h2, _⟩ := mem_bitsOf.1 (show y ∈ bitsOf S by rw [e]; exact List.mem_cons_self)
   exact ⟨i, hb i h2, h2⟩
 obtain ⟨i, hi, hbi, hmax⟩ := exists_max L.length (fun i => bit S i = true) (lvc L) hex
 refine ⟨lvc L i, h.mag.lt i hi, bits_le fun j hj hbj => ?_⟩
 have hjl := hb j hbj
 rw [(sal_bits h _).2 j]
 simp only [hjl, decide_true, Bool.true_and]
 unfold inT
 rw [decide_eq_true_iff]
 refine ⟨hmax j hjl hbj, ?_⟩
 by_cases e : i = j
 ·subst e; exact rho_own _
 ·have := (fits_iff h.1.1 hS hjl).1 (ha j hjl hbj) i (by omega) hbi
  rcases this with ⟨_, g⟩ | g
  ·unfold freeP at g
   simp only [Bool.and_eq_true, Bool.not_eq_true'] at g
   exact rho_ge hi g.1.1
  ·exact (e g).elim
theorem outer (h : ivP n L) {x : List Int} (hx : bestP L x) (hx2 : ∀ T : Nat, T < 2 ^ L.length → antiP L (T : Int) → (bitsOf (T : Int)).length ≤ x.length) (d : Nat) : ∀ (t m : Nat), t + d = mag L → m ≤ x.length → (∀ q, q < t → (bitsOf (rowf (inT L q) L.length)).length ≤ m) → Ev (fun k => laws_FnSetsAlong.l0 k (ens L) x (m : Int) (sal L) (mag L : Int) (t : Int) n L) true := by
 have h10 := h.len
 have hmg := magL L
 induction d with
 | zero =>
  intro t m ht hm hq
  refine Ev.shift ?_
  simp only [laws_FnSetsAlong.l0]
  refine Ev.neg (by omega) (Ev.ret ?_)
  rw [beq_iff_eq]
  have : x.length ≤ m := by
   rcases hx with e | ⟨S, ⟨hS, hb⟩, ha, e⟩
   ·subst e; simp
   ·by_cases h0 : (bitsOf S).length = 0
    ·rw [e]; omega
    ·obtain ⟨q, hq1, hq2⟩ := anti_in h hS hb ha h0
     have := hq q (by omega)
     rw [e]; omega
  omega
 | succ d ih =>
  intro t m ht hm hq
  have ht' : t < mag L := by omega
  obtain ⟨hs, hb⟩ := sal_bits h t
  have hp := pMany_ev hs.1 hs.2
  obtain ⟨T, eT, hT⟩ := sal_nat h t
  have hle := hx2 T hT (by rw [eT]; exact sal_anti h ht')
  rw [eT] at hle
  have hbl := bitsOf_len (rowf (inT L t) L.length)
  refine Ev.shift ?_
  simp only [laws_FnSetsAlong.l0]
  rw [sal_rd L ht']
  refine Ev.pos (by omega) (Ev.pos (by omega) (Ev.pos (by rw [sal_length]; omega) (Ev.bind hp ?_)))
  have go : ∀ m' : Nat, m' ≤ x.length → (∀ q, q < t + 1 → (bitsOf (rowf (inT L q) L.length)).length ≤ m') → Ev (fun k => laws_FnSetsAlong.j3 k (ens L) x (m' : Int) (t : Int) (rowf (inT L t) L.length) (sal L) (mag L : Int) (t : Int) n L) true := by
   intro m' h1 h2
   refine Ev.shift ?_
   simp only [laws_FnSetsAlong.j3]
   rw [ens_length]
   exact inner h x (m' : Int) ht' true (ih (t + 1) m' (by omega) h1 h2) L.length 0 (by omega)
  by_cases hc : ((bitsOf (rowf (inT L t) L.length)).length : Int) > (m : Int)
  ·refine Ev.pos hc (Ev.bind hp (go _ hle fun q hq2 => ?_))
   by_cases e : q = t
   ·subst e; exact Nat.le_refl _
   ·have := hq q (by omega); omega
  ·refine Ev.neg hc (go m hm fun q hq2 => ?_)
   by_cases e : q = t
   ·subst e; omega
   ·exact hq q (by omega)
end
theorem FnSetsAlong (l0 : List Int) (hm0 : l0.length ≤ maxLen) (hw0 : ∀ x ∈ l0, (Lit.int .u8 x).wf = true) (l1 : List Int) (hm1 : l1.length ≤ maxLen) (hw1 : ∀ x ∈ l1, (Lit.int .u8 x).wf = true) : ∃ k, laws_FnSetsAlong.f k l0 l1 = some true := by
 refine Ev.at1 ?_
 unfold laws_FnSetsAlong.f
 obtain ⟨b, hb⟩ := big_f l0 l1 hm0
 refine Ev.bindc hb ?_
 by_cases hbt : b = true
 ·exact Ev.pos hbt (Ev.ret rfl)
 refine Ev.neg hbt ?_
 obtain ⟨n, L, a, s, e, hL⟩ := ended_d (bytesP.of hw0) 0 7 (a := 0) ⟨by omega, by omega⟩ (by omega) (by omega)
 have hd : Ev (fun k => spec_DrawSetsAlong.f k l0) (n, L) := by unfold spec_DrawSetsAlong.f; exact Ev.bind e (Ev.ret rfl)
 have hl : L.length ≤ 1048576 := by omega
 by_cases h : ivP n L
 ·obtain ⟨x, x1, x2, x3, x4⟩ := iAnti_yes h.1 hl
  have hm := magL L
  refine Ev.bind hd (Ev.bind (iAlong_yes h hl) (Ev.bind (sAlong_yes h hl) (Ev.neg (by simp) (Ev.bind (pSame_ev _ _ (show (sal L).length ≤ 1048576 by rw [sal_length]; omega)) (Ev.shift ?_)))))
  simp only [laws_FnSetsAlong.j0]
  refine Ev.neg (by simp) (Ev.pos ⟨⟩ (Ev.bind (iEndsOf_yes h hl) (Ev.bind (iMag_yes h hl) (Ev.bind x1 (Ev.pos rfl (Ev.pos rfl (Ev.pos rfl (Ev.shift ?_))))))))
  simp only [laws_FnSetsAlong.j1]
  refine Ev.neg (by simp [sal_length]) ?_
  rw [sal_length]
  exact outer h x2 x4 (mag L) 0 0 (by omega) (Nat.zero_le _) (fun q hq => by omega)
 ·refine Ev.bind hd (Ev.bind (iAlong_no h hl) (Ev.bind (sAlong_no h hl) (Ev.neg (by simp) (Ev.bind (pSame_ev [] [] (by simp)) (Ev.shift ?_)))))
  simp only [laws_FnSetsAlong.j0]
  exact Ev.neg (by simp) (Ev.neg (by simp) (Ev.ret rfl))
end Go.Proofs.YtdmheeenoklijaaDoor.Pure
