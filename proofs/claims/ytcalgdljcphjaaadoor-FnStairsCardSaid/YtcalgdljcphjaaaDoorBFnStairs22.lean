import Derived.Test.YtcalgdljcphjaaaDoorBFnStairs5
import Derived.Test.YtcalgdljcphjaaaDoorBFnStairs21
namespace Go.Proofs.YtcalgdljcphjaaaDoor.Pure
open Go.RowKit Go.Proofs.YtcalgdljcphjaaaDoor.Q Go.Proofs.YtcalgdljcphjaaaDoorW.PrintWords Go.Proofs.YtcalgdljcphjaaaDoorW.PrintLast
set_option linter.unusedVariables false
set_option linter.unusedSimpArgs false
-- stairs and their orders
def stC (l : List Int) (i : Nat) : Prop := 0 ≤ rd l (i : Int) ∧ rd l (i : Int) ≤ i ∧ (0 < i → rd l ((i : Int) - 1) ≤ rd l (i : Int))
instance (l : List Int) (i : Nat) : Decidable (stC l i) := by unfold stC; infer_instance
def stP (l : List Int) : Prop := (∀ i, i < l.length → stC l i) ∧ (l.length : Int) ≤ 10
instance (l : List Int) : Decidable (stP l) := by unfold stP; infer_instance
theorem stP.mono {l : List Int} (h : stP l) : ∀ (i j : Nat), i < l.length → j ≤ i → rd l (j : Int) ≤ rd l (i : Int)
 | 0, j, _, hj => by
  have e : j = 0 := by omega
  rw [e]
  exact Int.le_refl _
 | i + 1, j, hi, hj => by
  by_cases e : j = i + 1
  ·rw [e]; exact Int.le_refl _
  ·have h1 := h.mono i j (by omega) (by omega)
   have h2 := (h.1 (i + 1) hi).2.2 (by omega)
   rw [show ((i + 1 : Nat) : Int) - 1 = (i : Int) by omega] at h2
   omega
theorem isStair_l (l : List Int) (hl : l.length ≤ 1000) (d : Nat) : ∀ i : Nat, i + d = l.length → Ev (fun k => impl_IsStair.l0 k l l (l.length : Int) (i : Int)) (decide ((∀ m, m < l.length → i ≤ m → stC l m) ∧ (l.length : Int) ≤ 10)) := by
 induction d with
 | zero =>
  intro i hi
  refine Ev.shift ?_
  simp only [impl_IsStair.l0]
  refine Ev.neg (by omega) (Ev.ret ?_)
  rw [decide_eq_decide]
  exact ⟨fun h => ⟨fun m h1 h2 => by omega, h⟩, fun h => h.2⟩
 | succ d ih =>
  intro i hi
  have hnext := ih (i + 1) (by omega)
  have hsp : stC l i → (decide ((∀ m, m < l.length → i + 1 ≤ m → stC l m) ∧ (l.length : Int) ≤ 10)) = decide ((∀ m, m < l.length → i ≤ m → stC l m) ∧ (l.length : Int) ≤ 10) := fun hc => by
   rw [decide_eq_decide]
   refine ⟨fun h => ⟨fun m h1 h2 => ?_, h.2⟩, fun h => ⟨fun m h1 h2 => h.1 m h1 (by omega), h.2⟩⟩
   by_cases e : m = i
   ·rw [e]; exact hc
   ·exact h.1 m h1 (by omega)
  have hno : ¬ stC l i → false = decide ((∀ m, m < l.length → i ≤ m → stC l m) ∧ (l.length : Int) ≤ 10) := fun hc => by
   symm; rw [decide_eq_false_iff_not]
   exact fun h => hc (h.1 i (by omega) (Nat.le_refl _))
  refine Ev.shift ?_
  simp only [impl_IsStair.l0]
  rw [wrap64_id (x := (i : Int) + 1) (by omega) (by omega), cast1, wrap64_id (x := (i : Int) - 1) (by omega) (by omega)]
  refine Ev.pos (by omega) (Ev.pos (by omega) (Ev.pos (by omega) (Ev.bindc (impl_in _ _ _) ?_)))
  by_cases h1 : 0 ≤ rd l (i : Int) ∧ rd l (i : Int) ≤ i
  ·refine Ev.pos (by simpa using h1) ?_
   by_cases h2 : (i : Int) > 0
   ·refine Ev.pos h2 (Ev.pos (by omega) (Ev.pos (by omega) ?_))
    by_cases h3 : rd l ((i : Int) - 1) > rd l (i : Int)
    ·exact Ev.pos h3 (Ev.ret (hno fun hc => by have := hc.2.2 (by omega); omega))
    ·exact Ev.neg h3 (Ev.eq hnext (hsp ⟨h1.1, h1.2, fun _ => by omega⟩))
   ·exact Ev.neg h2 (Ev.eq hnext (hsp ⟨h1.1, h1.2, fun _ => by omega⟩))
  ·exact Ev.neg (by simpa using h1) (Ev.ret (hno fun hc => h1 ⟨hc.1, hc.2.1⟩))
theorem isStair_ev (l : List Int) (hl : l.length ≤ 1000) : Ev (fun k => impl_IsStair.f k l) (decide (stP l)) := by
 unfold impl_IsStair.f
 refine Ev.eq (isStair_l l hl l.length 0 (by omega)) ?_
 rw [decide_eq_decide]
 exact ⟨fun h => ⟨fun i hi => h.1 i hi (by omega), h.2⟩, fun h => ⟨fun m hm _ => h.1 m hm, h.2⟩⟩
theorem sIsStair_l (l : List Int) (hl : l.length ≤ 1000) (d : Nat) : ∀ i : Nat, i + d = l.length → Ev (fun k => spec_IsStair.l0 k l l (l.length : Int) (i : Int)) (decide ((∀ m, m < l.length → i ≤ m → stC l m) ∧ (l.length : Int) ≤ 10)) := by
 induction d with
 | zero =>
  intro i hi
  refine Ev.shift ?_
  simp only [spec_IsStair.l0]
  refine Ev.neg (by omega) (Ev.ret ?_)
  rw [decide_eq_decide]
  exact ⟨fun h => ⟨fun m h1 h2 => by omega, h⟩, fun h => h.2⟩
 | succ d ih =>
  intro i hi
  have hnext := ih (i + 1) (by omega)
  have hsp : stC l i → (decide ((∀ m, m < l.length → i + 1 ≤ m → stC l m) ∧ (l.length : Int) ≤ 10)) = decide ((∀ m, m < l.length → i ≤ m → stC l m) ∧ (l.length : Int) ≤ 10) := fun hc => by
   rw [decide_eq_decide]
   refine ⟨fun h => ⟨fun m h1 h2 => ?_, h.2⟩, fun h => ⟨fun m h1 h2 => h.1 m h1 (by omega), h.2⟩⟩
   by_cases e : m = i
   ·rw [e]; exact hc
   ·exact h.1 m h1 (by omega)
  have hno : ¬ stC l i → false = decide ((∀ m, m < l.length → i ≤ m → stC l m) ∧ (l.length : Int) ≤ 10) := fun hc => by
   symm; rw [decide_eq_false_iff_not]
   exact fun h => hc (h.1 i (by omega) (Nat.le_refl _))
  refine Ev.shift ?_
  simp only [spec_IsStair.l0]
  rw [wrap64_id (x := (i : Int) + 1) (by omega) (by omega), cast1, wrap64_id (x := (i : Int) - 1) (by omega) (by omega)]
  refine Ev.pos (by omega) (Ev.pos (by omega) (Ev.pos (by omega) (Ev.bindc (spec_in _ _ _) ?_)))
  by_cases h1 : 0 ≤ rd l (i : Int) ∧ rd l (i : Int) ≤ i
  ·refine Ev.pos (by simpa using h1) ?_
   by_cases h2 : (i : Int) > 0
   ·refine Ev.pos h2 (Ev.pos (by omega) (Ev.pos (by omega) ?_))
    by_cases h3 : rd l (i : Int) < rd l ((i : Int) - 1)
    ·exact Ev.pos h3 (Ev.ret (hno fun hc => by have := hc.2.2 (by omega); omega))
    ·exact Ev.neg h3 (Ev.eq hnext (hsp ⟨h1.1, h1.2, fun _ => by omega⟩))
   ·exact Ev.neg h2 (Ev.eq hnext (hsp ⟨h1.1, h1.2, fun _ => by omega⟩))
  ·exact Ev.neg (by simpa using h1) (Ev.ret (hno fun hc => h1 ⟨hc.1, hc.2.1⟩))
theorem sIsStair_ev (l : List Int) (hl : l.length ≤ 1000) : Ev (fun k => spec_IsStair.f k l) (decide (stP l)) := by
 unfold spec_IsStair.f
 refine Ev.eq (sIsStair_l l hl l.length 0 (by omega)) ?_
 rw [decide_eq_decide]
 exact ⟨fun h => ⟨fun i hi => h.1 i hi (by omega), h.2⟩, fun h => ⟨fun m hm _ => h.1 m hm, h.2⟩⟩
def stR (l : List Int) (i j : Nat) : Bool := decide ((i : Int) < rd l (j : Int))
def stO (l : List Int) : List Int := rel (stR l) l.length
theorem stO_length (l : List Int) : (stO l).length = l.length := rel_length _ _
theorem ofStair_ev {l : List Int} (hl : l.length ≤ 10) : Ev (fun k => impl_ofStair.f k l) ((l.length : Int), stO l) := by
 unfold impl_ofStair.f
 refine Ev.bind (relation_ev (stR l) l.length (by omega) (fun _ u0_ u1_ => impl_ofStair_1.f u0_ u1_ l) (fun i j hi hj => Ev.const ?_)) (Ev.ret rfl)
 unfold impl_ofStair_1.f
 rw [if_pos (by omega), if_pos (by omega)]
 rfl
theorem seOrder_l1 {l : List Int} (h : stP l) (j : Nat) (hj : j < l.length) (R : Int × List Int) (p : Nat → Nat → Bool)
  (hR : ∀ q : Nat → Nat → Bool, (∀ x y, q x y = (p x y || (decide (y = j) && stR l x j))) → Ev (fun k => spec_seOrder.l0 k l (l.length : Int) (wrap64 ((j : Int) + 1)) (l.length : Int) (rel q l.length)) R) (d : Nat) :
  ∀ (i : Nat) (q : Nat → Nat → Bool), (i : Int) + d = rd l (j : Int) → (∀ x y, q x y = (p x y || (decide (y = j) && decide (x < i)))) → Ev (fun k => spec_seOrder.l1 k (j : Int) (rd l (j : Int)) (i : Int) l (l.length : Int) (j : Int) (l.length : Int) (rel q l.length)) R := by
 have h10 := h.2
 have hjc := h.1 j hj
 induction d with
 | zero =>
  intro i q hi hq
  refine Ev.shift ?_
  simp only [spec_seOrder.l1]
  refine Ev.neg (by omega) (hR q (fun x y => ?_))
  rw [hq]
  unfold stR
  congr 2
  rw [decide_eq_decide]; omega
 | succ d ih =>
  intro i q hi hq
  have hil : i < l.length := by have := hjc.2.1; omega
  have hlen : (rel q l.length).length = l.length := rel_length _ _
  have hnext := ih (i + 1) (fun x y => q x y || (decide (x = i) && decide (y = j))) (by omega) (fun x y => by
   show (q x y || (decide (x = i) && decide (y = j))) = _
   rw [hq]
   by_cases e : y = j
   ·by_cases e2 : x < i
    ·simp [e, e2, show x < i + 1 by omega]
    ·by_cases e3 : x = i
     ·simp [e, e3]
     ·simp [e, e2, e3, show ¬ x < i + 1 by omega]
   ·simp [e])
  rw [← rel_orb (by omega) hil hj] at hnext
  refine Ev.shift ?_
  simp only [spec_seOrder.l1]
  rw [wrap64_id (x := (i : Int) + 1) (by omega) (by omega), cast1]
  refine Ev.pos (by omega) (Ev.pos (by omega) (Ev.pos (by omega) (Ev.pos (by omega) ?_)))
  rw [Int.toNat_natCast]
  exact hnext
theorem seOrder_l0 {l : List Int} (h : stP l) (d : Nat) : ∀ (j : Nat) (q : Nat → Nat → Bool), j + d = l.length → (∀ x y, q x y = (decide (y < j) && stR l x y)) → Ev (fun k => spec_seOrder.l0 k l (l.length : Int) (j : Int) (l.length : Int) (rel q l.length)) ((l.length : Int), stO l) := by
 have h10 := h.2
 induction d with
 | zero =>
  intro j q hj hq
  refine Ev.shift ?_
  simp only [spec_seOrder.l0]
  refine Ev.neg (by omega) (Ev.ret ?_)
  have : rel q l.length = stO l := rel_congr (fun x y hx hy => by rw [hq]; simp [show y < j by omega])
  rw [this]
 | succ d ih =>
  intro j q hj hq
  have hjc := h.1 j (by omega)
  refine Ev.shift ?_
  simp only [spec_seOrder.l0]
  refine Ev.pos (by omega) (Ev.pos (by omega) (Ev.pos (by omega) ?_))
  refine seOrder_l1 h j (by omega) _ q (fun q2 hq2 => ?_) (rd l (j : Int)).toNat 0 q (by have := hjc.1; omega) (fun x y => by simp)
  rw [wrap64_id (x := (j : Int) + 1) (by omega) (by omega), cast1]
  refine ih (j + 1) q2 (by omega) (fun x y => ?_)
  rw [hq2, hq]
  by_cases e : y = j
  ·simp [e]
  ·by_cases e2 : y < j
   ·simp [e, e2, show y < j + 1 by omega]
   ·simp [e, e2, show ¬ y < j + 1 by omega]
theorem rel_none (n : Nat) : rel (fun _ _ => false) n = List.replicate n 0 := by
 apply List.ext_getElem (by rw [rel_length]; simp)
 intro i hi1 hi2
 rw [rel_length] at hi1
 have hr := rel_get (fun _ _ => false) n i hi1
 rw [rd_lt _ i (by rw [rel_length]; exact hi1)] at hr
 rw [hr, List.getElem_replicate]
 have : ∀ m, rowf (fun _ => false) m = 0 := by
  intro m
  induction m with
  | zero => rfl
  | succ m ih => rw [rowf_succ, if_neg (by simp), ih]
 exact this _
theorem seOrder_ev {l : List Int} (h : stP l) : Ev (fun k => spec_seOrder.f k l) ((l.length : Int), stO l) := by
 have h10 := h.2
 unfold spec_seOrder.f
 refine Ev.pos (by omega) (Ev.pos (by omega) ?_)
 have := seOrder_l0 h l.length 0 (fun _ _ => false) (by omega) (fun x y => by simp)
 rw [rel_none] at this
 rw [Int.toNat_natCast]
 exact this
section
variable {l : List Int}
theorem stO_lt (h : stP l) {i : Nat} (hi : i < l.length) (j : Nat) : lt (stO l) i j = (decide (j < l.length) && stR l i j) := rel_lt (by have := h.2; omega) hi j
theorem stO_rel (h : stP l) : relP (l.length : Int) (stO l) := rel_relP rfl (by have := h.2; omega) _
theorem stO_iff (h : stP l) {i j : Nat} (hi : i < l.length) : lt (stO l) i j = true ↔ j < l.length ∧ (i : Int) < rd l (j : Int) := by
 rw [stO_lt h hi]; unfold stR; simp
theorem stO_order (h : stP l) : orderP (l.length : Int) (stO l) := by
 refine orderP_of (stO_rel h) (fun i hi => ?_) (fun i j m hi hj h1 h2 => ?_)
 ·rw [stO_length] at hi
  have hc := h.1 i hi
  cases hb : lt (stO l) i i
  ·rfl
  ·have := ((stO_iff h hi).1 hb).2
   have := hc.2.1
   omega
 ·rw [stO_length] at hi hj
  have a := (stO_iff h hi).1 h1
  have b := (stO_iff h hj).1 h2
  have hc := h.1 m b.1
  have := h.mono m j b.1 (by have := hc.2.1; omega)
  exact (stO_iff h hi).2 ⟨b.1, by omega⟩
theorem not_lt_iff {b : Bool} {P : Prop} (h : b = true ↔ P) : b = false ↔ ¬ P := by rw [← h]; cases b <;> simp
theorem stO_22 (h : stP l) : No22 l.length (lt (stO l)) := fun a b c d ha hb hc hd h1 h2 h3 h4 => by
 have e1 := (stO_iff h ha).1 h1
 have e2 := (stO_iff h hc).1 h2
 have e3 := (not_lt_iff (stO_iff (j := b) h hc)).1 h3
 have e4 := (not_lt_iff (stO_iff (j := d) h ha)).1 h4
 have e3' : ¬ (c : Int) < rd l (b : Int) := fun e => e3 ⟨hb, e⟩
 have e4' : ¬ (a : Int) < rd l (d : Int) := fun e => e4 ⟨hd, e⟩
 omega
theorem stO_31 (h : stP l) : No31 l.length (lt (stO l)) := fun a b c d ha hb hc hd h1 h2 h3 _ _ _ _ _ _ h8 _ => by
 have e1 := (stO_iff h ha).1 h1
 have e2 := (stO_iff h hb).1 h2
 have e3 : ¬ (a : Int) < rd l (d : Int) := fun e => (not_lt_iff (stO_iff (j := d) h ha)).1 h3 ⟨hd, e⟩
 have e8 : ¬ (d : Int) < rd l (c : Int) := fun e => (not_lt_iff (stO_iff (j := c) h hd)).1 h8 ⟨hc, e⟩
 have := h.mono d b hd (by omega)
 omega
end
theorem free_t {L : List Int} {i j : Nat} : freeP L i j = true ↔ lt L i j = false ∧ lt L j i = false ∧ j ≠ i := by
 unfold freeP; simp [Bool.and_eq_true]; exact and_assoc
theorem semi_yes {n : Int} {L : List Int} (ho : orderP n L) (h22 : No22 L.length (lt L)) (h31 : No31 L.length (lt L)) : Ev (fun k => impl_isSemi.f k n L) true := by
 have hr := ho.1
 have hl : L.length ≤ 10 := by have := hr.1; have := hr.2.1; omega
 obtain ⟨x, hx, hx2⟩ := twoTwo_ev hr
 obtain ⟨y, hy, hy2⟩ := threeOne_ev hr
 have ex : x = [] := hx2.2 ⟨fun a ha b hb c hc d hd g => h22 a b c d ha hb hc hd g.1 g.2.1 g.2.2.1 g.2.2.2, trivial⟩
 have ey : y = [] := hy2.2 fun a ha q hq b hb p hp c hc => by
  obtain ⟨b', eb, hbl, hab⟩ := row_el hr ha hq
  obtain rfl : b = b' := by rw [eb] at hb; omega
  obtain ⟨c', ec, hcl, hbc⟩ := row_el hr hbl hp
  obtain rfl : c = c' := by rw [ec] at hc; omega
  have hs := and3_set hr ha hbl hcl
  rw [set_eq_zero hs.1]
  intro d _
  rw [hs.2]
  cases hd : (decide (d < L.length) && freeP L a d && freeP L b d && freeP L c d)
  ·rfl
  ·exfalso
   simp only [Bool.and_eq_true, decide_eq_true_eq, free_t] at hd
   obtain ⟨⟨⟨hd0, h1⟩, h2⟩, h3⟩ := hd
   exact h31 a b c d ha hbl hcl hd0 hab hbc h1.1 h1.2.1 h1.2.2 h2.1 h2.2.1 h2.2.2 h3.1 h3.2.1 h3.2.2
 have hI : Ev (fun k => impl_isInterval.f k n L) true := by
  unfold impl_isInterval.f
  exact Ev.bind (isOrder_ev _ _ (by omega)) (Ev.pos (by simpa using ho) (Ev.bind hx (Ev.ret (by rw [ex]; rfl))))
 unfold impl_isSemi.f
 exact Ev.bind hI (Ev.pos rfl (Ev.bind hy (Ev.ret (by rw [ey]; rfl))))
end Go.Proofs.YtcalgdljcphjaaaDoor.Pure
namespace Go.Proofs.YtcalgdljcphjaaaDoor.Pure
open Go.RowKit Go.Proofs.YtcalgdljcphjaaaDoor.Q Go.Proofs.YtcalgdljcphjaaaDoorW.PrintWords Go.Proofs.YtcalgdljcphjaaaDoorW.PrintLast
set_option linter.unusedVariables false
set_option linter.unusedSimpArgs false
end Go.Proofs.YtcalgdljcphjaaaDoor.Pure
namespace Go.Proofs.YtcalgdljcphjaaaDoor.Pure
open Go.RowKit Go.Proofs.YtcalgdljcphjaaaDoor.Q Go.Proofs.YtcalgdljcphjaaaDoorW.PrintWords Go.Proofs.YtcalgdljcphjaaaDoorW.PrintLast
set_option linter.unusedVariables false
set_option linter.unusedSimpArgs false
end Go.Proofs.YtcalgdljcphjaaaDoor.Pure
namespace Go.Proofs.YtcalgdljcphjaaaDoor.Pure
open Go.RowKit Go.Proofs.YtcalgdljcphjaaaDoor.Q Go.Proofs.YtcalgdljcphjaaaDoorW.PrintWords Go.Proofs.YtcalgdljcphjaaaDoorW.PrintLast
set_option linter.unusedVariables false
set_option linter.unusedSimpArgs false
end Go.Proofs.YtcalgdljcphjaaaDoor.Pure
namespace Go.Proofs.YtcalgdljcphjaaaDoor.Pure
open Go.RowKit Go.Proofs.YtcalgdljcphjaaaDoor.Q Go.Proofs.YtcalgdljcphjaaaDoorW.PrintWords Go.Proofs.YtcalgdljcphjaaaDoorW.PrintLast
set_option linter.unusedVariables false
set_option linter.unusedSimpArgs false
theorem bits_count {x : Int} {N : Nat} {p : Nat → Bool} (hN : N ≤ 10) (hb : ∀ m, bit x m = (decide (m < N) && p m)) : (bitsOf x).length = (List.range N).countP p := by
 have e : List.range 10 = List.range N ++ (List.range (10 - N)).map (N + ·) := by rw [← List.range_add]; congr 1; omega
 unfold bitsOf
 rw [List.length_map, ← List.countP_eq_length_filter, e, List.countP_append, List.countP_map]
 have h1 : (List.range N).countP (bit x) = (List.range N).countP p := List.countP_congr fun m hm => by
  rw [List.mem_range] at hm
  rw [hb]; simp [hm]
 have h2 : (List.range (10 - N)).countP (bit x ∘ (N + ·)) = 0 := by
  rw [List.countP_eq_zero]
  intro m _
  simp [hb]
  intro hh; omega
 omega
end Go.Proofs.YtcalgdljcphjaaaDoor.Pure
namespace Go.Proofs.YtcalgdljcphjaaaDoor.Pure
open Go.RowKit Go.Proofs.YtcalgdljcphjaaaDoor.Q Go.Proofs.YtcalgdljcphjaaaDoorW.PrintWords Go.Proofs.YtcalgdljcphjaaaDoorW.PrintLast
set_option linter.unusedVariables false
set_option linter.unusedSimpArgs false
end Go.Proofs.YtcalgdljcphjaaaDoor.Pure
namespace Go.Proofs.YtcalgdljcphjaaaDoor.Pure
open Go.RowKit Go.Proofs.YtcalgdljcphjaaaDoor.Q Go.Proofs.YtcalgdljcphjaaaDoorW.PrintWords Go.Proofs.YtcalgdljcphjaaaDoorW.PrintLast
set_option linter.unusedVariables false
set_option linter.unusedSimpArgs false
theorem sort_rises (l : List Int) : (l.mergeSort fun x y => decide (x ≤ y)).Pairwise (· ≤ ·) := by
 have := List.pairwise_mergeSort (le := fun x y : Int => decide (x ≤ y)) (by intro a b c h1 h2; simp at h1 h2 ⊢; omega) (by intro a b; simp; omega) l
 simpa using this
theorem count_all : ∀ x : Fin 1024, impl_count.f (x.val : Int) = some ((bitsOf (x.val : Int)).length : Int) := by decide +kernel
theorem count_f {x : Int} (hx : setP x) : impl_count.f x = some ((bitsOf x).length : Int) := by
 obtain ⟨m, rfl, hm⟩ := hx.nat
 exact count_all ⟨m, hm⟩
def cb (L : List Int) (i : Nat) : Int := ((bitsOf (dn L i)).length : Int)
theorem own_f (l : List Int) (h : l.length ≤ 1048576) : spec_l1Own.f l = some l := by
 unfold spec_l1Own.f
 simp only [Option.bind_some, List.nil_append, List.length_nil]
 rw [if_pos (by omega)]
def stairP (L : List Int) (i : Nat) (X : List Nat) : Prop := X.Perm (List.range i) ∧ X.Pairwise fun a b => cb L a ≤ cb L b
def ints (X : List Nat) : List Int := X.map fun (i : Nat) => (i : Int)
theorem ostair_l {n : Int} {L : List Int} (h : relP n L) (d : Nat) : ∀ i : Nat, i + d = L.length → Ev (fun k => impl_Order_stair.l0 k ((List.range i).map (cb L)) (dns L) ((dns L).length : Int) (i : Int)) (((List.range L.length).map (cb L)).mergeSort fun x y => decide (x ≤ y)) := by
 have h10 : L.length ≤ 10 := by have := h.1; have := h.2.1; omega
 have el := dns_length L
 induction d with
 | zero =>
  intro i hi
  obtain rfl : i = L.length := by omega
  refine Ev.shift ?_
  simp only [impl_Order_stair.l0]
  refine Ev.neg (by omega) (Ev.bindc (x := ((List.range L.length).map (cb L)).mergeSort fun x y => decide (x ≤ y)) ?_ (Ev.ret rfl))
  unfold slices_Sort_int_int.f
  rw [if_pos (by simp; omega)]
 | succ d ih =>
  intro i hi
  have hil : i < L.length := by omega
  refine Ev.shift ?_
  simp only [impl_Order_stair.l0]
  rw [dns_get L hil, wrap64_id (by omega) (by omega), cast1]
  have := ih (i + 1) (by omega)
  rw [List.range_succ, List.map_append, List.map_singleton] at this
  exact Ev.pos (by omega) (Ev.pos (by omega) (Ev.pos (by omega) (Ev.bindc (count_f (dn_set h i).1) (Ev.pos (by simp; omega) this))))
end Go.Proofs.YtcalgdljcphjaaaDoor.Pure
