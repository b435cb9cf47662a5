import Derived.Test.YtcalgdljcphjaaaDoorBFnStairs20
namespace Go.Proofs.YtcalgdljcphjaaaDoor.Pure
open Go.RowKit Go.Proofs.YtcalgdljcphjaaaDoor.Q Go.Proofs.YtcalgdljcphjaaaDoorW.PrintWords Go.Proofs.YtcalgdljcphjaaaDoorW.PrintLast
set_option linter.unusedVariables false
set_option linter.unusedSimpArgs false
theorem loopN {α : Type} (isNil : α → Prop) (N : Nat) (good : Nat → Prop) (Rest : Prop) (g : Nat → Nat → Option α)
  (hend : ∃ x, Ev (g N) x ∧ (isNil x ↔ Rest)) (hstep : ∀ i, i < N → ∀ R : Prop, (∃ x, Ev (g (i + 1)) x ∧ (isNil x ↔ R)) → ∃ x, Ev (g i) x ∧ (isNil x ↔ good i ∧ R)) :
  ∃ x, Ev (g 0) x ∧ (isNil x ↔ (∀ i, i < N → good i) ∧ Rest) := by
 have key : ∀ d i, i + d = N → ∃ x, Ev (g i) x ∧ (isNil x ↔ (∀ j, i ≤ j → j < N → good j) ∧ Rest) := by
  intro d
  induction d with
  | zero =>
   intro i hi
   obtain rfl : i = N := by omega
   obtain ⟨x, h1, h2⟩ := hend
   exact ⟨x, h1, h2.trans ⟨fun h => ⟨fun j h3 h4 => by omega, h⟩, fun h => h.2⟩⟩
  | succ d ih =>
   intro i hi
   obtain ⟨x, h1, h2⟩ := hstep i (by omega) _ (ih (i + 1) (by omega))
   refine ⟨x, h1, h2.trans ⟨fun h => ⟨fun j h3 h4 => ?_, h.2.2⟩, fun h => ⟨h.1 i (Nat.le_refl _) (by omega), fun j h3 h4 => h.1 j (by omega) h4, h.2⟩⟩⟩
   by_cases e : j = i
   ·subst e; exact h.1
   ·exact h.2.1 j (by omega) h4
 obtain ⟨x, h1, h2⟩ := key N 0 (by omega)
 exact ⟨x, h1, h2.trans ⟨fun h => ⟨fun j h3 => h.1 j (Nat.zero_le _) h3, h.2⟩, fun h => ⟨fun j _ h3 => h.1 j h3, h.2⟩⟩⟩
theorem better_lt {n : Int} {L : List Int} (h : relP n L) {i j : Nat} (hi : i < L.length) (hj : j < L.length) : impl_Order_better.f n L (i : Int) (j : Int) = some (lt L i j) :=
 better_f n L hi ⟨(h.row hi).1, (h.row hi).2.1⟩ (by have := h.1; have := h.2.1; omega)
theorem row_el {n : Int} {L : List Int} (h : relP n L) {i q : Nat} (hi : i < L.length) (hq : q < (bitsOf (rd L (i : Int))).length) : ∃ j : Nat, rd (bitsOf (rd L (i : Int))) (q : Int) = j ∧ j < L.length ∧ lt L i j = true := by
 obtain ⟨j, h1, h2, h3⟩ := h.bits (i := i) hi (j := rd (bitsOf (rd L (i : Int))) (q : Int)) (by rw [rd_lt _ q hq]; exact List.getElem_mem _)
 exact ⟨j, h1, h2, h3⟩
def bad22 (L : List Int) (a b c d : Nat) : Prop := lt L a b = true ∧ lt L c d = true ∧ lt L c b = false ∧ lt L a d = false
theorem twoTwo_ev {n : Int} {L : List Int} (h : relP n L) : ∃ x, Ev (fun k => impl_Order_twoTwo.f k n L) x ∧ (x = [] ↔ (∀ a, a < L.length → ∀ b, b < L.length → ∀ c, c < L.length → ∀ d, d < L.length → ¬ bad22 L a b c d) ∧ True) := by
 have e1 := h.2.1
 have e3 := h.1
 unfold impl_Order_twoTwo.f
 refine loopN (fun x : List Int => x = []) L.length _ True (fun (a : Nat) k => impl_Order_twoTwo.l0 k n (a : Int) n L) ⟨[], ?_, by simp⟩ (fun a ha R hR => ?_)
 ·refine Ev.shift ?_
  simp only [impl_Order_twoTwo.l0]
  exact Ev.neg (by omega) (Ev.ret rfl)
 ·have := loopN (fun x : List Int => x = []) L.length R (fun (b : Nat) k => impl_Order_twoTwo.l1 k (a : Int) n (a : Int) n (b : Int) n L) (by
   obtain ⟨x, h1, h2⟩ := hR
   refine ⟨x, Ev.shift ?_, h2⟩
   simp only [impl_Order_twoTwo.l1]
   refine Ev.neg (by omega) ?_
   rw [wrap64_id (by omega) (by omega), cast1]
   exact h1) (good := fun b => ∀ c, c < L.length → ∀ d, d < L.length → ¬ bad22 L a b c d) (fun b hb R hR => ?_)
  ·obtain ⟨x, h1, h2⟩ := this
   refine ⟨x, Ev.shift ?_, h2⟩
   simp only [impl_Order_twoTwo.l0]
   exact Ev.pos (by omega) h1
  ·have := loopN (fun x : List Int => x = []) L.length R (fun (c : Nat) k => impl_Order_twoTwo.l2 k (a : Int) (b : Int) n (a : Int) n (b : Int) n (c : Int) n L) (by
    obtain ⟨x, h1, h2⟩ := hR
    refine ⟨x, Ev.shift ?_, h2⟩
    simp only [impl_Order_twoTwo.l2]
    refine Ev.neg (by omega) ?_
    rw [wrap64_id (by omega) (by omega), cast1]
    exact h1) (good := fun c => ∀ d, d < L.length → ¬ bad22 L a b c d) (fun c hc R hR => ?_)
   ·obtain ⟨x, h1, h2⟩ := this
    refine ⟨x, Ev.shift ?_, h2⟩
    simp only [impl_Order_twoTwo.l1]
    exact Ev.pos (by omega) h1
   ·have := loopN (fun x : List Int => x = []) L.length R (fun (d : Nat) k => impl_Order_twoTwo.l3 k (a : Int) (b : Int) (c : Int) n (a : Int) n (b : Int) n (c : Int) n (d : Int) n L) (by
     obtain ⟨x, h1, h2⟩ := hR
     refine ⟨x, Ev.shift ?_, h2⟩
     simp only [impl_Order_twoTwo.l3]
     refine Ev.neg (by omega) ?_
     rw [wrap64_id (by omega) (by omega), cast1]
     exact h1) (good := fun d => ¬ bad22 L a b c d) (fun d hd R hR => ?_)
    ·obtain ⟨x, h1, h2⟩ := this
     refine ⟨x, Ev.shift ?_, h2⟩
     simp only [impl_Order_twoTwo.l2]
     exact Ev.pos (by omega) h1
    ·obtain ⟨x, h1, h2⟩ := hR
     have w := wrap64_id (x := (d : Int) + 1) (by omega) (by omega)
     by_cases c1 : lt L a b = true
     ·by_cases c2 : lt L c d = true
      ·by_cases c3 : lt L c b = true
       ·refine ⟨x, Ev.shift ?_, h2.trans ⟨fun r => ⟨fun hb => (by rw [hb.2.2.1] at c3; cases c3), r⟩, fun r => r.2⟩⟩
        simp only [impl_Order_twoTwo.l3]
        rw [w, cast1]
        exact Ev.pos (by omega) (Ev.bindc (better_lt h ha hb) (Ev.pos c1 (Ev.bindc (better_lt h hc hd) (Ev.pos c2 (Ev.bindc (better_lt h hc hb) (Ev.pos c3 h1))))))
       ·by_cases c4 : lt L a d = true
        ·refine ⟨x, Ev.shift ?_, h2.trans ⟨fun r => ⟨fun hb => (by rw [hb.2.2.2] at c4; cases c4), r⟩, fun r => r.2⟩⟩
         simp only [impl_Order_twoTwo.l3]
         rw [w, cast1]
         exact Ev.pos (by omega) (Ev.bindc (better_lt h ha hb) (Ev.pos c1 (Ev.bindc (better_lt h hc hd) (Ev.pos c2 (Ev.bindc (better_lt h hc hb) (Ev.neg c3 (Ev.bindc (better_lt h ha hd) (Ev.pos c4 h1))))))))
        ·refine ⟨[(a : Int), (b : Int), (c : Int), (d : Int)], Ev.shift ?_, ⟨fun r => (by cases r), fun r => (r.1 ⟨c1, c2, by simpa using c3, by simpa using c4⟩).elim⟩⟩
         simp only [impl_Order_twoTwo.l3]
         exact Ev.pos (by omega) (Ev.bindc (better_lt h ha hb) (Ev.pos c1 (Ev.bindc (better_lt h hc hd) (Ev.pos c2 (Ev.bindc (better_lt h hc hb) (Ev.neg c3 (Ev.bindc (better_lt h ha hd) (Ev.neg c4 (Ev.ret rfl)))))))))
      ·refine ⟨x, Ev.shift ?_, h2.trans ⟨fun r => ⟨fun hb => c2 hb.2.1, r⟩, fun r => r.2⟩⟩
       simp only [impl_Order_twoTwo.l3]
       rw [w, cast1]
       exact Ev.pos (by omega) (Ev.bindc (better_lt h ha hb) (Ev.pos c1 (Ev.bindc (better_lt h hc hd) (Ev.neg c2 h1))))
     ·refine ⟨x, Ev.shift ?_, h2.trans ⟨fun r => ⟨fun hb => c1 hb.1, r⟩, fun r => r.2⟩⟩
      simp only [impl_Order_twoTwo.l3]
      rw [w, cast1]
      exact Ev.pos (by omega) (Ev.bindc (better_lt h ha hb) (Ev.neg c1 h1))
theorem mirror_ev {n : Int} {L : List Int} (h : relP n L) : Ev (fun k => impl_Order_mirror.f k n L) (n, rel (fun i j => lt L j i) L.length) := by
 have e1 := h.2.1
 have e3 := h.1
 unfold impl_Order_mirror.f
 have hrel := relation_ev (fun i j => lt L j i) L.length (by omega) (fun _ u0_ u1_ => impl_Order_mirror_1.f u0_ u1_ n L) (fun i j hi hj => Ev.const (by
  unfold impl_Order_mirror_1.f
  rw [better_f n L hj (h.set hj) (by omega), Option.bind_some]; rfl))
 rw [e1] at hrel
 exact Ev.bind hrel (Ev.ret rfl)
theorem all_f {n : Int} {L : List Int} (h : relP n L) : impl_Order_all.f n L = some (full n) := by
 unfold impl_Order_all.f
 rw [if_pos h.1.1]; rfl
def freeP (L : List Int) (i j : Nat) : Bool := !lt L i j && !lt L j i && !decide (j = i)
theorem near_val {n : Int} {L : List Int} (h : relP n L) {i : Nat} (hi : i < L.length) :
  Go.bits .andNot .i64 (Go.bits .andNot .i64 (Go.bits .andNot .i64 (full n) (rd L (i : Int))) (rd (rel (fun i j => lt L j i) L.length) (i : Int))) (shl .i64 1 (i : Int)) = rowf (freeP L i) L.length := by
 have e1 := h.2.1
 have e3 := h.1
 have hf := set_full (n := L.length) (by omega)
 rw [e1] at hf
 have hm := rel_set (p := fun i j => lt L j i) (n := L.length) (by omega) hi
 have hm2 := rel_lt (p := fun i j => lt L j i) (n := L.length) (by omega) hi
 have a1 := set_andNot hf.1 (h.set hi)
 have a2 := set_andNot a1.1 hm
 have a3 := set_andNot a2.1 (set_shl (j := i) (by omega)).1
 have hr := rowf_bits (freeP L i) L.length (by omega)
 refine set_ext a3.1 hr.1 (fun j hj => ?_)
 rw [a3.2, a2.2, a1.2, hf.2, (set_shl (j := i) (by omega)).2, hr.2]
 rw [show bit (rd (rel (fun i j => lt L j i) L.length) (i : Int)) j = (decide (j < L.length) && lt L j i) from hm2 j]
 unfold freeP lt
 by_cases hjn : j < L.length
 ·simp [hjn]
  try (cases bit (rd L (i : Int)) j <;> cases bit (rd L (j : Int)) i <;> simp)
 ·simp [hjn]
theorem near_l {n : Int} {L : List Int} (h : relP n L) (d : Nat) : ∀ (i : Nat), i + d = L.length → Ev (fun k => impl_Order_indifferent.l0 k ((rel (freeP L) L.length).take i) n (i : Int) n L n (rel (fun i j => lt L j i) L.length)) (rel (freeP L) L.length) := by
 have e1 := h.2.1
 have e3 := h.1
 induction d with
 | zero =>
  intro i hi
  refine Ev.shift ?_
  simp only [impl_Order_indifferent.l0]
  exact Ev.neg (by omega) (Ev.ret (by rw [List.take_of_length_le (by rw [rel_length]; omega)]))
 | succ d ih =>
  intro i hi
  have := ih (i + 1) (by omega)
  rw [List.take_succ_eq_append_getElem (by rw [rel_length]; omega), ← rd_lt _ i (by rw [rel_length]; omega), rel_get _ _ i (by omega)] at this
  refine Ev.shift ?_
  simp only [impl_Order_indifferent.l0]
  refine Ev.pos (by omega) (Ev.bindc (all_f h) (Ev.pos (by omega) (Ev.pos (by omega) (Ev.pos (by rw [rel_length]; omega) (Ev.pos (by rw [List.length_take, rel_length]; omega) ?_)))))
  rw [wrap64_id (by omega) (by omega), cast1, near_val h (by omega)]
  exact this
theorem near_ev {n : Int} {L : List Int} (h : relP n L) : Ev (fun k => impl_Order_indifferent.f k n L) (rel (freeP L) L.length) := by
 unfold impl_Order_indifferent.f
 exact Ev.bind (mirror_ev h) (near_l h L.length 0 (by omega))
def and3 (L : List Int) (a b c : Nat) : Int := Go.bits .and .i64 (Go.bits .and .i64 (rd (rel (freeP L) L.length) (a : Int)) (rd (rel (freeP L) L.length) (b : Int))) (rd (rel (freeP L) L.length) (c : Int))
theorem and3_set {n : Int} {L : List Int} (h : relP n L) {a b c : Nat} (ha : a < L.length) (hb : b < L.length) (hc : c < L.length) : setP (and3 L a b c) ∧ ∀ d, bit (and3 L a b c) d = (decide (d < L.length) && freeP L a d && freeP L b d && freeP L c d) := by
 have h10 : L.length ≤ 10 := by have := h.1; have := h.2.1; omega
 have fa := rel_set (p := freeP L) h10 ha
 have fb := rel_set (p := freeP L) h10 hb
 have fc := rel_set (p := freeP L) h10 hc
 have la := rel_lt (p := freeP L) h10 ha
 have lb := rel_lt (p := freeP L) h10 hb
 have lc := rel_lt (p := freeP L) h10 hc
 unfold lt at la lb lc
 have o1 := set_and fa fb
 have o2 := set_and o1.1 fc
 refine ⟨o2.1, fun d => ?_⟩
 unfold and3
 rw [o2.2, o1.2, la, lb, lc]
 by_cases hd : d < L.length <;> simp [hd]
def look31 (L : List Int) : Prop := ∀ a, a < L.length → ∀ q, q < (bitsOf (rd L (a : Int))).length → ∀ b : Nat, rd (bitsOf (rd L (a : Int))) (q : Int) = b → ∀ p, p < (bitsOf (rd L (b : Int))).length → ∀ c : Nat, rd (bitsOf (rd L (b : Int))) (p : Int) = c → and3 L a b c = 0
theorem threeOne_ev {n : Int} {L : List Int} (h : relP n L) : ∃ x, Ev (fun k => impl_Order_threeOne.f k n L) x ∧ (x = [] ↔ look31 L) := by
 have e1 := h.2.1
 have e3 := h.1
 have el := rel_length (freeP L) L.length
 suffices ∃ x, Ev (fun k => impl_Order_threeOne.l0 k (rel (freeP L) L.length) n 0 n L) x ∧ (x = [] ↔ look31 L ∧ True) by
  obtain ⟨x, h1, h2⟩ := this
  refine ⟨x, ?_, h2.trans ⟨fun r => r.1, fun r => ⟨r, trivial⟩⟩⟩
  unfold impl_Order_threeOne.f
  exact Ev.bind (near_ev h) h1
 refine loopN (fun x : List Int => x = []) L.length _ True (fun (a : Nat) k => impl_Order_threeOne.l0 k (rel (freeP L) L.length) n (a : Int) n L) ⟨[], ?_, by simp⟩ (fun a ha R hR => ?_)
 ·refine Ev.shift ?_
  simp only [impl_Order_threeOne.l0]
  exact Ev.neg (by omega) (Ev.ret rfl)
 ·have hs := h.set (i := a) ha
  have hbl := bitsOf_len (rd L (a : Int))
  have := loopN (fun x : List Int => x = []) (bitsOf (rd L (a : Int))).length R (fun (q : Nat) k => impl_Order_threeOne.l1 k (rel (freeP L) L.length) (a : Int) n (a : Int) (bitsOf (rd L (a : Int))) ((bitsOf (rd L (a : Int))).length : Int) (q : Int) n L) (by
   obtain ⟨x, h1, h2⟩ := hR
   refine ⟨x, Ev.shift ?_, h2⟩
   simp only [impl_Order_threeOne.l1]
   refine Ev.neg (by omega) ?_
   rw [wrap64_id (by omega) (by omega), cast1]
   exact h1) (good := fun q => ∀ b : Nat, rd (bitsOf (rd L (a : Int))) (q : Int) = b → ∀ p, p < (bitsOf (rd L (b : Int))).length → ∀ c : Nat, rd (bitsOf (rd L (b : Int))) (p : Int) = c → and3 L a b c = 0) (fun q hq R hR => ?_)
  ·obtain ⟨x, h1, h2⟩ := this
   refine ⟨x, Ev.shift ?_, h2⟩
   simp only [impl_Order_threeOne.l0]
   exact Ev.pos (by omega) (Ev.pos (by omega) (Ev.pos (by omega) (Ev.bind (members_ev hs.1 hs.2) h1)))
  ·obtain ⟨b, eb, hb, hab⟩ := row_el h ha hq
   have hs2 := h.set (i := b) hb
   have hbl2 := bitsOf_len (rd L (b : Int))
   have := loopN (fun x : List Int => x = []) (bitsOf (rd L (b : Int))).length R (fun (p : Nat) k => impl_Order_threeOne.l2 k (rel (freeP L) L.length) (a : Int) (b : Int) n (a : Int) (bitsOf (rd L (a : Int))) ((bitsOf (rd L (a : Int))).length : Int) (q : Int) (bitsOf (rd L (b : Int))) ((bitsOf (rd L (b : Int))).length : Int) (p : Int) n L) (by
    obtain ⟨x, h1, h2⟩ := hR
    refine ⟨x, Ev.shift ?_, h2⟩
    simp only [impl_Order_threeOne.l2]
    refine Ev.neg (by omega) ?_
    rw [wrap64_id (by omega) (by omega), cast1]
    exact h1) (good := fun p => ∀ c : Nat, rd (bitsOf (rd L (b : Int))) (p : Int) = c → and3 L a b c = 0) (fun p hp R hR => ?_)
   ·obtain ⟨x, h1, h2⟩ := this
    refine ⟨x, Ev.shift ?_, h2.trans ⟨fun r => ⟨fun b' eb' => ?_, r.2⟩, fun r => ⟨r.1 b eb, r.2⟩⟩⟩
    ·simp only [impl_Order_threeOne.l1]
     rw [eb]
     exact Ev.pos (by omega) (Ev.pos (by omega) (Ev.pos (by omega) (Ev.pos (by omega) (Ev.pos (by omega) (Ev.bind (members_ev hs2.1 hs2.2) h1)))))
    ·obtain rfl : b' = b := by omega
     exact r.1
   ·obtain ⟨c, ec, hc, hbc⟩ := row_el h hb hp
    obtain ⟨x, h1, h2⟩ := hR
    have p1 : (p : Int) < ((bitsOf (rd L (b : Int))).length : Int) := by omega
    have p0 : (0 : Int) ≤ (p : Int) := by omega
    have a0 : (0 : Int) ≤ (a : Int) := by omega
    have b0 : (0 : Int) ≤ (b : Int) := by omega
    have c0 : (0 : Int) ≤ (c : Int) := by omega
    have a1 : (a : Int) < ((rel (freeP L) L.length).length : Int) := by rw [el]; omega
    have b1 : (b : Int) < ((rel (freeP L) L.length).length : Int) := by rw [el]; omega
    have c1 : (c : Int) < ((rel (freeP L) L.length).length : Int) := by rw [el]; omega
    have ha3 := and3_set h ha hb hc
    by_cases hz : and3 L a b c = 0
    ·refine ⟨x, Ev.shift ?_, h2.trans ⟨fun r => ⟨fun c' ec' => ?_, r⟩, fun r => r.2⟩⟩
     ·simp only [impl_Order_threeOne.l2]
      rw [ec, wrap64_id (x := (p : Int) + 1) (by omega) (by omega), cast1]
      exact Ev.pos p1 (Ev.pos p0 (Ev.pos p1 (Ev.pos a0 (Ev.pos a1 (Ev.pos b0 (Ev.pos b1 (Ev.pos c0 (Ev.pos c1 (Ev.pos hz h1)))))))))
     ·obtain rfl : c' = c := by omega
      exact hz
    ·have hne : bitsOf (and3 L a b c) ≠ [] := fun e => hz ((bitsOf_nil ha3.1).1 e)
     have hpos : (0 : Int) < ((bitsOf (and3 L a b c)).length : Int) := by have := List.length_pos_iff.2 hne; omega
     refine ⟨[(a : Int), (b : Int), (c : Int), rd (bitsOf (and3 L a b c)) 0], Ev.shift ?_, ⟨fun r => (by cases r), fun r => (hz (r.1 c ec)).elim⟩⟩
     simp only [impl_Order_threeOne.l2]
     rw [ec]
     exact Ev.pos p1 (Ev.pos p0 (Ev.pos p1 (Ev.pos a0 (Ev.pos a1 (Ev.pos b0 (Ev.pos b1 (Ev.pos c0 (Ev.pos c1 (Ev.neg hz (Ev.bind (members_ev ha3.1.1 ha3.1.2) (Ev.pos hpos (Ev.ret rfl))))))))))))
end Go.Proofs.YtcalgdljcphjaaaDoor.Pure
namespace Go.Proofs.YtcalgdljcphjaaaDoor.Pure
set_option linter.unusedVariables false
set_option linter.unusedSimpArgs false
-- plain
theorem cnt_le {n : Nat} {p q : Nat → Bool} (h : ∀ x, x < n → p x = true → q x = true) : (List.range n).countP p ≤ (List.range n).countP q := by
 induction n with
 | zero => simp
 | succ n ih =>
  have h1 := ih (fun x hx => h x (by omega))
  have h2 := h n (by omega)
  rw [List.range_succ, List.countP_append, List.countP_append, List.countP_singleton, List.countP_singleton]
  by_cases hp : p n = true
  ·rw [if_pos hp, if_pos (h2 hp)]; omega
  ·rw [if_neg hp]; split <;> omega
-- plain
structure Ord (n : Nat) (r : Nat → Nat → Bool) : Prop where
 irr : ∀ i, i < n → r i i = false
 trans : ∀ i j m, i < n → j < n → m < n → r i j = true → r j m = true → r i m = true
section
variable {n : Nat} {r : Nat → Nat → Bool}
theorem Ord.asym (h : Ord n r) {i j : Nat} (hi : i < n) (hj : j < n) (h1 : r i j = true) : r j i = false := by
 cases hb : r j i
 ·rfl
 ·have := h.trans i j i hi hj hi h1 hb; rw [h.irr i hi] at this; cases this
def No22 (n : Nat) (r : Nat → Nat → Bool) : Prop := ∀ a b c d, a < n → b < n → c < n → d < n → r a b = true → r c d = true → r c b = false → r a d = false → False
def No31 (n : Nat) (r : Nat → Nat → Bool) : Prop := ∀ a b c d, a < n → b < n → c < n → d < n → r a b = true → r b c = true → r a d = false → r d a = false → d ≠ a → r b d = false → r d b = false → d ≠ b → r c d = false → r d c = false → d ≠ c → False
def No21 (n : Nat) (r : Nat → Nat → Bool) : Prop := ∀ a b c, a < n → b < n → c < n → r a b = true → r a c = false → r c a = false → c ≠ a → r b c = false → r c b = false → c ≠ b → False
def trR (n : Nat) (r : Nat → Nat → Bool) (i j : Nat) : Prop := (∃ x, x < n ∧ r x j = true ∧ r x i = false) ∨ (∃ y, y < n ∧ r i y = true ∧ r j y = false)
def num (n : Nat) (r : Nat → Nat → Bool) (i : Nat) : Int := ((List.range n).countP (fun x => r x i) : Int) - ((List.range n).countP (fun y => r i y) : Int)
end
end Go.Proofs.YtcalgdljcphjaaaDoor.Pure
namespace Go.Proofs.YtcalgdljcphjaaaDoor.Pure
open Go.RowKit Go.Proofs.YtcalgdljcphjaaaDoor.Q Go.Proofs.YtcalgdljcphjaaaDoorW.PrintWords Go.Proofs.YtcalgdljcphjaaaDoorW.PrintLast
set_option linter.unusedVariables false
set_option linter.unusedSimpArgs false
def badS (L : List Int) (a b c d : Nat) : Prop := freeP L a d = true ∧ freeP L c b = true
def dn (L : List Int) (i : Nat) : Int := rowf (fun j => lt L j i) L.length
def dns (L : List Int) : List Int := rel (fun i j => lt L j i) L.length
theorem dns_length (L : List Int) : (dns L).length = L.length := rel_length _ _
theorem dns_get (L : List Int) {i : Nat} (hi : i < L.length) : rd (dns L) (i : Int) = dn L i := rel_get _ _ i hi
theorem dn_set {n : Int} {L : List Int} (h : relP n L) (i : Nat) : setP (dn L i) ∧ ∀ m, bit (dn L i) m = (decide (m < L.length) && lt L m i) := rowf_bits _ _ (by have := h.1; have := h.2.1; omega)
end Go.Proofs.YtcalgdljcphjaaaDoor.Pure
