import Derived.Test.YtmoemabbmjdhgaaDoorBFnThresholds20
import Derived.Test.YtmoemabbmjdhgaaDoorBFnThresholds29
namespace Go.Proofs.YtmoemabbmjdhgaaDoor.Pure
open Go.RowKit Go.Proofs.YtmoemabbmjdhgaaDoor.Q Go.Proofs.YtmoemabbmjdhgaaDoorW.PrintWords Go.Proofs.YtmoemabbmjdhgaaDoorW.PrintLast
set_option linter.unusedVariables false
set_option linter.unusedSimpArgs false
theorem free_ev {n : Int} {L : List Int} (h : relP n L) {i : Nat} (hi : i < L.length) : Ev (fun k => spec_orFree.f k n L (i : Int)) (rowf (freeP L i) L.length) := by
 have e1 := h.2.1
 have e3 := h.1
 unfold spec_orFree.f
 refine Ev.pos h.1.1 (Ev.pos (by omega) (Ev.pos (by omega) (Ev.bind (below_ev h hi) (Ev.ret ?_))))
 have hf := set_full (n := L.length) (by omega)
 rw [e1] at hf
 have hb := rowf_bits (fun j => lt L j i) L.length (by omega)
 have o1 := set_or (h.set hi) hb.1
 have o2 := set_or o1.1 (set_shl (j := i) (by omega)).1
 have a1 := set_andNot hf.1 o2.1
 have hr := rowf_bits (freeP L i) L.length (by omega)
 refine set_ext a1.1 hr.1 (fun j hj => ?_)
 show bit (Go.bits .andNot .i64 (full n) _) j = _
 rw [a1.2, o2.2, o1.2, hb.2, hf.2, (set_shl (j := i) (by omega)).2, hr.2]
 unfold freeP lt
 by_cases hjn : j < L.length
 ·simp [hjn]
  try (cases bit (rd L (i : Int)) j <;> cases bit (rd L (j : Int)) i <;> simp)
 ·simp [hjn]
theorem indiff_ev {n : Int} {L : List Int} (h : relP n L) {i j : Nat} (hi : i < L.length) (hj : j < L.length) : Ev (fun k => spec_seIndifferent.f k n L (i : Int) (j : Int)) (freeP L i j) := by
 have h10 : L.length ≤ 10 := by have := h.1; have := h.2.1; omega
 have fb := rowf_bits (freeP L i) L.length h10
 unfold spec_seIndifferent.f
 refine Ev.bind (free_ev h hi) (Ev.bindc (orHas_f fb.1.1 fb.1.2 (by omega)) (Ev.ret ?_))
 rw [fb.2]; simp [hj]
theorem setwo_ev {n : Int} {L : List Int} (h : relP n L) : ∃ x, Ev (fun k => spec_seTwoTwo.f k n L) x ∧ (x = false ↔ (∀ a, a < L.length → ∀ q, q < (bitsOf (rd L (a : Int))).length → ∀ c, c < L.length → ∀ p, p < (bitsOf (rd L (c : Int))).length → ∀ b : Nat, rd (bitsOf (rd L (a : Int))) (q : Int) = b → ∀ d : Nat, rd (bitsOf (rd L (c : Int))) (p : Int) = d → ¬ badS L a b c d) ∧ True) := by
 have e1 := h.2.1
 have e3 := h.1
 unfold spec_seTwoTwo.f
 refine loopN (fun x : Bool => x = false) L.length _ True (fun (a : Nat) k => spec_seTwoTwo.l0 k (a : Int) n L) ⟨false, ?_, by simp⟩ (fun a ha R hR => ?_)
 ·refine Ev.shift ?_
  simp only [spec_seTwoTwo.l0]
  exact Ev.neg (by omega) (Ev.ret rfl)
 ·have hs := h.set (i := a) ha
  have hbl := bitsOf_len (rd L (a : Int))
  have := loopN (fun x : Bool => x = false) (bitsOf (rd L (a : Int))).length R (fun (q : Nat) k => spec_seTwoTwo.l1 k (a : Int) (bitsOf (rd L (a : Int))) ((bitsOf (rd L (a : Int))).length : Int) (q : Int) n L) (by
   obtain ⟨x, h1, h2⟩ := hR
   refine ⟨x, Ev.shift ?_, h2⟩
   simp only [spec_seTwoTwo.l1]
   refine Ev.neg (by omega) ?_
   rw [wrap64_id (by omega) (by omega), cast1]
   exact h1) (good := fun q => ∀ c, c < L.length → ∀ p, p < (bitsOf (rd L (c : Int))).length → ∀ b : Nat, rd (bitsOf (rd L (a : Int))) (q : Int) = b → ∀ d : Nat, rd (bitsOf (rd L (c : Int))) (p : Int) = d → ¬ badS L a b c d) (fun q hq R hR => ?_)
  ·obtain ⟨x, h1, h2⟩ := this
   refine ⟨x, Ev.shift ?_, h2⟩
   simp only [spec_seTwoTwo.l0]
   exact Ev.pos (by omega) (Ev.pos (by omega) (Ev.pos (by omega) (Ev.bind (orList_ev hs.1 hs.2) h1)))
  ·obtain ⟨b, eb, hb, hab⟩ := row_el h ha hq
   have := loopN (fun x : Bool => x = false) L.length R (fun (c : Nat) k => spec_seTwoTwo.l2 k (a : Int) (b : Int) (c : Int) (bitsOf (rd L (a : Int))) ((bitsOf (rd L (a : Int))).length : Int) (q : Int) n L) (by
    obtain ⟨x, h1, h2⟩ := hR
    refine ⟨x, Ev.shift ?_, h2⟩
    simp only [spec_seTwoTwo.l2]
    refine Ev.neg (by omega) ?_
    rw [wrap64_id (by omega) (by omega), cast1]
    exact h1) (good := fun c => ∀ p, p < (bitsOf (rd L (c : Int))).length → ∀ b' : Nat, rd (bitsOf (rd L (a : Int))) (q : Int) = b' → ∀ d : Nat, rd (bitsOf (rd L (c : Int))) (p : Int) = d → ¬ badS L a b' c d) (fun c hc R hR => ?_)
   ·obtain ⟨x, h1, h2⟩ := this
    refine ⟨x, Ev.shift ?_, h2⟩
    simp only [spec_seTwoTwo.l1]
    rw [eb]
    exact Ev.pos (by omega) (Ev.pos (by omega) (Ev.pos (by omega) h1))
   ·have hs2 := h.set (i := c) hc
    have hbl2 := bitsOf_len (rd L (c : Int))
    have := loopN (fun x : Bool => x = false) (bitsOf (rd L (c : Int))).length R (fun (p : Nat) k => spec_seTwoTwo.l3 k (a : Int) (b : Int) (c : Int) (bitsOf (rd L (a : Int))) ((bitsOf (rd L (a : Int))).length : Int) (q : Int) (bitsOf (rd L (c : Int))) ((bitsOf (rd L (c : Int))).length : Int) (p : Int) n L) (by
     obtain ⟨x, h1, h2⟩ := hR
     refine ⟨x, Ev.shift ?_, h2⟩
     simp only [spec_seTwoTwo.l3]
     refine Ev.neg (by omega) ?_
     rw [wrap64_id (by omega) (by omega), cast1]
     exact h1) (good := fun p => ∀ b' : Nat, rd (bitsOf (rd L (a : Int))) (q : Int) = b' → ∀ d : Nat, rd (bitsOf (rd L (c : Int))) (p : Int) = d → ¬ badS L a b' c d) (fun p hp R hR => ?_)
    ·obtain ⟨x, h1, h2⟩ := this
     refine ⟨x, Ev.shift ?_, h2⟩
     simp only [spec_seTwoTwo.l2]
     exact Ev.pos (by omega) (Ev.pos (by omega) (Ev.pos (by omega) (Ev.bind (orList_ev hs2.1 hs2.2) h1)))
    ·obtain ⟨d, ed, hd, hcd⟩ := row_el h hc hp
     obtain ⟨x, h1, h2⟩ := hR
     have p1 : (p : Int) < ((bitsOf (rd L (c : Int))).length : Int) := by omega
     have p0 : (0 : Int) ≤ (p : Int) := by omega
     have w := wrap64_id (x := (p : Int) + 1) (by omega) (by omega)
     have gd : (∀ b' : Nat, rd (bitsOf (rd L (a : Int))) (q : Int) = b' → ∀ d : Nat, rd (bitsOf (rd L (c : Int))) (p : Int) = d → ¬ badS L a b' c d) ↔ ¬ badS L a b c d := by
      constructor
      ·intro r; exact r b eb d ed
      ·intro r b' eb' d' ed'
       obtain rfl : b' = b := by omega
       obtain rfl : d' = d := by omega
       exact r
     by_cases c1 : freeP L a d = true
     ·by_cases c2 : freeP L c b = true
      ·refine ⟨true, Ev.shift ?_, ⟨fun r => (by cases r), fun r => (gd.1 r.1 ⟨c1, c2⟩).elim⟩⟩
       simp only [spec_seTwoTwo.l3]
       rw [ed]
       exact Ev.pos p1 (Ev.pos p0 (Ev.pos p1 (Ev.bind (indiff_ev h ha hd) (Ev.pos c1 (Ev.bind (indiff_ev h hc hb) (Ev.pos c2 (Ev.ret rfl)))))))
      ·refine ⟨x, Ev.shift ?_, h2.trans ⟨fun r => ⟨gd.2 fun hb => c2 hb.2, r⟩, fun r => r.2⟩⟩
       simp only [spec_seTwoTwo.l3]
       rw [ed, w, cast1]
       exact Ev.pos p1 (Ev.pos p0 (Ev.pos p1 (Ev.bind (indiff_ev h ha hd) (Ev.pos c1 (Ev.bind (indiff_ev h hc hb) (Ev.neg c2 h1))))))
     ·refine ⟨x, Ev.shift ?_, h2.trans ⟨fun r => ⟨gd.2 fun hb => c1 hb.1, r⟩, fun r => r.2⟩⟩
      simp only [spec_seTwoTwo.l3]
      rw [ed, w, cast1]
      exact Ev.pos p1 (Ev.pos p0 (Ev.pos p1 (Ev.bind (indiff_ev h ha hd) (Ev.neg c1 h1))))
theorem threeS_ev {n : Int} {L : List Int} (h : relP n L) : ∃ x, Ev (fun k => spec_ThreeOneOf.l0 k 0 n L) x ∧ (x.2 = false ↔ look31 L ∧ True) := by
 have e1 := h.2.1
 have e3 := h.1
 refine loopN (fun x : List Int × Bool => x.2 = false) L.length _ True (fun (a : Nat) k => spec_ThreeOneOf.l0 k (a : Int) n L) ⟨([], false), ?_, by simp⟩ (fun a ha R hR => ?_)
 ·refine Ev.shift ?_
  simp only [spec_ThreeOneOf.l0]
  exact Ev.neg (by omega) (Ev.ret rfl)
 ·have hs := h.set (i := a) ha
  have hbl := bitsOf_len (rd L (a : Int))
  have := loopN (fun x : List Int × Bool => x.2 = false) (bitsOf (rd L (a : Int))).length R (fun (q : Nat) k => spec_ThreeOneOf.l1 k (a : Int) (bitsOf (rd L (a : Int))) ((bitsOf (rd L (a : Int))).length : Int) (q : Int) n L) (by
   obtain ⟨x, h1, h2⟩ := hR
   refine ⟨x, Ev.shift ?_, h2⟩
   simp only [spec_ThreeOneOf.l1]
   refine Ev.neg (by omega) ?_
   rw [wrap64_id (by omega) (by omega), cast1]
   exact h1) (good := fun q => ∀ b : Nat, rd (bitsOf (rd L (a : Int))) (q : Int) = b → ∀ p, p < (bitsOf (rd L (b : Int))).length → ∀ c : Nat, rd (bitsOf (rd L (b : Int))) (p : Int) = c → and3 L a b c = 0) (fun q hq R hR => ?_)
  ·obtain ⟨x, h1, h2⟩ := this
   refine ⟨x, Ev.shift ?_, h2⟩
   simp only [spec_ThreeOneOf.l0]
   exact Ev.pos (by omega) (Ev.pos (by omega) (Ev.pos (by omega) (Ev.bind (orList_ev hs.1 hs.2) h1)))
  ·obtain ⟨b, eb, hb, hab⟩ := row_el h ha hq
   have hs2 := h.set (i := b) hb
   have hbl2 := bitsOf_len (rd L (b : Int))
   have := loopN (fun x : List Int × Bool => x.2 = false) (bitsOf (rd L (b : Int))).length R (fun (p : Nat) k => spec_ThreeOneOf.l2 k (a : Int) (b : Int) (bitsOf (rd L (a : Int))) ((bitsOf (rd L (a : Int))).length : Int) (q : Int) (bitsOf (rd L (b : Int))) ((bitsOf (rd L (b : Int))).length : Int) (p : Int) n L) (by
    obtain ⟨x, h1, h2⟩ := hR
    refine ⟨x, Ev.shift ?_, h2⟩
    simp only [spec_ThreeOneOf.l2]
    refine Ev.neg (by omega) ?_
    rw [wrap64_id (by omega) (by omega), cast1]
    exact h1) (good := fun p => ∀ c : Nat, rd (bitsOf (rd L (b : Int))) (p : Int) = c → and3 L a b c = 0) (fun p hp R hR => ?_)
   ·obtain ⟨x, h1, h2⟩ := this
    refine ⟨x, Ev.shift ?_, h2.trans ⟨fun r => ⟨fun b' eb' => ?_, r.2⟩, fun r => ⟨r.1 b eb, r.2⟩⟩⟩
    ·simp only [spec_ThreeOneOf.l1]
     rw [eb]
     exact Ev.pos (by omega) (Ev.pos (by omega) (Ev.pos (by omega) (Ev.pos (by omega) (Ev.pos (by omega) (Ev.bind (orList_ev hs2.1 hs2.2) h1)))))
    ·obtain rfl : b' = b := by omega
     exact r.1
   ·obtain ⟨c, ec, hc, hbc⟩ := row_el h hb hp
    obtain ⟨x, h1, h2⟩ := hR
    have p1 : (p : Int) < ((bitsOf (rd L (b : Int))).length : Int) := by omega
    have p0 : (0 : Int) ≤ (p : Int) := by omega
    have ha3 := and3_set h ha hb hc
    have g1 := rel_get (freeP L) L.length a ha
    have g2 := rel_get (freeP L) L.length b hb
    have g3 := rel_get (freeP L) L.length c hc
    have hbl3 := bitsOf_len (and3 L a b c)
    have step : ∀ y, Ev (fun k => spec_ThreeOneOf.l3 k (a : Int) (b : Int) (c : Int) (bitsOf (rd L (a : Int))) ((bitsOf (rd L (a : Int))).length : Int) (q : Int) (bitsOf (rd L (b : Int))) ((bitsOf (rd L (b : Int))).length : Int) (p : Int) (bitsOf (and3 L a b c)) ((bitsOf (and3 L a b c)).length : Int) 0 n L) y → Ev (fun k => spec_ThreeOneOf.l2 k (a : Int) (b : Int) (bitsOf (rd L (a : Int))) ((bitsOf (rd L (a : Int))).length : Int) (q : Int) (bitsOf (rd L (b : Int))) ((bitsOf (rd L (b : Int))).length : Int) (p : Int) n L) y := fun y hy => by
     refine Ev.shift ?_
     simp only [spec_ThreeOneOf.l2]
     rw [ec]
     refine Ev.pos p1 (Ev.pos p0 (Ev.pos p1 (Ev.bind (free_ev h ha) (Ev.bind (free_ev h hb) (Ev.bind (free_ev h hc) ?_)))))
     rw [← g1, ← g2, ← g3]
     exact Ev.bind (orList_ev ha3.1.1 ha3.1.2) hy
    by_cases hz : and3 L a b c = 0
    ·refine ⟨x, step x (Ev.shift ?_), h2.trans ⟨fun r => ⟨fun c' ec' => ?_, r⟩, fun r => r.2⟩⟩
     ·rw [(bitsOf_nil ha3.1).2 hz]
      simp only [spec_ThreeOneOf.l3]
      refine Ev.neg (by simp) ?_
      rw [wrap64_id (x := (p : Int) + 1) (by omega) (by omega), cast1]
      exact h1
     ·obtain rfl : c' = c := by omega
      exact hz
    ·have hne : bitsOf (and3 L a b c) ≠ [] := fun e => hz ((bitsOf_nil ha3.1).1 e)
     have hpos : (0 : Int) < ((bitsOf (and3 L a b c)).length : Int) := by have := List.length_pos_iff.2 hne; omega
     refine ⟨([(a : Int), (b : Int), (c : Int), rd (bitsOf (and3 L a b c)) 0], true), step _ (Ev.shift ?_), ⟨fun r => (by cases r), fun r => (hz (r.1 c ec)).elim⟩⟩
     simp only [spec_ThreeOneOf.l3]
     exact Ev.pos hpos (Ev.pos (by omega) (Ev.pos hpos (Ev.ret rfl)))
theorem semi_both (n : Int) (L : List Int) (hL : L.length ≤ 1048576) : ∃ b, Ev (fun k => impl_isSemi.f k n L) b ∧ Ev (fun k => spec_seGood.f k n L) b ∧ (b = true → orderP n L ∧ No22 L.length (lt L) ∧ No31 L.length (lt L)) := by
 by_cases h : orderP n L
 ·obtain ⟨x, x1, x2⟩ := twoTwo_ev h.1
  obtain ⟨y, y1, y2⟩ := setwo_ev h.1
  obtain ⟨z, z1, z2⟩ := threeOne_ev h.1
  obtain ⟨⟨u, v⟩, u1, u2⟩ := threeS_ev h.1
  replace u2 : v = false ↔ look31 L ∧ True := u2
  have xy : x = [] ↔ y = false := by rw [x2, y2, look_22 h]
  have zv : z = [] ↔ v = false := by rw [z2, u2]; simp
  have hs3 : Ev (fun k => spec_ThreeOneOf.f k n L) (u, v) := by
   unfold spec_ThreeOneOf.f
   exact Ev.bind (orGood_ev n L hL) (Ev.pos (by simpa using h) u1)
  refine ⟨decide (x = [] ∧ z = []), ?_, ?_, ?_⟩
  ·unfold impl_isSemi.f impl_isInterval.f
   refine Ev.bind (Ev.bind (isOrder_ev n L hL) (Ev.pos (by simpa using h) (Ev.bind x1 (Ev.ret rfl)))) ?_
   by_cases hx : x = []
   ·subst hx
    refine Ev.pos rfl (Ev.bind z1 (Ev.ret ?_))
    cases z <;> simp
   ·exact Ev.neg (by simpa using hx) (Ev.ret (by simp [hx]))
  ·unfold spec_seGood.f
   refine Ev.bind hs3 (Ev.bind (orGood_ev n L hL) (Ev.pos (by simpa using h) ?_))
   cases hv : v
   ·refine Ev.neg (by simp) (Ev.bind y1 (Ev.ret ?_))
    have hz : z = [] := zv.2 hv
    cases hy : y
    ·simp [hz, xy.2 hy]
    ·have : x ≠ [] := fun e => by have := xy.1 e; rw [hy] at this; cases this
     simp [this]
   ·refine Ev.pos rfl (Ev.ret ?_)
    have : z ≠ [] := fun e => by have := zv.1 e; rw [hv] at this; cases this
    simp [this]
  ·intro hb
   rw [decide_eq_true_iff] at hb
   refine ⟨h, fun a b c d ha hb2 hc hd r1 r2 r3 r4 => (x2.1 hb.1).1 a ha b hb2 c hc d hd ⟨r1, r2, r3, r4⟩, look_31 h (z2.1 hb.2)⟩
 ·have hs3 : Ev (fun k => spec_ThreeOneOf.f k n L) ([], false) := by
   unfold spec_ThreeOneOf.f
   exact Ev.bind (orGood_ev n L hL) (Ev.neg (by simpa using h) (Ev.ret rfl))
  refine ⟨false, ?_, ?_, fun e => by cases e⟩
  ·unfold impl_isSemi.f impl_isInterval.f
   exact Ev.bind (Ev.bind (isOrder_ev n L hL) (Ev.neg (by simpa using h) (Ev.ret rfl))) (Ev.neg (by simp) (Ev.ret rfl))
  ·unfold spec_seGood.f
   exact Ev.bind hs3 (Ev.bind (orGood_ev n L hL) (Ev.neg (by simpa using h) (Ev.ret rfl)))
theorem drop_range {N x : Nat} (h : x < N) : (List.range N).drop x = x :: (List.range N).drop (x + 1) := by rw [List.drop_eq_getElem_cons (by simpa using h)]; simp
theorem loopF {α : Type} (N : Nat) (g : Nat → Nat → Option α) (F : Nat → Option α) (Rest : α) (hend : Ev (g N) Rest) (hstep : ∀ x, x < N → ∀ v, Ev (g (x + 1)) v → Ev (g x) ((F x).getD v)) : Ev (g 0) (((List.range N).findSome? F).getD Rest) := by
 have key : ∀ d x, x + d = N → Ev (g x) ((((List.range N).drop x).findSome? F).getD Rest) := by
  intro d
  induction d with
  | zero =>
   intro x hx
   obtain rfl : x = N := by omega
   rw [List.drop_of_length_le (by simp)]
   exact hend
  | succ d ih =>
   intro x hx
   have := hstep x (by omega) _ (ih (x + 1) (by omega))
   rw [drop_range (by omega), List.findSome?_cons]
   cases hF : F x with
   | none => rw [hF] at this; exact this
   | some r => rw [hF] at this; exact this
 have := key N 0 (by omega)
 rwa [List.drop_zero] at this
-- the first chain of three elements and an element that is indifferent to all
def T3c (L : List Int) (a b p : Nat) : Option (List Int) := if and3 L a b (rd (bitsOf (rd L (b : Int))) (p : Int)).toNat = 0 then none else some [(a : Int), (b : Int), rd (bitsOf (rd L (b : Int))) (p : Int), rd (bitsOf (and3 L a b (rd (bitsOf (rd L (b : Int))) (p : Int)).toNat)) 0]
def T3b (L : List Int) (a q : Nat) : Option (List Int) := (List.range (bitsOf (rd L (rd (bitsOf (rd L (a : Int))) (q : Int)))).length).findSome? (T3c L a (rd (bitsOf (rd L (a : Int))) (q : Int)).toNat)
def T3a (L : List Int) (a : Nat) : Option (List Int) := (List.range (bitsOf (rd L (a : Int))).length).findSome? (T3b L a)
def T3 (L : List Int) : Option (List Int) := (List.range L.length).findSome? (T3a L)
section
variable {n : Int} {L : List Int}
theorem three_i (h : relP n L) : Ev (fun k => impl_Order_threeOne.f k n L) ((T3 L).getD []) := by
 have e1 := h.2.1
 have e3 := h.1
 have el := rel_length (freeP L) L.length
 unfold impl_Order_threeOne.f
 refine Ev.bind (near_ev h) ?_
 refine loopF L.length (fun a k => impl_Order_threeOne.l0 k (rel (freeP L) L.length) n (a : Int) n L) _ [] ?_ (fun a ha u hu => ?_)
 ·refine Ev.shift ?_
  simp only [impl_Order_threeOne.l0]
  exact Ev.neg (by omega) (Ev.ret rfl)
 have hs := h.set (i := a) ha
 have hbl := bitsOf_len (rd L (a : Int))
 refine Ev.shift ?_
 simp only [impl_Order_threeOne.l0]
 refine Ev.pos (by omega) (Ev.pos (by omega) (Ev.pos (by omega) (Ev.bind (members_ev hs.1 hs.2) ?_)))
 refine loopF (bitsOf (rd L (a : Int))).length (fun q k => impl_Order_threeOne.l1 k (rel (freeP L) L.length) (a : Int) n (a : Int) (bitsOf (rd L (a : Int))) ((bitsOf (rd L (a : Int))).length : Int) (q : Int) n L) _ u ?_ (fun q hq u hu => ?_)
 ·refine Ev.shift ?_
  simp only [impl_Order_threeOne.l1]
  rw [wrap64_id (x := (a : Int) + 1) (by omega) (by omega), cast1]
  exact Ev.neg (by omega) hu
 obtain ⟨b, eb, hb, hab⟩ := row_el h ha hq
 have hs2 := h.set (i := b) hb
 have hbl2 := bitsOf_len (rd L (b : Int))
 have eF : T3b L a q = (List.range (bitsOf (rd L (b : Int))).length).findSome? (T3c L a b) := by unfold T3b; rw [eb, Int.toNat_natCast]
 rw [eF]
 refine Ev.shift ?_
 simp only [impl_Order_threeOne.l1]
 rw [eb]
 refine Ev.pos (by omega) (Ev.pos (by omega) (Ev.pos (by omega) (Ev.pos (by omega) (Ev.pos (by omega) (Ev.bind (members_ev hs2.1 hs2.2) ?_)))))
 refine loopF (bitsOf (rd L (b : Int))).length (fun p k => impl_Order_threeOne.l2 k (rel (freeP L) L.length) (a : Int) (b : Int) n (a : Int) (bitsOf (rd L (a : Int))) ((bitsOf (rd L (a : Int))).length : Int) (q : Int) (bitsOf (rd L (b : Int))) ((bitsOf (rd L (b : Int))).length : Int) (p : Int) n L) _ u ?_ (fun p hp u hu => ?_)
 ·refine Ev.shift ?_
  simp only [impl_Order_threeOne.l2]
  rw [wrap64_id (x := (q : Int) + 1) (by omega) (by omega), cast1]
  exact Ev.neg (by omega) hu
 obtain ⟨c, ec, hc, hbc⟩ := row_el h hb hp
 have p1 : (p : Int) < ((bitsOf (rd L (b : Int))).length : Int) := by omega
 have p0 : (0 : Int) ≤ (p : Int) := by omega
 have a0 : (0 : Int) ≤ (a : Int) := by omega
 have b0 : (0 : Int) ≤ (b : Int) := by omega
 have c0 : (0 : Int) ≤ (c : Int) := by omega
 have a1 : (a : Int) < ((rel (freeP L) L.length).length : Int) := by rw [el]; omega
 have b1 : (b : Int) < ((rel (freeP L) L.length).length : Int) := by rw [el]; omega
 have c1 : (c : Int) < ((rel (freeP L) L.length).length : Int) := by rw [el]; omega
 have ha3 := and3_set h ha hb hc
 have eC : T3c L a b p = if and3 L a b c = 0 then none else some [(a : Int), (b : Int), (c : Int), rd (bitsOf (and3 L a b c)) 0] := by unfold T3c; rw [ec, Int.toNat_natCast]
 rw [eC]
 refine Ev.shift ?_
 simp only [impl_Order_threeOne.l2]
 rw [ec, wrap64_id (x := (p : Int) + 1) (by omega) (by omega), cast1]
 by_cases hz : and3 L a b c = 0
 ·rw [if_pos hz]
  exact Ev.pos p1 (Ev.pos p0 (Ev.pos p1 (Ev.pos a0 (Ev.pos a1 (Ev.pos b0 (Ev.pos b1 (Ev.pos c0 (Ev.pos c1 (Ev.pos hz hu)))))))))
 ·have hne : bitsOf (and3 L a b c) ≠ [] := fun e => hz ((bitsOf_nil ha3.1).1 e)
  have hpos : (0 : Int) < ((bitsOf (and3 L a b c)).length : Int) := by have := List.length_pos_iff.2 hne; omega
  rw [if_neg hz]
  exact Ev.pos p1 (Ev.pos p0 (Ev.pos p1 (Ev.pos a0 (Ev.pos a1 (Ev.pos b0 (Ev.pos b1 (Ev.pos c0 (Ev.pos c1 (Ev.neg hz (Ev.bind (members_ev ha3.1.1 ha3.1.2) (Ev.pos hpos (Ev.ret rfl))))))))))))
theorem three_s (h : relP n L) : Ev (fun k => spec_ThreeOneOf.l0 k 0 n L) (((T3 L).map fun l => (l, true)).getD ([], false)) := by
 have e1 := h.2.1
 have e3 := h.1
 unfold T3
 rw [List.map_findSome?]
 refine loopF L.length (fun a k => spec_ThreeOneOf.l0 k (a : Int) n L) _ ([], false) ?_ (fun a ha u hu => ?_)
 ·refine Ev.shift ?_
  simp only [spec_ThreeOneOf.l0]
  exact Ev.neg (by omega) (Ev.ret rfl)
 have hs := h.set (i := a) ha
 have hbl := bitsOf_len (rd L (a : Int))
 refine Ev.shift ?_
 simp only [spec_ThreeOneOf.l0]
 refine Ev.pos (by omega) (Ev.pos (by omega) (Ev.pos (by omega) (Ev.bind (orList_ev hs.1 hs.2) ?_)))
 show Ev _ (((T3a L a).map fun l => (l, true)).getD u)
 unfold T3a
 rw [List.map_findSome?]
 refine loopF (bitsOf (rd L (a : Int))).length (fun q k => spec_ThreeOneOf.l1 k (a : Int) (bitsOf (rd L (a : Int))) ((bitsOf (rd L (a : Int))).length : Int) (q : Int) n L) _ u ?_ (fun q hq u hu => ?_)
 ·refine Ev.shift ?_
  simp only [spec_ThreeOneOf.l1]
  rw [wrap64_id (x := (a : Int) + 1) (by omega) (by omega), cast1]
  exact Ev.neg (by omega) hu
 obtain ⟨b, eb, hb, hab⟩ := row_el h ha hq
 have hs2 := h.set (i := b) hb
 have hbl2 := bitsOf_len (rd L (b : Int))
 show Ev _ (((T3b L a q).map fun l => (l, true)).getD u)
 have eF : T3b L a q = (List.range (bitsOf (rd L (b : Int))).length).findSome? (T3c L a b) := by unfold T3b; rw [eb, Int.toNat_natCast]
 rw [eF, List.map_findSome?]
 refine Ev.shift ?_
 simp only [spec_ThreeOneOf.l1]
 rw [eb]
 refine Ev.pos (by omega) (Ev.pos (by omega) (Ev.pos (by omega) (Ev.pos (by omega) (Ev.pos (by omega) (Ev.bind (orList_ev hs2.1 hs2.2) ?_)))))
 refine loopF (bitsOf (rd L (b : Int))).length (fun p k => spec_ThreeOneOf.l2 k (a : Int) (b : Int) (bitsOf (rd L (a : Int))) ((bitsOf (rd L (a : Int))).length : Int) (q : Int) (bitsOf (rd L (b : Int))) ((bitsOf (rd L (b : Int))).length : Int) (p : Int) n L) _ u ?_ (fun p hp u hu => ?_)
 ·refine Ev.shift ?_
  simp only [spec_ThreeOneOf.l2]
  rw [wrap64_id (x := (q : Int) + 1) (by omega) (by omega), cast1]
  exact Ev.neg (by omega) hu
 obtain ⟨c, ec, hc, hbc⟩ := row_el h hb hp
 have p1 : (p : Int) < ((bitsOf (rd L (b : Int))).length : Int) := by omega
 have p0 : (0 : Int) ≤ (p : Int) := by omega
 have ha3 := and3_set h ha hb hc
 have g1 := rel_get (freeP L) L.length a ha
 have g2 := rel_get (freeP L) L.length b hb
 have g3 := rel_get (freeP L) L.length c hc
 have hbl3 := bitsOf_len (and3 L a b c)
 show Ev _ (((T3c L a b p).map fun l => (l, true)).getD u)
 have eC : T3c L a b p = if and3 L a b c = 0 then none else some [(a : Int), (b : Int), (c : Int), rd (bitsOf (and3 L a b c)) 0] := by unfold T3c; rw [ec, Int.toNat_natCast]
 rw [eC]
 refine Ev.shift ?_
 simp only [spec_ThreeOneOf.l2]
 rw [ec]
 refine Ev.pos p1 (Ev.pos p0 (Ev.pos p1 (Ev.bind (free_ev h ha) (Ev.bind (free_ev h hb) (Ev.bind (free_ev h hc) ?_)))))
 rw [← g1, ← g2, ← g3]
 refine Ev.bind (orList_ev ha3.1.1 ha3.1.2) (Ev.shift ?_)
 by_cases hz : and3 L a b c = 0
 ·rw [if_pos hz]
  rw [show Go.bits .and .i64 (Go.bits .and .i64 (rd (rel (freeP L) L.length) (a : Int)) (rd (rel (freeP L) L.length) (b : Int))) (rd (rel (freeP L) L.length) (c : Int)) = and3 L a b c from rfl, (bitsOf_nil ha3.1).2 hz]
  simp only [spec_ThreeOneOf.l3]
  refine Ev.neg (by simp) ?_
  rw [wrap64_id (x := (p : Int) + 1) (by omega) (by omega), cast1]
  exact hu
 ·have hne : bitsOf (and3 L a b c) ≠ [] := fun e => hz ((bitsOf_nil ha3.1).1 e)
  have hpos : (0 : Int) < ((bitsOf (and3 L a b c)).length : Int) := by have := List.length_pos_iff.2 hne; omega
  rw [if_neg hz]
  simp only [spec_ThreeOneOf.l3]
  exact Ev.pos hpos (Ev.pos (by omega) (Ev.pos hpos (Ev.ret rfl)))
theorem three_some (h : relP n L) {r : List Int} (hr : T3 L = some r) : ∃ a b c d : Nat, r = [(a : Int), b, c, d] ∧ a < L.length ∧ b < L.length ∧ c < L.length ∧ d < L.length ∧ lt L a b = true ∧ lt L b c = true ∧ freeP L a d = true ∧ freeP L b d = true ∧ freeP L c d = true := by
 unfold T3 at hr
 obtain ⟨a, ha, hr⟩ := List.exists_of_findSome?_eq_some hr
 have ha := List.mem_range.1 ha
 unfold T3a at hr
 obtain ⟨q, hq, hr⟩ := List.exists_of_findSome?_eq_some hr
 have hq := List.mem_range.1 hq
 obtain ⟨b, eb, hb, hab⟩ := row_el h ha hq
 unfold T3b at hr
 rw [eb, Int.toNat_natCast] at hr
 obtain ⟨p, hp, hr⟩ := List.exists_of_findSome?_eq_some hr
 have hp := List.mem_range.1 hp
 obtain ⟨c, ec, hc, hbc⟩ := row_el h hb hp
 unfold T3c at hr
 rw [ec, Int.toNat_natCast] at hr
 have ha3 := and3_set h ha hb hc
 split at hr
 ·cases hr
 ·rename_i hz
  have hne : bitsOf (and3 L a b c) ≠ [] := fun e => hz ((bitsOf_nil ha3.1).1 e)
  have hpos := List.length_pos_iff.2 hne
  obtain ⟨d, _, hd, ed⟩ := mem_bitsOf.1 (show rd (bitsOf (and3 L a b c)) ((0 : Nat) : Int) ∈ bitsOf (and3 L a b c) by rw [rd_lt _ 0 hpos]; exact List.getElem_mem _)
  have ed : rd (bitsOf (and3 L a b c)) 0 = d := ed
  rw [ha3.2] at hd
  simp only [Bool.and_eq_true, decide_eq_true_eq] at hd
  refine ⟨a, b, c, d, ?_, ha, hb, hc, hd.1.1.1, hab, hbc, hd.1.1.2, hd.1.2, hd.2⟩
  rw [← Option.some.inj hr, ed]
end
theorem freeP_t {L : List Int} {i j : Nat} : freeP L i j = true ↔ lt L i j = false ∧ lt L j i = false ∧ j ≠ i := by
 unfold freeP
 simp only [Bool.and_eq_true, Bool.not_eq_true', decide_eq_false_iff_not, and_assoc]
theorem semi_iff {n : Int} {L : List Int} (ho : orderP n L) (hL : L.length ≤ 1048576) : ∃ b, Ev (fun k => impl_isSemi.f k n L) b ∧ Ev (fun k => spec_seGood.f k n L) b ∧ (b = true ↔ No22 L.length (lt L) ∧ No31 L.length (lt L)) ∧ (b = true → T3 L = none) := by
 obtain ⟨b, b1, b2, b3⟩ := semi_both n L hL
 have hno : No31 L.length (lt L) → T3 L = none := fun h31 => by
  cases hr : T3 L with
  | none => rfl
  | some r =>
   obtain ⟨a, b, c, d, _, ha, hb, hc, hd, h1, h2, h3, h4, h5⟩ := three_some ho.1 hr
   obtain ⟨f1, f2, f3⟩ := freeP_t.1 h3
   obtain ⟨f4, f5, f6⟩ := freeP_t.1 h4
   obtain ⟨f7, f8, f9⟩ := freeP_t.1 h5
   exact (h31 a b c d ha hb hc hd h1 h2 f1 f2 f3 f4 f5 f6 f7 f8 f9).elim
 refine ⟨b, b1, b2, ⟨fun e => (b3 e).2, fun ⟨h22, h31⟩ => ?_⟩, fun e => hno (b3 e).2.2⟩
 have : Ev (fun k => impl_isSemi.f k n L) true := by
  obtain ⟨x, x1, x2⟩ := twoTwo_ev ho.1
  have hx : x = [] := x2.2 ⟨fun a ha b hb c hc d hd g => h22 a b c d ha hb hc hd g.1 g.2.1 g.2.2.1 g.2.2.2, trivial⟩
  subst hx
  have h3 := three_i ho.1
  rw [hno h31] at h3
  unfold impl_isSemi.f impl_isInterval.f
  exact Ev.bind (Ev.bind (isOrder_ev n L hL) (Ev.pos (by simpa using ho) (Ev.bind x1 (Ev.ret rfl)))) (Ev.pos rfl (Ev.bind h3 (Ev.ret rfl)))
 exact Ev.uniq b1 this
end Go.Proofs.YtmoemabbmjdhgaaDoor.Pure
