import Derived.Test.YtokeomcijelbmaaDoorBFnFourRefuse19
import Derived.Test.YtokeomcijelbmaaDoorBFnFourRefuse24
namespace Go.Proofs.YtokeomcijelbmaaDoor.Pure
open Go.RowKit Go.Proofs.YtokeomcijelbmaaDoor.Q Go.Proofs.YtokeomcijelbmaaDoorW.PrintWords Go.Proofs.YtokeomcijelbmaaDoorW.PrintLast
set_option linter.unusedVariables false
set_option linter.unusedSimpArgs false
-- lists of elements that are as a pattern
def fitP (L M l : List Int) (x : Int) : Bool := !(decide (x ∈ l)) && (lt L x.toNat x.toNat == lt M l.length l.length) && (List.range l.length).all fun b => (lt L x.toNat (rd l (b : Int)).toNat == lt M l.length b) && (lt L (rd l (b : Int)).toNat x.toNat == lt M b l.length)
def pairsOk (L M r : List Int) : Prop := ∀ a b, a < r.length → b < r.length → (a ≠ b → rd r (a : Int) ≠ rd r (b : Int)) ∧ lt L (rd r (a : Int)).toNat (rd r (b : Int)).toNat = lt M a b
theorem rd_app (l : List Int) (x : Int) : rd (l ++ [x]) (l.length : Int) = x := by rw [rd_lt _ _ (by simp)]; simp
theorem rd_app_lt (l s : List Int) {a : Nat} (h : a < l.length) : rd (l ++ s) (a : Int) = rd l (a : Int) := by rw [rd_lt _ a (by simp; omega), rd_lt l a h, List.getElem_append_left h]
theorem fitP_iff {L M l : List Int} {x : Int} : fitP L M l x = true ↔ x ∉ l ∧ lt L x.toNat x.toNat = lt M l.length l.length ∧ ∀ b, b < l.length → lt L x.toNat (rd l (b : Int)).toNat = lt M l.length b ∧ lt L (rd l (b : Int)).toNat x.toNat = lt M b l.length := by
 unfold fitP
 simp only [Bool.and_eq_true, Bool.not_eq_true', decide_eq_false_iff_not, beq_iff_eq, List.all_eq_true, List.mem_range, and_assoc]
theorem pairsOk_snoc {L M l : List Int} {x : Int} (h : pairsOk L M l) : pairsOk L M (l ++ [x]) ↔ fitP L M l x = true := by
 rw [fitP_iff]
 constructor
 ·intro hp
  refine ⟨fun hx => ?_, ?_, fun b hb => ?_⟩
  ·obtain ⟨i, hi, he⟩ := List.mem_iff_getElem.1 hx
   refine (hp i l.length (by simp; omega) (by simp)).1 (by omega) ?_
   rw [rd_app, rd_app_lt l _ hi, rd_lt l i hi, he]
  ·have := (hp l.length l.length (by simp) (by simp)).2
   rwa [rd_app] at this
  ·have h1 := (hp l.length b (by simp) (by simp; omega)).2
   have h2 := (hp b l.length (by simp; omega) (by simp)).2
   rw [rd_app, rd_app_lt l _ hb] at h1 h2
   exact ⟨h1, h2⟩
 ·rintro ⟨h1, h2, h3⟩ a b ha hb
  simp only [List.length_append, List.length_cons, List.length_nil] at ha hb
  by_cases ea : a = l.length <;> by_cases eb : b = l.length
  ·subst ea; subst eb
   rw [rd_app]
   exact ⟨fun e => absurd rfl e, h2⟩
  ·subst ea
   rw [rd_app, rd_app_lt l _ (show b < l.length by omega)]
   refine ⟨fun _ e => h1 ?_, (h3 b (by omega)).1⟩
   rw [e, rd_lt l b (by omega)]; exact List.getElem_mem _
  ·subst eb
   rw [rd_app, rd_app_lt l _ (show a < l.length by omega)]
   refine ⟨fun _ e => h1 ?_, (h3 a (by omega)).2⟩
   rw [← e, rd_lt l a (by omega)]; exact List.getElem_mem _
  ·rw [rd_app_lt l _ (show a < l.length by omega), rd_app_lt l _ (show b < l.length by omega)]
   exact h a b (by omega) (by omega)
theorem pairsOk_take {L M l s : List Int} (h : pairsOk L M (l ++ s)) : pairsOk L M l := fun a b ha hb => by
 have := h a b (by simp; omega) (by simp; omega)
 rwa [rd_app_lt l _ ha, rd_app_lt l _ hb] at this
theorem okS_pairs {L M : List Int} : ∀ (s l : List Int), pairsOk L M l → (okS (fitP L M) l s ↔ pairsOk L M (l ++ s))
 | [], l, h => by rw [List.append_nil]; exact ⟨fun _ => h, fun _ => trivial⟩
 | x :: s, l, h => by
  show (fitP L M l x = true ∧ okS (fitP L M) (l ++ [x]) s) ↔ _
  rw [show l ++ x :: s = (l ++ [x]) ++ s by simp]
  constructor
  ·rintro ⟨h1, h2⟩
   exact (okS_pairs s (l ++ [x]) ((pairsOk_snoc h).2 h1)).1 h2
  ·intro h2
   have h3 := pairsOk_take h2
   exact ⟨(pairsOk_snoc h).1 h3, (okS_pairs s (l ++ [x]) h3).2 h2⟩
theorem pairsOk_nil (L M : List Int) : pairsOk L M [] := fun a b ha => by simp at ha
theorem drop_range {N x : Nat} (h : x < N) : (List.range N).drop x = x :: (List.range N).drop (x + 1) := by rw [List.drop_eq_getElem_cons (by simpa using h)]; simp
-- the first four elements that refuse an order
def b4 (L : List Int) (a b c d : Nat) : Bool := lt L a b && lt L c d && !lt L c b && !lt L a d
theorem b4_iff {L : List Int} {a b c d : Nat} : b4 L a b c d = true ↔ bad22 L a b c d := by
 unfold b4 bad22
 simp only [Bool.and_eq_true, Bool.not_eq_true', and_assoc]
def fit4 (L : List Int) (l : List Int) (x : Int) : Bool := match l with
 | [a, b, c] => b4 L a.toNat b.toNat c.toNat x.toNat
 | _ => true
def G4 (L : List Int) (l : List Int) (m : Nat) (y : Nat) : Option (List Int) := if fit4 L l (y : Int) = true then findP (fit4 L) L.length m (l ++ [(y : Int)]) else none
theorem findP_G4 (L l : List Int) (m : Nat) : findP (fit4 L) L.length (m + 1) l = (List.range L.length).findSome? (G4 L l m) := rfl
theorem loopF {α : Type} (N : Nat) (g : Nat → Nat → Option α) (F : Nat → Option α) (Rest : α) (hend : Ev (g N) Rest) (hstep : ∀ x, x < N → ∀ v, Ev (g (x + 1)) v → Ev (g x) ((F x).getD v)) : Ev (g 0) (((List.range N).findSome? F).getD Rest) := by
 have key : ∀ d x, x + d = N → Ev (g x) ((((List.range N).drop x).findSome? F).getD Rest) := by
  intro d
  induction d with
  | zero =>
   intro x hx
   obtain rfl : x = N := by omega
   rw [List.drop_of_length_le (by simp)]
   exact hend
  | succ d ih =>
   intro x hx
   have := hstep x (by omega) _ (ih (x + 1) (by omega))
   rw [drop_range (by omega), List.findSome?_cons]
   cases hF : F x with
   | none => rw [hF] at this; exact this
   | some r => rw [hF] at this; exact this
 have := key N 0 (by omega)
 rwa [List.drop_zero] at this
section
variable {n : Int} {L : List Int}
theorem i4_3 (h : relP n L) {a b c : Nat} (ha : a < L.length) (hb : b < L.length) (hc : c < L.length) (v : List Int) (hv : Ev (fun k => impl_Order_twoTwo.l2 k (a : Int) (b : Int) n (a : Int) n (b : Int) n (wrap64 ((c : Int) + 1)) n L) v) : Ev (fun k => impl_Order_twoTwo.l3 k (a : Int) (b : Int) (c : Int) n (a : Int) n (b : Int) n (c : Int) n 0 n L) ((findP (fit4 L) L.length 1 [(a : Int), b, c]).getD v) := by
 have e1 := h.2.1
 have e3 := h.1
 rw [findP_G4]
 refine loopF L.length (fun d k => impl_Order_twoTwo.l3 k (a : Int) (b : Int) (c : Int) n (a : Int) n (b : Int) n (c : Int) n (d : Int) n L) _ v ?_ (fun d hd u hu => ?_)
 ·refine Ev.shift ?_
  simp only [impl_Order_twoTwo.l3]
  exact Ev.neg (by omega) hv
 ·have hb4 : G4 L [(a : Int), b, c] 0 d = if b4 L a b c d = true then some [(a : Int), b, c, d] else none := by
   unfold G4 fit4
   simp only [Int.toNat_natCast]
   rfl
  rw [hb4]
  refine Ev.shift ?_
  simp only [impl_Order_twoTwo.l3]
  rw [wrap64_id (x := (d : Int) + 1) (by omega) (by omega), cast1]
  refine Ev.pos (by omega) (Ev.bindc (better_lt h ha hb) ?_)
  unfold b4
  by_cases c1 : lt L a b = true
  ·refine Ev.pos c1 (Ev.bindc (better_lt h hc hd) ?_)
   by_cases c2 : lt L c d = true
   ·refine Ev.pos c2 (Ev.bindc (better_lt h hc hb) ?_)
    by_cases c3 : lt L c b = true
    ·exact Ev.pos c3 (Ev.eq hu (by simp [c3]))
    ·refine Ev.neg c3 (Ev.bindc (better_lt h ha hd) ?_)
     by_cases c4 : lt L a d = true
     ·exact Ev.pos c4 (Ev.eq hu (by simp [c4]))
     ·exact Ev.neg c4 (Ev.ret (by simp [c1, c2, c3, c4]))
   ·exact Ev.neg c2 (Ev.eq hu (by simp [c2]))
  ·exact Ev.neg c1 (Ev.eq hu (by simp [c1]))
theorem twoTwo_find (h : relP n L) : Ev (fun k => impl_Order_twoTwo.f k n L) ((findP (fit4 L) L.length 4 []).getD []) := by
 have e1 := h.2.1
 have e3 := h.1
 unfold impl_Order_twoTwo.f
 rw [findP_G4]
 refine loopF L.length (fun a k => impl_Order_twoTwo.l0 k n (a : Int) n L) _ [] ?_ (fun a ha u hu => ?_)
 ·refine Ev.shift ?_
  simp only [impl_Order_twoTwo.l0]
  exact Ev.neg (by omega) (Ev.ret rfl)
 refine Ev.shift ?_
 simp only [impl_Order_twoTwo.l0]
 refine Ev.pos (by omega) ?_
 show Ev _ ((findP (fit4 L) L.length 3 [(a : Int)]).getD u)
 rw [findP_G4]
 refine loopF L.length (fun b k => impl_Order_twoTwo.l1 k (a : Int) n (a : Int) n (b : Int) n L) _ u ?_ (fun b hb u hu => ?_)
 ·refine Ev.shift ?_
  simp only [impl_Order_twoTwo.l1]
  rw [wrap64_id (x := (a : Int) + 1) (by omega) (by omega), cast1]
  exact Ev.neg (by omega) hu
 refine Ev.shift ?_
 simp only [impl_Order_twoTwo.l1]
 refine Ev.pos (by omega) ?_
 show Ev _ ((findP (fit4 L) L.length 2 [(a : Int), b]).getD u)
 rw [findP_G4]
 refine loopF L.length (fun c k => impl_Order_twoTwo.l2 k (a : Int) (b : Int) n (a : Int) n (b : Int) n (c : Int) n L) _ u ?_ (fun c hc u hu => ?_)
 ·refine Ev.shift ?_
  simp only [impl_Order_twoTwo.l2]
  rw [wrap64_id (x := (b : Int) + 1) (by omega) (by omega), cast1]
  exact Ev.neg (by omega) hu
 refine Ev.shift ?_
 simp only [impl_Order_twoTwo.l2]
 refine Ev.pos (by omega) ?_
 show Ev _ ((findP (fit4 L) L.length 1 [(a : Int), b, c]).getD u)
 exact i4_3 h ha hb hc u (by rw [wrap64_id (x := (c : Int) + 1) (by omega) (by omega), cast1]; exact hu)
def two4 (r : Option (List Int)) (v : List Int × Bool) : List Int × Bool := (r.map fun l => (l, true)).getD v
theorem s4_3 (h : relP n L) {a b c : Nat} (ha : a < L.length) (hb : b < L.length) (hc : c < L.length) (v : List Int × Bool) (hv : Ev (fun k => spec_ivTwoTwo.l2 k (a : Int) (b : Int) (wrap64 ((c : Int) + 1)) n L) v) : Ev (fun k => spec_ivTwoTwo.l3 k (a : Int) (b : Int) (c : Int) 0 n L) (two4 (findP (fit4 L) L.length 1 [(a : Int), b, c]) v) := by
 have e1 := h.2.1
 have e3 := h.1
 have hm : ((findP (fit4 L) L.length 1 [(a : Int), b, c]).map fun l => (l, true)) = (List.range L.length).findSome? fun d => (G4 L [(a : Int), b, c] 0 d).map fun l => (l, true) := by
  rw [findP_G4, List.map_findSome?]; rfl
 unfold two4
 rw [hm]
 refine loopF L.length (fun d k => spec_ivTwoTwo.l3 k (a : Int) (b : Int) (c : Int) (d : Int) n L) _ v ?_ (fun d hd u hu => ?_)
 ·refine Ev.shift ?_
  simp only [spec_ivTwoTwo.l3]
  exact Ev.neg (by omega) hv
 ·have hb4 : G4 L [(a : Int), b, c] 0 d = if b4 L a b c d = true then some [(a : Int), b, c, d] else none := by
   unfold G4 fit4
   simp only [Int.toNat_natCast]
   rfl
  rw [hb4]
  obtain ⟨r, hr1, hr2⟩ := refuses_f h ha hb hc hd
  refine Ev.shift ?_
  simp only [spec_ivTwoTwo.l3]
  rw [wrap64_id (x := (d : Int) + 1) (by omega) (by omega), cast1]
  refine Ev.pos (by omega) (Ev.bindc hr1 ?_)
  by_cases hb : b4 L a b c d = true
  ·rw [if_pos hb]
   exact Ev.pos (hr2.2 (b4_iff.1 hb)) (Ev.ret rfl)
  ·rw [if_neg hb]
   exact Ev.neg (fun e => hb (b4_iff.2 (hr2.1 e))) (Ev.eq hu rfl)
theorem sTwo_find (h : relP n L) : Ev (fun k => spec_ivTwoTwo.f k n L) (two4 (findP (fit4 L) L.length 4 []) ([], false)) := by
 have e1 := h.2.1
 have e3 := h.1
 have hm : ∀ (l : List Int) (m : Nat), ((findP (fit4 L) L.length (m + 1) l).map fun l => (l, true)) = (List.range L.length).findSome? fun d => (G4 L l m d).map fun l => (l, true) := fun l m => by
  rw [findP_G4, List.map_findSome?]; rfl
 unfold spec_ivTwoTwo.f two4
 rw [hm]
 refine loopF L.length (fun a k => spec_ivTwoTwo.l0 k (a : Int) n L) _ _ ?_ (fun a ha u hu => ?_)
 ·refine Ev.shift ?_
  simp only [spec_ivTwoTwo.l0]
  exact Ev.neg (by omega) (Ev.ret rfl)
 refine Ev.shift ?_
 simp only [spec_ivTwoTwo.l0]
 refine Ev.pos (by omega) ?_
 show Ev _ (((findP (fit4 L) L.length 3 [(a : Int)]).map fun l => (l, true)).getD u)
 rw [hm]
 refine loopF L.length (fun b k => spec_ivTwoTwo.l1 k (a : Int) (b : Int) n L) _ u ?_ (fun b hb u hu => ?_)
 ·refine Ev.shift ?_
  simp only [spec_ivTwoTwo.l1]
  rw [wrap64_id (x := (a : Int) + 1) (by omega) (by omega), cast1]
  exact Ev.neg (by omega) hu
 refine Ev.shift ?_
 simp only [spec_ivTwoTwo.l1]
 refine Ev.pos (by omega) ?_
 show Ev _ (((findP (fit4 L) L.length 2 [(a : Int), b]).map fun l => (l, true)).getD u)
 rw [hm]
 refine loopF L.length (fun c k => spec_ivTwoTwo.l2 k (a : Int) (b : Int) (c : Int) n L) _ u ?_ (fun c hc u hu => ?_)
 ·refine Ev.shift ?_
  simp only [spec_ivTwoTwo.l2]
  rw [wrap64_id (x := (b : Int) + 1) (by omega) (by omega), cast1]
  exact Ev.neg (by omega) hu
 refine Ev.shift ?_
 simp only [spec_ivTwoTwo.l2]
 refine Ev.pos (by omega) ?_
 exact s4_3 h ha hb hc u (by rw [wrap64_id (x := (c : Int) + 1) (by omega) (by omega), cast1]; exact hu)
end
theorem find_same {f g : List Int → Int → Bool} {N m : Nat} (h : ∀ t : List Int, t.length = m → (∀ x ∈ t, 0 ≤ x ∧ x < (N : Int)) → (okS f [] t ↔ okS g [] t)) : findP f N m [] = findP g N m [] := by
 have htot : ∀ (s t : List Int), s.length = t.length → ¬ lexN s t → ¬ lexN t s → s = t := by
  intro s
  induction s with
  | nil => intro t hl _ _; exact (List.eq_nil_of_length_eq_zero hl.symm).symm
  | cons x s ih =>
   intro t hl h1 h2
   cases t with
   | nil => cases hl
   | cons y t =>
    have hxy : x = y := by
     have a1 : ¬ x < y := fun e => h1 (.inl e)
     have a2 : ¬ y < x := fun e => h2 (.inl e)
     omega
    subst hxy
    rw [ih t (by simpa using hl) (fun e => h1 (.inr ⟨rfl, e⟩)) (fun e => h2 (.inr ⟨rfl, e⟩))]
 cases hf : findP f N m [] with
 | none =>
  cases hg : findP g N m [] with
  | none => rfl
  | some r =>
   obtain ⟨s, h1, h2, h3, h4⟩ := findP_sound m [] r hg
   obtain ⟨r', hr'⟩ := findP_complete m [] s h2 h3 ((h s h2 h3).2 h4)
   rw [hf] at hr'; cases hr'
 | some r =>
  obtain ⟨s, h1, h2, h3, h4⟩ := findP_sound m [] r hf
  obtain ⟨r', hr'⟩ := findP_complete m [] s h2 h3 ((h s h2 h3).1 h4)
  obtain ⟨s', g1, g2, g3, g4⟩ := findP_sound m [] r' hr'
  have a1 := findP_first m [] r s s' hf h1 g2 g3 ((h s' g2 g3).2 g4)
  have a2 := findP_first m [] r' s' s hr' g1 h2 h3 ((h s h2 h3).1 h4)
  rw [hr', h1, g1, htot s s' (by omega) a2 a1]
def pat4 : List Int := [2, 0, 8, 0]
theorem pat4_lt : ∀ i j : Fin 4, lt pat4 i.val j.val = (decide (i.val = 0 ∧ j.val = 1) || decide (i.val = 2 ∧ j.val = 3)) := by decide +kernel
theorem len4 {t : List Int} (h : t.length = 4) : ∃ a b c d, t = [a, b, c, d] := by
 match t, h with
 | [a, b, c, d], _ => exact ⟨a, b, c, d, rfl⟩
theorem four_pairs {n : Int} {L : List Int} (ho : orderP n L) {t : List Int} (ht : t.length = 4) (hr : ∀ x ∈ t, 0 ≤ x ∧ x < (L.length : Int)) : okS (fit4 L) [] t ↔ okS (fitP L pat4) [] t := by
 obtain ⟨a, b, c, d, rfl⟩ := len4 ht
 rw [okS_pairs _ _ (pairsOk_nil L pat4), List.nil_append]
 have hA := hr a (by simp); have hB := hr b (by simp); have hC := hr c (by simp); have hD := hr d (by simp)
 obtain ⟨A, rfl⟩ : ∃ m : Nat, a = m := ⟨a.toNat, by omega⟩
 obtain ⟨B, rfl⟩ : ∃ m : Nat, b = m := ⟨b.toNat, by omega⟩
 obtain ⟨C, rfl⟩ : ∃ m : Nat, c = m := ⟨c.toNat, by omega⟩
 obtain ⟨D, rfl⟩ : ∃ m : Nat, d = m := ⟨d.toNat, by omega⟩
 have kA : A < L.length := by omega
 have kB : B < L.length := by omega
 have kC : C < L.length := by omega
 have kD : D < L.length := by omega
 have e : okS (fit4 L) [] [(A : Int), B, C, D] ↔ bad22 L A B C D := by
  rw [← b4_iff]
  show (true = true ∧ true = true ∧ true = true ∧ b4 L (A : Int).toNat (B : Int).toNat (C : Int).toNat (D : Int).toNat = true ∧ True) ↔ _
  simp
 rw [e]
 have r0 : rd [(A : Int), B, C, D] ((0 : Nat) : Int) = A := rfl
 have r1 : rd [(A : Int), B, C, D] ((1 : Nat) : Int) = B := rfl
 have r2 : rd [(A : Int), B, C, D] ((2 : Nat) : Int) = C := rfl
 have r3 : rd [(A : Int), B, C, D] ((3 : Nat) : Int) = D := rfl
 constructor
 ·rintro ⟨h1, h2, h3, h4⟩
  have no : ∀ {x y : Nat}, (lt L x y = true → False) → lt L x y = false := fun {x y} f => by
   cases hb : lt L x y
   ·rfl
   ·exact (f hb).elim
  have t3 : ∀ {x y z : Nat}, x < L.length → lt L x y = true → lt L y z = true → lt L x z = true := fun hx p q => ho.trans hx p q
  have ff : ∀ {x y : Nat}, lt L x y = true → lt L x y = false → False := fun p q => by rw [p] at q; cases q
  have iA := ho.irr kA; have iB := ho.irr kB; have iC := ho.irr kC; have iD := ho.irr kD
  have ba := ho.asym kA h1
  have dc := ho.asym kC h2
  have ac : lt L A C = false := no fun p => ff (t3 kA p h2) h4
  have ca : lt L C A = false := no fun p => ff (t3 kC p h1) h3
  have bc : lt L B C = false := no fun p => ff (t3 kA h1 (t3 kB p h2)) h4
  have bd : lt L B D = false := no fun p => ff (t3 kA h1 p) h4
  have db : lt L D B = false := no fun p => ff (t3 kC h2 p) h3
  have da : lt L D A = false := no fun p => ff (t3 kC h2 (t3 kD p h1)) h3
  have nAB : (A : Int) ≠ B := fun q => by
   have : A = B := by omega
   subst this
   exact ff h1 iA
  have nAC : (A : Int) ≠ C := fun q => by
   have : A = C := by omega
   subst this
   exact ff h2 h4
  have nAD : (A : Int) ≠ D := fun q => by
   have : A = D := by omega
   subst this
   exact ff h2 ca
  have nBC : (B : Int) ≠ C := fun q => by
   have : B = C := by omega
   subst this
   exact ff h1 ac
  have nBD : (B : Int) ≠ D := fun q => by
   have : B = D := by omega
   subst this
   exact ff h2 h3
  have nCD : (C : Int) ≠ D := fun q => by
   have : C = D := by omega
   subst this
   exact ff h2 iC
  intro i j hi hj
  have hi : i < 4 := hi
  have hj : j < 4 := hj
  have hp := pat4_lt ⟨i, hi⟩ ⟨j, hj⟩
  simp only at hp
  rw [hp]
  have ci : i = 0 ∨ i = 1 ∨ i = 2 ∨ i = 3 := by omega
  have cj : j = 0 ∨ j = 1 ∨ j = 2 ∨ j = 3 := by omega
  rcases ci with rfl | rfl | rfl | rfl <;> rcases cj with rfl | rfl | rfl | rfl <;> simp only [r0, r1, r2, r3, Int.toNat_natCast] <;> simp [h1, h2, h3, h4, ba, dc, ac, ca, bc, bd, db, da, iA, iB, iC, iD] <;> omega
 ·intro hp
  have p01 := (hp 0 1 (by simp) (by simp)).2
  have p23 := (hp 2 3 (by simp) (by simp)).2
  have p21 := (hp 2 1 (by simp) (by simp)).2
  have p03 := (hp 0 3 (by simp) (by simp)).2
  rw [r0, r1, Int.toNat_natCast, Int.toNat_natCast] at p01
  rw [r2, r3, Int.toNat_natCast, Int.toNat_natCast] at p23
  rw [r2, r1, Int.toNat_natCast, Int.toNat_natCast] at p21
  rw [r0, r3, Int.toNat_natCast, Int.toNat_natCast] at p03
  exact ⟨p01.trans (pat4_lt 0 1), p23.trans (pat4_lt 2 3), p21.trans (pat4_lt 2 1), p03.trans (pat4_lt 0 3)⟩
theorem index_l (l : List Int) (hl : l.length ≤ 1000) (x : Int) (d : Nat) : ∀ i : Nat, i + d = l.length → ∃ r, Ev (fun k => slices_Index_int_int.l0 k l x (l.length : Int) (i : Int)) r ∧ (decide (r ≥ 0) = decide (x ∈ l.drop i)) := by
 induction d with
 | zero =>
  intro i hi
  refine ⟨-1, Ev.shift ?_, ?_⟩
  ·simp only [slices_Index_int_int.l0]
   exact Ev.neg (by omega) (Ev.ret rfl)
  ·rw [List.drop_of_length_le (by omega)]; simp
 | succ d ih =>
  intro i hi
  rw [drop_rd l i (by omega)]
  by_cases hc : x = rd l (i : Int)
  ·refine ⟨(i : Int), Ev.shift ?_, ?_⟩
   ·simp only [slices_Index_int_int.l0]
    exact Ev.pos (by omega) (Ev.pos (by omega) (Ev.pos (by omega) (Ev.pos hc (Ev.ret rfl))))
   ·rw [decide_eq_true (by omega), decide_eq_true (by rw [hc]; exact List.mem_cons_self)]
  ·obtain ⟨r, h1, h2⟩ := ih (i + 1) (by omega)
   refine ⟨r, Ev.shift ?_, ?_⟩
   ·simp only [slices_Index_int_int.l0]
    rw [wrap64_id (x := (i : Int) + 1) (by omega) (by omega), cast1]
    exact Ev.pos (by omega) (Ev.pos (by omega) (Ev.pos (by omega) (Ev.neg hc h1)))
   ·rw [h2]; simp [hc]
theorem contains_ev (l : List Int) (hl : l.length ≤ 1000) (x : Int) : Ev (fun k => slices_Contains_int_int.f k l x) (decide (x ∈ l)) := by
 obtain ⟨r, h1, h2⟩ := index_l l hl x l.length 0 (by omega)
 unfold slices_Contains_int_int.f slices_Index_int_int.f
 exact Ev.bind h1 (Ev.ret (by rw [h2]; simp))
section
variable {n m : Int} {L M : List Int}
theorem pat_l1 (hL : relP n L) (hM : relP m M) (l : List Int) (hl : l.length < M.length) (hx : ∀ y ∈ l, 0 ≤ y ∧ y < n) (x : Nat) (hxn : x < L.length) (R : List Int)
  (hR : ∀ f : Bool, (f = true ↔ (lt L x x = lt M l.length l.length ∧ (x : Int) ∉ l ∧ ∀ b, b < l.length → lt L x (rd l (b : Int)).toNat = lt M l.length b ∧ lt L (rd l (b : Int)).toNat x = lt M b l.length)) → Ev (fun k => impl_Order_pattern_1.l1 k l (l.length : Int) (x : Int) f n (x : Int) l (l.length : Int) (l.length : Int) m M n L) R) (d : Nat) :
  ∀ (b : Nat) (f : Bool), b + d = l.length → (f = true ↔ (lt L x x = lt M l.length l.length ∧ (x : Int) ∉ l ∧ ∀ q, q < b → lt L x (rd l (q : Int)).toNat = lt M l.length q ∧ lt L (rd l (q : Int)).toNat x = lt M q l.length)) → Ev (fun k => impl_Order_pattern_1.l1 k l (l.length : Int) (x : Int) f n (x : Int) l (l.length : Int) (b : Int) m M n L) R := by
 have hn := hL.2.1
 have hn1 := hL.1
 have hm := hM.2.1
 have hm1 := hM.1
 induction d with
 | zero =>
  intro b f hb hf
  obtain rfl : b = l.length := by omega
  exact hR f hf
 | succ d ih =>
  intro b f hb hf
  have hbl : b < l.length := by omega
  obtain ⟨y, hy⟩ : ∃ y : Nat, rd l (b : Int) = y := by
   have := hx (rd l (b : Int)) (by rw [rd_lt l b hbl]; exact List.getElem_mem _)
   exact ⟨(rd l (b : Int)).toNat, by omega⟩
  have hyn : y < L.length := by
   have := hx (rd l (b : Int)) (by rw [rd_lt l b hbl]; exact List.getElem_mem _)
   omega
  have hrx := hL.row hxn
  have hry := hL.row hyn
  have hra := hM.row hl
  have hrb := hM.row (show b < M.length by omega)
  have hsplit : ∀ (P : Nat → Prop), (∀ q, q < b + 1 → P q) ↔ ((∀ q, q < b → P q) ∧ P b) := fun P => ⟨fun h => ⟨fun q hq => h q (by omega), h b (by omega)⟩, fun h q hq => by
   by_cases e : q = b
   ·rw [e]; exact h.2
   ·exact h.1 q (by omega)⟩
  refine Ev.shift ?_
  simp only [impl_Order_pattern_1.l1]
  rw [wrap64_id (x := (b : Int) + 1) (by omega) (by omega), cast1, hy]
  refine Ev.pos (by omega) (Ev.pos (by omega) (Ev.pos (by omega) ?_))
  have e1 := better_f n L hxn ⟨hrx.1, hrx.2.1⟩ (show y < 10 by omega)
  have e2 := better_f m M hl ⟨hra.1, hra.2.1⟩ (show b < 10 by omega)
  have e3 := better_f n L hyn ⟨hry.1, hry.2.1⟩ (show x < 10 by omega)
  have e4 := better_f m M (show b < M.length by omega) ⟨hrb.1, hrb.2.1⟩ (show l.length < 10 by omega)
  by_cases hft : f = true
  ·have hf2 := hf.1 hft
   refine Ev.pos hft (Ev.bindc e1 (Ev.bindc e2 ?_))
   by_cases hc : (bit (rd L (x : Int)) y == bit (rd M (l.length : Int)) b) = true
   ·refine Ev.pos hc (Ev.bindc e3 (Ev.bindc e4 (ih (b + 1) _ (by omega) ?_)))
    rw [hsplit, hy]
    have hc' : lt L x y = lt M l.length b := beq_iff_eq.1 hc
    simp only [Int.toNat_natCast]
    show (bit (rd L (y : Int)) x == bit (rd M (b : Int)) l.length) = true ↔ _
    rw [beq_iff_eq]
    exact ⟨fun h => ⟨hf2.1, hf2.2.1, hf2.2.2, hc', h⟩, fun h => h.2.2.2.2⟩
   ·refine Ev.neg hc (ih (b + 1) false (by omega) ?_)
    rw [hsplit, hy]
    simp only [Int.toNat_natCast]
    constructor
    ·intro h; cases h
    ·intro h
     exact absurd (show bit (rd L (x : Int)) y = bit (rd M (l.length : Int)) b from h.2.2.2.1) (by simpa using hc)
  ·refine Ev.neg hft (ih (b + 1) false (by omega) ?_)
   rw [hsplit]
   constructor
   ·intro h; cases h
   ·intro h; exact absurd (hf.2 ⟨h.1, h.2.1, h.2.2.1⟩) hft
theorem pat_l0 (hL : relP n L) (hM : relP m M) (l : List Int) (hl : l.length < M.length) (hx : ∀ y ∈ l, 0 ≤ y ∧ y < n) (g : Nat)
  (hg : ∀ x : Nat, x < L.length → Ev (fun k => impl_Order_pattern_1.f k (l ++ [(x : Int)]) m M n L) ((findP (fitP L M) L.length g (l ++ [(x : Int)])).getD [])) (d : Nat) : ∀ x : Nat, x + d = L.length → Ev (fun k => impl_Order_pattern_1.l0 k l (l.length : Int) n (x : Int) m M n L) ((((List.range L.length).drop x).findSome? fun y : Nat => if fitP L M l (y : Int) = true then findP (fitP L M) L.length g (l ++ [(y : Int)]) else none).getD []) := by
 have hn := hL.2.1
 have hn1 := hL.1
 have hm := hM.2.1
 have hm1 := hM.1
 induction d with
 | zero =>
  intro x hxd
  refine Ev.shift ?_
  simp only [impl_Order_pattern_1.l0]
  refine Ev.neg (by omega) (Ev.ret ?_)
  rw [List.drop_of_length_le (by simp; omega)]; rfl
 | succ d ih =>
  intro x hxd
  have hxl : x < L.length := by omega
  have hrx := hL.row hxl
  have hra := hM.row hl
  have e1 := better_f n L hxl ⟨hrx.1, hrx.2.1⟩ (show x < 10 by omega)
  have e2 := better_f m M hl ⟨hra.1, hra.2.1⟩ (show l.length < 10 by omega)
  have hnext := ih (x + 1) (by omega)
  have key : ∀ f : Bool, (f = true ↔ (lt L x x = lt M l.length l.length ∧ (x : Int) ∉ l ∧ ∀ b, b < l.length → lt L x (rd l (b : Int)).toNat = lt M l.length b ∧ lt L (rd l (b : Int)).toNat x = lt M b l.length)) → f = fitP L M l (x : Int) := fun f hf => by
   rw [Bool.eq_iff_iff, hf, fitP_iff]
   simp only [Int.toNat_natCast]
   exact ⟨fun h => ⟨h.2.1, h.1, h.2.2⟩, fun h => ⟨h.2.1, h.1, h.2.2⟩⟩
  have hend : ∀ f : Bool, (f = true ↔ (lt L x x = lt M l.length l.length ∧ (x : Int) ∉ l ∧ ∀ b, b < l.length → lt L x (rd l (b : Int)).toNat = lt M l.length b ∧ lt L (rd l (b : Int)).toNat x = lt M b l.length)) → Ev (fun k => impl_Order_pattern_1.l1 k l (l.length : Int) (x : Int) f n (x : Int) l (l.length : Int) (l.length : Int) m M n L) ((((List.range L.length).drop x).findSome? fun y : Nat => if fitP L M l (y : Int) = true then findP (fitP L M) L.length g (l ++ [(y : Int)]) else none).getD []) := fun f hf => by
   have hff := key f hf
   rw [drop_range hxl, List.findSome?_cons]
   refine Ev.shift ?_
   simp only [impl_Order_pattern_1.l1]
   rw [wrap64_id (x := (x : Int) + 1) (by omega) (by omega), cast1]
   refine Ev.neg (by omega) ?_
   by_cases hft : f = true
   ·rw [← hff, if_pos hft]
    have hcl : slices_Clone_int_int.f l = some l := by unfold slices_Clone_int_int.f; rw [if_pos (by omega)]
    refine Ev.pos hft (Ev.bindc hcl (Ev.bindc rfl (Ev.pos (by simp; omega) (Ev.bind (hg x hxl) ?_))))
    cases hfd : findP (fitP L M) L.length g (l ++ [(x : Int)]) with
    | none => exact Ev.pos rfl hnext
    | some r =>
     obtain ⟨s, hs, _⟩ := findP_sound _ _ _ hfd
     refine Ev.neg ?_ (Ev.ret rfl)
     show ¬ r = []
     rw [hs]; simp
   ·rw [← hff, if_neg hft]
    exact Ev.neg hft hnext
  have hgo := fun (f : Bool) (hf : f = true ↔ (lt L x x = lt M l.length l.length ∧ (x : Int) ∉ l)) => pat_l1 hL hM l hl hx x hxl _ hend l.length 0 f (by omega) (by rw [hf]; exact ⟨fun h => ⟨h.1, h.2, fun q hq => by omega⟩, fun h => ⟨h.1, h.2.1⟩⟩)
  have e0 : ((0 : Nat) : Int) = 0 := rfl
  simp only [e0] at hgo
  refine Ev.shift ?_
  simp only [impl_Order_pattern_1.l0]
  refine Ev.pos (by omega) (Ev.bind (contains_ev l (by omega) (x : Int)) ?_)
  by_cases hc : (x : Int) ∈ l
  ·refine Ev.pos (by simpa using hc) (Ev.shift ?_)
   simp only [impl_Order_pattern_1.j1]
   exact hgo false (show false = true ↔ _ from ⟨fun h => (by cases h), fun h => absurd hc h.2⟩)
  ·refine Ev.neg (by simpa using hc) (Ev.bindc e1 (Ev.bindc e2 (Ev.shift ?_)))
   simp only [impl_Order_pattern_1.j1]
   refine hgo _ ?_
   rw [beq_iff_eq]
   exact ⟨fun h => ⟨h, hc⟩, fun h => h.1⟩
theorem pat_f (hL : relP n L) (hM : relP m M) (g : Nat) : ∀ (l : List Int), l.length + g = M.length → (∀ y ∈ l, 0 ≤ y ∧ y < n) → Ev (fun k => impl_Order_pattern_1.f k l m M n L) ((findP (fitP L M) L.length g l).getD []) := by
 have hn := hL.2.1
 have hm := hM.2.1
 induction g with
 | zero =>
  intro l hl hx
  refine Ev.shift ?_
  simp only [impl_Order_pattern_1.f]
  exact Ev.pos (by omega) (Ev.ret rfl)
 | succ g ih =>
  intro l hl hx
  refine Ev.shift ?_
  simp only [impl_Order_pattern_1.f]
  refine Ev.neg (by omega) ?_
  have := pat_l0 hL hM l (by omega) hx g (fun x hxl => ih (l ++ [(x : Int)]) (by simp; omega) (fun y hy => by
   rcases List.mem_append.1 hy with hy | hy
   ·exact hx y hy
   ·rw [List.mem_singleton.1 hy]; omega)) L.length 0 (by omega)
  rw [List.drop_zero] at this
  exact this
theorem pattern_ev (hL : relP n L) (hM : relP m M) : Ev (fun k => impl_Order_pattern.f k n L m M) ((findP (fitP L M) L.length M.length []).getD []) := by
 unfold impl_Order_pattern.f
 exact Ev.bind (pat_f hL hM M.length [] (by simp) (by simp)) (Ev.ret rfl)
end
def findRes (n : Int) (L : List Int) (m : Int) (M : List Int) : List Int × Bool := if relP n L ∧ relP m M ∧ m ≤ 6 then ((findP (fitP L M) L.length M.length []).getD [], (findP (fitP L M) L.length M.length []).isSome) else ([], false)
theorem iFind (n : Int) (L : List Int) (m : Int) (M : List Int) (hl : L.length ≤ 1000) (hm : M.length ≤ 1000) : Ev (fun k => impl_FindPattern.f k n L m M) (findRes n L m M) := by
 unfold impl_FindPattern.f findRes
 refine Ev.bind (isRelation_ev n L (by omega)) ?_
 by_cases h1 : relP n L
 ·refine Ev.pos (by simpa using h1) (Ev.bind (isRelation_ev m M (by omega)) ?_)
  by_cases h2 : relP m M
  ·refine Ev.pos (by simpa using h2) ?_
   by_cases h3 : m > 6
   ·rw [if_neg (by omega)]
    exact Ev.pos h3 (Ev.ret rfl)
   ·rw [if_pos ⟨h1, h2, by omega⟩]
    refine Ev.neg h3 (Ev.bind (pattern_ev h1 h2) (Ev.ret ?_))
    have := h2.2.1
    cases hf : findP (fitP L M) L.length M.length [] with
    | none =>
     have hne : ¬ m = 0 := fun e => by
      have : M.length = 0 := by omega
      rw [this] at hf
      cases hf
     simp [hne]
    | some r =>
     obtain ⟨s, h4, h5, _⟩ := findP_sound _ _ _ hf
     rw [List.nil_append] at h4
     subst h4
     by_cases e : r = []
     ·have : m = 0 := by rw [e] at h5; simp at h5; omega
      simp [this]
     ·simp [e]
  ·rw [if_neg (fun h => h2 h.2.1)]
   exact Ev.neg (by simpa using h2) (Ev.ret rfl)
 ·rw [if_neg (fun h => h1 h.1)]
  exact Ev.neg (by simpa using h1) (Ev.ret rfl)
end Go.Proofs.YtokeomcijelbmaaDoor.Pure
namespace Go.Proofs.YtokeomcijelbmaaDoor.Pure
set_option linter.unusedVariables false
set_option linter.unusedSimpArgs false
-- plain
structure Mag (n : Nat) (lam : Nat → Nat) (K : Nat) : Prop where
 lt : ∀ i, i < n → lam i < K
 cov : ∀ t, t < K → ∃ i, i < n ∧ lam i = t
section
variable {n : Nat} {r : Nat → Nat → Bool} {lam lam2 : Nat → Nat} {K K2 : Nat}
end
end Go.Proofs.YtokeomcijelbmaaDoor.Pure
namespace Go.Proofs.YtokeomcijelbmaaDoor.Pure
open Go.RowKit Go.Proofs.YtokeomcijelbmaaDoor.Q Go.Proofs.YtokeomcijelbmaaDoorW.PrintWords Go.Proofs.YtokeomcijelbmaaDoorW.PrintLast
set_option linter.unusedVariables false
set_option linter.unusedSimpArgs false
theorem rdIv_lt (l : List S57) (i : Nat) (h : i < l.length) : rd_T57 l (i : Int) = l[i] := by simp [rd_T57, h]
theorem takeIv (l : List S57) (i : Nat) (h : i < l.length) : l.take (i + 1) = l.take i ++ [rd_T57 l (i : Int)] := by
 rw [rdIv_lt l i h]; exact List.take_succ_eq_append_getElem h
end Go.Proofs.YtokeomcijelbmaaDoor.Pure
