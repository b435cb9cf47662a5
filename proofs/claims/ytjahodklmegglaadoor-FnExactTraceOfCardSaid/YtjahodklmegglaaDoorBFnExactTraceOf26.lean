import Derived.Test.YtjahodklmegglaaDoorBFnExactTraceOf5
import Derived.Test.YtjahodklmegglaaDoorBFnExactTraceOf6
import Derived.Test.YtjahodklmegglaaDoorBFnExactTraceOf7
import Derived.Test.YtjahodklmegglaaDoorBFnExactTraceOf11
import Derived.Test.YtjahodklmegglaaDoorBFnExactTraceOf17
import Derived.Test.YtjahodklmegglaaDoorBFnExactTraceOf18
import Derived.Test.YtjahodklmegglaaDoorBFnExactTraceOf19
import Derived.Test.YtjahodklmegglaaDoorBFnExactTraceOf20
import Derived.Test.YtjahodklmegglaaDoorBFnExactTraceOf23
import Derived.Test.YtjahodklmegglaaDoorBFnExactTraceOf24
namespace Go.Proofs.YtjahodklmegglaaDoor.Pure
open Go.RowKit Go.Proofs.YtjahodklmegglaaDoor.Q Go.Proofs.YtjahodklmegglaaDoorW.PrintWords Go.Proofs.YtjahodklmegglaaDoorW.PrintLast
set_option linter.unusedVariables false
set_option linter.unusedSimpArgs false

/-- a loop that goes on where nothing was found -/
theorem loopN {α : Type} (isNil : α → Prop) (N : Nat) (good : Nat → Prop) (Rest : Prop) (g : Nat → Nat → Option α)
    (hend : ∃ x, Ev (g N) x ∧ (isNil x ↔ Rest)) (hstep : ∀ i, i < N → ∀ R : Prop, (∃ x, Ev (g (i + 1)) x ∧ (isNil x ↔ R)) → ∃ x, Ev (g i) x ∧ (isNil x ↔ good i ∧ R)) :
    ∃ x, Ev (g 0) x ∧ (isNil x ↔ (∀ i, i < N → good i) ∧ Rest) := by
  have key : ∀ d i, i + d = N → ∃ x, Ev (g i) x ∧ (isNil x ↔ (∀ j, i ≤ j → j < N → good j) ∧ Rest) := by
    intro d
    induction d with
    | zero =>
      intro i hi
      obtain rfl : i = N := by omega
      obtain ⟨x, h1, h2⟩ := hend
      exact ⟨x, h1, h2.trans ⟨fun h => ⟨fun j h3 h4 => by omega, h⟩, fun h => h.2⟩⟩
    | succ d ih =>
      intro i hi
      obtain ⟨x, h1, h2⟩ := hstep i (by omega) _ (ih (i + 1) (by omega))
      refine ⟨x, h1, h2.trans ⟨fun h => ⟨fun j h3 h4 => ?_, h.2.2⟩, fun h => ⟨h.1 i (Nat.le_refl _) (by omega), fun j h3 h4 => h.1 j (by omega) h4, h.2⟩⟩⟩
      by_cases e : j = i
      · subst e; exact h.1
      · exact h.2.1 j (by omega) h4
  obtain ⟨x, h1, h2⟩ := key N 0 (by omega)
  exact ⟨x, h1, h2.trans ⟨fun h => ⟨fun j h3 => h.1 j (Nat.zero_le _) h3, h.2⟩, fun h => ⟨fun j _ h3 => h.1 j h3, h.2⟩⟩⟩
theorem better_lt {n : Int} {L : List Int} (h : relP n L) {i j : Nat} (hi : i < L.length) (hj : j < L.length) : impl_Order_better.f n L (i : Int) (j : Int) = some (lt L i j) :=
  better_f n L hi ⟨(h.row hi).1, (h.row hi).2.1⟩ (by have := h.1; have := h.2.1; omega)
def bad22 (L : List Int) (a b c d : Nat) : Prop := lt L a b = true ∧ lt L c d = true ∧ lt L c b = false ∧ lt L a d = false
theorem twoTwo_ev {n : Int} {L : List Int} (h : relP n L) : ∃ x, Ev (fun k => impl_Order_twoTwo.f k n L) x ∧ (x = [] ↔ (∀ a, a < L.length → ∀ b, b < L.length → ∀ c, c < L.length → ∀ d, d < L.length → ¬ bad22 L a b c d) ∧ True) := by
  have e1 := h.2.1
  have e3 := h.1
  unfold impl_Order_twoTwo.f
  refine loopN (fun x : List Int => x = []) L.length _ True (fun (a : Nat) k => impl_Order_twoTwo.l0 k n (a : Int) n L) ⟨[], ?_, by simp⟩ (fun a ha R hR => ?_)
  · refine Ev.shift ?_
    simp only [impl_Order_twoTwo.l0]
    exact Ev.neg (by omega) (Ev.ret rfl)
  · have := loopN (fun x : List Int => x = []) L.length R (fun (b : Nat) k => impl_Order_twoTwo.l1 k (a : Int) n (a : Int) n (b : Int) n L) (by
      obtain ⟨x, h1, h2⟩ := hR
      refine ⟨x, Ev.shift ?_, h2⟩
      simp only [impl_Order_twoTwo.l1]
      refine Ev.neg (by omega) ?_
      rw [wrap64_id (by omega) (by omega), cast1]
      exact h1) (good := fun b => ∀ c, c < L.length → ∀ d, d < L.length → ¬ bad22 L a b c d) (fun b hb R hR => ?_)
    · obtain ⟨x, h1, h2⟩ := this
      refine ⟨x, Ev.shift ?_, h2⟩
      simp only [impl_Order_twoTwo.l0]
      exact Ev.pos (by omega) h1
    · have := loopN (fun x : List Int => x = []) L.length R (fun (c : Nat) k => impl_Order_twoTwo.l2 k (a : Int) (b : Int) n (a : Int) n (b : Int) n (c : Int) n L) (by
        obtain ⟨x, h1, h2⟩ := hR
        refine ⟨x, Ev.shift ?_, h2⟩
        simp only [impl_Order_twoTwo.l2]
        refine Ev.neg (by omega) ?_
        rw [wrap64_id (by omega) (by omega), cast1]
        exact h1) (good := fun c => ∀ d, d < L.length → ¬ bad22 L a b c d) (fun c hc R hR => ?_)
      · obtain ⟨x, h1, h2⟩ := this
        refine ⟨x, Ev.shift ?_, h2⟩
        simp only [impl_Order_twoTwo.l1]
        exact Ev.pos (by omega) h1
      · have := loopN (fun x : List Int => x = []) L.length R (fun (d : Nat) k => impl_Order_twoTwo.l3 k (a : Int) (b : Int) (c : Int) n (a : Int) n (b : Int) n (c : Int) n (d : Int) n L) (by
          obtain ⟨x, h1, h2⟩ := hR
          refine ⟨x, Ev.shift ?_, h2⟩
          simp only [impl_Order_twoTwo.l3]
          refine Ev.neg (by omega) ?_
          rw [wrap64_id (by omega) (by omega), cast1]
          exact h1) (good := fun d => ¬ bad22 L a b c d) (fun d hd R hR => ?_)
        · obtain ⟨x, h1, h2⟩ := this
          refine ⟨x, Ev.shift ?_, h2⟩
          simp only [impl_Order_twoTwo.l2]
          exact Ev.pos (by omega) h1
        · obtain ⟨x, h1, h2⟩ := hR
          have w := wrap64_id (x := (d : Int) + 1) (by omega) (by omega)
          by_cases c1 : lt L a b = true
          · by_cases c2 : lt L c d = true
            · by_cases c3 : lt L c b = true
              · refine ⟨x, Ev.shift ?_, h2.trans ⟨fun r => ⟨fun hb => (by rw [hb.2.2.1] at c3; cases c3), r⟩, fun r => r.2⟩⟩
                simp only [impl_Order_twoTwo.l3]
                rw [w, cast1]
                exact Ev.pos (by omega) (Ev.bindc (better_lt h ha hb) (Ev.pos c1 (Ev.bindc (better_lt h hc hd) (Ev.pos c2 (Ev.bindc (better_lt h hc hb) (Ev.pos c3 h1))))))
              · by_cases c4 : lt L a d = true
                · refine ⟨x, Ev.shift ?_, h2.trans ⟨fun r => ⟨fun hb => (by rw [hb.2.2.2] at c4; cases c4), r⟩, fun r => r.2⟩⟩
                  simp only [impl_Order_twoTwo.l3]
                  rw [w, cast1]
                  exact Ev.pos (by omega) (Ev.bindc (better_lt h ha hb) (Ev.pos c1 (Ev.bindc (better_lt h hc hd) (Ev.pos c2 (Ev.bindc (better_lt h hc hb) (Ev.neg c3 (Ev.bindc (better_lt h ha hd) (Ev.pos c4 h1))))))))
                · refine ⟨[(a : Int), (b : Int), (c : Int), (d : Int)], Ev.shift ?_, ⟨fun r => (by cases r), fun r => (r.1 ⟨c1, c2, by simpa using c3, by simpa using c4⟩).elim⟩⟩
                  simp only [impl_Order_twoTwo.l3]
                  exact Ev.pos (by omega) (Ev.bindc (better_lt h ha hb) (Ev.pos c1 (Ev.bindc (better_lt h hc hd) (Ev.pos c2 (Ev.bindc (better_lt h hc hb) (Ev.neg c3 (Ev.bindc (better_lt h ha hd) (Ev.neg c4 (Ev.ret rfl)))))))))
            · refine ⟨x, Ev.shift ?_, h2.trans ⟨fun r => ⟨fun hb => c2 hb.2.1, r⟩, fun r => r.2⟩⟩
              simp only [impl_Order_twoTwo.l3]
              rw [w, cast1]
              exact Ev.pos (by omega) (Ev.bindc (better_lt h ha hb) (Ev.pos c1 (Ev.bindc (better_lt h hc hd) (Ev.neg c2 h1))))
          · refine ⟨x, Ev.shift ?_, h2.trans ⟨fun r => ⟨fun hb => c1 hb.1, r⟩, fun r => r.2⟩⟩
            simp only [impl_Order_twoTwo.l3]
            rw [w, cast1]
            exact Ev.pos (by omega) (Ev.bindc (better_lt h ha hb) (Ev.neg c1 h1))
theorem indiff_ev {n : Int} {L : List Int} (h : relP n L) {i j : Nat} (hi : i < L.length) (hj : j < L.length) : Ev (fun k => spec_seIndifferent.f k n L (i : Int) (j : Int)) (freeP L i j) := by
  have h10 : L.length ≤ 10 := by have := h.1; have := h.2.1; omega
  have fb := rowf_bits (freeP L i) L.length h10
  unfold spec_seIndifferent.f
  refine Ev.bind (free_ev h hi) (Ev.bindc (orHas_f fb.1.1 fb.1.2 (by omega)) (Ev.ret ?_))
  rw [fb.2]; simp [hj]
/-- the element that a list of a row's elements tells -/
theorem row_el {n : Int} {L : List Int} (h : relP n L) {i q : Nat} (hi : i < L.length) (hq : q < (bitsOf (rd L (i : Int))).length) : ∃ j : Nat, rd (bitsOf (rd L (i : Int))) (q : Int) = j ∧ j < L.length ∧ lt L i j = true := by
  obtain ⟨j, h1, h2, h3⟩ := h.bits (i := i) hi (j := rd (bitsOf (rd L (i : Int))) (q : Int)) (by rw [rd_lt _ q hq]; exact List.getElem_mem _)
  exact ⟨j, h1, h2, h3⟩
theorem row_all {n : Int} {L : List Int} (h : relP n L) {i : Nat} (hi : i < L.length) (P : Nat → Prop) : (∀ q, q < (bitsOf (rd L (i : Int))).length → ∀ j : Nat, rd (bitsOf (rd L (i : Int))) (q : Int) = j → P j) ↔ ∀ j, j < L.length → lt L i j = true → P j := by
  have h10 : L.length ≤ 10 := by have := h.1; have := h.2.1; omega
  constructor
  · intro h1 j hj hb
    obtain ⟨q, hq, e⟩ := List.mem_iff_getElem.1 (mem_bitsOf.2 ⟨j, by omega, hb, rfl⟩ : (j : Int) ∈ bitsOf (rd L (i : Int)))
    exact h1 q hq j (by rw [rd_lt _ q hq]; exact e)
  · intro h1 q hq j e
    obtain ⟨j', e', h2, h3⟩ := row_el h hi hq
    obtain rfl : j = j' := by omega
    exact h1 j h2 h3
def badS (L : List Int) (a b c d : Nat) : Prop := freeP L a d = true ∧ freeP L c b = true
theorem setwo_ev {n : Int} {L : List Int} (h : relP n L) : ∃ x, Ev (fun k => spec_seTwoTwo.f k n L) x ∧ (x = false ↔ (∀ a, a < L.length → ∀ q, q < (bitsOf (rd L (a : Int))).length → ∀ c, c < L.length → ∀ p, p < (bitsOf (rd L (c : Int))).length → ∀ b : Nat, rd (bitsOf (rd L (a : Int))) (q : Int) = b → ∀ d : Nat, rd (bitsOf (rd L (c : Int))) (p : Int) = d → ¬ badS L a b c d) ∧ True) := by
  have e1 := h.2.1
  have e3 := h.1
  unfold spec_seTwoTwo.f
  refine loopN (fun x : Bool => x = false) L.length _ True (fun (a : Nat) k => spec_seTwoTwo.l0 k (a : Int) n L) ⟨false, ?_, by simp⟩ (fun a ha R hR => ?_)
  · refine Ev.shift ?_
    simp only [spec_seTwoTwo.l0]
    exact Ev.neg (by omega) (Ev.ret rfl)
  · have hs := h.set (i := a) ha
    have hbl := bitsOf_len (rd L (a : Int))
    have := loopN (fun x : Bool => x = false) (bitsOf (rd L (a : Int))).length R (fun (q : Nat) k => spec_seTwoTwo.l1 k (a : Int) (bitsOf (rd L (a : Int))) ((bitsOf (rd L (a : Int))).length : Int) (q : Int) n L) (by
      obtain ⟨x, h1, h2⟩ := hR
      refine ⟨x, Ev.shift ?_, h2⟩
      simp only [spec_seTwoTwo.l1]
      refine Ev.neg (by omega) ?_
      rw [wrap64_id (by omega) (by omega), cast1]
      exact h1) (good := fun q => ∀ c, c < L.length → ∀ p, p < (bitsOf (rd L (c : Int))).length → ∀ b : Nat, rd (bitsOf (rd L (a : Int))) (q : Int) = b → ∀ d : Nat, rd (bitsOf (rd L (c : Int))) (p : Int) = d → ¬ badS L a b c d) (fun q hq R hR => ?_)
    · obtain ⟨x, h1, h2⟩ := this
      refine ⟨x, Ev.shift ?_, h2⟩
      simp only [spec_seTwoTwo.l0]
      exact Ev.pos (by omega) (Ev.pos (by omega) (Ev.pos (by omega) (Ev.bind (orList_ev hs.1 hs.2) h1)))
    · obtain ⟨b, eb, hb, hab⟩ := row_el h ha hq
      have := loopN (fun x : Bool => x = false) L.length R (fun (c : Nat) k => spec_seTwoTwo.l2 k (a : Int) (b : Int) (c : Int) (bitsOf (rd L (a : Int))) ((bitsOf (rd L (a : Int))).length : Int) (q : Int) n L) (by
        obtain ⟨x, h1, h2⟩ := hR
        refine ⟨x, Ev.shift ?_, h2⟩
        simp only [spec_seTwoTwo.l2]
        refine Ev.neg (by omega) ?_
        rw [wrap64_id (by omega) (by omega), cast1]
        exact h1) (good := fun c => ∀ p, p < (bitsOf (rd L (c : Int))).length → ∀ b' : Nat, rd (bitsOf (rd L (a : Int))) (q : Int) = b' → ∀ d : Nat, rd (bitsOf (rd L (c : Int))) (p : Int) = d → ¬ badS L a b' c d) (fun c hc R hR => ?_)
      · obtain ⟨x, h1, h2⟩ := this
        refine ⟨x, Ev.shift ?_, h2⟩
        simp only [spec_seTwoTwo.l1]
        rw [eb]
        exact Ev.pos (by omega) (Ev.pos (by omega) (Ev.pos (by omega) h1))
      · have hs2 := h.set (i := c) hc
        have hbl2 := bitsOf_len (rd L (c : Int))
        have := loopN (fun x : Bool => x = false) (bitsOf (rd L (c : Int))).length R (fun (p : Nat) k => spec_seTwoTwo.l3 k (a : Int) (b : Int) (c : Int) (bitsOf (rd L (a : Int))) ((bitsOf (rd L (a : Int))).length : Int) (q : Int) (bitsOf (rd L (c : Int))) ((bitsOf (rd L (c : Int))).length : Int) (p : Int) n L) (by
          obtain ⟨x, h1, h2⟩ := hR
          refine ⟨x, Ev.shift ?_, h2⟩
          simp only [spec_seTwoTwo.l3]
          refine Ev.neg (by omega) ?_
          rw [wrap64_id (by omega) (by omega), cast1]
          exact h1) (good := fun p => ∀ b' : Nat, rd (bitsOf (rd L (a : Int))) (q : Int) = b' → ∀ d : Nat, rd (bitsOf (rd L (c : Int))) (p : Int) = d → ¬ badS L a b' c d) (fun p hp R hR => ?_)
        · obtain ⟨x, h1, h2⟩ := this
          refine ⟨x, Ev.shift ?_, h2⟩
          simp only [spec_seTwoTwo.l2]
          exact Ev.pos (by omega) (Ev.pos (by omega) (Ev.pos (by omega) (Ev.bind (orList_ev hs2.1 hs2.2) h1)))
        · obtain ⟨d, ed, hd, hcd⟩ := row_el h hc hp
          obtain ⟨x, h1, h2⟩ := hR
          have p1 : (p : Int) < ((bitsOf (rd L (c : Int))).length : Int) := by omega
          have p0 : (0 : Int) ≤ (p : Int) := by omega
          have w := wrap64_id (x := (p : Int) + 1) (by omega) (by omega)
          have gd : (∀ b' : Nat, rd (bitsOf (rd L (a : Int))) (q : Int) = b' → ∀ d : Nat, rd (bitsOf (rd L (c : Int))) (p : Int) = d → ¬ badS L a b' c d) ↔ ¬ badS L a b c d := by
            constructor
            · intro r; exact r b eb d ed
            · intro r b' eb' d' ed'
              obtain rfl : b' = b := by omega
              obtain rfl : d' = d := by omega
              exact r
          by_cases c1 : freeP L a d = true
          · by_cases c2 : freeP L c b = true
            · refine ⟨true, Ev.shift ?_, ⟨fun r => (by cases r), fun r => (gd.1 r.1 ⟨c1, c2⟩).elim⟩⟩
              simp only [spec_seTwoTwo.l3]
              rw [ed]
              exact Ev.pos p1 (Ev.pos p0 (Ev.pos p1 (Ev.bind (indiff_ev h ha hd) (Ev.pos c1 (Ev.bind (indiff_ev h hc hb) (Ev.pos c2 (Ev.ret rfl)))))))
            · refine ⟨x, Ev.shift ?_, h2.trans ⟨fun r => ⟨gd.2 fun hb => c2 hb.2, r⟩, fun r => r.2⟩⟩
              simp only [spec_seTwoTwo.l3]
              rw [ed, w, cast1]
              exact Ev.pos p1 (Ev.pos p0 (Ev.pos p1 (Ev.bind (indiff_ev h ha hd) (Ev.pos c1 (Ev.bind (indiff_ev h hc hb) (Ev.neg c2 h1))))))
          · refine ⟨x, Ev.shift ?_, h2.trans ⟨fun r => ⟨gd.2 fun hb => c1 hb.1, r⟩, fun r => r.2⟩⟩
            simp only [spec_seTwoTwo.l3]
            rw [ed, w, cast1]
            exact Ev.pos p1 (Ev.pos p0 (Ev.pos p1 (Ev.bind (indiff_ev h ha hd) (Ev.neg c1 h1))))
/-- three sets have nothing in common -/
def and3 (L : List Int) (a b c : Nat) : Int := Go.bits .and .i64 (Go.bits .and .i64 (rd (rel (freeP L) L.length) (a : Int)) (rd (rel (freeP L) L.length) (b : Int))) (rd (rel (freeP L) L.length) (c : Int))
theorem and3_set {n : Int} {L : List Int} (h : relP n L) {a b c : Nat} (ha : a < L.length) (hb : b < L.length) (hc : c < L.length) : setP (and3 L a b c) ∧ ∀ d, bit (and3 L a b c) d = (decide (d < L.length) && freeP L a d && freeP L b d && freeP L c d) := by
  have h10 : L.length ≤ 10 := by have := h.1; have := h.2.1; omega
  have fa := rel_set (p := freeP L) h10 ha
  have fb := rel_set (p := freeP L) h10 hb
  have fc := rel_set (p := freeP L) h10 hc
  have la := rel_lt (p := freeP L) h10 ha
  have lb := rel_lt (p := freeP L) h10 hb
  have lc := rel_lt (p := freeP L) h10 hc
  unfold lt at la lb lc
  have o1 := set_and fa fb
  have o2 := set_and o1.1 fc
  refine ⟨o2.1, fun d => ?_⟩
  unfold and3
  rw [o2.2, o1.2, la, lb, lc]
  by_cases hd : d < L.length <;> simp [hd]
/-- no chain of three with an element indifferent to all: as both loops look for it -/
def look31 (L : List Int) : Prop := ∀ a, a < L.length → ∀ q, q < (bitsOf (rd L (a : Int))).length → ∀ b : Nat, rd (bitsOf (rd L (a : Int))) (q : Int) = b → ∀ p, p < (bitsOf (rd L (b : Int))).length → ∀ c : Nat, rd (bitsOf (rd L (b : Int))) (p : Int) = c → and3 L a b c = 0
theorem threeOne_ev {n : Int} {L : List Int} (h : relP n L) : ∃ x, Ev (fun k => impl_Order_threeOne.f k n L) x ∧ (x = [] ↔ look31 L) := by
  have e1 := h.2.1
  have e3 := h.1
  have el := rel_length (freeP L) L.length
  suffices ∃ x, Ev (fun k => impl_Order_threeOne.l0 k (rel (freeP L) L.length) n 0 n L) x ∧ (x = [] ↔ look31 L ∧ True) by
    obtain ⟨x, h1, h2⟩ := this
    refine ⟨x, ?_, h2.trans ⟨fun r => r.1, fun r => ⟨r, trivial⟩⟩⟩
    unfold impl_Order_threeOne.f
    exact Ev.bind (near_ev h) h1
  refine loopN (fun x : List Int => x = []) L.length _ True (fun (a : Nat) k => impl_Order_threeOne.l0 k (rel (freeP L) L.length) n (a : Int) n L) ⟨[], ?_, by simp⟩ (fun a ha R hR => ?_)
  · refine Ev.shift ?_
    simp only [impl_Order_threeOne.l0]
    exact Ev.neg (by omega) (Ev.ret rfl)
  · have hs := h.set (i := a) ha
    have hbl := bitsOf_len (rd L (a : Int))
    have := loopN (fun x : List Int => x = []) (bitsOf (rd L (a : Int))).length R (fun (q : Nat) k => impl_Order_threeOne.l1 k (rel (freeP L) L.length) (a : Int) n (a : Int) (bitsOf (rd L (a : Int))) ((bitsOf (rd L (a : Int))).length : Int) (q : Int) n L) (by
      obtain ⟨x, h1, h2⟩ := hR
      refine ⟨x, Ev.shift ?_, h2⟩
      simp only [impl_Order_threeOne.l1]
      refine Ev.neg (by omega) ?_
      rw [wrap64_id (by omega) (by omega), cast1]
      exact h1) (good := fun q => ∀ b : Nat, rd (bitsOf (rd L (a : Int))) (q : Int) = b → ∀ p, p < (bitsOf (rd L (b : Int))).length → ∀ c : Nat, rd (bitsOf (rd L (b : Int))) (p : Int) = c → and3 L a b c = 0) (fun q hq R hR => ?_)
    · obtain ⟨x, h1, h2⟩ := this
      refine ⟨x, Ev.shift ?_, h2⟩
      simp only [impl_Order_threeOne.l0]
      exact Ev.pos (by omega) (Ev.pos (by omega) (Ev.pos (by omega) (Ev.bind (members_ev hs.1 hs.2) h1)))
    · obtain ⟨b, eb, hb, hab⟩ := row_el h ha hq
      have hs2 := h.set (i := b) hb
      have hbl2 := bitsOf_len (rd L (b : Int))
      have := loopN (fun x : List Int => x = []) (bitsOf (rd L (b : Int))).length R (fun (p : Nat) k => impl_Order_threeOne.l2 k (rel (freeP L) L.length) (a : Int) (b : Int) n (a : Int) (bitsOf (rd L (a : Int))) ((bitsOf (rd L (a : Int))).length : Int) (q : Int) (bitsOf (rd L (b : Int))) ((bitsOf (rd L (b : Int))).length : Int) (p : Int) n L) (by
        obtain ⟨x, h1, h2⟩ := hR
        refine ⟨x, Ev.shift ?_, h2⟩
        simp only [impl_Order_threeOne.l2]
        refine Ev.neg (by omega) ?_
        rw [wrap64_id (by omega) (by omega), cast1]
        exact h1) (good := fun p => ∀ c : Nat, rd (bitsOf (rd L (b : Int))) (p : Int) = c → and3 L a b c = 0) (fun p hp R hR => ?_)
      · obtain ⟨x, h1, h2⟩ := this
        refine ⟨x, Ev.shift ?_, h2.trans ⟨fun r => ⟨fun b' eb' => ?_, r.2⟩, fun r => ⟨r.1 b eb, r.2⟩⟩⟩
        · simp only [impl_Order_threeOne.l1]
          rw [eb]
          exact Ev.pos (by omega) (Ev.pos (by omega) (Ev.pos (by omega) (Ev.pos (by omega) (Ev.pos (by omega) (Ev.bind (members_ev hs2.1 hs2.2) h1)))))
        · obtain rfl : b' = b := by omega
          exact r.1
      · obtain ⟨c, ec, hc, hbc⟩ := row_el h hb hp
        obtain ⟨x, h1, h2⟩ := hR
        have p1 : (p : Int) < ((bitsOf (rd L (b : Int))).length : Int) := by omega
        have p0 : (0 : Int) ≤ (p : Int) := by omega
        have a0 : (0 : Int) ≤ (a : Int) := by omega
        have b0 : (0 : Int) ≤ (b : Int) := by omega
        have c0 : (0 : Int) ≤ (c : Int) := by omega
        have a1 : (a : Int) < ((rel (freeP L) L.length).length : Int) := by rw [el]; omega
        have b1 : (b : Int) < ((rel (freeP L) L.length).length : Int) := by rw [el]; omega
        have c1 : (c : Int) < ((rel (freeP L) L.length).length : Int) := by rw [el]; omega
        have ha3 := and3_set h ha hb hc
        by_cases hz : and3 L a b c = 0
        · refine ⟨x, Ev.shift ?_, h2.trans ⟨fun r => ⟨fun c' ec' => ?_, r⟩, fun r => r.2⟩⟩
          · simp only [impl_Order_threeOne.l2]
            rw [ec, wrap64_id (x := (p : Int) + 1) (by omega) (by omega), cast1]
            exact Ev.pos p1 (Ev.pos p0 (Ev.pos p1 (Ev.pos a0 (Ev.pos a1 (Ev.pos b0 (Ev.pos b1 (Ev.pos c0 (Ev.pos c1 (Ev.pos hz h1)))))))))
          · obtain rfl : c' = c := by omega
            exact hz
        · have hne : bitsOf (and3 L a b c) ≠ [] := fun e => hz ((bitsOf_nil ha3.1).1 e)
          have hpos : (0 : Int) < ((bitsOf (and3 L a b c)).length : Int) := by have := List.length_pos_iff.2 hne; omega
          refine ⟨[(a : Int), (b : Int), (c : Int), rd (bitsOf (and3 L a b c)) 0], Ev.shift ?_, ⟨fun r => (by cases r), fun r => (hz (r.1 c ec)).elim⟩⟩
          simp only [impl_Order_threeOne.l2]
          rw [ec]
          exact Ev.pos p1 (Ev.pos p0 (Ev.pos p1 (Ev.pos a0 (Ev.pos a1 (Ev.pos b0 (Ev.pos b1 (Ev.pos c0 (Ev.pos c1 (Ev.neg hz (Ev.bind (members_ev ha3.1.1 ha3.1.2) (Ev.pos hpos (Ev.ret rfl))))))))))))
theorem threeS_ev {n : Int} {L : List Int} (h : relP n L) : ∃ x, Ev (fun k => spec_ThreeOneOf.l0 k 0 n L) x ∧ (x.2 = false ↔ look31 L ∧ True) := by
  have e1 := h.2.1
  have e3 := h.1
  refine loopN (fun x : List Int × Bool => x.2 = false) L.length _ True (fun (a : Nat) k => spec_ThreeOneOf.l0 k (a : Int) n L) ⟨([], false), ?_, by simp⟩ (fun a ha R hR => ?_)
  · refine Ev.shift ?_
    simp only [spec_ThreeOneOf.l0]
    exact Ev.neg (by omega) (Ev.ret rfl)
  · have hs := h.set (i := a) ha
    have hbl := bitsOf_len (rd L (a : Int))
    have := loopN (fun x : List Int × Bool => x.2 = false) (bitsOf (rd L (a : Int))).length R (fun (q : Nat) k => spec_ThreeOneOf.l1 k (a : Int) (bitsOf (rd L (a : Int))) ((bitsOf (rd L (a : Int))).length : Int) (q : Int) n L) (by
      obtain ⟨x, h1, h2⟩ := hR
      refine ⟨x, Ev.shift ?_, h2⟩
      simp only [spec_ThreeOneOf.l1]
      refine Ev.neg (by omega) ?_
      rw [wrap64_id (by omega) (by omega), cast1]
      exact h1) (good := fun q => ∀ b : Nat, rd (bitsOf (rd L (a : Int))) (q : Int) = b → ∀ p, p < (bitsOf (rd L (b : Int))).length → ∀ c : Nat, rd (bitsOf (rd L (b : Int))) (p : Int) = c → and3 L a b c = 0) (fun q hq R hR => ?_)
    · obtain ⟨x, h1, h2⟩ := this
      refine ⟨x, Ev.shift ?_, h2⟩
      simp only [spec_ThreeOneOf.l0]
      exact Ev.pos (by omega) (Ev.pos (by omega) (Ev.pos (by omega) (Ev.bind (orList_ev hs.1 hs.2) h1)))
    · obtain ⟨b, eb, hb, hab⟩ := row_el h ha hq
      have hs2 := h.set (i := b) hb
      have hbl2 := bitsOf_len (rd L (b : Int))
      have := loopN (fun x : List Int × Bool => x.2 = false) (bitsOf (rd L (b : Int))).length R (fun (p : Nat) k => spec_ThreeOneOf.l2 k (a : Int) (b : Int) (bitsOf (rd L (a : Int))) ((bitsOf (rd L (a : Int))).length : Int) (q : Int) (bitsOf (rd L (b : Int))) ((bitsOf (rd L (b : Int))).length : Int) (p : Int) n L) (by
        obtain ⟨x, h1, h2⟩ := hR
        refine ⟨x, Ev.shift ?_, h2⟩
        simp only [spec_ThreeOneOf.l2]
        refine Ev.neg (by omega) ?_
        rw [wrap64_id (by omega) (by omega), cast1]
        exact h1) (good := fun p => ∀ c : Nat, rd (bitsOf (rd L (b : Int))) (p : Int) = c → and3 L a b c = 0) (fun p hp R hR => ?_)
      · obtain ⟨x, h1, h2⟩ := this
        refine ⟨x, Ev.shift ?_, h2.trans ⟨fun r => ⟨fun b' eb' => ?_, r.2⟩, fun r => ⟨r.1 b eb, r.2⟩⟩⟩
        · simp only [spec_ThreeOneOf.l1]
          rw [eb]
          exact Ev.pos (by omega) (Ev.pos (by omega) (Ev.pos (by omega) (Ev.pos (by omega) (Ev.pos (by omega) (Ev.bind (orList_ev hs2.1 hs2.2) h1)))))
        · obtain rfl : b' = b := by omega
          exact r.1
      · obtain ⟨c, ec, hc, hbc⟩ := row_el h hb hp
        obtain ⟨x, h1, h2⟩ := hR
        have p1 : (p : Int) < ((bitsOf (rd L (b : Int))).length : Int) := by omega
        have p0 : (0 : Int) ≤ (p : Int) := by omega
        have ha3 := and3_set h ha hb hc
        have g1 := rel_get (freeP L) L.length a ha
        have g2 := rel_get (freeP L) L.length b hb
        have g3 := rel_get (freeP L) L.length c hc
        have hbl3 := bitsOf_len (and3 L a b c)
        have step : ∀ y, Ev (fun k => spec_ThreeOneOf.l3 k (a : Int) (b : Int) (c : Int) (bitsOf (rd L (a : Int))) ((bitsOf (rd L (a : Int))).length : Int) (q : Int) (bitsOf (rd L (b : Int))) ((bitsOf (rd L (b : Int))).length : Int) (p : Int) (bitsOf (and3 L a b c)) ((bitsOf (and3 L a b c)).length : Int) 0 n L) y → Ev (fun k => spec_ThreeOneOf.l2 k (a : Int) (b : Int) (bitsOf (rd L (a : Int))) ((bitsOf (rd L (a : Int))).length : Int) (q : Int) (bitsOf (rd L (b : Int))) ((bitsOf (rd L (b : Int))).length : Int) (p : Int) n L) y := fun y hy => by
          refine Ev.shift ?_
          simp only [spec_ThreeOneOf.l2]
          rw [ec]
          refine Ev.pos p1 (Ev.pos p0 (Ev.pos p1 (Ev.bind (free_ev h ha) (Ev.bind (free_ev h hb) (Ev.bind (free_ev h hc) ?_)))))
          rw [← g1, ← g2, ← g3]
          exact Ev.bind (orList_ev ha3.1.1 ha3.1.2) hy
        by_cases hz : and3 L a b c = 0
        · refine ⟨x, step x (Ev.shift ?_), h2.trans ⟨fun r => ⟨fun c' ec' => ?_, r⟩, fun r => r.2⟩⟩
          · rw [(bitsOf_nil ha3.1).2 hz]
            simp only [spec_ThreeOneOf.l3]
            refine Ev.neg (by simp) ?_
            rw [wrap64_id (x := (p : Int) + 1) (by omega) (by omega), cast1]
            exact h1
          · obtain rfl : c' = c := by omega
            exact hz
        · have hne : bitsOf (and3 L a b c) ≠ [] := fun e => hz ((bitsOf_nil ha3.1).1 e)
          have hpos : (0 : Int) < ((bitsOf (and3 L a b c)).length : Int) := by have := List.length_pos_iff.2 hne; omega
          refine ⟨([(a : Int), (b : Int), (c : Int), rd (bitsOf (and3 L a b c)) 0], true), step _ (Ev.shift ?_), ⟨fun r => (by cases r), fun r => (hz (r.1 c ec)).elim⟩⟩
          simp only [spec_ThreeOneOf.l3]
          exact Ev.pos hpos (Ev.pos (by omega) (Ev.pos hpos (Ev.ret rfl)))
theorem freeP_iff {L : List Int} {i j : Nat} : freeP L i j = true ↔ lt L i j = false ∧ lt L j i = false ∧ j ≠ i := by
  unfold freeP
  cases lt L i j <;> cases lt L j i <;> simp
theorem look_22 {n : Int} {L : List Int} (h : orderP n L) : (∀ a, a < L.length → ∀ q, q < (bitsOf (rd L (a : Int))).length → ∀ c, c < L.length → ∀ p, p < (bitsOf (rd L (c : Int))).length → ∀ b : Nat, rd (bitsOf (rd L (a : Int))) (q : Int) = b → ∀ d : Nat, rd (bitsOf (rd L (c : Int))) (p : Int) = d → ¬ badS L a b c d) ↔ ∀ a, a < L.length → ∀ b, b < L.length → ∀ c, c < L.length → ∀ d, d < L.length → ¬ bad22 L a b c d := by
  have h10 : L.length ≤ 10 := by have := h.1.1; have := h.1.2.1; omega
  have place : ∀ i j : Nat, i < L.length → j < L.length → lt L i j = true → ∃ q, q < (bitsOf (rd L (i : Int))).length ∧ rd (bitsOf (rd L (i : Int))) (q : Int) = j := fun i j hi hj hb => by
    obtain ⟨q, hq, e⟩ := List.mem_iff_getElem.1 (mem_bitsOf.2 ⟨j, by omega, hb, rfl⟩ : (j : Int) ∈ bitsOf (rd L (i : Int)))
    exact ⟨q, hq, by rw [rd_lt _ q hq]; exact e⟩
  constructor
  · rintro r a ha b hb c hc d hd ⟨h1, h2, h3, h4⟩
    obtain ⟨q, hq, eq⟩ := place a b ha hb h1
    obtain ⟨p, hp, ep⟩ := place c d hc hd h2
    refine r a ha q hq c hc p hp b eq d ep ⟨freeP_iff.2 ⟨h4, ?_, ?_⟩, freeP_iff.2 ⟨h3, ?_, ?_⟩⟩
    · cases e : lt L d a
      · rfl
      · have := h.trans hc (h.trans hc h2 e) h1; rw [h3] at this; cases this
    · rintro rfl
      have := h.trans hc h2 h1; rw [h3] at this; cases this
    · cases e : lt L b c
      · rfl
      · have := h.trans ha (h.trans ha h1 e) h2; rw [h4] at this; cases this
    · rintro rfl
      have := h.trans ha h1 h2; rw [h4] at this; cases this
  · rintro r a ha q hq c hc p hp b eb d ed ⟨h1, h2⟩
    obtain ⟨b', eb', hb, hab⟩ := row_el h.1 ha hq
    obtain ⟨d', ed', hd, hcd⟩ := row_el h.1 hc hp
    obtain rfl : b = b' := by omega
    obtain rfl : d = d' := by omega
    exact r a ha b hb c hc d hd ⟨hab, hcd, (freeP_iff.1 h2).1, (freeP_iff.1 h1).1⟩
theorem look_31 {n : Int} {L : List Int} (h : orderP n L) (hl : look31 L) : No31 L.length (lt L) := by
  have h10 : L.length ≤ 10 := by have := h.1.1; have := h.1.2.1; omega
  have place : ∀ i j : Nat, i < L.length → j < L.length → lt L i j = true → ∃ q, q < (bitsOf (rd L (i : Int))).length ∧ rd (bitsOf (rd L (i : Int))) (q : Int) = j := fun i j hi hj hb => by
    obtain ⟨q, hq, e⟩ := List.mem_iff_getElem.1 (mem_bitsOf.2 ⟨j, by omega, hb, rfl⟩ : (j : Int) ∈ bitsOf (rd L (i : Int)))
    exact ⟨q, hq, by rw [rd_lt _ q hq]; exact e⟩
  intro a b c d ha hb hc hd hab hbc a1 a2 a3 b1 b2 b3 c1 c2 c3
  obtain ⟨q, hq, eq⟩ := place a b ha hb hab
  obtain ⟨p, hp, ep⟩ := place b c hb hc hbc
  have hz := hl a ha q hq b eq p hp c ep
  have h3 := and3_set h.1 ha hb hc
  have := (set_eq_zero h3.1).1 hz d (by omega)
  rw [h3.2, freeP_iff.2 ⟨a1, a2, a3⟩, freeP_iff.2 ⟨b1, b2, b3⟩, freeP_iff.2 ⟨c1, c2, c3⟩] at this
  simp [hd] at this
/-- both say the same of semiorders, and a semiorder has neither shape -/
theorem semi_both (n : Int) (L : List Int) (hL : L.length ≤ 1048576) : ∃ b, Ev (fun k => impl_isSemi.f k n L) b ∧ Ev (fun k => spec_seGood.f k n L) b ∧ (b = true → orderP n L ∧ No22 L.length (lt L) ∧ No31 L.length (lt L)) := by
  by_cases h : orderP n L
  · obtain ⟨x, x1, x2⟩ := twoTwo_ev h.1
    obtain ⟨y, y1, y2⟩ := setwo_ev h.1
    obtain ⟨z, z1, z2⟩ := threeOne_ev h.1
    obtain ⟨⟨u, v⟩, u1, u2⟩ := threeS_ev h.1
    replace u2 : v = false ↔ look31 L ∧ True := u2
    have xy : x = [] ↔ y = false := by rw [x2, y2, look_22 h]
    have zv : z = [] ↔ v = false := by rw [z2, u2]; simp
    have hs3 : Ev (fun k => spec_ThreeOneOf.f k n L) (u, v) := by
      unfold spec_ThreeOneOf.f
      exact Ev.bind (orGood_ev n L hL) (Ev.pos (by simpa using h) u1)
    refine ⟨decide (x = [] ∧ z = []), ?_, ?_, ?_⟩
    · unfold impl_isSemi.f impl_isInterval.f
      refine Ev.bind (Ev.bind (isOrder_ev n L hL) (Ev.pos (by simpa using h) (Ev.bind x1 (Ev.ret rfl)))) ?_
      by_cases hx : x = []
      · subst hx
        refine Ev.pos rfl (Ev.bind z1 (Ev.ret ?_))
        cases z <;> simp
      · exact Ev.neg (by simpa using hx) (Ev.ret (by simp [hx]))
    · unfold spec_seGood.f
      refine Ev.bind hs3 (Ev.bind (orGood_ev n L hL) (Ev.pos (by simpa using h) ?_))
      cases hv : v
      · refine Ev.neg (by simp) (Ev.bind y1 (Ev.ret ?_))
        have hz : z = [] := zv.2 hv
        cases hy : y
        · simp [hz, xy.2 hy]
        · have : x ≠ [] := fun e => by have := xy.1 e; rw [hy] at this; cases this
          simp [this]
      · refine Ev.pos rfl (Ev.ret ?_)
        have : z ≠ [] := fun e => by have := zv.1 e; rw [hv] at this; cases this
        simp [this]
    · intro hb
      rw [decide_eq_true_iff] at hb
      refine ⟨h, fun a b c d ha hb2 hc hd r1 r2 r3 r4 => (x2.1 hb.1).1 a ha b hb2 c hc d hd ⟨r1, r2, r3, r4⟩, look_31 h (z2.1 hb.2)⟩
  · have hs3 : Ev (fun k => spec_ThreeOneOf.f k n L) ([], false) := by
      unfold spec_ThreeOneOf.f
      exact Ev.bind (orGood_ev n L hL) (Ev.neg (by simpa using h) (Ev.ret rfl))
    refine ⟨false, ?_, ?_, fun e => by cases e⟩
    · unfold impl_isSemi.f impl_isInterval.f
      exact Ev.bind (Ev.bind (isOrder_ev n L hL) (Ev.neg (by simpa using h) (Ev.ret rfl))) (Ev.neg (by simp) (Ev.ret rfl))
    · unfold spec_seGood.f
      exact Ev.bind hs3 (Ev.bind (orGood_ev n L hL) (Ev.neg (by simpa using h) (Ev.ret rfl)))

end Go.Proofs.YtjahodklmegglaaDoor.Pure
