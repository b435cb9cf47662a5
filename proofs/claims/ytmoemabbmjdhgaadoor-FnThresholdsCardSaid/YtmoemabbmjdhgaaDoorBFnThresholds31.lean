import Derived.Test.YtmoemabbmjdhgaaDoorBFnThresholds30
namespace Go.Proofs.YtmoemabbmjdhgaaDoor.Pure
open Go.RowKit Go.Proofs.YtmoemabbmjdhgaaDoor.Q Go.Proofs.YtmoemabbmjdhgaaDoorW.PrintWords Go.Proofs.YtmoemabbmjdhgaaDoorW.PrintLast
set_option linter.unusedVariables false
set_option linter.unusedSimpArgs false
-- rounds of demands, as the program and as the reference make them
def dmd (t : Int) (L : List Int) (i j : Nat) : Option Int := if lt L i j = true then some t else if i = j then none else if lt L j i = true then none else some (1 - t)
def pf (P : List Int) (x : Nat) : Int := rd P (x : Int)
theorem pf_set {P : List Int} {j : Nat} (hj : j < P.length) (v : Int) : pf (P.set j v) = updF (pf P) j v := by
 funext x
 show rd (P.set j v) (x : Int) = if x = j then v else rd P (x : Int)
 by_cases e : x = j
 ·subst e; rw [if_pos rfl, rd_lt _ x (by simpa using hj), List.getElem_set_self]
 ·rw [if_neg e]
  by_cases hx : x < P.length
  ·rw [rd_lt _ x (by simpa using hx), List.getElem_set_ne (Ne.symm e), rd_lt P x hx]
  ·rw [rd_nat, rd_nat, List.getD_eq_getElem?_getD, List.getD_eq_getElem?_getD, List.getElem?_eq_none (by simpa using hx), List.getElem?_eq_none (by omega)]
theorem rowF_yes {D : Nat → Nat → Option Int} {q : Nat → Int} {i j : Nat} {w : Int} (hd : D i j = some w) (hlt : rowF D q j i j < rowF D q j i i + w) : rowF D q j (i + 1) = updF (rowF D q j i) j (rowF D q j i i + w) := by
 show stepF D (rowF D q j i) j i = _
 unfold stepF
 rw [hd, Option.elim_some, if_pos hlt]
theorem rowF_no {D : Nat → Nat → Option Int} {q : Nat → Int} {i j : Nat} (h : ∀ w, D i j = some w → ¬ rowF D q j i j < rowF D q j i i + w) : rowF D q j (i + 1) = rowF D q j i := by
 show stepF D (rowF D q j i) j i = _
 unfold stepF
 cases hd : D i j with
 | none => rfl
 | some w => rw [Option.elim_some, if_neg (h w hd)]
section
variable {n t : Int} {L : List Int}
theorem demand_i (h : orderP n L) (ht : 1 ≤ t ∧ t ≤ 10) {i j : Nat} (hi : i < L.length) (hj : j < L.length) : ∃ w b, impl_Order_demand.f n L t (i : Int) (j : Int) = some (w, b) ∧ (b = true → dmd t L i j = some w) ∧ (b = false → dmd t L i j = none) ∧ (-10 ≤ w ∧ w ≤ 10) := by
 unfold impl_Order_demand.f dmd
 rw [better_lt h.1 hi hj, Option.bind_some]
 by_cases c1 : lt L i j = true
 ·rw [if_pos c1, if_pos c1]
  exact ⟨t, true, rfl, fun _ => rfl, fun e => (by cases e), by omega⟩
 ·rw [if_neg c1, if_neg c1]
  by_cases c2 : i = j
  ·rw [if_pos (by omega), if_pos c2]
   exact ⟨0, false, rfl, fun e => (by cases e), fun _ => rfl, by omega⟩
  ·rw [if_neg (by omega), if_neg c2, better_lt h.1 hj hi, Option.bind_some]
   by_cases c3 : lt L j i = true
   ·rw [if_pos c3, if_pos c3]
    exact ⟨0, false, rfl, fun e => (by cases e), fun _ => rfl, by omega⟩
   ·rw [if_neg c3, if_neg c3, wrap64_id (by omega) (by omega)]
    exact ⟨1 - t, true, rfl, fun _ => rfl, fun e => (by cases e), by omega⟩
theorem demand_s (h : orderP n L) (ht : 1 ≤ t ∧ t ≤ 10) {i j : Nat} (hi : i < L.length) (hj : j < L.length) : ∃ w b, Ev (fun k => spec_seDemand.f k n L t (i : Int) (j : Int)) (w, b) ∧ (b = true → dmd t L i j = some w) ∧ (b = false → dmd t L i j = none) ∧ (-10 ≤ w ∧ w ≤ 10) := by
 have h1 := h.1.1
 have h2 := h.1.2.1
 have hs := h.1.set hi
 unfold spec_seDemand.f dmd
 by_cases c1 : lt L i j = true
 ·rw [if_pos c1]
  exact ⟨t, true, Ev.pos (by omega) (Ev.pos (by omega) (Ev.bindc (orHas_f hs.1 hs.2 (by omega)) (Ev.pos c1 (Ev.ret rfl)))), fun _ => rfl, fun e => (by cases e), by omega⟩
 ·rw [if_neg c1]
  have hgo : ∀ {w : Int} {b : Bool}, (freeP L i j = true → w = wrap64 (1 - t) ∧ b = true) → (freeP L i j = false → w = 0 ∧ b = false) → Ev (fun k => if 0 ≤ (i : Int) then (if (i : Int) < (L.length : Int) then ((spec_orHas.f (rd L (i : Int)) (j : Int)).bind fun t359 => (if t359 = true then (some (t, true)) else ((spec_seIndifferent.f k n L (i : Int) (j : Int)).bind fun t360 => (if t360 = true then (some (wrap64 (1 - t), true)) else (some (0, false)))))) else (none)) else (none)) (w, b) := fun {w b} g1 g2 => by
   refine Ev.pos (by omega) (Ev.pos (by omega) (Ev.bindc (orHas_f hs.1 hs.2 (by omega)) (Ev.neg c1 (Ev.bind (indiff_ev h.1 hi hj) ?_))))
   cases hf : freeP L i j
   ·obtain ⟨rfl, rfl⟩ := g2 hf
    exact Ev.neg (by simp) (Ev.ret rfl)
   ·obtain ⟨rfl, rfl⟩ := g1 hf
    exact Ev.pos rfl (Ev.ret rfl)
  by_cases c2 : i = j
  ·rw [if_pos c2]
   refine ⟨0, false, hgo (fun hf => ?_) (fun _ => ⟨rfl, rfl⟩), fun e => (by cases e), fun _ => rfl, by omega⟩
   exact absurd c2.symm (freeP_t.1 hf).2.2
  ·rw [if_neg c2]
   by_cases c3 : lt L j i = true
   ·rw [if_pos c3]
    refine ⟨0, false, hgo (fun hf => ?_) (fun _ => ⟨rfl, rfl⟩), fun e => (by cases e), fun _ => rfl, by omega⟩
    have := (freeP_t.1 hf).2.1
    rw [c3] at this; cases this
   ·rw [if_neg c3]
    refine ⟨1 - t, true, hgo (fun _ => ⟨(wrap64_id (by omega) (by omega)).symm, rfl⟩) (fun hf => ?_), fun _ => rfl, fun e => (by cases e), by omega⟩
    have : freeP L i j = true := freeP_t.2 ⟨by simpa using c1, by simpa using c3, fun e => c2 e.symm⟩
    rw [this] at hf; cases hf
def smF (N : Nat) (q : Nat → Int) : Prop := ∀ y, y < N → 0 ≤ q y ∧ q y ≤ 100000
theorem i_l2 (h : orderP n L) (ht : 1 ≤ t ∧ t ≤ 10) (r24 : Int) (p0 q : Nat → Int) (j : Nat) (hj : j < L.length) (hsm : ∀ i, i ≤ L.length → smF L.length (rowF (dmd t L) q j i)) (hpq : ∀ x, p0 x ≤ q x) (Good : List Int × List Int × Int → Prop)
  (hk : ∀ (P R : List Int) (last : Int) (ch : Bool), P.length = L.length → R.length = L.length → pf P = rowF (dmd t L) q j L.length → (ch = true ↔ ∃ x, x < L.length ∧ p0 x < pf P x) → ∃ v, Ev (fun k => impl_Order_lift.l1 k t P R last ch (wrap64 (n + 1)) r24 n (wrap64 ((j : Int) + 1)) n L) v ∧ Good v) (d : Nat) :
  ∀ (i : Nat) (P R : List Int) (last : Int) (ch : Bool), i + d = L.length → P.length = L.length → R.length = L.length → pf P = rowF (dmd t L) q j i → (ch = true ↔ ∃ x, x < L.length ∧ p0 x < pf P x) → ∃ v, Ev (fun k => impl_Order_lift.l2 k t P R last ch (j : Int) (wrap64 (n + 1)) r24 n (j : Int) n (i : Int) n L) v ∧ Good v := by
 have h1 := h.1.1
 have h2 := h.1.2.1
 induction d with
 | zero =>
  intro i P R last ch hi hP hR hp hch
  obtain rfl : i = L.length := by omega
  obtain ⟨v, v1, v2⟩ := hk P R last ch hP hR hp hch
  refine ⟨v, Ev.shift ?_, v2⟩
  simp only [impl_Order_lift.l2]
  exact Ev.neg (by omega) v1
 | succ d ih =>
  intro i P R last ch hi hP hR hp hch
  have hil : i < L.length := by omega
  obtain ⟨w, b, e1, e2, e3, e4⟩ := demand_i h ht hil hj
  have hs := hsm i (by omega)
  have pi : rd P (i : Int) = rowF (dmd t L) q j i i := congrFun hp i
  have pj : rd P (j : Int) = rowF (dmd t L) q j i j := congrFun hp j
  have b1 := hs i hil
  have b2 := hs j hj
  have hw : wrap64 (rd P (i : Int) + w) = rd P (i : Int) + w := wrap64_id (by omega) (by omega)
  cases b with
  | false =>
   have hn := rowF_no (q := q) (i := i) (j := j) (D := dmd t L) (fun w' hw' => by rw [e3 rfl] at hw'; cases hw')
   obtain ⟨v, v1, v2⟩ := ih (i + 1) P R last ch (by omega) hP hR (by rw [hn]; exact hp) hch
   refine ⟨v, Ev.shift ?_, v2⟩
   simp only [impl_Order_lift.l2]
   rw [wrap64_id (x := (i : Int) + 1) (by omega) (by omega), cast1]
   exact Ev.pos (by omega) (Ev.bindc e1 (Ev.neg (by simp) v1))
  | true =>
   by_cases hlt : rd P (j : Int) < rd P (i : Int) + w
   ·have hy := rowF_yes (q := q) (e2 rfl) (by rw [← pi, ← pj]; exact hlt)
    have hpn : pf (P.set j (rd P (i : Int) + w)) = rowF (dmd t L) q j (i + 1) := by rw [pf_set (by omega), hy, hp, pi]
    obtain ⟨v, v1, v2⟩ := ih (i + 1) (P.set j (rd P (i : Int) + w)) (R.set j (i : Int)) (j : Int) true (by omega) (by simpa using hP) (by simpa using hR) hpn ⟨fun _ => ⟨j, hj, by
     have a1 := hpq j
     have a2 : q j ≤ rowF (dmd t L) q j i j := rowF_ge i
     rw [pf_set (by omega)]
     unfold updF
     rw [if_pos rfl]
     omega⟩, fun _ => rfl⟩
    refine ⟨v, Ev.shift ?_, v2⟩
    simp only [impl_Order_lift.l2]
    rw [wrap64_id (x := (i : Int) + 1) (by omega) (by omega), cast1, Int.toNat_natCast]
    refine Ev.pos (by omega) (Ev.bindc e1 (Ev.pos rfl (Ev.pos (by omega) (Ev.pos (by omega) (Ev.pos (by omega) (Ev.pos (by omega) (Ev.pos ?_ (Ev.pos (by omega) ?_))))))))
    ·rw [hw]; exact hlt
    ·rw [hw]; exact v1
   ·have hn := rowF_no (q := q) (i := i) (j := j) (D := dmd t L) (fun w' hw' => by
     rw [e2 rfl] at hw'
     obtain rfl := Option.some.inj hw'
     rw [← pi, ← pj]; exact hlt)
    obtain ⟨v, v1, v2⟩ := ih (i + 1) P R last ch (by omega) hP hR (by rw [hn]; exact hp) hch
    refine ⟨v, Ev.shift ?_, v2⟩
    simp only [impl_Order_lift.l2]
    rw [wrap64_id (x := (i : Int) + 1) (by omega) (by omega), cast1]
    refine Ev.pos (by omega) (Ev.bindc e1 (Ev.pos rfl (Ev.pos (by omega) (Ev.pos (by omega) (Ev.pos (by omega) (Ev.pos (by omega) (Ev.neg ?_ v1)))))))
    rw [hw]; exact hlt
theorem sm_row (h : orderP n L) (ht : 1 ≤ t ∧ t ≤ 10) {p0 : Nat → Int} {B : Int} (h0 : ∀ y, y < L.length → 0 ≤ p0 y) (hB : ∀ y, y < L.length → p0 y ≤ B) (hB2 : B ≤ 2000) : ∀ j, j < L.length → ∀ i, i ≤ L.length → smF L.length (rowF (dmd t L) (roundF (dmd t L) L.length p0 j) j i) := by
 have h1 := h.1.1
 have h2 := h.1.2.1
 intro j hj i hi y hy
 have hT : ∀ i j w, dmd t L i j = some w → w ≤ 10 := fun i j w hw => by
  unfold dmd at hw
  split at hw
  ·have := Option.some.inj hw; omega
  ·split at hw
   ·cases hw
   ·split at hw
    ·cases hw
    ·have := Option.some.inj hw; omega
 have hirr : ∀ i, dmd t L i i = none := fun i => by
  unfold dmd
  cases hb : lt L i i
  ·simp
  ·by_cases hi : i < L.length
   ·rw [h.irr hi] at hb; cases hb
   ·exfalso
    unfold lt at hb
    rw [show rd L (i : Int) = 0 by rw [rd_nat, List.getD_eq_getElem?_getD, List.getElem?_eq_none (by omega)]; rfl, bit_zero] at hb
    cases hb
 have a := roundF_high (T := 10) (by omega) hT hirr hB j (by omega)
 have b := rowF_high (T := 10) (by omega) hT hirr hj a i hi y hy
 have c : p0 y ≤ roundF (dmd t L) L.length p0 j y := roundF_ge j
 have d : roundF (dmd t L) L.length p0 j y ≤ rowF (dmd t L) (roundF (dmd t L) L.length p0 j) j i y := rowF_ge i
 have e := h0 y hy
 have hjl : (j : Int) ≤ 10 := by omega
 constructor
 ·omega
 ·omega
theorem dmd_none (h : orderP n L) : ∀ i, dmd t L i i = none := fun i => by
 unfold dmd
 cases hb : lt L i i
 ·simp
 ·by_cases hi : i < L.length
  ·rw [h.irr hi] at hb; cases hb
  ·exfalso
   unfold lt at hb
   rw [show rd L (i : Int) = 0 by rw [rd_nat, List.getD_eq_getElem?_getD, List.getElem?_eq_none (by omega)]; rfl, bit_zero] at hb
   cases hb
theorem dmd_high (ht : 1 ≤ t ∧ t ≤ 10) : ∀ i j w, dmd t L i j = some w → w ≤ t := fun i j w hw => by
 unfold dmd at hw
 split at hw
 ·have := Option.some.inj hw; omega
 ·split at hw
  ·cases hw
  ·split at hw
   ·cases hw
   ·have := Option.some.inj hw; omega
theorem i_l1 (h : orderP n L) (ht : 1 ≤ t ∧ t ≤ 10) (r24 : Int) (p0 : Nat → Int) (B : Int) (h0 : ∀ y, y < L.length → 0 ≤ p0 y) (hB : ∀ y, y < L.length → p0 y ≤ B) (hB2 : B ≤ 2000) (Good : List Int × List Int × Int → Prop)
  (hy : ∀ (P R : List Int) (last : Int), P.length = L.length → R.length = L.length → pf P = roundF (dmd t L) L.length p0 L.length → (∃ x, x < L.length ∧ p0 x < pf P x) → ∃ v, Ev (fun k => impl_Order_lift.l0 k t P R last (wrap64 (n + 1)) (wrap64 (r24 + 1)) n L) v ∧ Good v)
  (hn : ∀ P : List Int, P.length = L.length → pf P = roundF (dmd t L) L.length p0 L.length → (¬ ∃ x, x < L.length ∧ p0 x < pf P x) → Good (P, [], 0)) (d : Nat) :
  ∀ (j : Nat) (P R : List Int) (last : Int) (ch : Bool), j + d = L.length → P.length = L.length → R.length = L.length → pf P = roundF (dmd t L) L.length p0 j → (ch = true ↔ ∃ x, x < L.length ∧ p0 x < pf P x) → ∃ v, Ev (fun k => impl_Order_lift.l1 k t P R last ch (wrap64 (n + 1)) r24 n (j : Int) n L) v ∧ Good v := by
 have h1 := h.1.1
 have h2 := h.1.2.1
 induction d with
 | zero =>
  intro j P R last ch hj hP hR hp hch
  obtain rfl : j = L.length := by omega
  cases ch with
  | true =>
   obtain ⟨v, v1, v2⟩ := hy P R last hP hR hp (hch.1 rfl)
   refine ⟨v, Ev.shift ?_, v2⟩
   simp only [impl_Order_lift.l1]
   exact Ev.neg (by omega) (Ev.pos trivial v1)
  | false =>
   refine ⟨(P, [], 0), Ev.shift ?_, hn P hP hp (fun e => by have := hch.2 e; cases this)⟩
   simp only [impl_Order_lift.l1]
   exact Ev.neg (by omega) (Ev.neg (by simp) (Ev.pos (by omega) (Ev.ret rfl)))
 | succ d ih =>
  intro j P R last ch hj hP hR hp hch
  have := i_l2 h ht r24 p0 (roundF (dmd t L) L.length p0 j) j (by omega) (sm_row h ht h0 hB hB2 j (by omega)) (fun x => roundF_ge j) Good (fun P' R' last' ch' hP' hR' hp' hch' => by
   rw [wrap64_id (x := (j : Int) + 1) (by omega) (by omega), cast1]
   exact ih (j + 1) P' R' last' ch' (by omega) hP' hR' hp' hch') L.length 0 P R last ch (by omega) hP hR hp hch
  obtain ⟨v, v1, v2⟩ := this
  refine ⟨v, Ev.shift ?_, v2⟩
  simp only [impl_Order_lift.l1]
  exact Ev.pos (by omega) v1
def solvable (t : Int) (L : List Int) : Prop := ∃ q, solF (dmd t L) L.length q
def liftGood (t : Int) (L : List Int) (v : List Int × List Int × Int) : Prop := (solvable t L ∧ v.1.length = L.length ∧ solF (dmd t L) L.length (pf v.1) ∧ ∀ x, x < L.length → pf v.1 x ≤ 1000) ∨ (¬ solvable t L ∧ v.1 = [] ∧ L.length ≠ 0)
theorem rounds_high (h : orderP n L) (ht : 1 ≤ t ∧ t ≤ 10) (r : Nat) (y : Nat) (hy : y < L.length) : roundsF (dmd t L) L.length r y ≤ r * 100 := by
 have h1 := h.1.1
 have h2 := h.1.2.1
 have := roundsF_high (dem := dmd t L) (n := L.length) (T := t) (by omega) (dmd_high ht) (dmd_none h) r y hy
 have h3 : (L.length : Int) * t ≤ 100 := by
  have a : (L.length : Int) * t ≤ 10 * t := Int.mul_le_mul_of_nonneg_right (by omega) (by omega)
  omega
 have h4 : (r : Int) * (L.length * t) ≤ r * 100 := Int.mul_le_mul_of_nonneg_left h3 (by omega)
 omega
theorem still_sol (h : orderP n L) {r : Nat} {P : List Int} (hp : pf P = roundsF (dmd t L) L.length (r + 1)) (hno : ¬ ∃ x, x < L.length ∧ roundsF (dmd t L) L.length r x < pf P x) : solF (dmd t L) L.length (pf P) := by
 have he : ∀ x, x < L.length → pf P x = roundsF (dmd t L) L.length r x := fun x hx => by
  have a : roundsF (dmd t L) L.length r x ≤ roundsF (dmd t L) L.length (r + 1) x := roundF_ge L.length
  rw [← hp] at a
  refine Classical.byContradiction fun hc => hno ⟨x, hx, by omega⟩
 have hs := roundF_still (dem := dmd t L) (n := L.length) (p := roundsF (dmd t L) L.length r) (dmd_none h) (fun x _ => roundsF_pos r) (fun x hx => by
  have a := he x hx
  rw [hp] at a; exact a)
 refine ⟨fun x hx => by rw [he x hx]; exact hs.1 x hx, fun i j w hi hj hd => by rw [he i hi, he j hj]; exact hs.2 i j w hi hj hd⟩
theorem never_sol (h : orderP n L) (hx : ∃ x, x < L.length ∧ roundsF (dmd t L) L.length L.length x < roundsF (dmd t L) L.length (L.length + 1) x) : ¬ solvable t L := fun ⟨q, hq⟩ => by
 obtain ⟨x, hx, hlt⟩ := hx
 have : roundsF (dmd t L) L.length (L.length + 1) x = roundsF (dmd t L) L.length L.length x := roundsF_rest (dmd_none h) hq x hx
 omega
theorem i_l0 (h : orderP n L) (ht : 1 ≤ t ∧ t ≤ 10) (d : Nat) : ∀ (r : Nat) (P R : List Int) (last : Int), r + d = L.length + 1 → P.length = L.length → R.length = L.length → pf P = roundsF (dmd t L) L.length r → (r = L.length + 1 → ∃ x, x < L.length ∧ roundsF (dmd t L) L.length L.length x < roundsF (dmd t L) L.length (L.length + 1) x) → ∃ v, Ev (fun k => impl_Order_lift.l0 k t P R last (wrap64 (n + 1)) (r : Int) n L) v ∧ liftGood t L v := by
 have h1 := h.1.1
 have h2 := h.1.2.1
 induction d with
 | zero =>
  intro r P R last hr hP hR hp hx
  obtain rfl : r = L.length + 1 := by omega
  have hx := hx rfl
  have hns := never_sol h hx
  have hn0 : L.length ≠ 0 := by obtain ⟨x, hx, _⟩ := hx; omega
  refine ⟨([], R, last), Ev.shift ?_, .inr ⟨hns, rfl, hn0⟩⟩
  simp only [impl_Order_lift.l0]
  rw [wrap64_id (x := n + 1) (by omega) (by omega)]
  exact Ev.neg (by omega) (Ev.neg (by omega) (Ev.ret rfl))
 | succ d ih =>
  intro r P R last hr hP hR hp hx
  have hhigh := rounds_high h ht r
  have hr10 : (r : Int) ≤ 10 := by omega
  have := i_l1 h ht (r : Int) (roundsF (dmd t L) L.length r) 1000 (fun y _ => roundsF_pos r) (fun y hy => by have := hhigh y hy; omega) (by omega) (liftGood t L)
   (fun P' R' last' hP' hR' hp' hch => by
    rw [wrap64_id (x := (r : Int) + 1) (by omega) (by omega), cast1]
    refine ih (r + 1) P' R' last' (by omega) hP' hR' hp' (fun e => ?_)
    obtain rfl : r = L.length := by omega
    rw [hp'] at hch
    exact hch)
   (fun P' hP' hp' hno => .inl ⟨⟨pf P', still_sol h hp' hno⟩, hP', still_sol h hp' hno, fun x hx => by
    have a : roundsF (dmd t L) L.length r x ≤ r * 100 := hhigh x hx
    have b : ¬ roundsF (dmd t L) L.length r x < pf P' x := fun e => hno ⟨x, hx, e⟩
    show pf P' x ≤ 1000
    omega⟩) L.length 0 P R last false (by omega) hP hR hp (by
     constructor
     ·intro e; cases e
     ·rintro ⟨x, hx, hlt⟩
      rw [hp] at hlt; omega)
  obtain ⟨v, v1, v2⟩ := this
  refine ⟨v, Ev.shift ?_, v2⟩
  simp only [impl_Order_lift.l0]
  refine Ev.pos ?_ v1
  rw [wrap64_id (by omega) (by omega)]; omega
theorem pf_zero (m : Nat) : pf (List.replicate m 0) = fun _ => 0 := by
 funext x
 unfold pf
 rw [rd_nat, List.getD_eq_getElem?_getD, List.getElem?_replicate]
 split <;> rfl
theorem lift_ev (h : orderP n L) (ht : 1 ≤ t ∧ t ≤ 10) : ∃ v, Ev (fun k => impl_Order_lift.f k n L t) v ∧ liftGood t L v := by
 have h1 := h.1.1
 have h2 := h.1.2.1
 obtain ⟨v, v1, v2⟩ := i_l0 h ht (L.length + 1) 0 (List.replicate n.toNat 0) (List.replicate n.toNat 0) 0 (by omega) (by simp; omega) (by simp; omega) (pf_zero _) (fun e => by omega)
 refine ⟨v, ?_, v2⟩
 unfold impl_Order_lift.f
 exact Ev.pos (by omega) (Ev.pos (by omega) v1)
end
section
variable {n t : Int} {L : List Int}
theorem s_l2 (h : orderP n L) (ht : 1 ≤ t ∧ t ≤ 10) (rnd : Int) (p0 q : Nat → Int) (j : Nat) (hj : j < L.length) (hsm : ∀ i, i ≤ L.length → smF L.length (rowF (dmd t L) q j i)) (hpq : ∀ x, p0 x ≤ q x) (Good : List Int × List Int × Int → Prop)
  (hk : ∀ (P R : List Int) (last : Int), P.length = L.length → R.length = L.length → pf P = rowF (dmd t L) q j L.length → (0 ≤ last ↔ ∃ x, x < L.length ∧ p0 x < pf P x) → ∃ v, Ev (fun k => spec_seRounds.l1 k t P R last rnd (L.length : Int) (wrap64 ((j : Int) + 1)) n L) v ∧ Good v) (d : Nat) :
  ∀ (i : Nat) (P R : List Int) (last : Int), i + d = L.length → P.length = L.length → R.length = L.length → pf P = rowF (dmd t L) q j i → (0 ≤ last ↔ ∃ x, x < L.length ∧ p0 x < pf P x) → ∃ v, Ev (fun k => spec_seRounds.l2 k t P R last rnd (j : Int) (L.length : Int) (j : Int) (L.length : Int) (i : Int) n L) v ∧ Good v := by
 have h1 := h.1.1
 have h2 := h.1.2.1
 induction d with
 | zero =>
  intro i P R last hi hP hR hp hch
  obtain rfl : i = L.length := by omega
  obtain ⟨v, v1, v2⟩ := hk P R last hP hR hp hch
  refine ⟨v, Ev.shift ?_, v2⟩
  simp only [spec_seRounds.l2]
  exact Ev.neg (by omega) v1
 | succ d ih =>
  intro i P R last hi hP hR hp hch
  have hil : i < L.length := by omega
  obtain ⟨w, b, e1, e2, e3, e4⟩ := demand_s h ht hil hj
  have hs := hsm i (by omega)
  have pi : rd P (i : Int) = rowF (dmd t L) q j i i := congrFun hp i
  have pj : rd P (j : Int) = rowF (dmd t L) q j i j := congrFun hp j
  have b1 := hs i hil
  have b2 := hs j hj
  have hw : wrap64 (rd P (i : Int) + w) = rd P (i : Int) + w := wrap64_id (by omega) (by omega)
  cases b with
  | false =>
   have hn := rowF_no (q := q) (i := i) (j := j) (D := dmd t L) (fun w' hw' => by rw [e3 rfl] at hw'; cases hw')
   obtain ⟨v, v1, v2⟩ := ih (i + 1) P R last (by omega) hP hR (by rw [hn]; exact hp) hch
   refine ⟨v, Ev.shift ?_, v2⟩
   simp only [spec_seRounds.l2]
   rw [wrap64_id (x := (i : Int) + 1) (by omega) (by omega), cast1]
   exact Ev.pos (by omega) (Ev.bind e1 (Ev.neg (by simp) v1))
  | true =>
   by_cases hlt : rd P (j : Int) < rd P (i : Int) + w
   ·have hy := rowF_yes (q := q) (e2 rfl) (by rw [← pi, ← pj]; exact hlt)
    have hpn : pf (P.set j (rd P (i : Int) + w)) = rowF (dmd t L) q j (i + 1) := by rw [pf_set (by omega), hy, hp, pi]
    obtain ⟨v, v1, v2⟩ := ih (i + 1) (P.set j (rd P (i : Int) + w)) (R.set j (i : Int)) (j : Int) (by omega) (by simpa using hP) (by simpa using hR) hpn ⟨fun _ => ⟨j, hj, by
     have a1 := hpq j
     have a2 : q j ≤ rowF (dmd t L) q j i j := rowF_ge i
     rw [pf_set (by omega)]
     unfold updF
     rw [if_pos rfl]
     omega⟩, fun _ => by omega⟩
    refine ⟨v, Ev.shift ?_, v2⟩
    simp only [spec_seRounds.l2]
    rw [wrap64_id (x := (i : Int) + 1) (by omega) (by omega), cast1, Int.toNat_natCast]
    refine Ev.pos (by omega) (Ev.bind e1 (Ev.pos rfl (Ev.pos (by omega) (Ev.pos (by omega) (Ev.pos (by omega) (Ev.pos (by omega) (Ev.pos ?_ (Ev.pos (by omega) ?_))))))))
    ·rw [hw]; exact hlt
    ·rw [hw]; exact v1
   ·have hn := rowF_no (q := q) (i := i) (j := j) (D := dmd t L) (fun w' hw' => by
     rw [e2 rfl] at hw'
     obtain rfl := Option.some.inj hw'
     rw [← pi, ← pj]; exact hlt)
    obtain ⟨v, v1, v2⟩ := ih (i + 1) P R last (by omega) hP hR (by rw [hn]; exact hp) hch
    refine ⟨v, Ev.shift ?_, v2⟩
    simp only [spec_seRounds.l2]
    rw [wrap64_id (x := (i : Int) + 1) (by omega) (by omega), cast1]
    refine Ev.pos (by omega) (Ev.bind e1 (Ev.pos rfl (Ev.pos (by omega) (Ev.pos (by omega) (Ev.pos (by omega) (Ev.pos (by omega) (Ev.neg ?_ v1)))))))
    rw [hw]; exact hlt
theorem s_l1 (h : orderP n L) (ht : 1 ≤ t ∧ t ≤ 10) (rnd : Int) (p0 : Nat → Int) (B : Int) (h0 : ∀ y, y < L.length → 0 ≤ p0 y) (hB : ∀ y, y < L.length → p0 y ≤ B) (hB2 : B ≤ 2000) (Good : List Int × List Int × Int → Prop)
  (hy : ∀ (P R : List Int) (last : Int), P.length = L.length → R.length = L.length → 0 ≤ last → pf P = roundF (dmd t L) L.length p0 L.length → (∃ x, x < L.length ∧ p0 x < pf P x) → ∃ v, Ev (fun k => spec_seRounds.l0 k t P R last (wrap64 (rnd + 1)) n L) v ∧ Good v)
  (hn : ∀ (P R : List Int) (last : Int), last < 0 → P.length = L.length → pf P = roundF (dmd t L) L.length p0 L.length → (¬ ∃ x, x < L.length ∧ p0 x < pf P x) → Good (P, R, last)) (d : Nat) :
  ∀ (j : Nat) (P R : List Int) (last : Int), j + d = L.length → P.length = L.length → R.length = L.length → pf P = roundF (dmd t L) L.length p0 j → (0 ≤ last ↔ ∃ x, x < L.length ∧ p0 x < pf P x) → ∃ v, Ev (fun k => spec_seRounds.l1 k t P R last rnd (L.length : Int) (j : Int) n L) v ∧ Good v := by
 have h1 := h.1.1
 have h2 := h.1.2.1
 induction d with
 | zero =>
  intro j P R last hj hP hR hp hch
  obtain rfl : j = L.length := by omega
  by_cases hl : last < 0
  ·refine ⟨(P, R, last), Ev.shift ?_, hn P R last hl hP hp (fun e => by have := hch.2 e; omega)⟩
   simp only [spec_seRounds.l1]
   exact Ev.neg (by omega) (Ev.pos hl (Ev.ret rfl))
  ·obtain ⟨v, v1, v2⟩ := hy P R last hP hR (by omega) hp (hch.1 (by omega))
   refine ⟨v, Ev.shift ?_, v2⟩
   simp only [spec_seRounds.l1]
   exact Ev.neg (by omega) (Ev.neg hl v1)
 | succ d ih =>
  intro j P R last hj hP hR hp hch
  have := s_l2 h ht rnd p0 (roundF (dmd t L) L.length p0 j) j (by omega) (sm_row h ht h0 hB hB2 j (by omega)) (fun x => roundF_ge j) Good (fun P' R' last' hP' hR' hp' hch' => by
   rw [wrap64_id (x := (j : Int) + 1) (by omega) (by omega), cast1]
   exact ih (j + 1) P' R' last' (by omega) hP' hR' hp' hch') L.length 0 P R last (by omega) hP hR hp hch
  obtain ⟨v, v1, v2⟩ := this
  refine ⟨v, Ev.shift ?_, v2⟩
  simp only [spec_seRounds.l1]
  rw [hP]
  exact Ev.pos (by omega) v1
theorem s_l0 (h : orderP n L) (ht : 1 ≤ t ∧ t ≤ 10) (d : Nat) : ∀ (r : Nat) (P R : List Int) (last : Int), r + d = L.length + 1 → P.length = L.length → R.length = L.length → pf P = roundsF (dmd t L) L.length r → (r = L.length + 1 → 0 ≤ last ∧ ∃ x, x < L.length ∧ roundsF (dmd t L) L.length L.length x < roundsF (dmd t L) L.length (L.length + 1) x) → ∃ v, Ev (fun k => spec_seRounds.l0 k t P R last (r : Int) n L) v ∧ (v.2.2 < 0 ↔ solvable t L) := by
 have h1 := h.1.1
 have h2 := h.1.2.1
 induction d with
 | zero =>
  intro r P R last hr hP hR hp hx
  obtain rfl : r = L.length + 1 := by omega
  obtain ⟨hl, hx⟩ := hx rfl
  have hns := never_sol h hx
  refine ⟨(P, R, last), Ev.shift ?_, ⟨fun e => ?_, fun e => absurd e hns⟩⟩
  ·simp only [spec_seRounds.l0]
   exact Ev.neg (by omega) (Ev.ret rfl)
  ·have e : last < 0 := e
   omega
 | succ d ih =>
  intro r P R last hr hP hR hp hx
  have hhigh := rounds_high h ht r
  have hr10 : (r : Int) ≤ 10 := by omega
  have := s_l1 h ht (r : Int) (roundsF (dmd t L) L.length r) 1000 (fun y _ => roundsF_pos r) (fun y hy => by have := hhigh y hy; omega) (by omega) (fun v => v.2.2 < 0 ↔ solvable t L)
   (fun P' R' last' hP' hR' hl' hp' hch => by
    rw [wrap64_id (x := (r : Int) + 1) (by omega) (by omega), cast1]
    refine ih (r + 1) P' R' last' (by omega) hP' hR' hp' (fun e => ⟨hl', ?_⟩)
    obtain rfl : r = L.length := by omega
    rw [hp'] at hch
    exact hch)
   (fun P' R' last' hl' hP' hp' hno => ⟨fun _ => ⟨pf P', still_sol h hp' hno⟩, fun _ => hl'⟩) L.length 0 P R (-1) (by omega) hP hR hp (by
     constructor
     ·intro e; omega
     ·rintro ⟨x, hx, hlt⟩
      rw [hp] at hlt; omega)
  obtain ⟨v, v1, v2⟩ := this
  refine ⟨v, Ev.shift ?_, v2⟩
  simp only [spec_seRounds.l0]
  rw [hP]
  exact Ev.pos (by omega) v1
theorem rounds_ev (h : orderP n L) (ht : 1 ≤ t ∧ t ≤ 10) : ∃ v, Ev (fun k => spec_seRounds.f k n L t) v ∧ (v.2.2 < 0 ↔ solvable t L) := by
 have h1 := h.1.1
 have h2 := h.1.2.1
 obtain ⟨v, v1, v2⟩ := s_l0 h ht (L.length + 1) 0 (List.replicate n.toNat 0) (List.replicate n.toNat 0) (-1) (by omega) (by simp; omega) (by simp; omega) (pf_zero _) (fun e => by omega)
 refine ⟨v, ?_, v2⟩
 unfold spec_seRounds.f
 exact Ev.pos (by omega) (Ev.pos (by omega) v1)
end
end Go.Proofs.YtmoemabbmjdhgaaDoor.Pure
namespace Go.Proofs.YtmoemabbmjdhgaaDoor.Pure
open Go.RowKit Go.Proofs.YtmoemabbmjdhgaaDoor.Q Go.Proofs.YtmoemabbmjdhgaaDoorW.PrintWords Go.Proofs.YtmoemabbmjdhgaaDoorW.PrintLast
set_option linter.unusedVariables false
set_option linter.unusedSimpArgs false
end Go.Proofs.YtmoemabbmjdhgaaDoor.Pure
namespace Go.Proofs.YtmoemabbmjdhgaaDoor.Pure
open Go.RowKit Go.Proofs.YtmoemabbmjdhgaaDoor.Q Go.Proofs.YtmoemabbmjdhgaaDoorW.PrintWords Go.Proofs.YtmoemabbmjdhgaaDoorW.PrintLast
set_option linter.unusedVariables false
set_option linter.unusedSimpArgs false
theorem has1_ev {n : Int} {L : List Int} {i : Nat} (hn : n ≤ 10) (hi : (i : Int) < n) : Ev (fun k => impl_Order_has.f k n L [(i : Int)]) true := by
 unfold impl_Order_has.f
 rw [wrap64_id (by omega) (by omega)]
 exact Ev.bind (allWithin_ev 0 (n - 1) [(i : Int)] (by simp)) (Ev.ret (by simp; omega))
theorem IndifferentTo_ev {n : Int} {L : List Int} (h : relP n L) {i : Nat} (hi : i < L.length) : Ev (fun k => impl_IndifferentTo.f k n L (i : Int)) (rd (rel (freeP L) L.length) (i : Int), true) := by
 have h1 := h.1; have h2 := h.2.1
 unfold impl_IndifferentTo.f
 refine Ev.bind (isRelation_ev n L (by omega)) (Ev.pos (by simpa using h) (Ev.bind (has1_ev (by omega) (by omega)) (Ev.pos rfl (Ev.bind (near_ev h) ?_))))
 exact Ev.pos (by omega) (Ev.pos (by rw [rel_length]; omega) (Ev.ret rfl))
-- what is asked of a relation, element by element
theorem has2_ev {n : Int} {L : List Int} {i j : Nat} (hn : n ≤ 10) (hi : (i : Int) < n) (hj : (j : Int) < n) : Ev (fun k => impl_Order_has.f k n L [(i : Int), (j : Int)]) true := by
 unfold impl_Order_has.f
 rw [wrap64_id (by omega) (by omega)]
 exact Ev.bind (allWithin_ev 0 (n - 1) [(i : Int), (j : Int)] (by simp)) (Ev.ret (by simp; omega))
theorem IsBetter_ev {n : Int} {L : List Int} (h : relP n L) {i j : Nat} (hi : i < L.length) (hj : j < L.length) : Ev (fun k => impl_IsBetter.f k n L (i : Int) (j : Int)) (lt L i j, true) := by
 have h1 := h.1; have h2 := h.2.1
 unfold impl_IsBetter.f
 refine Ev.bind (isRelation_ev n L (by omega)) (Ev.pos (by simpa using h) (Ev.bind (has2_ev (by omega) (by omega) (by omega)) (Ev.pos rfl ?_)))
 exact Ev.bindc (better_f n L hi (h.set hi) (by omega)) (Ev.ret rfl)
end Go.Proofs.YtmoemabbmjdhgaaDoor.Pure
