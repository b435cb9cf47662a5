import Derived.Test.YtmoemabbmjdhgaaDoorBFnThresholds24
import Derived.Test.YtmoemabbmjdhgaaDoorBFnThresholds31
/- An order has places for some threshold exactly if it is a semiorder, and greater thresholds have places, too, for every two strings of bytes. Condition: the listed variables, tied to the program's text by the card. -/
namespace Go.Proofs.YtmoemabbmjdhgaaDoor.Pure
open Go.RowKit Go.Proofs.YtmoemabbmjdhgaaDoor.Q Go.Proofs.YtmoemabbmjdhgaaDoorW.PrintWords Go.Proofs.YtmoemabbmjdhgaaDoorW.PrintLast
set_option linter.unusedVariables false
set_option linter.unusedSimpArgs false
section
variable {n t : Int} {L : List Int}
theorem sol_iff (ht : 1 ≤ t) {q : Nat → Int} (hq : solF (dmd t L) L.length q) {i j : Nat} (hi : i < L.length) (hj : j < L.length) : lt L i j = true ↔ q i + t ≤ q j := by
 constructor
 ·intro hl
  exact hq.2 i j t hi hj (by unfold dmd; rw [if_pos hl])
 ·intro hle
  refine Classical.byContradiction fun hn => ?_
  by_cases e : i = j
  ·subst e; omega
  by_cases hb : lt L j i = true
  ·have := hq.2 j i t hj hi (by unfold dmd; rw [if_pos hb])
   omega
  ·have := hq.2 j i (1 - t) hj hi (by unfold dmd; rw [if_neg hb, if_neg (fun e2 => e e2.symm), if_neg hn])
   omega
theorem solv_semi (ht : 1 ≤ t) (hs : solvable t L) : No22 L.length (lt L) ∧ No31 L.length (lt L) := by
 obtain ⟨q, hq⟩ := hs
 have yes : ∀ {i j : Nat}, i < L.length → j < L.length → lt L i j = true → q i + t ≤ q j := fun hi hj h => (sol_iff ht hq hi hj).1 h
 have no : ∀ {i j : Nat}, i < L.length → j < L.length → lt L i j = false → q j < q i + t := fun {i j} hi hj h => by
  refine Int.lt_of_not_ge fun hc => ?_
  have := (sol_iff ht hq hi hj).2 hc
  rw [h] at this; cases this
 refine ⟨fun a b c d ha hb hc hd h1 h2 h3 h4 => ?_, fun a b c d ha hb hc hd h1 h2 h3 h4 _ _ _ _ h8 h9 _ => ?_⟩
 ·have := yes ha hb h1; have := yes hc hd h2; have := no hc hb h3; have := no ha hd h4
  omega
 ·have := yes ha hb h1; have := yes hb hc h2; have := no ha hd h3; have := no hd hc h9
  omega
theorem semi_solv (ho : orderP n L) (h22 : No22 L.length (lt L)) (h31 : No31 L.length (lt L)) : ∃ t : Int, 1 ≤ t ∧ t ≤ 10 ∧ solvable t L := by
 have h1 := ho.1.1
 have h2 := ho.1.2.1
 by_cases hn : 0 < L.length
 ·have hO : Ord L.length (lt L) := ⟨fun i hi => ho.irr hi, fun i j m hi hj hm a b => ho.trans hi a b⟩
  obtain ⟨q, q1, q2⟩ := semi_places hO h22 h31 hn
  refine ⟨(L.length : Int), by omega, by omega, q, q1, fun i j w hi hj hd => ?_⟩
  unfold dmd at hd
  split at hd
  ·rename_i hl
   obtain rfl := Option.some.inj hd
   exact (q2 i j hi hj).1 hl
  ·split at hd
   ·cases hd
   ·split at hd
    ·cases hd
    ·rename_i c1 c2 c3
     obtain rfl := Option.some.inj hd
     exact (q2 i j hi hj).2 (by simpa using c3) c2
 ·exact ⟨1, by omega, by omega, fun _ => 0, fun x hx => by omega, fun i j w hi => by omega⟩
theorem solv_next (ht : 1 ≤ t) (hs : solvable t L) : solvable (t + 1) L := by
 obtain ⟨q, hq⟩ := hs
 have ht0 : (0 : Int) < t := by omega
 refine ⟨fun x => q x + q x / t, fun x hx => ?_, fun i j w hi hj hd => ?_⟩
 ·have := hq.1 x hx
  have := Int.ediv_nonneg this (show (0 : Int) ≤ t by omega)
  show 0 ≤ _ + _
  omega
 ·show _ + _ + w ≤ _ + _
  by_cases c1 : lt L i j = true
  ·have hw : w = t + 1 := by unfold dmd at hd; rw [if_pos c1] at hd; exact (Option.some.inj hd).symm
   have h1 := (sol_iff ht hq hi hj).1 c1
   have h2 : (q i + t) / t ≤ q j / t := Int.ediv_le_ediv ht0 h1
   rw [Int.add_ediv_of_dvd_right (Int.dvd_refl t), Int.ediv_self (by omega)] at h2
   omega
  ·have c2 : ¬ i = j := fun e => by unfold dmd at hd; rw [if_neg c1, if_pos e] at hd; cases hd
   have c3 : ¬ lt L j i = true := fun e => by unfold dmd at hd; rw [if_neg c1, if_neg c2, if_pos e] at hd; cases hd
   have hw : w = 1 - (t + 1) := by unfold dmd at hd; rw [if_neg c1, if_neg c2, if_neg c3] at hd; exact (Option.some.inj hd).symm
   have h1 : q i < q j + t := Int.lt_of_not_ge fun e => c3 ((sol_iff ht hq hj hi).2 e)
   have h2 : q i / t ≤ (q j + t) / t := Int.ediv_le_ediv ht0 (by omega)
   rw [Int.add_ediv_of_dvd_right (Int.dvd_refl t), Int.ediv_self (by omega)] at h2
   omega
theorem solv_mono (ht : 1 ≤ t) (hs : solvable t L) : ∀ d : Nat, solvable (t + d) L
 | 0 => by simpa using hs
 | d + 1 => by
  have := solv_next (t := t + d) (by omega) (solv_mono ht hs d)
  rw [show t + ((d + 1 : Nat) : Int) = t + d + 1 by omega]; exact this
theorem nil_flag {n : Int} {L : List Int} (hn : (L.length : Int) = n) {v : List Int × List Int × Int} {t : Int} (hg : liftGood t L v) : (!(v.1 == ([] : List Int) && !(n == 0))) = true ↔ solvable t L := by
 rcases hg with ⟨h1, h2, _⟩ | ⟨h1, h2, h3⟩
 ·refine ⟨fun _ => h1, fun _ => ?_⟩
  by_cases e : v.1 = []
  ·have : n = 0 := by rw [e] at h2; simp at h2; omega
   simp [this]
  ·simp [e]
 ·refine ⟨fun e => ?_, fun e => absurd e h1⟩
  have : ¬ n = 0 := by omega
  simp [h2, this] at e
def leastP (t : Int) (L : List Int) (v : Int × Bool) : Prop := (v.2 = true ∧ t ≤ v.1 ∧ v.1 ≤ 10 ∧ solvable v.1 L ∧ ∀ s, t ≤ s → s < v.1 → ¬ solvable s L) ∨ (v = (0, false) ∧ ∀ s, t ≤ s → s ≤ 10 → ¬ solvable s L)
theorem least_l (h : orderP n L) (d : Nat) : ∀ t : Int, t + d = 11 → 1 ≤ t → ∃ v, Ev (fun k => impl_LeastThreshold.l0 k t n L) v ∧ Ev (fun k => spec_LeastThreshold.l0 k t n L) v ∧ leastP t L v := by
 have h2 := h.1.2.1
 induction d with
 | zero =>
  intro t ht h1
  refine ⟨(0, false), Ev.shift ?_, Ev.shift ?_, .inr ⟨rfl, fun s a b => by omega⟩⟩
  ·simp only [impl_LeastThreshold.l0]
   exact Ev.neg (by omega) (Ev.ret rfl)
  ·simp only [spec_LeastThreshold.l0]
   exact Ev.neg (by omega) (Ev.ret rfl)
 | succ d ih =>
  intro t ht h1
  obtain ⟨v, v1, v2⟩ := lift_ev h (t := t) ⟨h1, by omega⟩
  obtain ⟨u, u1, u2⟩ := rounds_ev h (t := t) ⟨h1, by omega⟩
  have hfl := nil_flag h2 v2
  by_cases hs : solvable t L
  ·refine ⟨(t, true), Ev.shift ?_, Ev.shift ?_, .inl ⟨rfl, Int.le_refl _, by show t ≤ 10; omega, hs, fun s a b => by have b : s < t := b; omega⟩⟩
   ·simp only [impl_LeastThreshold.l0]
    exact Ev.pos (by omega) (Ev.bind v1 (Ev.pos (hfl.2 hs) (Ev.ret rfl)))
   ·simp only [spec_LeastThreshold.l0]
    exact Ev.pos (by omega) (Ev.bind u1 (Ev.pos (u2.2 hs) (Ev.ret rfl)))
  ·obtain ⟨w, w1, w2, w3⟩ := ih (t + 1) (by omega) (by omega)
   refine ⟨w, Ev.shift ?_, Ev.shift ?_, ?_⟩
   ·simp only [impl_LeastThreshold.l0]
    rw [wrap64_id (x := t + 1) (by omega) (by omega)]
    exact Ev.pos (by omega) (Ev.bind v1 (Ev.neg (fun e => hs (hfl.1 e)) w1))
   ·simp only [spec_LeastThreshold.l0]
    rw [wrap64_id (x := t + 1) (by omega) (by omega)]
    exact Ev.pos (by omega) (Ev.bind u1 (Ev.neg (fun e => hs (u2.1 e)) w2))
   ·rcases w3 with ⟨a1, a2, a3, a4, a5⟩ | ⟨a1, a2⟩
    ·refine .inl ⟨a1, by omega, a3, a4, fun s b c => ?_⟩
     by_cases e : s = t
     ·rw [e]; exact hs
     ·exact a5 s (by omega) c
    ·refine .inr ⟨a1, fun s b c => ?_⟩
     by_cases e : s = t
     ·rw [e]; exact hs
     ·exact a2 s (by omega) c
theorem threshold_f (h : orderP n L) (ht : 1 ≤ t ∧ t ≤ 10) (hL : L.length ≤ 1048576) : Ev (fun k => impl_isThreshold.f k n L t) true := by
 unfold impl_isThreshold.f
 exact Ev.bind (isOrder_ev n L hL) (Ev.pos (by simpa using h) (Ev.bindc (impl_in _ _ _) (Ev.ret (by simpa using ht))))
theorem places_ok (h : orderP n L) (ht : 1 ≤ t ∧ t ≤ 10) {P : List Int} (hP : P.length = L.length) (hs : solF (dmd t L) L.length (pf P)) (hb : ∀ x, x < L.length → pf P x ≤ 1000) : Ev (fun k => impl_IsPlaces.f k n L t P) (true, true) := by
 have h1 := h.1.1
 have h2 := h.1.2.1
 have hpl : plcP t P := ⟨ht, by omega, fun x hx => by
  obtain ⟨i, hi, rfl⟩ := List.mem_iff_getElem.1 hx
  have a := hs.1 i (by omega)
  have b := hb i (by omega)
  unfold pf at a b
  rw [rd_lt P i hi] at a b
  exact ⟨a, b⟩⟩
 have hrel : pord t P = L := by
  unfold pord
  rw [hP]
  refine rel_self h.1 (fun i j hi hj => ?_)
  rw [Bool.eq_iff_iff, plc_iff, sol_iff ht.1 hs hi hj]
  unfold pf
  omega
 have heq := equal_impl L L (by omega)
 unfold impl_IsPlaces.f
 refine Ev.bind (threshold_f h ht (by omega)) (Ev.pos rfl (Ev.bind ?_ (Ev.ret rfl)))
 unfold impl_Order_isPlaces.f
 have hsame : Ev (fun k => impl_Order_same.f k (P.length : Int) (pord t P) n L) true := by
  unfold impl_Order_same.f
  rw [hrel]
  exact Ev.pos (by omega) (Ev.bind heq (Ev.ret (by simp)))
 exact Ev.bind (allWithin_ev 0 1000 P (by omega)) (Ev.pos (by simpa using hpl.2.2) (Ev.bind (placed_ev hpl) (Ev.bind hsame (Ev.ret rfl))))
theorem thr_l1 (h : orderP n L) {T : Int} (hT : 1 ≤ T) (hsT : solvable T L) (hmin : ∀ s, 1 ≤ s → s < T → ¬ solvable s L) (d : Nat) : ∀ t : Int, t + d = 11 → 1 ≤ t → Ev (fun k => laws_FnThresholds.l1 k T t n L) true := by
 have h2 := h.1.2.1
 have h1 := h.1.1
 induction d with
 | zero =>
  intro t ht h1
  refine Ev.shift ?_
  simp only [laws_FnThresholds.l1]
  exact Ev.neg (by omega) (Ev.ret rfl)
 | succ d ih =>
  intro t ht h1
  have ht10 : 1 ≤ t ∧ t ≤ 10 := ⟨h1, by omega⟩
  obtain ⟨v, v1, v2⟩ := lift_ev h ht10
  have hfl := nil_flag h2 v2
  have hiff : solvable t L ↔ T ≤ t := by
   constructor
   ·intro hs
    refine Int.not_lt.1 fun hc => hmin t h1 hc hs
   ·intro hle
    have := solv_mono hT hsT (t - T).toNat
    rw [show T + ((t - T).toNat : Int) = t by omega] at this
    exact this
  have hpl : Ev (fun k => impl_LeastPlaces.f k n L t) (v.1, !(v.1 == ([] : List Int) && !(n == 0))) := by
   unfold impl_LeastPlaces.f
   exact Ev.bind (threshold_f h ht10 (by omega)) (Ev.pos rfl (Ev.bind v1 (Ev.ret rfl)))
  have hnext := ih (t + 1) (by omega) (by omega)
  refine Ev.shift ?_
  simp only [laws_FnThresholds.l1]
  rw [wrap64_id (x := t + 1) (by omega) (by omega)]
  refine Ev.pos (by omega) (Ev.bind hpl (Ev.neg ?_ ?_))
  ·have : (!(v.1 == ([] : List Int) && !(n == 0))) = decide (t ≥ T) := by
    rw [Bool.eq_iff_iff, hfl, decide_eq_true_iff]
    exact hiff
   rw [this]; simp
  ·by_cases hs : solvable t L
   ·rcases v2 with ⟨_, a2, a3, a4⟩ | ⟨a1, _⟩
    ·exact Ev.pos (hfl.2 hs) (Ev.bind (places_ok h ht10 a2 a3 a4) (Ev.pos rfl (Ev.pos rfl hnext)))
    ·exact absurd hs a1
   ·exact Ev.neg (fun e => hs (hfl.1 e)) hnext
theorem tmod_all : ∀ x : Fin 1024, ∀ j : Fin 10, decide (Int.tmod (shr .i64 (x.val : Int) (j.val : Int)) 2 = 1) = bit (x.val : Int) j.val := by decide +kernel
theorem tmod_bit {x : Int} (hx : setP x) {j : Nat} (hj : j < 10) (hb : bit x j = true) : Int.tmod (shr .i64 x (j : Int)) 2 = 1 := by
 obtain ⟨m, rfl, hm⟩ := hx.nat
 have := tmod_all ⟨m, hm⟩ ⟨j, hj⟩
 rw [hb] at this
 exact of_decide_eq_true this
theorem thr_l0 (h : orderP n L) {T : Int} {ok : Bool} (ht : Ev (fun k => laws_FnThresholds.j2 k T ok n L) true) {a b c d : Nat} (ha : a < L.length) (hb : b < L.length) (hc : c < L.length) (hd : d < L.length) (h1 : freeP L a d = true) (h2 : freeP L b d = true) (h3 : freeP L c d = true) (e : Nat) :
  ∀ i : Nat, i + e = 3 → Ev (fun k => laws_FnThresholds.l0 k T ok [(a : Int), b, c, d] [(a : Int), b, c] 3 (i : Int) n L) true := by
 have g1 := h.1.1
 have g2 := h.1.2.1
 have q3 : rd [(a : Int), b, c, d] 3 = d := rfl
 have key : ∀ x : Nat, x < L.length → freeP L x d = true → setP (rd (rel (freeP L) L.length) (x : Int)) ∧ bit (rd (rel (freeP L) L.length) (x : Int)) d = true := fun x hx hf => by
  have hs := rel_set (p := freeP L) (n := L.length) (by omega) hx
  have hb := rel_lt (p := freeP L) (n := L.length) (by omega) hx d
  unfold lt at hb
  rw [hb]
  exact ⟨hs, by simp [hd, hf]⟩
 induction e with
 | zero =>
  intro i hi
  obtain rfl : i = 3 := by omega
  refine Ev.shift ?_
  simp only [laws_FnThresholds.l0]
  exact Ev.neg (by omega) ht
 | succ e ih =>
  intro i hi
  have hnext := ih (i + 1) (by omega)
  obtain ⟨x, hx, hxl, hxf⟩ : ∃ x : Nat, rd [(a : Int), b, c] (i : Int) = x ∧ x < L.length ∧ freeP L x d = true := by
   have : i = 0 ∨ i = 1 ∨ i = 2 := by omega
   rcases this with rfl | rfl | rfl
   ·exact ⟨a, rfl, ha, h1⟩
   ·exact ⟨b, rfl, hb, h2⟩
   ·exact ⟨c, rfl, hc, h3⟩
  obtain ⟨k1, k2⟩ := key x hxl hxf
  refine Ev.shift ?_
  simp only [laws_FnThresholds.l0]
  rw [hx, q3, wrap64_id (x := (i : Int) + 1) (by omega) (by omega), cast1]
  exact Ev.pos (by omega) (Ev.pos (by omega) (Ev.pos (by simp; omega) (Ev.bind (IndifferentTo_ev h.1 hxl) (Ev.pos rfl (Ev.pos (by simp) (Ev.pos (by omega) (Ev.pos (tmod_bit k1 (by omega) k2) hnext)))))))
theorem thr_j0 (h : orderP n L) {T : Int} {ok : Bool} (ht : Ev (fun k => laws_FnThresholds.j2 k T ok n L) true) : Ev (fun k => laws_FnThresholds.j0 k T ok ((T3 L).getD []) (T3 L).isSome false n L) true := by
 refine Ev.shift ?_
 simp only [laws_FnThresholds.j0]
 refine Ev.neg (by simp) ?_
 cases hr : T3 L with
 | none => exact Ev.neg (by simp) ht
 | some r =>
  obtain ⟨a, b, c, d, rfl, ha, hb, hc, hd, h1, h2, h3, h4, h5⟩ := three_some h.1 hr
  have q0 : rd [(a : Int), b, c, d] 0 = a := rfl
  have q1 : rd [(a : Int), b, c, d] 1 = b := rfl
  have q2 : rd [(a : Int), b, c, d] 2 = c := rfl
  have i1 := IsBetter_ev h.1 ha hb
  have i2 := IsBetter_ev h.1 hb hc
  rw [h1] at i1
  rw [h2] at i2
  show Ev (fun k => if true = true then _ else _) _
  refine Ev.pos rfl (Ev.pos (by simp) (Ev.pos (by simp) ?_))
  show Ev (fun k => (impl_IsBetter.f k n L (rd [(a : Int), b, c, d] 0) (rd [(a : Int), b, c, d] 1)).bind _) _
  rw [q0, q1]
  refine Ev.bind i1 (Ev.pos (by simp) ?_)
  show Ev (fun k => (impl_IsBetter.f k n L (b : Int) (rd [(a : Int), b, c, d] 2)).bind _) _
  rw [q2]
  exact Ev.bind i2 (Ev.pos rfl (Ev.pos rfl (Ev.pos rfl (Ev.pos rfl (Ev.pos (by simp) (thr_l0 h ht ha hb hc hd h3 h4 h5 3 0 (by omega)))))))
end
def DrN (g : Nat → Option (Int × List Int × Int × Int)) : Prop := ∃ m L a' s', Ev g (m, L, a', s') ∧ L.length ≤ 10
theorem semi_dl {c : List Int} (hc : bytesP c) (d : Nat) : ∀ (P : List Int) (a s : Int), P.length + d ≤ 7 → (∀ x ∈ P, 0 ≤ x ∧ x < 12) → 0 ≤ a → a + 2 * d ≤ 10000 → DrN (fun k => spec_l1Cur_semi.l0 k P (d : Int) c a s) := by
 induction d with
 | zero =>
  intro P a s hP hx h0 h1
  obtain ⟨x, a1, s1, e1, hx1, h2, h3⟩ := pick_d hc (a := a) s 4 h0 (by omega) (by omega)
  have hpl : plcP (1 + x) P := ⟨⟨by omega, by omega⟩, by omega, fun y hy => by have := hx y hy; omega⟩
  refine ⟨(P.length : Int), pord (1 + x) P, a1, s1, Ev.shift ?_, ?_⟩
  ·simp only [spec_l1Cur_semi.l0]
   refine Ev.neg (by omega) (Ev.bindc e1 ?_)
   rw [wrap64_id (x := 1 + x) (by omega) (by omega)]
   exact Ev.bind (sOrderOfPlaces_ev hpl) (Ev.ret rfl)
  ·rw [pord_length]; omega
 | succ d ih =>
  intro P a s hP hx h0 h1
  obtain ⟨x, a1, s1, e1, hx1, h2, h3⟩ := pick_d hc (a := a) s 12 h0 (by omega) (by omega)
  obtain ⟨m, L, a2, s2, e2, hL⟩ := ih (P ++ [x]) a1 s1 (by simp; omega) (fun y hy => by
   rcases List.mem_append.1 hy with hy | hy
   ·exact hx y hy
   ·rw [List.mem_singleton.1 hy]; exact hx1) (by omega) (by omega)
  refine ⟨m, L, a2, s2, Ev.shift ?_, hL⟩
  simp only [spec_l1Cur_semi.l0]
  refine Ev.pos (by omega) (Ev.bindc e1 (Ev.pos (by omega) ?_))
  rw [wrap64_id (by omega) (by omega), show ((d + 1 : Nat) : Int) - 1 = d by omega]
  exact e2
theorem drawSemi {c : List Int} (hc : bytesP c) : ∃ n L, Ev (fun k => spec_DrawLeastThreshold.f k c) (n, L) ∧ L.length ≤ 10 := by
 have : DrN (fun k => spec_l1Cur_semi.f k c 0 0 7) := by
  obtain ⟨b, a1, s1, e1, _, h2, h3⟩ := one_d hc (a := 0) 0 3 (by omega) (by omega) (by omega)
  unfold spec_l1Cur_semi.f
  cases b with
  | true =>
   obtain ⟨m, L, a2, s2, e2, hm, _, _⟩ := anyOrder_d hc (a := a1) s1 7 (by omega) (by omega) ⟨by omega, by omega⟩
   have : L.length ≤ 10 := hm.2.1
   exact ⟨m, L, a2, s2, Ev.bindc e1 (Ev.pos rfl (Ev.bind e2 (Ev.ret rfl))), this⟩
  | false =>
   obtain ⟨x, a2, s2, e2, hx, h4, h5⟩ := pick_d hc (a := a1) s1 8 (by omega) (by omega) (by omega)
   obtain ⟨m, L, a3, s3, e3, hL⟩ := semi_dl hc x.toNat [] a2 s2 (by simp; omega) (by simp) (by omega) (by omega)
   rw [show ((x.toNat : Nat) : Int) = x by omega] at e3
   exact ⟨m, L, a3, s3, Ev.bindc e1 (Ev.neg (by simp) (Ev.bindc (show spec_l1Cur_pick.f c a1 s1 (wrap64 (7 + 1)) = some (x, a2, s2) by rw [wrap64_id (by omega) (by omega)]; exact e2) e3)), hL⟩
 obtain ⟨m, L, a, s, e, hL⟩ := this
 refine ⟨m, L, ?_, hL⟩
 unfold spec_DrawLeastThreshold.f spec_DrawIsSemiorder.f
 exact Ev.bind (Ev.bind e (Ev.ret rfl)) (Ev.ret rfl)
theorem FnThresholds (l0 : List Int) (hm0 : l0.length ≤ maxLen) (hw0 : ∀ x ∈ l0, (Lit.int .u8 x).wf = true) (l1 : List Int) (hm1 : l1.length ≤ maxLen) (hw1 : ∀ x ∈ l1, (Lit.int .u8 x).wf = true) : ∃ k, laws_FnThresholds.f k l0 l1 = some true := by
 refine Ev.at1 ?_
 unfold laws_FnThresholds.f
 obtain ⟨b, hb⟩ := big_f l0 l1 hm0
 refine Ev.bindc hb ?_
 by_cases hbt : b = true
 ·exact Ev.pos hbt (Ev.ret rfl)
 refine Ev.neg hbt ?_
 obtain ⟨n, L, hd, hl⟩ := drawSemi (bytesP.of hw0)
 have hL : L.length ≤ 1048576 := by omega
 refine Ev.bind hd ?_
 have hord := isOrder_ev n L hL
 by_cases h : orderP n L
 ·rw [decide_eq_true h] at hord
  obtain ⟨v, v1, v2, v3⟩ := least_l h 10 1 (by omega) (by omega)
  have i1 : Ev (fun k => impl_LeastThreshold.f k n L) v := by
   unfold impl_LeastThreshold.f
   exact Ev.bind hord (Ev.pos rfl v1)
  have i2 : Ev (fun k => spec_LeastThreshold.f k n L) v := by
   unfold spec_LeastThreshold.f
   exact Ev.bind (orGood_ev n L hL) (Ev.pos (by simpa using h) v2)
  obtain ⟨s, s1, s2, s3, s4⟩ := semi_iff h hL
  have i3 : Ev (fun k => impl_IsSemiorder.f k n L) (s, true) := by
   unfold impl_IsSemiorder.f
   exact Ev.bind hord (Ev.pos rfl (Ev.bind s1 (Ev.ret rfl)))
  have i4 : Ev (fun k => spec_IsSemiorder.f k n L) (s, true) := by
   unfold spec_IsSemiorder.f
   exact Ev.bind (orGood_ev n L hL) (Ev.pos (by simpa using h) (Ev.bind s2 (Ev.ret rfl)))
  have hvs : v.2 = s := by
   rw [Bool.eq_iff_iff, s3]
   rcases v3 with ⟨a1, a2, a3, a4, _⟩ | ⟨a1, a2⟩
   ·exact ⟨fun _ => solv_semi a2 a4, fun _ => a1⟩
   ·refine ⟨fun e => (by rw [a1] at e; cases e), fun e => ?_⟩
    obtain ⟨t, t1, t2, t3⟩ := semi_solv h e.1 e.2
    exact absurd t3 (a2 t t1 t2)
  have i5 : Ev (fun k => impl_ThreeOneOf.f k n L) ((T3 L).getD [], (T3 L).isSome) := by
   unfold impl_ThreeOneOf.f
   refine Ev.bind hord (Ev.pos rfl (Ev.bind (three_i h.1) (Ev.ret ?_)))
   cases hr : T3 L with
   | none => rfl
   | some r =>
    obtain ⟨a, b, c, d, rfl, _⟩ := three_some h.1 hr
    rfl
  have i6 : Ev (fun k => spec_ThreeOneOf.f k n L) ((T3 L).getD [], (T3 L).isSome) := by
   unfold spec_ThreeOneOf.f
   refine Ev.bind (orGood_ev n L hL) (Ev.pos (by simpa using h) (Ev.eq (three_s h.1) ?_))
   cases hr : T3 L <;> rfl
  have hlen : ((T3 L).getD []).length ≤ 1048576 := by
   cases hr : T3 L with
   | none => simp
   | some r =>
    obtain ⟨a, b, c, d, rfl, _⟩ := three_some h.1 hr
    simp
  have hj2 : Ev (fun k => laws_FnThresholds.j2 k v.1 v.2 n L) true := by
   refine Ev.shift ?_
   simp only [laws_FnThresholds.j2]
   rcases v3 with ⟨a1, a2, a3, a4, a5⟩ | ⟨a1, a2⟩
   ·exact Ev.pos a1 (thr_l1 h a2 a4 a5 10 1 (by omega) (by omega))
   ·exact Ev.neg (by rw [a1]; simp) (Ev.ret rfl)
  have hj0 := thr_j0 h hj2
  refine Ev.bind i1 (Ev.bind i2 (Ev.bind i3 (Ev.bind i4 (Ev.neg (by simp) (Ev.pos rfl (Ev.neg (by simp) (Ev.neg (by simp) (Ev.neg (by simp [hvs]) (Ev.bind hord (Ev.neg (by simp) (Ev.bind i5 (Ev.bind i6 (Ev.neg (by simp) (Ev.bind (vSame_ev _ _ hlen) (Ev.pos (by simp) ?_)))))))))))))))
  by_cases ht : (T3 L).isSome = true
  ·have hs : s = false := by
    cases s
    ·rfl
    ·have := s4 rfl
     rw [this] at ht; cases ht
   refine Ev.pos ht ?_
   show Ev (fun k => laws_FnThresholds.j0 k v.1 v.2 ((T3 L).getD []) (T3 L).isSome s n L) true
   rw [hs]; exact hj0
  ·exact Ev.neg ht hj0
 ·rw [decide_eq_false h] at hord
  have i1 : Ev (fun k => impl_LeastThreshold.f k n L) (0, false) := by
   unfold impl_LeastThreshold.f
   exact Ev.bind hord (Ev.neg (by simp) (Ev.ret rfl))
  have i2 : Ev (fun k => spec_LeastThreshold.f k n L) (0, false) := by
   unfold spec_LeastThreshold.f
   exact Ev.bind (orGood_ev n L hL) (Ev.neg (by simpa using h) (Ev.ret rfl))
  have i3 : Ev (fun k => impl_IsSemiorder.f k n L) (false, false) := by
   unfold impl_IsSemiorder.f
   exact Ev.bind hord (Ev.neg (by simp) (Ev.ret rfl))
  have i4 : Ev (fun k => spec_IsSemiorder.f k n L) (false, false) := by
   unfold spec_IsSemiorder.f
   exact Ev.bind (orGood_ev n L hL) (Ev.neg (by simpa using h) (Ev.ret rfl))
  have i5 : Ev (fun k => impl_ThreeOneOf.f k n L) ([], false) := by
   unfold impl_ThreeOneOf.f
   exact Ev.bind hord (Ev.neg (by simp) (Ev.ret rfl))
  have i6 : Ev (fun k => spec_ThreeOneOf.f k n L) ([], false) := by
   unfold spec_ThreeOneOf.f
   exact Ev.bind (orGood_ev n L hL) (Ev.neg (by simpa using h) (Ev.ret rfl))
  refine Ev.bind i1 (Ev.bind i2 (Ev.bind i3 (Ev.bind i4 (Ev.neg (by simp) (Ev.pos rfl (Ev.neg (by simp) (Ev.neg (by simp) (Ev.neg (by simp) (Ev.bind hord (Ev.neg (by simp) (Ev.bind i5 (Ev.bind i6 (Ev.neg (by simp) (Ev.bind (vSame_ev [] [] (by simp)) (Ev.pos (by simp) (Ev.neg (by simp) (Ev.shift ?_)))))))))))))))))
  simp only [laws_FnThresholds.j0]
  refine Ev.neg (by simp) (Ev.neg (by simp) (Ev.shift ?_))
  simp only [laws_FnThresholds.j2]
  exact Ev.neg (by simp) (Ev.ret rfl)
end Go.Proofs.YtmoemabbmjdhgaaDoor.Pure
