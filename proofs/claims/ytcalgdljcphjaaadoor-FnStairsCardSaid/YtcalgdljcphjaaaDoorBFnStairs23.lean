import Derived.Test.YtcalgdljcphjaaaDoorBFnStairs17
import Derived.Test.YtcalgdljcphjaaaDoorBFnStairs22
namespace Go.Proofs.YtcalgdljcphjaaaDoor.Pure
open Go.RowKit Go.Proofs.YtcalgdljcphjaaaDoor.Q Go.Proofs.YtcalgdljcphjaaaDoorW.PrintWords Go.Proofs.YtcalgdljcphjaaaDoorW.PrintLast
set_option linter.unusedVariables false
set_option linter.unusedSimpArgs false
-- the stairs of orders of stairs, of mirrored and of renamed ones
theorem cntB_lt (m : Nat) : ∀ N : Nat, (List.range N).countP (fun i => decide (i < m)) = min m N
 | 0 => by simp
 | N + 1 => by
  rw [List.range_succ, List.countP_append, cntB_lt m N]
  by_cases e : N < m
  ·simp [e]; omega
  ·simp [e]; omega
theorem cntB_up {P : Nat → Bool} : ∀ N : Nat, (∀ i j, i ≤ j → j < N → P i = true → P j = true) → ∀ q, q < N → (q < (List.range N).countP P ↔ P (N - 1 - q) = true)
 | 0, _, q, hq => by omega
 | N + 1, h, q, hq => by
  have ih := cntB_up N (fun i j h1 h2 h3 => h i j h1 (by omega) h3)
  rw [List.range_succ, List.countP_append]
  by_cases e : P N = true
  ·simp only [List.countP_singleton, e, if_true]
   by_cases h0 : q = 0
   ·subst h0
    exact ⟨fun _ => by simpa using e, fun _ => by omega⟩
   ·have := ih (q - 1) (by omega)
    rw [show N - 1 - (q - 1) = N + 1 - 1 - q by omega] at this
    rw [← this]; omega
  ·have hz : (List.range N).countP P = 0 := by
    rw [List.countP_eq_zero]
    exact fun i hi hp => e (h i N (by have := List.mem_range.1 hi; omega) (by omega) hp)
   simp only [List.countP_singleton, e, hz]
   refine ⟨fun h2 => by simp at h2, fun h2 => absurd (h _ N (by omega) (by omega) h2) e⟩
theorem cntB_le (P : Nat → Bool) (N : Nat) : (List.range N).countP P ≤ N := by
 have := List.countP_le_length (p := P) (l := List.range N)
 simpa using this
theorem cb_count {n : Int} {L : List Int} (h : relP n L) (j : Nat) : cb L j = (((List.range L.length).countP (fun i => lt L i j) : Nat) : Int) := by
 unfold cb
 rw [bits_count (N := L.length) (p := fun i => lt L i j) (by have := h.1; have := h.2.1; omega) (dn_set h j).2]
theorem sort_of {a b : List Int} (hp : a.Perm b) (hb : b.Pairwise (· ≤ ·)) : (a.mergeSort fun x y => decide (x ≤ y)) = b :=
 List.Perm.eq_of_pairwise (le := (· ≤ ·)) (fun a b _ _ h1 h2 => by omega) (sort_rises _) hb ((List.mergeSort_perm _ _).trans hp)
theorem ostair_ev {n : Int} {L b : List Int} (h : relP n L) (hp : ((List.range L.length).map (cb L)).Perm b) (hb : b.Pairwise (· ≤ ·)) : Ev (fun k => impl_Order_stair.f k n L) b := by
 have s1 := ostair_l h L.length 0 (by omega)
 rw [sort_of hp hb] at s1
 unfold impl_Order_stair.f
 refine Ev.bind (mirror_ev h : Ev _ (n, dns L)) ?_
 have s3 : Ev (fun k => impl_Order_stair.l0 k [] (dns L) ((dns L).length : Int) 0) b := by simpa using s1
 exact s3
section
variable {l : List Int}
theorem st_rd (h : stP l) {j : Nat} (hj : j < l.length) : ∃ m : Nat, rd l (j : Int) = m ∧ m ≤ j := by
 have := h.1 j hj
 exact ⟨(rd l (j : Int)).toNat, by have := this.1; omega, by have := this.2.1; omega⟩
theorem st_sorted (h : stP l) : l.Pairwise (· ≤ ·) := by
 refine List.pairwise_iff_getElem.2 (fun i j hi hj hij => ?_)
 have := h.mono j i hj (by omega)
 rwa [rd_lt l i hi, rd_lt l j hj] at this
theorem st_back (h : stP l) : (List.range (stO l).length).map (cb (stO l)) = l := by
 rw [stO_length]
 apply List.ext_getElem (by simp)
 intro j hj1 hj
 rw [List.getElem_map, List.getElem_range, cb_count (stO_rel h), stO_length]
 obtain ⟨m, em, hm⟩ := st_rd h hj
 have e : (List.range l.length).countP (fun i => lt (stO l) i j) = (List.range l.length).countP (fun i => decide (i < m)) := by
  refine List.countP_congr (fun i hi => ?_)
  rw [stO_iff h (List.mem_range.1 hi), decide_eq_true_iff, em]
  exact ⟨fun g => by omega, fun g => ⟨hj, by omega⟩⟩
 rw [e, cntB_lt, ← rd_lt l j hj, em]
 omega
theorem stair_of (h : stP l) : Ev (fun k => impl_StairOf.f k (l.length : Int) (stO l)) (l, true) := by
 have h22 := stO_22 h
 have h31 := stO_31 h
 rw [← stO_length l] at h22 h31
 unfold impl_StairOf.f
 exact Ev.bind (semi_yes (stO_order h) h22 h31) (Ev.pos rfl (Ev.bind (ostair_ev (stO_rel h) (by rw [st_back h]) (st_sorted h)) (Ev.ret rfl)))
def upN (l : List Int) (i : Nat) : Nat := (List.range l.length).countP (fun j : Nat => decide ((i : Int) < rd l (j : Int)))
theorem upN_iff (h : stP l) (i : Nat) {q : Nat} (hq : q < l.length) : q < upN l i ↔ (i : Int) < rd l ((l.length - 1 - q : Nat) : Int) := by
 unfold upN
 rw [cntB_up l.length (fun a b hab hb hp => by
  rw [decide_eq_true_iff] at hp ⊢
  have := h.mono b a hb hab
  omega) q hq, decide_eq_true_iff]
theorem upN_le (l : List Int) (i : Nat) : upN l i ≤ l.length := cntB_le _ _
theorem upN_anti (l : List Int) {i j : Nat} (hij : i ≤ j) : upN l j ≤ upN l i := by
 unfold upN
 refine List.countP_mono_left (fun x _ hx => ?_)
 rw [decide_eq_true_iff] at hx ⊢
 omega
def stM (l : List Int) : List Int := (List.range l.length).map fun p => ((upN l (l.length - 1 - p) : Nat) : Int)
theorem stM_length (l : List Int) : (stM l).length = l.length := by simp [stM]
theorem stM_rd (l : List Int) {p : Nat} (hp : p < l.length) : rd (stM l) (p : Int) = (upN l (l.length - 1 - p) : Nat) := by
 rw [rd_lt _ p (by rw [stM_length]; exact hp)]; simp [stM]
theorem stM_st (h : stP l) : stP (stM l) := by
 refine ⟨fun i hi => ?_, by rw [stM_length]; exact h.2⟩
 rw [stM_length] at hi
 unfold stC
 rw [stM_rd l hi]
 refine ⟨by omega, ?_, fun h0 => ?_⟩
 ·have hc := (h.1 (l.length - 1 - i) (by omega)).2.1
  have := upN_iff h (l.length - 1 - i) hi
  have : ¬ i < upN l (l.length - 1 - i) := fun g => by have := this.1 g; omega
  omega
 ·rw [show (i : Int) - 1 = ((i - 1 : Nat) : Int) by omega, stM_rd l (by omega)]
  have := upN_anti l (i := l.length - 1 - i) (j := l.length - 1 - (i - 1)) (by omega)
  omega
theorem mir_map (h : stP l) : ((List.range (dns (stO l)).length).map (cb (dns (stO l)))) = (stM l).reverse := by
 have hr : relP (l.length : Int) (dns (stO l)) := rel_relP (by rw [stO_length]) (by rw [stO_length]; have := h.2; omega) _
 have hd : (dns (stO l)).length = l.length := by rw [dns_length, stO_length]
 rw [hd]
 apply List.ext_getElem (by simp [stM_length])
 intro i hi1 hi2
 have hi : i < l.length := by simpa using hi1
 rw [List.getElem_map, List.getElem_range, cb_count hr, hd, List.getElem_reverse]
 have e : (List.range l.length).countP (fun j => lt (dns (stO l)) j i) = upN l i := by
  refine List.countP_congr (fun j hj => ?_)
  have hj := List.mem_range.1 hj
  have hl : lt (dns (stO l)) j i = (decide (i < (stO l).length) && lt (stO l) i j) := rel_lt (by rw [stO_length]; have := h.2; omega) (by rw [stO_length]; exact hj) i
  rw [hl, stO_length, Bool.and_eq_true, decide_eq_true_iff, stO_iff h hi, decide_eq_true_iff]
  exact ⟨fun g => g.2.2, fun g => ⟨hi, hj, g⟩⟩
 rw [e]
 have hlen : (stM l).length - 1 - i < l.length := by rw [stM_length]; omega
 rw [← rd_lt (stM l) ((stM l).length - 1 - i) (by rw [stM_length]; rw [stM_length] at hlen; exact hlen), stM_rd l hlen, stM_length, show l.length - 1 - (l.length - 1 - i) = i by omega]
theorem mirStair_ev (h : stP l) : Ev (fun k => impl_MirrorStair.f k l) (stM l, true) := by
 have h10 := h.2
 have hr : relP (l.length : Int) (dns (stO l)) := rel_relP (by rw [stO_length]) (by rw [stO_length]; omega) _
 unfold impl_MirrorStair.f
 refine Ev.bind (isStair_ev l (by omega)) (Ev.pos (by simpa using h) (Ev.bind (ofStair_ev (by omega)) (Ev.bind (mirror_ev (stO_rel h) : Ev _ ((l.length : Int), dns (stO l))) (Ev.bind (ostair_ev hr (b := stM l) ?_ (st_sorted (stM_st h))) (Ev.ret rfl)))))
 show ((List.range (dns (stO l)).length).map (cb (dns (stO l)))).Perm (stM l)
 rw [mir_map h]
 exact List.reverse_perm _
theorem stM_twice (h : stP l) : stM (stM l) = l := by
 have hm := stM_st h
 apply List.ext_getElem (by rw [stM_length, stM_length])
 intro p hp1 hp
 rw [← rd_lt _ p hp1, ← rd_lt l p hp, stM_rd (stM l) (by rw [stM_length]; exact hp), stM_length]
 obtain ⟨m, em, hmp⟩ := st_rd h hp
 rw [em]
 have key : ∀ t, t < l.length → (t < upN (stM l) (l.length - 1 - p) ↔ t < m) := fun t ht => by
  have := upN_iff hm (l.length - 1 - p) (q := t) (by rw [stM_length]; exact ht)
  rw [this, stM_length, stM_rd l (by omega), show l.length - 1 - (l.length - 1 - t) = t by omega]
  have h2 := upN_iff h t (q := l.length - 1 - p) (by omega)
  rw [show l.length - 1 - (l.length - 1 - p) = p by omega, em] at h2
  omega
 have hle : upN (stM l) (l.length - 1 - p) ≤ l.length := by have := upN_le (stM l) (l.length - 1 - p); rwa [stM_length] at this
 have : upN (stM l) (l.length - 1 - p) = m := by
  rcases Nat.lt_trichotomy (upN (stM l) (l.length - 1 - p)) m with g | g | g
  ·have := (key (upN (stM l) (l.length - 1 - p)) (by omega)).2 g; omega
  ·exact g
  ·have := (key m (by omega)).1 g; omega
 rw [this]
end
section
variable {n : Int} {L N : List Int}
theorem ren_lt (hL : relP n L) {x : Nat} (hx : x < L.length) (y : Nat) : lt (renR L N) x y = (decide (y < L.length) && lt L (ixOf N x) (ixOf N y)) := rel_lt (by have := hL.1; have := hL.2.1; omega) hx y
theorem ren_len (L N : List Int) : (renR L N).length = L.length := rel_length _ _
theorem ren_order (hL : orderP n L) (hN : namP (L.length : Int) N) : orderP n (renR L N) := by
 have h10 : L.length ≤ 10 := by have := hL.1.1; have := hL.1.2.1; omega
 refine orderP_of (renR_relP hL.1) (fun i hi => ?_) (fun i j m hi hj h1 h2 => ?_)
 ·rw [ren_len] at hi
  rw [ren_lt hL.1 hi, hL.irr (ix_lt h10 hN hi)]; simp
 ·rw [ren_len] at hi hj
  rw [ren_lt hL.1 hi, Bool.and_eq_true] at h1
  rw [ren_lt hL.1 hj, Bool.and_eq_true] at h2
  rw [ren_lt hL.1 hi, Bool.and_eq_true]
  exact ⟨h2.1, hL.trans (ix_lt h10 hN hi) h1.2 h2.2⟩
theorem ren_at (hL : relP n L) {x y : Nat} (hx : x < L.length) (hy : y < L.length) : lt (renR L N) x y = lt L (ixOf N x) (ixOf N y) := by rw [ren_lt hL hx]; simp [hy]
theorem ix_inj (h10 : L.length ≤ 10) (hN : namP (L.length : Int) N) {x y : Nat} (hx : x < L.length) (hy : y < L.length) (e : ixOf N x = ixOf N y) : x = y := by
 have a := ix_rd h10 hN hx
 have b := ix_rd h10 hN hy
 rw [e, b] at a
 omega
theorem ren_22 (hL : relP n L) (hN : namP (L.length : Int) N) (h : No22 L.length (lt L)) : No22 (renR L N).length (lt (renR L N)) := by
 have h10 : L.length ≤ 10 := by have := hL.1; have := hL.2.1; omega
 rw [ren_len]
 intro a b c d ha hb hc hd h1 h2 h3 h4
 rw [ren_at hL ha hb] at h1
 rw [ren_at hL hc hd] at h2
 rw [ren_at hL hc hb] at h3
 rw [ren_at hL ha hd] at h4
 exact h _ _ _ _ (ix_lt h10 hN ha) (ix_lt h10 hN hb) (ix_lt h10 hN hc) (ix_lt h10 hN hd) h1 h2 h3 h4
theorem ren_31 (hL : relP n L) (hN : namP (L.length : Int) N) (h : No31 L.length (lt L)) : No31 (renR L N).length (lt (renR L N)) := by
 have h10 : L.length ≤ 10 := by have := hL.1; have := hL.2.1; omega
 rw [ren_len]
 intro a b c d ha hb hc hd h1 h2 h3 h4 h5 h6 h7 h8 h9 h10' h11
 rw [ren_at hL ha hb] at h1
 rw [ren_at hL hb hc] at h2
 rw [ren_at hL ha hd] at h3
 rw [ren_at hL hd ha] at h4
 rw [ren_at hL hb hd] at h6
 rw [ren_at hL hd hb] at h7
 rw [ren_at hL hc hd] at h9
 rw [ren_at hL hd hc] at h10'
 exact h _ _ _ _ (ix_lt h10 hN ha) (ix_lt h10 hN hb) (ix_lt h10 hN hc) (ix_lt h10 hN hd) h1 h2 h3 h4 (fun e => h5 (ix_inj h10 hN hd ha e)) h6 h7 (fun e => h8 (ix_inj h10 hN hd hb e)) h9 h10' (fun e => h11 (ix_inj h10 hN hd hc e))
theorem ix_perm (h10 : L.length ≤ 10) (hN : namP (L.length : Int) N) : ((List.range L.length).map (ixOf N)).Perm (List.range L.length) := by
 refine (List.perm_ext_iff_of_nodup ?_ List.nodup_range).2 (fun x => ?_)
 ·refine List.pairwise_map.2 (List.Pairwise.imp_of_mem ?_ List.nodup_range)
  intro a b ha hb hab e
  exact hab (ix_inj h10 hN (List.mem_range.1 ha) (List.mem_range.1 hb) e)
 ·rw [List.mem_map, List.mem_range]
  constructor
  ·rintro ⟨a, ha, rfl⟩
   exact ix_lt h10 hN (List.mem_range.1 ha)
  ·intro hx
   obtain ⟨_, a1, a2⟩ := nm_of h10 hN hx
   exact ⟨eN N x, List.mem_range.2 a1, a2⟩
theorem ren_cb (hL : relP n L) (hN : namP (L.length : Int) N) {y : Nat} (hy : y < L.length) : cb (renR L N) y = cb L (ixOf N y) := by
 have h10 : L.length ≤ 10 := by have := hL.1; have := hL.2.1; omega
 rw [cb_count (renR_relP hL), cb_count hL, ren_len, ← List.Perm.countP_eq (fun i => lt L i (ixOf N y)) (ix_perm h10 hN), List.countP_map]
 congr 1
 refine List.countP_congr (fun x hx => ?_)
 rw [ren_at hL (List.mem_range.1 hx) hy]; rfl
theorem ren_stair {b : List Int} (hL : orderP n L) (hN : namP (L.length : Int) N) (h22 : No22 L.length (lt L)) (h31 : No31 L.length (lt L)) (hp : ((List.range L.length).map (cb L)).Perm b) (hb : b.Pairwise (· ≤ ·)) : Ev (fun k => impl_StairOf.f k n (renR L N)) (b, true) := by
 have h10 : L.length ≤ 10 := by have := hL.1.1; have := hL.1.2.1; omega
 unfold impl_StairOf.f
 refine Ev.bind (semi_yes (ren_order hL hN) (ren_22 hL.1 hN h22) (ren_31 hL.1 hN h31)) (Ev.pos rfl (Ev.bind (ostair_ev (renR_relP hL.1) (b := b) ?_ hb) (Ev.ret rfl)))
 rw [ren_len]
 have e : (List.range L.length).map (cb (renR L N)) = ((List.range L.length).map (ixOf N)).map (cb L) := by
  rw [List.map_map]
  refine List.map_congr_left (fun y hy => ?_)
  exact ren_cb hL.1 hN (List.mem_range.1 hy)
 rw [e]
 exact ((ix_perm h10 hN).map _).trans hp
end
theorem rdL_lt (L : List (List Int)) (i : Nat) (h : i < L.length) : rd_L2 L (i : Int) = L[i] := by simp [rd_L2, h]
def rowsP (L : List (List Int)) : Prop := L.length ≤ 1048576 ∧ ∀ r ∈ L, r.length ≤ 1048576
theorem rowsP.at {L : List (List Int)} (h : rowsP L) {i : Nat} (hi : i < L.length) : (rd_L2 L (i : Int)).length ≤ 1048576 := by
 rw [rdL_lt L i hi]; exact h.2 _ (List.getElem_mem _)
-- the statements' own comparisons
theorem vSame_l (l m : List Int) (hlm : l.length = m.length) (hl : l.length ≤ 1048576) (d : Nat) : ∀ i : Nat, i + d = l.length → Ev (fun k => laws_vSame.l0 k l m (l.length : Int) (i : Int)) (l.drop i == m.drop i) := by
 induction d with
 | zero =>
  intro i hi
  refine Ev.shift ?_
  simp only [laws_vSame.l0]
  refine Ev.neg (by omega) (Ev.ret ?_)
  rw [List.drop_of_length_le (by omega), List.drop_of_length_le (by omega)]; rfl
 | succ d ih =>
  intro i hi
  have e := ih (i + 1) (by omega)
  have f1 : (i : Int) < l.length := by omega
  have f2 : (i : Int) < m.length := by omega
  refine Ev.shift ?_
  simp only [laws_vSame.l0]
  refine Ev.pos f1 (Ev.pos (by omega) (Ev.pos f1 (Ev.pos f2 ?_)))
  rw [wrap64_id (by omega) (by omega), cast1, drop_rd l i (by omega), drop_rd m i (by omega)]
  by_cases hc : rd l (i : Int) = rd m (i : Int)
  ·refine Ev.pos hc (Ev.eq e ?_)
   rw [hc]; simp
  ·refine Ev.neg hc (Ev.ret ?_)
   symm; rw [beq_eq_false_iff_ne]; intro h; exact hc (List.cons.inj h).1
theorem vSame_ev (l m : List Int) (hl : l.length ≤ 1048576) : Ev (fun k => laws_vSame.f k l m) (l == m) := by
 unfold laws_vSame.f
 by_cases h : (l.length : Int) = m.length
 ·refine Ev.pos h ?_
  simpa using vSame_l l m (by omega) hl l.length 0 (by omega)
 ·refine Ev.neg h (Ev.ret ?_)
  symm; rw [beq_eq_false_iff_ne]; intro e; exact h (by rw [e])
theorem vOrder_ev (n : Int) (l : List Int) (n' : Int) (m : List Int) (hl : l.length ≤ 1048576) : Ev (fun k => laws_vOrder.f k n l n' m) (decide (n = n') && (l == m)) := by
 unfold laws_vOrder.f
 by_cases h : n = n'
 ·exact Ev.pos h (Ev.bind (vSame_ev l m hl) (Ev.ret (by simp [h])))
 ·exact Ev.neg h (Ev.ret (by simp [h]))
theorem vOrder_self (n : Int) (l : List Int) (hl : l.length ≤ 1048576) : Ev (fun k => laws_vOrder.f k n l n l) true := Ev.eq (vOrder_ev n l n l hl) (by simp)
-- all stairs, and how many there are
open Sta
def goS : Nat → Nat → List (List Int) → List (List Int)
 | 0, _, xs => xs
 | m + 1, i, xs => goS m (i + 1) (xs.flatMap (kids i))
theorem goS_every : ∀ m i, goS m i (every i) = every (i + m)
 | 0, _ => rfl
 | m + 1, i => by
  show goS m (i + 1) (every (i + 1)) = _
  rw [goS_every m (i + 1), Nat.add_right_comm, Nat.add_assoc]
theorem goS_nil : ∀ m i, goS m i [] = []
 | 0, _ => rfl
 | m + 1, i => goS_nil m (i + 1)
theorem goS_app : ∀ m i a b, goS m i (a ++ b) = goS m i a ++ goS m i b
 | 0, _, _, _ => rfl
 | m + 1, i, a, b => by
  show goS m (i + 1) ((a ++ b).flatMap (kids i)) = _
  rw [List.flatMap_append, goS_app]; rfl
theorem goS_flat (m i : Nat) : ∀ xs : List (List Int), goS m i xs = xs.flatMap (fun t => goS m i [t])
 | [] => by rw [goS_nil]; rfl
 | x :: xs => by
  rw [show x :: xs = [x] ++ xs from rfl, goS_app, goS_flat m i xs]
  simp
def okT (i : Nat) (l : List Int) : Prop := l.length = i ∧ ∀ x ∈ l, 0 ≤ x ∧ x ≤ (i : Int)
theorem goS_len : ∀ m i xs, i + m ≤ 10 → (∀ l ∈ xs, okT i l) → (goS m i xs).length ≤ xs.length * 11 ^ m
 | 0, _, _, _, _ => by simp [goS]
 | m + 1, i, xs, hi, h => by
  have h1 := goS_len m (i + 1) (xs.flatMap (kids i)) (by omega) (fun t ht => by
   obtain ⟨l, hl, ht⟩ := List.mem_flatMap.1 ht
   exact kids_ok (h l hl).1 (h l hl).2 t ht)
  have h2 := flat_len (i := i) xs h
  have h3 : xs.length * (i + 1) ≤ xs.length * 11 := Nat.mul_le_mul_left _ (by omega)
  have h4 : (xs.flatMap (kids i)).length * 11 ^ m ≤ xs.length * 11 * 11 ^ m := Nat.mul_le_mul_right _ (Nat.le_trans h2 h3)
  show (goS m (i + 1) (xs.flatMap (kids i))).length ≤ _
  rw [Nat.pow_succ, Nat.mul_comm (11 ^ m) 11, ← Nat.mul_assoc]
  exact Nat.le_trans h1 h4
theorem pow_small {m : Nat} (h : m ≤ 10) : 11 ^ m ≤ 25937424601 := by
 have : 11 ^ m ≤ 11 ^ 10 := Nat.pow_le_pow_right (by omega) h
 exact this
theorem goS_small {m i : Nat} {t : List Int} (hi : i + m ≤ 10) (h : okT i t) : (goS m i [t]).length ≤ 25937424601 := by
 have h1 := goS_len m i [t] hi (fun l hl => by rw [List.mem_singleton.1 hl]; exact h)
 have h2 := pow_small (m := m) (by omega)
 simp at h1
 omega
theorem kid_ok {i : Nat} {l : List Int} (h : okT i l) {d : Nat} (hd : d < cnt i l) : okT (i + 1) (l ++ [low i l + (d : Int)]) :=
 kids_ok h.1 h.2 _ (List.mem_map.2 ⟨d, List.mem_range.2 hd, rfl⟩)
theorem part_small {m i : Nat} {l : List Int} (h : okT i l) (hi : i + 1 + m ≤ 10) (d : Nat) : (((kids i l).take d).flatMap (fun t => goS m (i + 1) [t])).length ≤ 285311670611 := by
 have hk := kids_len h.1 h.2
 have h1 : ∀ ys : List (List Int), (∀ t ∈ ys, okT (i + 1) t) → (ys.flatMap (fun t => goS m (i + 1) [t])).length ≤ ys.length * 25937424601 := by
  intro ys
  induction ys with
  | nil => intro _; simp
  | cons y ys ih =>
   intro hy
   have a := ih (fun t ht => hy t (List.mem_cons_of_mem _ ht))
   have b := goS_small (m := m) hi (hy y List.mem_cons_self)
   rw [List.flatMap_cons, List.length_append, List.length_cons, Nat.add_mul]
   omega
 have h2 := h1 ((kids i l).take d) (fun t ht => kids_ok h.1 h.2 t (List.mem_of_mem_take ht))
 have h3 : ((kids i l).take d).length ≤ 11 := by rw [List.length_take]; omega
 omega
theorem seStairs_l {m : Nat} {l : List Int} {N : Nat} (h : okT l.length l) (hi : l.length + 1 + m = N) (hN : N ≤ 10)
  (ih : ∀ t : List Int, okT (l.length + 1) t → Ev (fun k => spec_seStairs.f k t (N : Int)) (goS m (l.length + 1) [t])) (e : Nat) :
  ∀ d : Nat, d + e = cnt l.length l → Ev (fun k => spec_seStairs.l0 k l (N : Int) (((kids l.length l).take d).flatMap (fun t => goS m (l.length + 1) [t])) (low l.length l + (d : Int))) ((kids l.length l).flatMap (fun t => goS m (l.length + 1) [t])) := by
 have hlo := low_ok h.1 h.2
 have hcnt : (cnt l.length l : Int) = (l.length : Int) + 1 - low l.length l := by unfold cnt; omega
 induction e with
 | zero =>
  intro d hd
  refine Ev.shift ?_
  simp only [spec_seStairs.l0]
  refine Ev.neg (by omega) (Ev.ret ?_)
  rw [show d = cnt l.length l by omega, kids_all]
 | succ e ihe =>
  intro d hd
  have hnext := ihe (d + 1) (by omega)
  have hk := kid_ok h (show d < cnt l.length l by omega)
  have hb := goS_small (m := m) (by omega) hk
  have hp := part_small (m := m) h (by omega) d
  rw [kids_take (by omega), List.flatMap_append] at hnext
  simp only [List.flatMap_cons, List.flatMap_nil, List.append_nil] at hnext
  refine Ev.shift ?_
  simp only [spec_seStairs.l0]
  rw [wrap64_id (x := low l.length l + (d : Int) + 1) (by omega) (by omega), show low l.length l + (d : Int) + 1 = low l.length l + ((d + 1 : Nat) : Int) by omega]
  exact Ev.pos (by omega) (Ev.bindc (own_f l (by omega)) (Ev.pos (by omega) (Ev.bind (ih _ hk) (Ev.pos (by omega) hnext))))
theorem seStairs_ev {N : Nat} (hN : N ≤ 10) : ∀ (m : Nat) (l : List Int), l.length + m = N → okT l.length l → Ev (fun k => spec_seStairs.f k l (N : Int)) (goS m l.length [l])
 | 0, l, hl, h => by
  refine Ev.shift ?_
  simp only [spec_seStairs.f]
  exact Ev.pos (by omega) (Ev.bindc (own_f l (by omega)) (Ev.ret rfl))
 | m + 1, l, hl, h => by
  have hloop := seStairs_l (m := m) (N := N) h (by omega) hN (fun t ht => by
   have := seStairs_ev hN m t (by have := ht.1; omega) (by rw [ht.1]; exact ht)
   rw [ht.1] at this; exact this) (cnt l.length l) 0 (by omega)
  rw [List.take_zero, List.flatMap_nil] at hloop
  have hz : low l.length l + ((0 : Nat) : Int) = low l.length l := by omega
  rw [hz, ← goS_flat] at hloop
  have hg : goS (m + 1) l.length [l] = goS m (l.length + 1) (kids l.length l) := by
   show goS m (l.length + 1) ([l].flatMap (kids l.length)) = _
   simp
  rw [hg]
  refine Ev.shift ?_
  simp only [spec_seStairs.f]
  refine Ev.neg (by omega) ?_
  by_cases h0 : (l.length : Int) > 0
  ·refine Ev.pos h0 ?_
   rw [wrap64_id (x := (l.length : Int) - 1) (by omega) (by omega)]
   refine Ev.pos (by omega) (Ev.pos (by omega) (Ev.shift ?_))
   simp only [spec_seStairs.j0]
   rw [show rd l ((l.length : Int) - 1) = low l.length l by unfold low; rw [if_pos (by omega)]]
   exact hloop
  ·refine Ev.neg h0 (Ev.shift ?_)
   simp only [spec_seStairs.j0]
   have : low l.length l = 0 := by unfold low; rw [if_neg (by omega)]
   rw [this] at hloop
   exact hloop
theorem sStairs_ev {N : Nat} (hN : N ≤ 10) : Ev (fun k => spec_seStairs.f k [] (N : Int)) (every N) := by
 have := seStairs_ev hN N [] (by simp) ⟨rfl, fun x hx => by cases hx⟩
 have e : goS N 0 [[]] = every N := by
  have := goS_every N 0
  rw [Nat.zero_add] at this
  exact this
 rw [show ([] : List Int).length = 0 from rfl, e] at this
 exact this
theorem iStairs_f {N : Nat} (hN : N ≤ 10) : impl_stairs.f (N : Int) = some (every N) := by
 unfold impl_stairs.f
 rw [if_pos (by omega), Int.toNat_natCast]
def catT (n : Nat) : Int := [1, 1, 2, 5, 14, 42, 132, 429, 1430, 4862, 16796].getD n 0
theorem every_cat : ∀ n : Fin 11, ((every n.val).length : Int) = catT n.val := by decide +kernel
def sumC (n : Nat) : Nat → Nat → Int
 | 0, _ => 0
 | d + 1, j => catT j * catT (n - 1 - j) + sumC n d (j + 1)
theorem sumC_all : ∀ n : Fin 11, n.val ≠ 0 → sumC n.val n.val 0 = catT n.val := by decide +kernel
theorem catP : ∀ n : Fin 11, ∀ j : Fin 11, 0 ≤ catT j.val * catT (n.val - 1 - j.val) ∧ catT j.val * catT (n.val - 1 - j.val) ≤ 300000000 := by decide +kernel
theorem seCat_l {n : Nat} (hn : n ≤ 10) (ih : ∀ j, j < n → Ev (fun k => spec_seCatalan.f k (j : Int)) (catT j)) (d : Nat) : ∀ (j : Nat) (acc : Int), j + d = n → 0 ≤ acc → acc ≤ 300000000 * (j : Int) → Ev (fun k => spec_seCatalan.l0 k (n : Int) acc (j : Int)) (acc + sumC n d j) := by
 induction d with
 | zero =>
  intro j acc hj h0 h1
  refine Ev.shift ?_
  simp only [spec_seCatalan.l0]
  refine Ev.neg (by omega) (Ev.ret ?_)
  show acc = acc + 0
  omega
 | succ d ihd =>
  intro j acc hj h0 h1
  have hp := catP ⟨n, by omega⟩ ⟨j, by omega⟩
  simp only at hp
  generalize hx : catT j * catT (n - 1 - j) = x at hp
  have hnext := ihd (j + 1) (acc + x) (by omega) (by omega) (by omega)
  have e2 := ih (n - 1 - j) (by omega)
  refine Ev.shift ?_
  simp only [spec_seCatalan.l0]
  rw [wrap64_id (x := (j : Int) + 1) (by omega) (by omega), cast1, wrap64_id (x := (n : Int) - 1) (by omega) (by omega), wrap64_id (x := (n : Int) - 1 - (j : Int)) (by omega) (by omega), show (n : Int) - 1 - (j : Int) = ((n - 1 - j : Nat) : Int) by omega]
  refine Ev.pos (by omega) (Ev.bind (ih j (by omega)) (Ev.bind e2 ?_))
  rw [hx, wrap64_id (x := x) (by omega) (by omega), wrap64_id (x := acc + x) (by omega) (by omega)]
  refine Ev.eq hnext ?_
  show acc + x + sumC n d (j + 1) = acc + (catT j * catT (n - 1 - j) + sumC n d (j + 1))
  rw [hx, Int.add_assoc]
theorem seCat_ev : ∀ n : Nat, n ≤ 10 → Ev (fun k => spec_seCatalan.f k (n : Int)) (catT n) := by
 intro n
 induction n using Nat.strongRecOn with
 | _ n ih =>
  intro hn
  refine Ev.shift ?_
  simp only [spec_seCatalan.f]
  by_cases h0 : n = 0
  ·subst h0
   exact Ev.pos rfl (Ev.ret rfl)
  ·refine Ev.neg (by omega) ?_
   have := seCat_l hn (fun j hj => ih j hj (by omega)) n 0 0 (by omega) (by omega) (by omega)
   rw [sumC_all ⟨n, by omega⟩ h0, Int.zero_add] at this
   exact this
theorem vLists_l (xs : List (List Int)) (hx : rowsP xs) (d : Nat) : ∀ i : Nat, i + d = xs.length → Ev (fun k => laws_vLists.l0 k xs xs (xs.length : Int) (i : Int)) true := by
 have hx0 := hx.1
 induction d with
 | zero =>
  intro i hi
  refine Ev.shift ?_
  simp only [laws_vLists.l0]
  exact Ev.neg (by omega) (Ev.ret rfl)
 | succ d ih =>
  intro i hi
  have hnext := ih (i + 1) (by omega)
  refine Ev.shift ?_
  simp only [laws_vLists.l0]
  rw [wrap64_id (x := (i : Int) + 1) (by omega) (by omega), cast1]
  exact Ev.pos (by omega) (Ev.pos (by omega) (Ev.pos (by omega) (Ev.pos (by omega) (Ev.bind (vSame_ev _ _ (hx.at (i := i) (by omega))) (Ev.pos (by simp) hnext)))))
theorem vLists_ev (xs : List (List Int)) (hx : rowsP xs) : Ev (fun k => laws_vLists.f k xs xs) true := by
 unfold laws_vLists.f
 exact Ev.pos rfl (vLists_l xs hx xs.length 0 (by omega))
def allRes (n : Int) : List (List Int) × Bool := if 0 ≤ n ∧ n ≤ 6 then (every n.toNat, true) else ([], false)
theorem iStairsOf (n : Int) : impl_StairsOf.f n = some (allRes n) := by
 unfold impl_StairsOf.f allRes
 rw [impl_in, Option.bind_some]
 by_cases h : 0 ≤ n ∧ n ≤ 6
 ·obtain ⟨m, rfl⟩ : ∃ m : Nat, n = m := ⟨n.toNat, by omega⟩
  rw [if_pos (by simpa using h), if_pos h, iStairs_f (by omega), Int.toNat_natCast]
  rfl
 ·rw [if_neg (by simpa using h), if_neg h]
theorem sStairsOf (n : Int) : Ev (fun k => spec_StairsOf.f k n) (allRes n) := by
 unfold spec_StairsOf.f allRes
 refine Ev.bindc (spec_in _ _ _) ?_
 by_cases h : 0 ≤ n ∧ n ≤ 6
 ·rw [if_pos h]
  refine Ev.pos (by simpa using h) (Ev.bind (a := every n.toNat) ?_ (Ev.ret rfl))
  have := sStairs_ev (N := n.toNat) (by omega)
  rwa [show ((n.toNat : Nat) : Int) = n by omega] at this
 ·rw [if_neg h]
  exact Ev.neg (by simpa using h) (Ev.ret rfl)
def cntRes (n : Int) : Int × Bool := if 0 ≤ n ∧ n ≤ 10 then (catT n.toNat, true) else (0, false)
theorem iCountStairs (n : Int) : impl_CountStairs.f n = some (cntRes n) := by
 unfold impl_CountStairs.f cntRes
 rw [impl_in, Option.bind_some]
 by_cases h : 0 ≤ n ∧ n ≤ 10
 ·obtain ⟨m, rfl⟩ : ∃ m : Nat, n = m := ⟨n.toNat, by omega⟩
  have := every_cat ⟨m, by omega⟩
  simp only at this
  rw [if_pos (by simpa using h), if_pos h, iStairs_f (by omega), Option.bind_some, this, Int.toNat_natCast]
 ·rw [if_neg (by simpa using h), if_neg h]
theorem sCountStairs (n : Int) : Ev (fun k => spec_CountStairs.f k n) (cntRes n) := by
 unfold spec_CountStairs.f cntRes
 refine Ev.bindc (spec_in _ _ _) ?_
 by_cases h : 0 ≤ n ∧ n ≤ 10
 ·rw [if_pos h]
  refine Ev.pos (by simpa using h) (Ev.bind (a := catT n.toNat) ?_ (Ev.ret rfl))
  have := seCat_ev n.toNat (by omega)
  rwa [show ((n.toNat : Nat) : Int) = n by omega] at this
 ·rw [if_neg h]
  exact Ev.neg (by simpa using h) (Ev.ret rfl)
theorem every_rows {n : Nat} (h : n ≤ 10) : rowsP (every n) := by
 refine ⟨?_, fun r hr => by have := (every_ok n r hr).1; omega⟩
 have := every_cat ⟨n, by omega⟩
 have h2 : ∀ m : Fin 11, catT m.val ≤ 1048576 := by decide
 have h3 := h2 ⟨n, by omega⟩
 simp only at this h3
 omega
end Go.Proofs.YtcalgdljcphjaaaDoor.Pure
