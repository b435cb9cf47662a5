import Derived.Lib.SlicesCompact
import Derived.Test.YtgbdjchdfcodcaaGreatDoorBFnWeakOrders29
namespace Go.Proofs.YtgbdjchdfcodcaaGreatDoor.Pure
open Go.RowKit Go.Proofs.YtgbdjchdfcodcaaGreatDoor.Q Go.Proofs.YtgbdjchdfcodcaaGreatDoorW.PrintWords Go.Proofs.YtgbdjchdfcodcaaGreatDoorW.PrintLast
set_option linter.unusedVariables false
set_option linter.unusedSimpArgs false
-- drawn orders
theorem wrap_s (j : Nat) (h : j < 1000000) : wrap64 ((j : Int) + 1) = ((j + 1 : Nat) : Int) := by rw [wrap64_id (by omega) (by omega), cast1]
theorem relP_orb {n : Int} {L : List Int} (h : relP n L) {i j : Nat} (hi : i < L.length) (hj : j < L.length) : relP n (L.set i (Go.bits .or .i64 (rd L (i : Int)) (shl .i64 1 (j : Int)))) := by
 have h10 : L.length ≤ 10 := by have := h.1; have := h.2.1; omega
 have hs := set_shl (j := j) (by omega)
 have ho := set_or (h.set hi) hs.1
 refine relP_of_rows h (by simp) (fun a ha => ?_) (fun a b ha hb => ?_)
 ·rw [set_rd L i _ hi a]
  split
  ·exact ho.1
  ·exact h.set ha
 ·unfold lt at hb
  rw [set_rd L i _ hi a] at hb
  split at hb
  ·rw [ho.2, hs.2] at hb
   simp only [Bool.or_eq_true, decide_eq_true_eq] at hb
   rcases hb with hb | hb
   ·exact h.lt_len hi hb
   ·omega
  ·exact h.lt_len ha hb
theorem relP_zero (N : Nat) (hN : N ≤ 10) : relP (N : Int) (List.replicate N 0) := by
 refine ⟨⟨by omega, by omega⟩, by simp, fun x hx => ?_⟩
 rw [(List.mem_replicate.1 hx).2, full_pow hN]
 have : (0 : Int) < 2 ^ N := Int.pow_pos (by omega)
 omega
def OrdR (g : Nat → Option (Int × List Int × Int × Int)) (N : Nat) (a n : Int) : Prop := ∃ L a' s', Ev g ((N : Int), L, a', s') ∧ relP (N : Int) L ∧ a ≤ a' ∧ a' ≤ a + n
theorem order_dl2 {c : List Int} (hc : bytesP c) (N : Nat) (hN : N ≤ 10) (kind : Int) (hk : 0 ≤ kind) (left right : List Int) (hl : left.length = N) (hr : right.length = N) (i : Nat) (hi : i < N) (B n : Int) (hB : B ≤ 100000000) (d : Nat) : ∀ (j : Nat) (L : List Int) (a s : Int), j + d = N → relP (N : Int) L → 0 ≤ a → a + 2 * d ≤ B →
  (∀ L a s, relP (N : Int) L → 0 ≤ a → a ≤ B → OrdR (fun k => spec_l1Cur_order.l1 k N kind left right ((i + 1 : Nat) : Int) c a s N L) N a n) → OrdR (fun k => spec_l1Cur_order.l2 k N kind left right (i : Int) (j : Int) c a s N L) N a (n + 2 * d) := by
 induction d with
 | zero =>
  intro j L a s hj hL h0 h1 hR
  obtain ⟨L', a', s', he, hP, h2, h3⟩ := hR L a s hL h0 (by omega)
  refine ⟨L', a', s', Ev.shift ?_, hP, h2, by omega⟩
  simp only [spec_l1Cur_order.l2]
  refine Ev.neg (by omega) ?_
  rw [wrap64_id (by omega) (by omega), cast1]; exact he
 | succ d ih =>
  intro j L a s hj hL h0 h1 hR
  have hll : L.length = N := by have := hL.2.1; omega
  have keep : OrdR (fun k => spec_l1Cur_order.l2 k N kind left right (i : Int) ((j + 1 : Nat) : Int) c a s N L) N a (n + 2 * d) := ih (j + 1) L a s (by omega) hL h0 (by omega) hR
  have put : OrdR (fun k => spec_l1Cur_order.l2 k N kind left right (i : Int) ((j + 1 : Nat) : Int) c a s N (L.set i (Go.bits .or .i64 (rd L (i : Int)) (shl .i64 1 (j : Int))))) N a (n + 2 * d) := ih (j + 1) _ a s (by omega) (relP_orb hL (by omega) (by omega)) h0 (by omega) hR
  have f1 : (j : Int) < N := by omega
  have f2 : 0 ≤ (i : Int) := by omega
  have f3 : (i : Int) < (right.length : Int) := by omega
  have f4 : 0 ≤ (j : Int) := by omega
  have f5 : (j : Int) < (left.length : Int) := by omega
  have f6 : (i : Int) < (L.length : Int) := by omega
  by_cases h2 : kind > 0
  ·have k0 : ¬ kind = 0 := by omega
   by_cases h3 : rd right (i : Int) < rd left (j : Int)
   ·obtain ⟨L', a', s', he, hP, h4, h5⟩ := put
    refine ⟨L', a', s', Ev.shift ?_, hP, h4, by omega⟩
    simp only [spec_l1Cur_order.l2]
    refine Ev.pos f1 (Ev.pos h2 (Ev.pos f2 (Ev.pos f3 (Ev.pos f4 (Ev.pos f5 (Ev.pos h3 (Ev.pos f6 ?_)))))))
    rw [wrap_s j (by omega), Int.toNat_natCast]; exact he
   ·obtain ⟨L', a', s', he, hP, h4, h5⟩ := keep
    refine ⟨L', a', s', Ev.shift ?_, hP, h4, by omega⟩
    simp only [spec_l1Cur_order.l2]
    refine Ev.pos f1 (Ev.pos h2 (Ev.pos f2 (Ev.pos f3 (Ev.pos f4 (Ev.pos f5 (Ev.neg h3 (Ev.neg k0 ?_)))))))
    rw [wrap_s j (by omega)]; exact he
  ·have k0 : kind = 0 := by omega
   by_cases h3 : (i : Int) < (j : Int)
   ·obtain ⟨b, a1, s1, e, _, h4, h5⟩ := one_d hc (a := a) s 3 h0 (by omega) (by omega)
    by_cases hb : b = true
    ·obtain ⟨L', a', s', he, hP, h6, h7⟩ := ih (j + 1) _ a1 s1 (by omega) (relP_orb hL (i := i) (j := j) (by omega) (by omega)) (by omega) (by omega) hR
     refine ⟨L', a', s', Ev.shift ?_, hP, by omega, by omega⟩
     simp only [spec_l1Cur_order.l2]
     refine Ev.pos f1 (Ev.neg h2 (Ev.pos k0 (Ev.pos h3 (Ev.bindc e (Ev.pos hb (Ev.pos f2 (Ev.pos f6 (Ev.pos f4 ?_))))))))
     rw [wrap_s j (by omega), Int.toNat_natCast]; exact he
    ·obtain ⟨L', a', s', he, hP, h6, h7⟩ := ih (j + 1) L a1 s1 (by omega) hL (by omega) (by omega) hR
     refine ⟨L', a', s', Ev.shift ?_, hP, by omega, by omega⟩
     simp only [spec_l1Cur_order.l2]
     refine Ev.pos f1 (Ev.neg h2 (Ev.pos k0 (Ev.pos h3 (Ev.bindc e (Ev.neg hb ?_)))))
     rw [wrap_s j (by omega)]; exact he
   ·obtain ⟨L', a', s', he, hP, h4, h5⟩ := keep
    refine ⟨L', a', s', Ev.shift ?_, hP, h4, by omega⟩
    simp only [spec_l1Cur_order.l2]
    refine Ev.pos f1 (Ev.neg h2 (Ev.pos k0 (Ev.neg h3 ?_)))
    rw [wrap_s j (by omega)]; exact he
theorem order_dl1 {c : List Int} (hc : bytesP c) (N : Nat) (hN : N ≤ 10) (kind : Int) (hk : 0 ≤ kind) (left right : List Int) (hl : left.length = N) (hr : right.length = N) (d : Nat) : ∀ (i : Nat) (L : List Int) (a s : Int), i + d = N → relP (N : Int) L → 0 ≤ a → a + 20 * d ≤ 10000000 →
  OrdR (fun k => spec_l1Cur_order.l1 k N kind left right (i : Int) c a s N L) N a (20 * d) := by
 induction d with
 | zero =>
  intro i L a s hi hL h0 h1
  by_cases h2 : kind > 0
  ·refine ⟨L, a, s, Ev.shift ?_, hL, by omega, by omega⟩
   simp only [spec_l1Cur_order.l1]
   exact Ev.neg (by omega) (Ev.pos h2 (Ev.ret rfl))
  ·refine ⟨clo L, a, s, Ev.shift ?_, clo_relP hL, by omega, by omega⟩
   simp only [spec_l1Cur_order.l1]
   exact Ev.neg (by omega) (Ev.neg h2 (Ev.bind (sCloseRelation_ev hL) (Ev.ret rfl)))
 | succ d ih =>
  intro i L a s hi hL h0 h1
  obtain ⟨L', a', s', he, hP, h2, h3⟩ := order_dl2 hc N hN kind hk left right hl hr i (by omega) (a + 2 * N) (20 * d) (by omega) N 0 L a s (by omega) hL h0 (by omega) (fun L a2 s hL h4 h5 => ih (i + 1) L a2 s (by omega) hL h4 (by omega))
  refine ⟨L', a', s', Ev.shift ?_, hP, h2, by omega⟩
  simp only [spec_l1Cur_order.l1]
  exact Ev.pos (by omega) he
theorem order_dl0 {c : List Int} (hc : bytesP c) (N : Nat) (hN : N ≤ 10) (kind : Int) (hk : 0 ≤ kind) (L : List Int) (hL : relP (N : Int) L) (d : Nat) : ∀ (left right : List Int) (a s : Int), left.length + d = N → right.length + d = N → 0 ≤ a → a + 4 * d ≤ 1000000 →
  OrdR (fun k => spec_l1Cur_order.l0 k N kind left right (left.length : Int) c a s N L) N a (4 * d + 20 * N) := by
 induction d with
 | zero =>
  intro left right a s hl hr h0 h1
  obtain ⟨L', a', s', he, hP, h2, h3⟩ := order_dl1 hc N hN kind hk left right (by omega) (by omega) N 0 L a s (by omega) hL h0 (by omega)
  refine ⟨L', a', s', Ev.shift ?_, hP, h2, by omega⟩
  simp only [spec_l1Cur_order.l0]
  exact Ev.neg (by omega) he
 | succ d ih =>
  intro left right a s hl hr h0 h1
  obtain ⟨x, a1, s1, e, hx, h2, h3⟩ := pick_d hc (a := a) s 8 h0 (by omega) (by omega)
  have hll : left.length < 1000000 := by omega
  by_cases h4 : kind = 1
  ·obtain ⟨y, a2, s2, e2, hy, h5, h6⟩ := pick_d hc (a := a1) s1 4 (by omega) (by omega) (by omega)
   obtain ⟨L', a', s', he, hP, h7, h8⟩ := ih (left ++ [x]) (right ++ [wrap64 (x + y)]) a2 s2 (by simp; omega) (by simp; omega) (by omega) (by omega)
   refine ⟨L', a', s', Ev.shift ?_, hP, by omega, by omega⟩
   simp only [spec_l1Cur_order.l0]
   refine Ev.pos (by omega) (Ev.bindc e (Ev.pos (by omega) (Ev.bindc rfl (Ev.pos h4 (Ev.bindc e2 (Ev.pos (by omega) ?_))))))
   rw [wrap_s _ hll]; simpa using he
  ·obtain ⟨L', a', s', he, hP, h7, h8⟩ := ih (left ++ [x]) (right ++ [wrap64 (x + 2)]) a1 s1 (by simp; omega) (by simp; omega) (by omega) (by omega)
   refine ⟨L', a', s', Ev.shift ?_, hP, by omega, by omega⟩
   simp only [spec_l1Cur_order.l0]
   refine Ev.pos (by omega) (Ev.bindc e (Ev.pos (by omega) (Ev.bindc rfl (Ev.neg h4 (Ev.pos (by omega) ?_)))))
   rw [wrap_s _ hll]; simpa using he
theorem order_d {c : List Int} (hc : bytesP c) {a : Int} (s most : Int) (h0 : 0 ≤ a) (h1 : a ≤ 100000) (hm : 0 ≤ most ∧ most ≤ 10) : Dro (fun k => spec_l1Cur_order.f k c a s most) (relW most) a 300 := by
 unfold spec_l1Cur_order.f
 rw [wrap64_id (by omega) (by omega)]
 obtain ⟨n, a1, s1, e, hn, h2, h3⟩ := pick_d hc s (most + 1) h0 (by omega) (by omega)
 obtain ⟨N, rfl⟩ : ∃ N : Nat, n = N := ⟨n.toNat, by omega⟩
 obtain ⟨kind, a2, s2, e2, hk, h4, h5⟩ := pick_d hc (a := a1) s1 3 (by omega) (by omega) (by omega)
 obtain ⟨L, a', s', he, hP, h6, h7⟩ := order_dl0 hc N (by omega) kind hk.1 (List.replicate N 0) (relP_zero N (by omega)) N [] [] a2 s2 (by simp) (by simp) (by omega) (by omega)
 refine ⟨(N : Int), L, a', s', Ev.bindc e (Ev.pos (by dsimp only; omega) (Ev.pos (by dsimp only; omega) (Ev.bindc e2 ?_))), ⟨hP, show (N : Int) ≤ most by omega⟩, by omega, by omega⟩
 simpa using he
def nearW (x : Int × List Int) : Prop := (-1 ≤ x.1 ∧ x.1 ≤ 11) ∧ x.2.length ≤ 10 ∧ ∀ y ∈ x.2, -1 ≤ y ∧ y ≤ 1024
theorem relW.near {most : Int} {x : Int × List Int} (h : relW most x) : nearW x := by
 obtain ⟨⟨h1, h2, h3⟩, _⟩ := h
 refine ⟨by omega, by omega, fun y hy => ?_⟩
 have := h3 y hy
 obtain ⟨N, e⟩ : ∃ N : Nat, x.1 = N := ⟨x.1.toNat, by omega⟩
 rw [e] at this
 have := full_1023 (n := N) (by omega)
 omega
theorem shl_small : ∀ n : Fin 11, 1 ≤ shl .i64 1 (n.val : Int) ∧ shl .i64 1 (n.val : Int) ≤ 1024 := by decide +kernel
theorem anyOrder_d {c : List Int} (hc : bytesP c) {a : Int} (s most : Int) (h0 : 0 ≤ a) (h1 : a ≤ 90000) (hm : 0 ≤ most ∧ most ≤ 10) : Dro (fun k => spec_l1Cur_anyOrder.f k c a s most) nearW a 700 := by
 unfold spec_l1Cur_anyOrder.f
 obtain ⟨n, L, a1, s1, e1, hP, h2, h3⟩ := order_d hc s most h0 (by omega) hm
 obtain ⟨w, a2, s2, e2, hw, h4, h5⟩ := pick_d hc (a := a1) s1 14 (by omega) (by omega) (by omega)
 by_cases w0 : w = 0
 ·obtain ⟨m, M, a3, s3, e3, hQ, h6, h7⟩ := relation_d hc (a := a2) s2 most (by omega) (by omega) hm
  exact ⟨m, M, a3, s3, Ev.bind e1 (Ev.bindc e2 (Ev.pos w0 (Ev.bind e3 (Ev.ret rfl)))), hQ.near, by omega, by omega⟩
 by_cases w1 : w = 1
 ·obtain ⟨z, a3, s3, e3, hz, h6, h7⟩ := among_d hc (a := a2) s2 [(-1), 0, 10, 11] (by omega) (by omega) (by simp)
  refine ⟨z, L, a3, s3, Ev.bind e1 (Ev.bindc e2 (Ev.neg w0 (Ev.pos w1 (Ev.bindc e3 (Ev.ret rfl))))), ⟨?_, hP.near.2⟩, by omega, by omega⟩
  simp at hz; dsimp only; omega
 by_cases w2 : w = 2
 ·by_cases hl : (L.length : Int) > 0
  ·obtain ⟨i, a3, s3, e3, hi, h6, h7⟩ := pick_d hc (a := a2) s2 (L.length : Int) (by omega) (by omega) (by omega)
   obtain ⟨z, a4, s4, e4, hz, h8, h9⟩ := among_d hc (a := a3) s3 [(-1), 0, 1, shl .i64 1 n] (by omega) (by omega) (by simp)
   have hn := hP.1.1
   refine ⟨n, L.set i.toNat z, a4, s4, Ev.bind e1 (Ev.bindc e2 (Ev.neg w0 (Ev.neg w1 (Ev.pos w2 (Ev.pos hl (Ev.bindc e3 (Ev.pos hn.1 (Ev.bindc e4 (Ev.pos hi.1 (Ev.pos hi.2 (Ev.ret rfl))))))))))), ⟨hP.near.1, by simpa using hP.near.2.1, fun y hy => ?_⟩, by omega, by omega⟩
   rcases List.mem_or_eq_of_mem_set hy with hy | hy
   ·exact hP.near.2.2 y hy
   ·subst hy
    obtain ⟨N, e⟩ : ∃ N : Nat, n = N := ⟨n.toNat, by have := hn.1; dsimp only at this; omega⟩
    have := shl_small ⟨N, by have := hn.2; dsimp only at this; omega⟩
    rw [← e] at this
    simp at hz; omega
  ·exact ⟨n, L, a2, s2, Ev.bind e1 (Ev.bindc e2 (Ev.neg w0 (Ev.neg w1 (Ev.pos w2 (Ev.neg hl (Ev.ret rfl)))))), hP.near, by omega, by omega⟩
 by_cases w3 : w = 3
 ·obtain ⟨m, M, a3, s3, e3, hQ, h6, h7⟩ := order_d hc (a := a2) s2 10 (by omega) (by omega) ⟨by omega, by omega⟩
  exact ⟨m, M, a3, s3, Ev.bind e1 (Ev.bindc e2 (Ev.neg w0 (Ev.neg w1 (Ev.neg w2 (Ev.pos w3 (Ev.bind e3 (Ev.ret rfl))))))), hQ.near, by omega, by omega⟩
 ·exact ⟨n, L, a2, s2, Ev.bind e1 (Ev.bindc e2 (Ev.neg w0 (Ev.neg w1 (Ev.neg w2 (Ev.neg w3 (Ev.ret rfl)))))), hP.near, by omega, by omega⟩
theorem bang (zs : List Int) (i : Nat) (h : i < zs.length) : zs.toArray[i]! = zs[i] := by
 rw [getElem!_pos zs.toArray i (by simpa using h)]; simp
def dif (l : List Int) : List Int := Lib.compact (l.mergeSort fun x y => decide (x ≤ y))
theorem compactUpTo_facts (d : Array Int) (hs : ∀ i j : Nat, i < j → j < d.size → d[i]! ≤ d[j]!) : ∀ m, m ≤ d.size →
  (Lib.compactUpTo d m).Pairwise (· < ·) ∧ (∀ x, x ∈ Lib.compactUpTo d m ↔ ∃ j, j < m ∧ d[j]! = x) ∧ (∀ x ∈ Lib.compactUpTo d m, ∀ j, m = j + 1 → x ≤ d[j]!) := by
 intro m
 induction m with
 | zero => intro _; simp [Lib.compactUpTo]
 | succ m ih =>
  intro hm
  obtain ⟨h1, h2, h3⟩ := ih (by omega)
  rw [Lib.compactUpTo_succ]
  by_cases h0 : m = 0
  ·subst h0
   rw [Lib.keeps_lt_one d 0 (by omega)]
   simp [Lib.compactUpTo]
   intro x; exact eq_comm
  ·obtain ⟨q, rfl⟩ : ∃ q, m = q + 1 := ⟨m - 1, by omega⟩
   have hle : d[q]! ≤ d[q + 1]! := hs q (q + 1) (by omega) (by omega)
   by_cases he : d[q + 1]! = d[q]!
   ·rw [Lib.keeps_neg (by omega) (by simpa using he)]
    simp only [Bool.false_eq_true, if_false, List.append_nil]
    refine ⟨h1, fun x => ?_, fun x hx j hj => ?_⟩
    ·rw [h2]
     constructor
     ·rintro ⟨j, hj, e⟩; exact ⟨j, by omega, e⟩
     ·rintro ⟨j, hj, e⟩
      by_cases hjq : j = q + 1
      ·subst hjq; exact ⟨q, by omega, by rw [← he]; exact e⟩
      ·exact ⟨j, by omega, e⟩
    ·obtain rfl : j = q + 1 := by omega
     have := h3 x hx q rfl
     omega
   ·rw [Lib.keeps_pos (by simpa using he)]
    simp only [if_true]
    refine ⟨?_, fun x => ?_, fun x hx j hj => ?_⟩
    ·rw [List.pairwise_append]
     refine ⟨h1, by simp, fun x hx y hy => ?_⟩
     have := h3 x hx q rfl
     rw [List.mem_singleton] at hy
     subst hy
     omega
    ·rw [List.mem_append, h2, List.mem_singleton]
     constructor
     ·rintro (⟨j, hj, e⟩ | e)
      ·exact ⟨j, by omega, e⟩
      ·exact ⟨q + 1, by omega, e.symm⟩
     ·rintro ⟨j, hj, e⟩
      by_cases hjq : j = q + 1
      ·subst hjq; exact .inr e.symm
      ·exact .inl ⟨j, by omega, e⟩
    ·obtain rfl : j = q + 1 := by omega
     rw [List.mem_append, List.mem_singleton] at hx
     rcases hx with hx | rfl
     ·have := h3 x hx q rfl; omega
     ·omega
theorem sort_pairwise (l : List Int) : (l.mergeSort fun x y => decide (x ≤ y)).Pairwise (· ≤ ·) := by
 have := List.pairwise_mergeSort (le := fun x y : Int => decide (x ≤ y)) (by intro a b c h1 h2; simp at h1 h2 ⊢; omega) (by intro a b; simp; omega) l
 simpa using this
theorem dif_facts (l : List Int) : (dif l).Pairwise (· < ·) ∧ ∀ x, x ∈ dif l ↔ x ∈ l := by
 have hp := sort_pairwise l
 have h := compactUpTo_facts (l.mergeSort fun x y => decide (x ≤ y)).toArray (fun i j hij hj => by
  have hj' : j < (l.mergeSort fun x y => decide (x ≤ y)).length := by simpa using hj
  have := List.pairwise_iff_getElem.1 hp i j (by omega) hj' hij
  rw [bang _ i (by omega), bang _ j hj']
  exact this) (l.mergeSort fun x y => decide (x ≤ y)).length (by simp)
 refine ⟨h.1, fun x => ?_⟩
 show x ∈ Lib.compactUpTo _ _ ↔ _
 rw [h.2.1, ← List.mem_mergeSort (le := fun x y : Int => decide (x ≤ y)), List.mem_iff_getElem]
 constructor
 ·rintro ⟨j, hj, e⟩; exact ⟨j, hj, by rw [bang _ j hj] at e; exact e⟩
 ·rintro ⟨j, hj, e⟩; exact ⟨j, hj, by rw [bang _ j hj]; exact e⟩
theorem dif_sorted (l : List Int) : (dif l).Pairwise (· < ·) := (dif_facts l).1
theorem mem_dif {l : List Int} {x : Int} : x ∈ dif l ↔ x ∈ l := (dif_facts l).2 x
theorem dif_length (l : List Int) : (dif l).length ≤ l.length := by
 have := Lib.compact_length_le (l.mergeSort fun x y => decide (x ≤ y))
 rwa [List.length_mergeSort] at this
theorem rising_ext : ∀ {a b : List Int}, a.Pairwise (· < ·) → b.Pairwise (· < ·) → (∀ x, x ∈ a ↔ x ∈ b) → a = b
 | [], [], _, _, _ => rfl
 | [], y :: b, _, _, h => by have := (h y).2 (by simp); simp at this
 | x :: a, [], _, _, h => by have := (h x).1 (by simp); simp at this
 | x :: a, y :: b, ha, hb, h => by
  rw [List.pairwise_cons] at ha hb
  have e : x = y := by
   rcases List.mem_cons.1 ((h x).1 (by simp)) with e | hx
   ·exact e
   ·rcases List.mem_cons.1 ((h y).2 (by simp)) with e | hy
    ·exact e.symm
    ·have := ha.1 y hy; have := hb.1 x hx; omega
  subst e
  congr 1
  refine rising_ext ha.2 hb.2 fun z => ?_
  constructor
  ·intro hz
   rcases List.mem_cons.1 ((h z).1 (List.mem_cons_of_mem _ hz)) with e | hz'
   ·have := ha.1 z hz; omega
   ·exact hz'
  ·intro hz
   rcases List.mem_cons.1 ((h z).2 (List.mem_cons_of_mem _ hz)) with e | hz'
   ·have := hb.1 z hz; omega
   ·exact hz'
theorem different_f (l : List Int) (h : l.length ≤ 1048576) : impl_different.f l = some (dif l) := by
 unfold impl_different.f dif
 rw [if_pos (by omega)]
def low (D : List Int) (x : Int) : Int := ((D.filter fun y => decide (y < x)).length : Int)
def lev (l : List Int) : List Int := l.map (low (dif l))
theorem low_split {D : List Int} {x : Int} (p : Nat) (hp : p ≤ D.length) (h1 : ∀ j : Nat, j < p → rd D (j : Int) < x) (h2 : ∀ j : Nat, p ≤ j → j < D.length → x ≤ rd D (j : Int)) : low D x = p := by
 unfold low
 have e : D.filter (fun y => decide (y < x)) = D.take p := by
  conv => lhs; rw [← List.take_append_drop p D]
  rw [List.filter_append]
  have a : (D.take p).filter (fun y => decide (y < x)) = D.take p := by
   rw [List.filter_eq_self]
   intro y hy
   obtain ⟨j, hj, rfl⟩ := List.mem_iff_getElem.1 hy
   rw [List.length_take] at hj
   have := h1 j (by omega)
   rw [rd_lt D j (by omega)] at this
   simpa using this
  have b : (D.drop p).filter (fun y => decide (y < x)) = [] := by
   rw [List.filter_eq_nil_iff]
   intro y hy
   obtain ⟨j, hj, rfl⟩ := List.mem_iff_getElem.1 hy
   rw [List.length_drop] at hj
   have := h2 (p + j) (by omega) (by omega)
   rw [rd_lt D _ (by omega)] at this
   simp; omega
  rw [a, b, List.append_nil]
 rw [e, List.length_take, Nat.min_eq_left hp]
theorem rising_rd {D : List Int} (h : D.Pairwise (· < ·)) {i j : Nat} (hij : i < j) (hj : j < D.length) : rd D (i : Int) < rd D (j : Int) := by
 rw [rd_lt D i (by omega), rd_lt D j hj]
 exact List.pairwise_iff_getElem.1 h i j (by omega) hj hij
theorem low_get {D : List Int} (h : D.Pairwise (· < ·)) (i : Nat) (hi : i < D.length) : low D (rd D (i : Int)) = i := by
 refine low_split i (by omega) (fun j hj => rising_rd h hj hi) (fun j h1 h2 => ?_)
 by_cases e : i = j
 ·subst e; omega
 ·have := rising_rd h (show i < j by omega) h2; omega
theorem low_range (D : List Int) (x : Int) : 0 ≤ low D x ∧ low D x ≤ D.length := by
 unfold low
 have := List.length_filter_le (fun y => decide (y < x)) D
 omega
theorem lev_length (l : List Int) : (lev l).length = l.length := by simp [lev]
theorem put_l (D : List Int) (x : Int) (h : D.Pairwise (· < ·)) (hD : D.length ≤ 1048576) (d : Nat) : ∀ (i : Nat), i + d = D.length → (∀ m : Nat, m < i → rd D (m : Int) < x) →
  ∃ r, Ev (fun k => spec_l1Put.l0 k D x i) r ∧ r.Pairwise (· < ·) ∧ (∀ y, y ∈ r ↔ y = x ∨ y ∈ D) ∧ r.length ≤ D.length + 1 := by
 have ins : ∀ i : Nat, i ≤ D.length → (∀ m : Nat, m < i → rd D (m : Int) < x) → (∀ m : Nat, i ≤ m → m < D.length → x < rd D (m : Int)) → (D.take i ++ [x] ++ D.drop i).Pairwise (· < ·) ∧ (∀ y, y ∈ D.take i ++ [x] ++ D.drop i ↔ y = x ∨ y ∈ D) ∧ (D.take i ++ [x] ++ D.drop i).length ≤ D.length + 1 := by
  intro i hi h1 h2
  have a : ∀ y ∈ D.take i, y < x := by
   intro y hy
   obtain ⟨j, hj, rfl⟩ := List.mem_iff_getElem.1 hy
   rw [List.length_take] at hj
   have := h1 j (by omega)
   rw [rd_lt D j (by omega)] at this
   simpa using this
  have b : ∀ y ∈ D.drop i, x < y := by
   intro y hy
   obtain ⟨j, hj, rfl⟩ := List.mem_iff_getElem.1 hy
   rw [List.length_drop] at hj
   have := h2 (i + j) (by omega) (by omega)
   rw [rd_lt D _ (by omega)] at this
   simpa using this
  refine ⟨?_, fun y => ?_, by simp; omega⟩
  ·rw [List.pairwise_append, List.pairwise_append]
   refine ⟨⟨h.sublist (List.take_sublist _ _), by simp, fun y hy z hz => ?_⟩, h.sublist (List.drop_sublist _ _), fun y hy z hz => ?_⟩
   ·rw [List.mem_singleton] at hz; subst hz; exact a y hy
   ·rw [List.mem_append, List.mem_singleton] at hy
    rcases hy with hy | rfl
    ·have := a y hy; have := b z hz; omega
    ·exact b z hz
  ·conv => rhs; rw [← List.take_append_drop i D]
   simp only [List.mem_append, List.mem_singleton]
   constructor
   ·rintro ((h | h) | h)
    ·exact .inr (.inl h)
    ·exact .inl h
    ·exact .inr (.inr h)
   ·rintro (h | h | h)
    ·exact .inl (.inr h)
    ·exact .inl (.inl h)
    ·exact .inr h
 induction d with
 | zero =>
  intro i hi h1
  refine ⟨_, Ev.shift ?_, ins i (by omega) h1 (fun m a b => by omega)⟩
  simp only [spec_l1Put.l0, Option.bind_some, List.nil_append, List.length_nil]
  refine Ev.neg (by omega) (Ev.pos (by omega) (Ev.pos (by omega) (Ev.pos (by simp; omega) (Ev.pos (by simp; omega) (Ev.pos (by simp; omega) (Ev.ret (by simp)))))))
 | succ d ih =>
  intro i hi h1
  by_cases hc : rd D (i : Int) < x
  ·obtain ⟨r, hr, hq⟩ := ih (i + 1) (by omega) (fun m hm => by
    by_cases e : m = i
    ·subst e; exact hc
    ·exact h1 m (by omega))
   refine ⟨r, Ev.shift ?_, hq⟩
   simp only [spec_l1Put.l0]
   refine Ev.pos (by omega) (Ev.pos (by omega) (Ev.pos hc ?_))
   rw [wrap64_id (by omega) (by omega), cast1]
   exact hr
  ·by_cases he : rd D (i : Int) = x
   ·refine ⟨D, Ev.shift ?_, h, fun y => ⟨fun hy => .inr hy, fun hy => hy.elim (fun e => by rw [e, ← he, rd_lt D i (by omega)]; exact List.getElem_mem _) id⟩, by omega⟩
    simp only [spec_l1Put.l0]
    exact Ev.pos (by omega) (Ev.pos (by omega) (Ev.neg hc (Ev.pos he (Ev.ret rfl))))
   ·refine ⟨_, Ev.shift ?_, ins i (by omega) h1 (fun m a b => by
     by_cases e : i = m
     ·subst e; omega
     ·have := rising_rd h (show i < m by omega) b; omega)⟩
    simp only [spec_l1Put.l0, Option.bind_some, List.nil_append, List.length_nil]
    refine Ev.pos (by omega) (Ev.pos (by omega) (Ev.neg hc (Ev.neg he (Ev.pos (by omega) (Ev.pos (by simp; omega) (Ev.pos (by simp; omega) (Ev.pos (by simp; omega) (Ev.ret (by simp)))))))))
theorem place_l (D : List Int) (x : Int) (h : D.Pairwise (· < ·)) (hD : D.length ≤ 1048576) (p : Nat) (hp : p < D.length) (he : rd D (p : Int) = x) (d : Nat) : ∀ i : Nat, i + d = p → Ev (fun k => spec_orPlace.l0 k x D (D.length : Int) i) (low D x) := by
 induction d with
 | zero =>
  intro i hi
  obtain rfl : i = p := by omega
  refine Ev.shift ?_
  simp only [spec_orPlace.l0]
  refine Ev.pos (by omega) (Ev.pos (by omega) (Ev.pos (by omega) (Ev.pos he (Ev.ret ?_))))
  rw [← he, low_get h i hp]
 | succ d ih =>
  intro i hi
  have := rising_rd h (show i < p by omega) hp
  refine Ev.shift ?_
  simp only [spec_orPlace.l0]
  refine Ev.pos (by omega) (Ev.pos (by omega) (Ev.pos (by omega) (Ev.neg (by omega) ?_)))
  rw [wrap64_id (by omega) (by omega), cast1]
  exact ih (i + 1) (by omega)
theorem place_ev (D : List Int) (x : Int) (h : D.Pairwise (· < ·)) (hD : D.length ≤ 1048576) (hx : x ∈ D) : Ev (fun k => spec_orPlace.f k D x) (low D x) := by
 unfold spec_orPlace.f
 obtain ⟨p, hp, rfl⟩ := List.mem_iff_getElem.1 hx
 exact place_l D _ h hD p hp (rd_lt D p hp) p 0 (by omega)
theorem ofNumbers_in (l D : List Int) (h : D.Pairwise (· < ·)) (hD : D.length ≤ 1048576) (hm : ∀ x ∈ l, x ∈ D) (hl : l.length ≤ 1048576) (d : Nat) : ∀ (i : Nat), i + d = l.length → Ev (fun k => spec_weOfNumbers.l1 k D ((l.take i).map (low D)) l (l.length : Int) i) (l.map (low D)) := by
 induction d with
 | zero =>
  intro i hi
  refine Ev.shift ?_
  simp only [spec_weOfNumbers.l1]
  exact Ev.neg (by omega) (Ev.ret (by rw [List.take_of_length_le (by omega)]))
 | succ d ih =>
  intro i hi
  refine Ev.shift ?_
  simp only [spec_weOfNumbers.l1]
  refine Ev.pos (by omega) (Ev.pos (by omega) (Ev.pos (by omega) (Ev.bind (place_ev D (rd l (i : Int)) h hD (hm _ (by rw [rd_lt l i (by omega)]; exact List.getElem_mem _))) (Ev.pos (by simp; omega) ?_))))
  rw [wrap64_id (by omega) (by omega), cast1]
  have := ih (i + 1) (by omega)
  rw [List.take_succ_eq_append_getElem (by omega), List.map_append, ← rd_lt l i (by omega)] at this
  exact this
theorem ofNumbers_l (l : List Int) (hl : l.length ≤ 1000000) (d : Nat) : ∀ (i : Nat) (D : List Int), i + d = l.length → D.Pairwise (· < ·) → D.length ≤ i → (∀ x, x ∈ D ↔ x ∈ l.take i) → Ev (fun k => spec_weOfNumbers.l0 k l D l (l.length : Int) i) (lev l) := by
 induction d with
 | zero =>
  intro i D hi h hD hm
  rw [List.take_of_length_le (by omega)] at hm
  have e : D = dif l := rising_ext h (dif_sorted l) fun x => by rw [hm, mem_dif]
  refine Ev.shift ?_
  simp only [spec_weOfNumbers.l0]
  refine Ev.neg (by omega) ?_
  subst e
  exact ofNumbers_in l (dif l) h (by omega) (fun x hx => mem_dif.2 hx) (by omega) l.length 0 (by omega)
 | succ d ih =>
  intro i D hi h hD hm
  obtain ⟨r, hr, h1, h2, h3⟩ := put_l D (rd l (i : Int)) h (by omega) D.length 0 (by omega) (fun m hm => by omega)
  refine Ev.shift ?_
  simp only [spec_weOfNumbers.l0]
  refine Ev.pos (by omega) (Ev.pos (by omega) (Ev.pos (by omega) (Ev.bind (a := r) (by unfold spec_l1Put.f; exact hr) ?_)))
  rw [wrap64_id (by omega) (by omega), cast1]
  refine ih (i + 1) r (by omega) h1 (by omega) fun x => ?_
  rw [h2, hm, List.take_succ_eq_append_getElem (by omega), List.mem_append, List.mem_singleton, rd_lt l i (by omega)]
  exact Or.comm
theorem ofNumbers_ev (l : List Int) (hl : l.length ≤ 1000000) : Ev (fun k => spec_weOfNumbers.f k l) (lev l) := by
 unfold spec_weOfNumbers.f
 exact ofNumbers_l l hl l.length 0 [] (by omega) (by simp) (by simp) (by simp)
end Go.Proofs.YtgbdjchdfcodcaaGreatDoor.Pure
