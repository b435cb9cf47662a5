import Derived.Test.YtdmheeenoklijaaDoorBFnSetsAlong15
import Derived.Test.YtdmheeenoklijaaDoorBFnSetsAlong29
namespace Go.Proofs.YtdmheeenoklijaaDoor.Pure
open Go.RowKit Go.Proofs.YtdmheeenoklijaaDoor.Q Go.Proofs.YtdmheeenoklijaaDoorW.PrintWords Go.Proofs.YtdmheeenoklijaaDoorW.PrintLast
set_option linter.unusedVariables false
set_option linter.unusedSimpArgs false
-- drawn orders
theorem wrap_s (j : Nat) (h : j < 1000000) : wrap64 ((j : Int) + 1) = ((j + 1 : Nat) : Int) := by rw [wrap64_id (by omega) (by omega), cast1]
theorem relP_orb {n : Int} {L : List Int} (h : relP n L) {i j : Nat} (hi : i < L.length) (hj : j < L.length) : relP n (L.set i (Go.bits .or .i64 (rd L (i : Int)) (shl .i64 1 (j : Int)))) := by
 have h10 : L.length ≤ 10 := by have := h.1; have := h.2.1; omega
 have hs := set_shl (j := j) (by omega)
 have ho := set_or (h.set hi) hs.1
 refine relP_of_rows h (by simp) (fun a ha => ?_) (fun a b ha hb => ?_)
 ·rw [set_rd L i _ hi a]
  split
  ·exact ho.1
  ·exact h.set ha
 ·unfold lt at hb
  rw [set_rd L i _ hi a] at hb
  split at hb
  ·rw [ho.2, hs.2] at hb
   simp only [Bool.or_eq_true, decide_eq_true_eq] at hb
   rcases hb with hb | hb
   ·exact h.lt_len hi hb
   ·omega
  ·exact h.lt_len ha hb
theorem relP_zero (N : Nat) (hN : N ≤ 10) : relP (N : Int) (List.replicate N 0) := by
 refine ⟨⟨by omega, by omega⟩, by simp, fun x hx => ?_⟩
 rw [(List.mem_replicate.1 hx).2, full_pow hN]
 have : (0 : Int) < 2 ^ N := Int.pow_pos (by omega)
 omega
def OrdR (g : Nat → Option (Int × List Int × Int × Int)) (N : Nat) (a n : Int) : Prop := ∃ L a' s', Ev g ((N : Int), L, a', s') ∧ relP (N : Int) L ∧ a ≤ a' ∧ a' ≤ a + n
theorem order_dl2 {c : List Int} (hc : bytesP c) (N : Nat) (hN : N ≤ 10) (kind : Int) (hk : 0 ≤ kind) (left right : List Int) (hl : left.length = N) (hr : right.length = N) (i : Nat) (hi : i < N) (B n : Int) (hB : B ≤ 100000000) (d : Nat) : ∀ (j : Nat) (L : List Int) (a s : Int), j + d = N → relP (N : Int) L → 0 ≤ a → a + 2 * d ≤ B →
  (∀ L a s, relP (N : Int) L → 0 ≤ a → a ≤ B → OrdR (fun k => spec_l1Cur_order.l1 k N kind left right ((i + 1 : Nat) : Int) c a s N L) N a n) → OrdR (fun k => spec_l1Cur_order.l2 k N kind left right (i : Int) (j : Int) c a s N L) N a (n + 2 * d) := by
 induction d with
 | zero =>
  intro j L a s hj hL h0 h1 hR
  obtain ⟨L', a', s', he, hP, h2, h3⟩ := hR L a s hL h0 (by omega)
  refine ⟨L', a', s', Ev.shift ?_, hP, h2, by omega⟩
  simp only [spec_l1Cur_order.l2]
  refine Ev.neg (by omega) ?_
  rw [wrap64_id (by omega) (by omega), cast1]; exact he
 | succ d ih =>
  intro j L a s hj hL h0 h1 hR
  have hll : L.length = N := by have := hL.2.1; omega
  have keep : OrdR (fun k => spec_l1Cur_order.l2 k N kind left right (i : Int) ((j + 1 : Nat) : Int) c a s N L) N a (n + 2 * d) := ih (j + 1) L a s (by omega) hL h0 (by omega) hR
  have put : OrdR (fun k => spec_l1Cur_order.l2 k N kind left right (i : Int) ((j + 1 : Nat) : Int) c a s N (L.set i (Go.bits .or .i64 (rd L (i : Int)) (shl .i64 1 (j : Int))))) N a (n + 2 * d) := ih (j + 1) _ a s (by omega) (relP_orb hL (by omega) (by omega)) h0 (by omega) hR
  have f1 : (j : Int) < N := by omega
  have f2 : 0 ≤ (i : Int) := by omega
  have f3 : (i : Int) < (right.length : Int) := by omega
  have f4 : 0 ≤ (j : Int) := by omega
  have f5 : (j : Int) < (left.length : Int) := by omega
  have f6 : (i : Int) < (L.length : Int) := by omega
  by_cases h2 : kind > 0
  ·have k0 : ¬ kind = 0 := by omega
   by_cases h3 : rd right (i : Int) < rd left (j : Int)
   ·obtain ⟨L', a', s', he, hP, h4, h5⟩ := put
    refine ⟨L', a', s', Ev.shift ?_, hP, h4, by omega⟩
    simp only [spec_l1Cur_order.l2]
    refine Ev.pos f1 (Ev.pos h2 (Ev.pos f2 (Ev.pos f3 (Ev.pos f4 (Ev.pos f5 (Ev.pos h3 (Ev.pos f6 ?_)))))))
    rw [wrap_s j (by omega), Int.toNat_natCast]; exact he
   ·obtain ⟨L', a', s', he, hP, h4, h5⟩ := keep
    refine ⟨L', a', s', Ev.shift ?_, hP, h4, by omega⟩
    simp only [spec_l1Cur_order.l2]
    refine Ev.pos f1 (Ev.pos h2 (Ev.pos f2 (Ev.pos f3 (Ev.pos f4 (Ev.pos f5 (Ev.neg h3 (Ev.neg k0 ?_)))))))
    rw [wrap_s j (by omega)]; exact he
  ·have k0 : kind = 0 := by omega
   by_cases h3 : (i : Int) < (j : Int)
   ·obtain ⟨b, a1, s1, e, _, h4, h5⟩ := one_d hc (a := a) s 3 h0 (by omega) (by omega)
    by_cases hb : b = true
    ·obtain ⟨L', a', s', he, hP, h6, h7⟩ := ih (j + 1) _ a1 s1 (by omega) (relP_orb hL (i := i) (j := j) (by omega) (by omega)) (by omega) (by omega) hR
     refine ⟨L', a', s', Ev.shift ?_, hP, by omega, by omega⟩
     simp only [spec_l1Cur_order.l2]
     refine Ev.pos f1 (Ev.neg h2 (Ev.pos k0 (Ev.pos h3 (Ev.bindc e (Ev.pos hb (Ev.pos f2 (Ev.pos f6 (Ev.pos f4 ?_))))))))
     rw [wrap_s j (by omega), Int.toNat_natCast]; exact he
    ·obtain ⟨L', a', s', he, hP, h6, h7⟩ := ih (j + 1) L a1 s1 (by omega) hL (by omega) (by omega) hR
     refine ⟨L', a', s', Ev.shift ?_, hP, by omega, by omega⟩
     simp only [spec_l1Cur_order.l2]
     refine Ev.pos f1 (Ev.neg h2 (Ev.pos k0 (Ev.pos h3 (Ev.bindc e (Ev.neg hb ?_)))))
     rw [wrap_s j (by omega)]; exact he
   ·obtain ⟨L', a', s', he, hP, h4, h5⟩ := keep
    refine ⟨L', a', s', Ev.shift ?_, hP, h4, by omega⟩
    simp only [spec_l1Cur_order.l2]
    refine Ev.pos f1 (Ev.neg h2 (Ev.pos k0 (Ev.neg h3 ?_)))
    rw [wrap_s j (by omega)]; exact he
theorem order_dl1 {c : List Int} (hc : bytesP c) (N : Nat) (hN : N ≤ 10) (kind : Int) (hk : 0 ≤ kind) (left right : List Int) (hl : left.length = N) (hr : right.length = N) (d : Nat) : ∀ (i : Nat) (L : List Int) (a s : Int), i + d = N → relP (N : Int) L → 0 ≤ a → a + 20 * d ≤ 10000000 →
  OrdR (fun k => spec_l1Cur_order.l1 k N kind left right (i : Int) c a s N L) N a (20 * d) := by
 induction d with
 | zero =>
  intro i L a s hi hL h0 h1
  by_cases h2 : kind > 0
  ·refine ⟨L, a, s, Ev.shift ?_, hL, by omega, by omega⟩
   simp only [spec_l1Cur_order.l1]
   exact Ev.neg (by omega) (Ev.pos h2 (Ev.ret rfl))
  ·refine ⟨clo L, a, s, Ev.shift ?_, clo_relP hL, by omega, by omega⟩
   simp only [spec_l1Cur_order.l1]
   exact Ev.neg (by omega) (Ev.neg h2 (Ev.bind (sCloseRelation_ev hL) (Ev.ret rfl)))
 | succ d ih =>
  intro i L a s hi hL h0 h1
  obtain ⟨L', a', s', he, hP, h2, h3⟩ := order_dl2 hc N hN kind hk left right hl hr i (by omega) (a + 2 * N) (20 * d) (by omega) N 0 L a s (by omega) hL h0 (by omega) (fun L a2 s hL h4 h5 => ih (i + 1) L a2 s (by omega) hL h4 (by omega))
  refine ⟨L', a', s', Ev.shift ?_, hP, h2, by omega⟩
  simp only [spec_l1Cur_order.l1]
  exact Ev.pos (by omega) he
theorem order_dl0 {c : List Int} (hc : bytesP c) (N : Nat) (hN : N ≤ 10) (kind : Int) (hk : 0 ≤ kind) (L : List Int) (hL : relP (N : Int) L) (d : Nat) : ∀ (left right : List Int) (a s : Int), left.length + d = N → right.length + d = N → 0 ≤ a → a + 4 * d ≤ 1000000 →
  OrdR (fun k => spec_l1Cur_order.l0 k N kind left right (left.length : Int) c a s N L) N a (4 * d + 20 * N) := by
 induction d with
 | zero =>
  intro left right a s hl hr h0 h1
  obtain ⟨L', a', s', he, hP, h2, h3⟩ := order_dl1 hc N hN kind hk left right (by omega) (by omega) N 0 L a s (by omega) hL h0 (by omega)
  refine ⟨L', a', s', Ev.shift ?_, hP, h2, by omega⟩
  simp only [spec_l1Cur_order.l0]
  exact Ev.neg (by omega) he
 | succ d ih =>
  intro left right a s hl hr h0 h1
  obtain ⟨x, a1, s1, e, hx, h2, h3⟩ := pick_d hc (a := a) s 8 h0 (by omega) (by omega)
  have hll : left.length < 1000000 := by omega
  by_cases h4 : kind = 1
  ·obtain ⟨y, a2, s2, e2, hy, h5, h6⟩ := pick_d hc (a := a1) s1 4 (by omega) (by omega) (by omega)
   obtain ⟨L', a', s', he, hP, h7, h8⟩ := ih (left ++ [x]) (right ++ [wrap64 (x + y)]) a2 s2 (by simp; omega) (by simp; omega) (by omega) (by omega)
   refine ⟨L', a', s', Ev.shift ?_, hP, by omega, by omega⟩
   simp only [spec_l1Cur_order.l0]
   refine Ev.pos (by omega) (Ev.bindc e (Ev.pos (by omega) (Ev.bindc rfl (Ev.pos h4 (Ev.bindc e2 (Ev.pos (by omega) ?_))))))
   rw [wrap_s _ hll]; simpa using he
  ·obtain ⟨L', a', s', he, hP, h7, h8⟩ := ih (left ++ [x]) (right ++ [wrap64 (x + 2)]) a1 s1 (by simp; omega) (by simp; omega) (by omega) (by omega)
   refine ⟨L', a', s', Ev.shift ?_, hP, by omega, by omega⟩
   simp only [spec_l1Cur_order.l0]
   refine Ev.pos (by omega) (Ev.bindc e (Ev.pos (by omega) (Ev.bindc rfl (Ev.neg h4 (Ev.pos (by omega) ?_)))))
   rw [wrap_s _ hll]; simpa using he
theorem order_d {c : List Int} (hc : bytesP c) {a : Int} (s most : Int) (h0 : 0 ≤ a) (h1 : a ≤ 100000) (hm : 0 ≤ most ∧ most ≤ 10) : Dro (fun k => spec_l1Cur_order.f k c a s most) (relW most) a 300 := by
 unfold spec_l1Cur_order.f
 rw [wrap64_id (by omega) (by omega)]
 obtain ⟨n, a1, s1, e, hn, h2, h3⟩ := pick_d hc s (most + 1) h0 (by omega) (by omega)
 obtain ⟨N, rfl⟩ : ∃ N : Nat, n = N := ⟨n.toNat, by omega⟩
 obtain ⟨kind, a2, s2, e2, hk, h4, h5⟩ := pick_d hc (a := a1) s1 3 (by omega) (by omega) (by omega)
 obtain ⟨L, a', s', he, hP, h6, h7⟩ := order_dl0 hc N (by omega) kind hk.1 (List.replicate N 0) (relP_zero N (by omega)) N [] [] a2 s2 (by simp) (by simp) (by omega) (by omega)
 refine ⟨(N : Int), L, a', s', Ev.bindc e (Ev.pos (by dsimp only; omega) (Ev.pos (by dsimp only; omega) (Ev.bindc e2 ?_))), ⟨hP, show (N : Int) ≤ most by omega⟩, by omega, by omega⟩
 simpa using he
def nearW (x : Int × List Int) : Prop := (-1 ≤ x.1 ∧ x.1 ≤ 11) ∧ x.2.length ≤ 10 ∧ ∀ y ∈ x.2, -1 ≤ y ∧ y ≤ 1024
theorem relW.near {most : Int} {x : Int × List Int} (h : relW most x) : nearW x := by
 obtain ⟨⟨h1, h2, h3⟩, _⟩ := h
 refine ⟨by omega, by omega, fun y hy => ?_⟩
 have := h3 y hy
 obtain ⟨N, e⟩ : ∃ N : Nat, x.1 = N := ⟨x.1.toNat, by omega⟩
 rw [e] at this
 have := full_1023 (n := N) (by omega)
 omega
theorem shl_small : ∀ n : Fin 11, 1 ≤ shl .i64 1 (n.val : Int) ∧ shl .i64 1 (n.val : Int) ≤ 1024 := by decide +kernel
theorem anyOrder_d {c : List Int} (hc : bytesP c) {a : Int} (s most : Int) (h0 : 0 ≤ a) (h1 : a ≤ 90000) (hm : 0 ≤ most ∧ most ≤ 10) : Dro (fun k => spec_l1Cur_anyOrder.f k c a s most) nearW a 700 := by
 unfold spec_l1Cur_anyOrder.f
 obtain ⟨n, L, a1, s1, e1, hP, h2, h3⟩ := order_d hc s most h0 (by omega) hm
 obtain ⟨w, a2, s2, e2, hw, h4, h5⟩ := pick_d hc (a := a1) s1 14 (by omega) (by omega) (by omega)
 by_cases w0 : w = 0
 ·obtain ⟨m, M, a3, s3, e3, hQ, h6, h7⟩ := relation_d hc (a := a2) s2 most (by omega) (by omega) hm
  exact ⟨m, M, a3, s3, Ev.bind e1 (Ev.bindc e2 (Ev.pos w0 (Ev.bind e3 (Ev.ret rfl)))), hQ.near, by omega, by omega⟩
 by_cases w1 : w = 1
 ·obtain ⟨z, a3, s3, e3, hz, h6, h7⟩ := among_d hc (a := a2) s2 [(-1), 0, 10, 11] (by omega) (by omega) (by simp)
  refine ⟨z, L, a3, s3, Ev.bind e1 (Ev.bindc e2 (Ev.neg w0 (Ev.pos w1 (Ev.bindc e3 (Ev.ret rfl))))), ⟨?_, hP.near.2⟩, by omega, by omega⟩
  simp at hz; dsimp only; omega
 by_cases w2 : w = 2
 ·by_cases hl : (L.length : Int) > 0
  ·obtain ⟨i, a3, s3, e3, hi, h6, h7⟩ := pick_d hc (a := a2) s2 (L.length : Int) (by omega) (by omega) (by omega)
   obtain ⟨z, a4, s4, e4, hz, h8, h9⟩ := among_d hc (a := a3) s3 [(-1), 0, 1, shl .i64 1 n] (by omega) (by omega) (by simp)
   have hn := hP.1.1
   refine ⟨n, L.set i.toNat z, a4, s4, Ev.bind e1 (Ev.bindc e2 (Ev.neg w0 (Ev.neg w1 (Ev.pos w2 (Ev.pos hl (Ev.bindc e3 (Ev.pos hn.1 (Ev.bindc e4 (Ev.pos hi.1 (Ev.pos hi.2 (Ev.ret rfl))))))))))), ⟨hP.near.1, by simpa using hP.near.2.1, fun y hy => ?_⟩, by omega, by omega⟩
   rcases List.mem_or_eq_of_mem_set hy with hy | hy
   ·exact hP.near.2.2 y hy
   ·subst hy
    obtain ⟨N, e⟩ : ∃ N : Nat, n = N := ⟨n.toNat, by have := hn.1; dsimp only at this; omega⟩
    have := shl_small ⟨N, by have := hn.2; dsimp only at this; omega⟩
    rw [← e] at this
    simp at hz; omega
  ·exact ⟨n, L, a2, s2, Ev.bind e1 (Ev.bindc e2 (Ev.neg w0 (Ev.neg w1 (Ev.pos w2 (Ev.neg hl (Ev.ret rfl)))))), hP.near, by omega, by omega⟩
 by_cases w3 : w = 3
 ·obtain ⟨m, M, a3, s3, e3, hQ, h6, h7⟩ := order_d hc (a := a2) s2 10 (by omega) (by omega) ⟨by omega, by omega⟩
  exact ⟨m, M, a3, s3, Ev.bind e1 (Ev.bindc e2 (Ev.neg w0 (Ev.neg w1 (Ev.neg w2 (Ev.pos w3 (Ev.bind e3 (Ev.ret rfl))))))), hQ.near, by omega, by omega⟩
 ·exact ⟨n, L, a2, s2, Ev.bind e1 (Ev.bindc e2 (Ev.neg w0 (Ev.neg w1 (Ev.neg w2 (Ev.neg w3 (Ev.ret rfl)))))), hP.near, by omega, by omega⟩
end Go.Proofs.YtdmheeenoklijaaDoor.Pure
namespace Go.Proofs.YtdmheeenoklijaaDoor.Q
open Go.RowKit Go.Proofs.YtdmheeenoklijaaDoorW.PrintWords Go.Proofs.YtdmheeenoklijaaDoorW.PrintLast Go.Proofs.YtdmheeenoklijaaDoorW.PrintMore
attribute [local go_sem] max2_int min2_int max_two min_two max_three min_three max_four min_four neB_f
set_option linter.unusedVariables false
set_option maxHeartbeats 8000000
set_option maxRecDepth 100000
set_option linter.unusedSimpArgs false
def impl_AreIntervals.l0 : Nat → List (S39) → List (S39) → Int → Int → Option (Bool)
 | 0, _, _, _, _ => none
 | k + 1, x0, x5, x6, x7 => if x7 < x6 then (if 0 ≤ x7 then (if x7 < (x5.length : Int) then ((impl_within.f ((rd_T39 x5 x7).f0) (-1000) 1000).bind fun t671 => (if t671 = true then ((impl_within.f ((rd_T39 x5 x7).f1) ((rd_T39 x5 x7).f0) 1000).bind fun t672 => (if t672 = true then (impl_AreIntervals.l0 k x0 x5 x6 (wrap64 (x7 + 1))) else (some false))) else (some false))) else (none)) else (none)) else (some (decide ((x0.length : Int) ≤ 10)))
def impl_AreIntervals.f (k : Nat) (l0 : List (S39)) : Option (Bool) := impl_AreIntervals.l0 k l0 l0 (l0.length : Int) 0
theorem impl_AreIntervals.mono_l : ∀ k, (∀ y0 y1 y2 y3, LeO (impl_AreIntervals.l0 k y0 y1 y2 y3) (impl_AreIntervals.l0 (k + 1) y0 y1 y2 y3))
 | 0 => fun _ _ _ _ r h => by simp [impl_AreIntervals.l0] at h
 | k + 1 => by
  have ih0 := impl_AreIntervals.mono_l k
  ·intro y0 y1 y2 y3
   unfold impl_AreIntervals.l0
   repeat' (with_reducible first|apply ih0|apply LeO.refl|apply LeO.none|apply LeO.ite|apply LeO.bind|intro)
theorem impl_AreIntervals.mono : ∀ a0 k, LeO (impl_AreIntervals.f k a0) (impl_AreIntervals.f (k + 1) a0) := by
 intro a0 k
 have ih0 := impl_AreIntervals.mono_l k
 unfold impl_AreIntervals.f
 repeat' (with_reducible first|apply ih0|apply LeO.refl|apply LeO.none|apply LeO.ite|apply LeO.bind|intro)
theorem impl_AreIntervals.calls (k : Nat) (A0 : Option Addr) (c0 : Nat) (l0 : List (S39)) (r : Bool) (w : World) (hr0 : Kd.C k39 w A0 l0.length l0) (hc0 : l0.length ≤ c0) (h : impl_AreIntervals.f k l0 = some r) :
  Calls Tryd.prog 20 #[.slice A0 l0.length c0] w fun e w' => e = .returned (.bool r) ∧ Below w.heap.size w w' := by
 have hu39 := Tryd.underlying39
 have HR0 := mkA hr0
 have HC0 := mkA hc0
 clear hr0 hc0
 have HB := mkA (Below.refl w.heap.size w)
 have H := h
 clear h
 unfold impl_AreIntervals.f at H
 have H' := mkA H
 clear H
 go_enter Tryd.func20, Tryd.ntmps20
 go_wp2
 go_loopg [7] k (fun kq v7 w' => ∃ (x7_1 : Int), v7 = .int .i64 x7_1 ∧ Fc (impl_AreIntervals.l0 kq l0 l0 (l0.length : Int) x7_1 = some r) ∧ Fc (kq ≤ k) ∧ Fc (Below w.heap.size w w'))
 case atStart => exact ⟨(0), eqS, H', ⟨Nat.le_refl _⟩, hbg HB⟩
 case round =>
  clear H'
  obtain ⟨x7_1, rfl, HA, HK1, HB⟩ := hrel
  cases gk with
  | zero => exact absurd HA.out (by simp [impl_AreIntervals.l0])
  | succ k1 =>
   have H := HA.out
   clear HA
   simp only [impl_AreIntervals.l0] at H
   rcases iteE H with ⟨c2b0, H⟩ | ⟨c2b0, H⟩
   ·obtain ⟨c3b0, H⟩ := itND H
    obtain ⟨c4b0, H⟩ := itND H
    obtain ⟨t671, A5, H⟩ := obE H
    by_cases c6 : t671 = true
    ·subst c6
     replace H := ifT H
     obtain ⟨t672, A7, H⟩ := obE H
     by_cases c8 : t672 = true
     ·subst c8
      replace H := ifT H
      have H' := mkA H
      clear H
      have p669 : 0 ≤ (x7_1 : Int) := ofd
      have q669 : x7_1 < (l0.length : Int) := ofd
      obtain ⟨ad669, e669, hx669_0, hx669_1⟩ := at_T39 HR0.out x7_1 p669 q669
      cases e669
      replace hx669_0 := (HB.out.cell (World.block_lt_of_cell? w _ hx669_0)).trans hx669_0
      replace hx669_1 := (HB.out.cell (World.block_lt_of_cell? w _ hx669_1)).trans hx669_1
      replace p669 := eq_true p669
      replace q669 := eq_true q669
      go_wp2_with (first | ((with_reducible refine gate_dst (N := 4) rfl ?_); refine boxG HB #[.int .i64 0, .int .i64 0] 39 ?_; intro gb670 hg w9 BK670 GE670 hb; replace HB := bst HB hb; clear hb hg; obtain ⟨_, _, _, _⟩ := blk2 BK670) | ((with_reducible refine gate_callee (f := 45) rfl ?_); refine goesQ (some 13) Tryd.func45 #[.int .i64 ((rd_T39 l0 x7_1).f0), .int .i64 (-1000), .int .i64 1000] ?_; (with_reducible refine (impl_within.calls ((rd_T39 l0 x7_1).f0) (-1000) 1000 true _ A5.out).mono ?_); rintro e w' ⟨rfl, ⟨nd, rfl⟩⟩; refine ⟨_, rfl, ?_⟩) | (go_at_call 45; (with_reducible refine (impl_within.calls ((rd_T39 l0 x7_1).f1) ((rd_T39 l0 x7_1).f0) 1000 true _ A7.out).mono ?_); rintro e w' ⟨rfl, ⟨nd, rfl⟩⟩))
      go_roundg k1
      case measure => have := HK1.out; omega
      case rel => exact ⟨(wrap64 (x7_1 + 1)), eqS, H', ⟨by have := HK1.out; omega⟩, hbg HB⟩
     ·replace c8 := Bool.eq_false_iff.mpr c8
      subst c8
      replace H := ifF H
      obtain rfl := Option.some.inj H
      have p669 : 0 ≤ (x7_1 : Int) := ofd
      have q669 : x7_1 < (l0.length : Int) := ofd
      obtain ⟨ad669, e669, hx669_0, hx669_1⟩ := at_T39 HR0.out x7_1 p669 q669
      cases e669
      replace hx669_0 := (HB.out.cell (World.block_lt_of_cell? w _ hx669_0)).trans hx669_0
      replace hx669_1 := (HB.out.cell (World.block_lt_of_cell? w _ hx669_1)).trans hx669_1
      replace p669 := eq_true p669
      replace q669 := eq_true q669
      go_wp2_with (first | ((with_reducible refine gate_dst (N := 4) rfl ?_); refine boxG HB #[.int .i64 0, .int .i64 0] 39 ?_; intro gb670 hg w11 BK670 GE670 hb; replace HB := bst HB hb; clear hb hg; obtain ⟨_, _, _, _⟩ := blk2 BK670) | ((with_reducible refine gate_callee (f := 45) rfl ?_); refine goesQ (some 13) Tryd.func45 #[.int .i64 ((rd_T39 l0 x7_1).f0), .int .i64 (-1000), .int .i64 1000] ?_; (with_reducible refine (impl_within.calls ((rd_T39 l0 x7_1).f0) (-1000) 1000 true _ A5.out).mono ?_); rintro e w' ⟨rfl, ⟨nd, rfl⟩⟩; refine ⟨_, rfl, ?_⟩) | (go_at_call 45; (with_reducible refine (impl_within.calls ((rd_T39 l0 x7_1).f1) ((rd_T39 l0 x7_1).f0) 1000 false _ A7.out).mono ?_); rintro e w' ⟨rfl, ⟨nd, rfl⟩⟩))
      go_ret
      exact ⟨eqE, bel_g HB.out⟩
    ·replace c6 := Bool.eq_false_iff.mpr c6
     subst c6
     replace H := ifF H
     obtain rfl := Option.some.inj H
     have p669 : 0 ≤ (x7_1 : Int) := ofd
     have q669 : x7_1 < (l0.length : Int) := ofd
     obtain ⟨ad669, e669, hx669_0, hx669_1⟩ := at_T39 HR0.out x7_1 p669 q669
     cases e669
     replace hx669_0 := (HB.out.cell (World.block_lt_of_cell? w _ hx669_0)).trans hx669_0
     replace hx669_1 := (HB.out.cell (World.block_lt_of_cell? w _ hx669_1)).trans hx669_1
     replace p669 := eq_true p669
     replace q669 := eq_true q669
     go_wp2_with (first | ((with_reducible refine gate_dst (N := 4) rfl ?_); refine boxG HB #[.int .i64 0, .int .i64 0] 39 ?_; intro gb670 hg w13 BK670 GE670 hb; replace HB := bst HB hb; clear hb hg; obtain ⟨_, _, _, _⟩ := blk2 BK670) | ((with_reducible refine gate_callee (f := 45) rfl ?_); refine goesQ (some 13) Tryd.func45 #[.int .i64 ((rd_T39 l0 x7_1).f0), .int .i64 (-1000), .int .i64 1000] ?_; (with_reducible refine (impl_within.calls ((rd_T39 l0 x7_1).f0) (-1000) 1000 false _ A5.out).mono ?_); rintro e w' ⟨rfl, ⟨nd, rfl⟩⟩; refine ⟨_, rfl, ?_⟩))
     go_ret
     exact ⟨eqE, bel_g HB.out⟩
   ·obtain rfl := Option.some.inj H
    go_wp2
    go_ret
    exact ⟨eqE, bel_g HB.out⟩
end Go.Proofs.YtdmheeenoklijaaDoor.Q
namespace Go.Proofs.YtdmheeenoklijaaDoor.Pure
open Go.RowKit Go.Proofs.YtdmheeenoklijaaDoor.Q Go.Proofs.YtdmheeenoklijaaDoorW.PrintWords Go.Proofs.YtdmheeenoklijaaDoorW.PrintLast
set_option linter.unusedVariables false
set_option linter.unusedSimpArgs false
theorem rdIv_lt (l : List S39) (i : Nat) (h : i < l.length) : rd_T39 l (i : Int) = l[i] := by simp [rd_T39, h]
theorem takeIv (l : List S39) (i : Nat) (h : i < l.length) : l.take (i + 1) = l.take i ++ [rd_T39 l (i : Int)] := by
 rw [rdIv_lt l i h]; exact List.take_succ_eq_append_getElem h
def ivsP (l : List S39) : Prop := (∀ i : Nat, i < l.length → -1000 ≤ (rd_T39 l (i : Int)).f0 ∧ (rd_T39 l (i : Int)).f0 ≤ (rd_T39 l (i : Int)).f1 ∧ (rd_T39 l (i : Int)).f1 ≤ 1000) ∧ l.length ≤ 10
theorem ivGood_l (l : List S39) (hl : l.length ≤ 1000) (d : Nat) : ∀ i : Nat, i + d = l.length → ∃ b, Ev (fun k => spec_ivGood.l0 k l l (l.length : Int) (i : Int)) b ∧ (b = true ↔ (∀ m : Nat, i ≤ m → m < l.length → -1000 ≤ (rd_T39 l (m : Int)).f0 ∧ (rd_T39 l (m : Int)).f0 ≤ (rd_T39 l (m : Int)).f1 ∧ (rd_T39 l (m : Int)).f1 ≤ 1000) ∧ l.length ≤ 10) := by
 induction d with
 | zero =>
  intro i hi
  refine ⟨decide ((l.length : Int) ≤ 10), Ev.shift ?_, ?_⟩
  ·simp only [spec_ivGood.l0]; exact Ev.neg (by omega) (Ev.ret rfl)
  ·rw [decide_eq_true_iff]
   exact ⟨fun g => ⟨fun m h1 h2 => by omega, by omega⟩, fun g => by omega⟩
 | succ d ih =>
  intro i hi
  obtain ⟨b, b1, b2⟩ := ih (i + 1) (by omega)
  by_cases hc : -1000 ≤ (rd_T39 l (i : Int)).f0 ∧ (rd_T39 l (i : Int)).f0 ≤ (rd_T39 l (i : Int)).f1 ∧ (rd_T39 l (i : Int)).f1 ≤ 1000
  ·refine ⟨b, Ev.shift ?_, b2.trans ⟨fun g => ⟨fun m h1 h2 => ?_, g.2⟩, fun g => ⟨fun m h1 h2 => g.1 m (by omega) h2, g.2⟩⟩⟩
   ·simp only [spec_ivGood.l0]
    refine Ev.pos (by omega) (Ev.pos (by omega) (Ev.pos (by omega) (Ev.bindc (spec_in _ _ _) (Ev.pos (by simp; omega) (Ev.neg (by omega) ?_)))))
    rw [wrap64_id (by omega) (by omega), cast1]
    exact b1
   ·by_cases e : m = i
    ·subst e; omega
    ·exact g.1 m (by omega) h2
  ·refine ⟨false, Ev.shift ?_, ⟨fun g => (by cases g), fun g => (hc (by have := g.1 i (Nat.le_refl _) (by omega); omega)).elim⟩⟩
   simp only [spec_ivGood.l0]
   refine Ev.pos (by omega) (Ev.pos (by omega) (Ev.pos (by omega) (Ev.bindc (spec_in _ _ _) ?_)))
   by_cases h1 : -1000 ≤ (rd_T39 l (i : Int)).f0 ∧ (rd_T39 l (i : Int)).f0 ≤ (rd_T39 l (i : Int)).f1
   ·exact Ev.pos (by simp; omega) (Ev.pos (by omega) (Ev.ret rfl))
   ·exact Ev.neg (by simp; omega) (Ev.ret rfl)
theorem ivGood_ev (l : List S39) (hl : l.length ≤ 1000) : ∃ b, Ev (fun k => spec_ivGood.f k l) b ∧ (b = true ↔ ivsP l) := by
 unfold spec_ivGood.f ivsP
 obtain ⟨b, b1, b2⟩ := ivGood_l l hl l.length 0 (by omega)
 exact ⟨b, by simpa using b1, b2.trans ⟨fun g => ⟨fun i hi => g.1 i (Nat.zero_le _) hi, g.2⟩, fun g => ⟨fun m _ hm => g.1 m hm, g.2⟩⟩⟩
end Go.Proofs.YtdmheeenoklijaaDoor.Pure
namespace Go.Proofs.YtdmheeenoklijaaDoor.Q
open Go.RowKit Go.Proofs.YtdmheeenoklijaaDoorW.PrintWords Go.Proofs.YtdmheeenoklijaaDoorW.PrintLast Go.Proofs.YtdmheeenoklijaaDoorW.PrintMore
attribute [local go_sem] max2_int min2_int max_two min_two max_three min_three max_four min_four neB_f
set_option linter.unusedVariables false
set_option maxHeartbeats 8000000
set_option maxRecDepth 100000
set_option linter.unusedSimpArgs false
def impl_orderOf_1.f (a0 : Int) (a1 : Int) (l2_0 : List (S39)) : Option (Bool) := if 0 ≤ a0 then (if a0 < (l2_0.length : Int) then (if 0 ≤ a1 then (if a1 < (l2_0.length : Int) then (some (decide (((rd_T39 l2_0 a0).f1) < ((rd_T39 l2_0 a1).f0)))) else (none)) else (none)) else (none)) else (none)
theorem impl_orderOf_1.calls (a0 : Int) (a1 : Int) (gB2 : Nat) (A2_0 : Option Addr) (c2_0 : Nat) (l2_0 : List (S39)) (r : Bool) (w : World) (hb2 : w.heap[gB2]? = some (.cells #[.slice A2_0 l2_0.length c2_0] 28 (0, 0))) (hr2_0 : Kd.C k39 w A2_0 l2_0.length l2_0) (hc2_0 : l2_0.length ≤ c2_0) (h : impl_orderOf_1.f a0 a1 l2_0 = some r) :
  Calls Tryd.prog 67 #[.int .i64 a0, .int .i64 a1, .pointer (some ⟨gB2, 0, none⟩)] w fun e w' => e = .returned (.bool r) ∧ Drawn0 w w' := by
 have BK682 := mkA hb2
 clear hb2
 have HR2_0 := mkA hr2_0
 have HC2_0 := mkA hc2_0
 clear hr2_0 hc2_0
 have H := h
 clear h
 unfold impl_orderOf_1.f at H
 obtain ⟨c4b0, H⟩ := itND H
 obtain ⟨c5b0, H⟩ := itND H
 obtain ⟨c6b0, H⟩ := itND H
 obtain ⟨c7b0, H⟩ := itND H
 obtain rfl := Option.some.inj H
 obtain ⟨_, _⟩ := blk1 BK682
 have p683 : 0 ≤ (a0 : Int) := ofd
 have q683 : a0 < (l2_0.length : Int) := ofd
 obtain ⟨ad683, e683, hx683_0, hx683_1⟩ := at_T39 HR2_0.out a0 p683 q683
 cases e683
 replace p683 := eq_true p683
 replace q683 := eq_true q683
 have p684 : 0 ≤ (a1 : Int) := ofd
 have q684 : a1 < (l2_0.length : Int) := ofd
 obtain ⟨ad684, e684, hx684_0, hx684_1⟩ := at_T39 HR2_0.out a1 p684 q684
 obtain rfl : ad683 = ad684 := (by injection e684)
 replace p684 := eq_true p684
 replace q684 := eq_true q684
 go_enter Tryd.func67, Tryd.ntmps67
 go_wp2
 repeat (go_quiet (fail); try go_wp2)
 go_ret
 exact ⟨eqS, drE⟩
def impl_orderOf.f (k : Nat) (l0 : List (S39)) : Option (Int × List Int) := (impl_relation.f k (l0.length : Int) (fun u0_ u1_ => impl_orderOf_1.f u0_ u1_ l0)).bind fun bt687 => (some (bt687.1, bt687.2))
theorem impl_orderOf.mono : ∀ a0 k, LeO (impl_orderOf.f k a0) (impl_orderOf.f (k + 1) a0) := by
 intro a0 k
 unfold impl_orderOf.f
 repeat' first
   | (with_reducible exact impl_relation.mono _ _ _)
   | (refine impl_relation.monoF ?_ _ _; intros)
   | (with_reducible exact impl_relation.mono _ _ _)
   | (with_reducible exact LeO.refl _)
   | (with_reducible exact LeO.none _)
   | (with_reducible refine LeO.ite ?_ ?_)
   | (with_reducible refine LeO.bind ?_ (fun _ => ?_))
   | exact impl_relation.mono _ _ _
   | exact LeO.none _
   | refine LeO.ite ?_ ?_
   | refine LeO.bind ?_ (fun _ => ?_)
theorem impl_orderOf.calls (k : Nat) (A0 : Option Addr) (c0 : Nat) (l0 : List (S39)) (r1 : Int) (r2 : List Int) (w : World) (hr0 : Kd.C k39 w A0 l0.length l0) (hc0 : l0.length ≤ c0) (h : impl_orderOf.f k l0 = some (r1, r2)) :
  Calls Tryd.prog 40 #[.slice A0 l0.length c0] w fun e w' => ∃ v1_ : Value, e = .returned (.agg #[.int .i64 r1, v1_]) ∧ Kd.R (Kd.int .i64) 3 w' w.heap.size (fun _ => True) v1_ r2 ∧ Below w.heap.size w w' := by
 have hu26 := Tryd.underlying26
 have HR0 := mkA hr0
 have HC0 := mkA hc0
 clear hr0 hc0
 have HB := mkA (Below.refl w.heap.size w)
 have H := h
 clear h
 unfold impl_orderOf.f at H
 obtain ⟨⟨t687, t688⟩, A2, H⟩ := obE H
 dsimp only at H
 simp only [Option.some.injEq, Prod.mk.injEq] at H
 obtain ⟨rfl, rfl⟩ := H
 go_enter Tryd.func40, Tryd.ntmps40
 go_wp2_with (first | ((with_reducible refine gate_dst (N := 1) rfl ?_); refine boxG HB #[.slice A0 l0.length c0] 28 ?_; intro gb685 hg w3 BK685 GE685 hb; replace HB := bst HB hb; clear hb hg) | ((with_reducible refine gate_dst (N := 2) rfl ?_); refine boxG HB #[.int .i64 0, .slice none 0 0] 26 ?_; intro gb686 hg w4 BK686 GE686 hb; have NB685_686 := neL7 BK685 hg; have NB686_685 := neR7 BK685 hg; replace BK685 := blkB BK685 hb; replace HB := bst HB hb; clear hb hg; obtain ⟨_, _⟩ := blk1 BK685) | ((with_reducible refine gate_callee (f := 63) rfl ?_); refine goesQ (some 6) Tryd.func63 #[.int .i64 (l0.length : Int), .func (.func 67) #[] #[.pointer (some ⟨gb685, 0, none⟩)]] ?_; (with_reducible refine (impl_relation.calls k (l0.length : Int) (fun u0_ u1_ => impl_orderOf_1.f u0_ u1_ l0) 67 #[.pointer (some ⟨gb685, 0, none⟩)] (fun args_ W_ => enters_ Tryd.func67 (by kernel_rfl) rfl args_ W_) t687 t688 _ ?s1 A2.out).mono ?_); (case s1 => exact fun u0_ u1_ q_ W_ hb_ hq_ => (impl_orderOf_1.calls u0_ u1_ gb685 A0 c0 l0 q_ W_ (blk_below (show _ = some (Obj.cells #[.slice A0 l0.length c0] 28 (0, 0)) from blkT BK685) hb_) (Kd.C_below (show Kd.C k39 _ A0 l0.length l0 from by exact C_g HR0 HB) hb_) (by exact HC0.out) hq_).mono (fun _ _ h_ => ⟨h_.1, h_.2.below⟩)); rintro e w7 ⟨v689, rfl, ho0, hb⟩; refine ⟨_, rfl, ?_⟩; have HO690 := rLo ho0 HB; replace BK685 := blkB BK685 hb; replace BK686 := blkB BK686 hb; replace HB := bst HB hb; clear hb ho0; obtain ⟨_, _, _, _⟩ := blk2 BK686; obtain ⟨Ao9, co9, rfl⟩ := Kd.R_slice HO690.out))
 refine bodyPost_ret (results_cell_row rfl _ _ gb686 26 #[.int .i64 t687, .slice Ao9 t688.length co9] (0, 0) _ rfl (blkT BK686) Tryd.underlying26 rfl (by kernel_rfl)) rfl ?_
 exact ⟨_, eqE, Kd.R_g (Kd.R_mono (rF HO690 BK686) (fun _ _ => trivial)), bel_g HB.out⟩
end Go.Proofs.YtdmheeenoklijaaDoor.Q
