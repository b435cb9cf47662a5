import Derived.Test.YthdlkadfhbbilaaDoorBFnClosures16
namespace Go.Proofs.YthdlkadfhbbilaaDoor.Pure
open Go.RowKit Go.Proofs.YthdlkadfhbbilaaDoor.Q Go.Proofs.YthdlkadfhbbilaaDoorW.PrintWords Go.Proofs.YthdlkadfhbbilaaDoorW.PrintLast
set_option linter.unusedVariables false
set_option linter.unusedSimpArgs false
-- drawn orders
theorem wrap_s (j : Nat) (h : j < 1000000) : wrap64 ((j : Int) + 1) = ((j + 1 : Nat) : Int) := by rw [wrap64_id (by omega) (by omega), cast1]
theorem relP_orb {n : Int} {L : List Int} (h : relP n L) {i j : Nat} (hi : i < L.length) (hj : j < L.length) : relP n (L.set i (Go.bits .or .i64 (rd L (i : Int)) (shl .i64 1 (j : Int)))) := by
 have h10 : L.length ≤ 10 := by have := h.1; have := h.2.1; omega
 have hs := set_shl (j := j) (by omega)
 have ho := set_or (h.set hi) hs.1
 refine relP_of_rows h (by simp) (fun a ha => ?_) (fun a b ha hb => ?_)
 ·rw [set_rd L i _ hi a]
  split
  ·exact ho.1
  ·exact h.set ha
 ·unfold lt at hb
  rw [set_rd L i _ hi a] at hb
  split at hb
  ·rw [ho.2, hs.2] at hb
   simp only [Bool.or_eq_true, decide_eq_true_eq] at hb
   rcases hb with hb | hb
   ·exact h.lt_len hi hb
   ·omega
  ·exact h.lt_len ha hb
theorem relP_zero (N : Nat) (hN : N ≤ 10) : relP (N : Int) (List.replicate N 0) := by
 refine ⟨⟨by omega, by omega⟩, by simp, fun x hx => ?_⟩
 rw [(List.mem_replicate.1 hx).2, full_pow hN]
 have : (0 : Int) < 2 ^ N := Int.pow_pos (by omega)
 omega
def OrdR (g : Nat → Option (Int × List Int × Int × Int)) (N : Nat) (a n : Int) : Prop := ∃ L a' s', Ev g ((N : Int), L, a', s') ∧ relP (N : Int) L ∧ a ≤ a' ∧ a' ≤ a + n
theorem order_dl2 {c : List Int} (hc : bytesP c) (N : Nat) (hN : N ≤ 10) (kind : Int) (hk : 0 ≤ kind) (left right : List Int) (hl : left.length = N) (hr : right.length = N) (i : Nat) (hi : i < N) (B n : Int) (hB : B ≤ 100000000) (d : Nat) : ∀ (j : Nat) (L : List Int) (a s : Int), j + d = N → relP (N : Int) L → 0 ≤ a → a + 2 * d ≤ B →
  (∀ L a s, relP (N : Int) L → 0 ≤ a → a ≤ B → OrdR (fun k => spec_l1Cur_order.l1 k N kind left right ((i + 1 : Nat) : Int) c a s N L) N a n) → OrdR (fun k => spec_l1Cur_order.l2 k N kind left right (i : Int) (j : Int) c a s N L) N a (n + 2 * d) := by
 induction d with
 | zero =>
  intro j L a s hj hL h0 h1 hR
  obtain ⟨L', a', s', he, hP, h2, h3⟩ := hR L a s hL h0 (by omega)
  refine ⟨L', a', s', Ev.shift ?_, hP, h2, by omega⟩
  simp only [spec_l1Cur_order.l2]
  refine Ev.neg (by omega) ?_
  rw [wrap64_id (by omega) (by omega), cast1]; exact he
 | succ d ih =>
  intro j L a s hj hL h0 h1 hR
  have hll : L.length = N := by have := hL.2.1; omega
  have keep : OrdR (fun k => spec_l1Cur_order.l2 k N kind left right (i : Int) ((j + 1 : Nat) : Int) c a s N L) N a (n + 2 * d) := ih (j + 1) L a s (by omega) hL h0 (by omega) hR
  have put : OrdR (fun k => spec_l1Cur_order.l2 k N kind left right (i : Int) ((j + 1 : Nat) : Int) c a s N (L.set i (Go.bits .or .i64 (rd L (i : Int)) (shl .i64 1 (j : Int))))) N a (n + 2 * d) := ih (j + 1) _ a s (by omega) (relP_orb hL (by omega) (by omega)) h0 (by omega) hR
  have f1 : (j : Int) < N := by omega
  have f2 : 0 ≤ (i : Int) := by omega
  have f3 : (i : Int) < (right.length : Int) := by omega
  have f4 : 0 ≤ (j : Int) := by omega
  have f5 : (j : Int) < (left.length : Int) := by omega
  have f6 : (i : Int) < (L.length : Int) := by omega
  by_cases h2 : kind > 0
  ·have k0 : ¬ kind = 0 := by omega
   by_cases h3 : rd right (i : Int) < rd left (j : Int)
   ·obtain ⟨L', a', s', he, hP, h4, h5⟩ := put
    refine ⟨L', a', s', Ev.shift ?_, hP, h4, by omega⟩
    simp only [spec_l1Cur_order.l2]
    refine Ev.pos f1 (Ev.pos h2 (Ev.pos f2 (Ev.pos f3 (Ev.pos f4 (Ev.pos f5 (Ev.pos h3 (Ev.pos f6 ?_)))))))
    rw [wrap_s j (by omega), Int.toNat_natCast]; exact he
   ·obtain ⟨L', a', s', he, hP, h4, h5⟩ := keep
    refine ⟨L', a', s', Ev.shift ?_, hP, h4, by omega⟩
    simp only [spec_l1Cur_order.l2]
    refine Ev.pos f1 (Ev.pos h2 (Ev.pos f2 (Ev.pos f3 (Ev.pos f4 (Ev.pos f5 (Ev.neg h3 (Ev.neg k0 ?_)))))))
    rw [wrap_s j (by omega)]; exact he
  ·have k0 : kind = 0 := by omega
   by_cases h3 : (i : Int) < (j : Int)
   ·obtain ⟨b, a1, s1, e, _, h4, h5⟩ := one_d hc (a := a) s 3 h0 (by omega) (by omega)
    by_cases hb : b = true
    ·obtain ⟨L', a', s', he, hP, h6, h7⟩ := ih (j + 1) _ a1 s1 (by omega) (relP_orb hL (i := i) (j := j) (by omega) (by omega)) (by omega) (by omega) hR
     refine ⟨L', a', s', Ev.shift ?_, hP, by omega, by omega⟩
     simp only [spec_l1Cur_order.l2]
     refine Ev.pos f1 (Ev.neg h2 (Ev.pos k0 (Ev.pos h3 (Ev.bindc e (Ev.pos hb (Ev.pos f2 (Ev.pos f6 (Ev.pos f4 ?_))))))))
     rw [wrap_s j (by omega), Int.toNat_natCast]; exact he
    ·obtain ⟨L', a', s', he, hP, h6, h7⟩ := ih (j + 1) L a1 s1 (by omega) hL (by omega) (by omega) hR
     refine ⟨L', a', s', Ev.shift ?_, hP, by omega, by omega⟩
     simp only [spec_l1Cur_order.l2]
     refine Ev.pos f1 (Ev.neg h2 (Ev.pos k0 (Ev.pos h3 (Ev.bindc e (Ev.neg hb ?_)))))
     rw [wrap_s j (by omega)]; exact he
   ·obtain ⟨L', a', s', he, hP, h4, h5⟩ := keep
    refine ⟨L', a', s', Ev.shift ?_, hP, h4, by omega⟩
    simp only [spec_l1Cur_order.l2]
    refine Ev.pos f1 (Ev.neg h2 (Ev.pos k0 (Ev.neg h3 ?_)))
    rw [wrap_s j (by omega)]; exact he
theorem order_dl1 {c : List Int} (hc : bytesP c) (N : Nat) (hN : N ≤ 10) (kind : Int) (hk : 0 ≤ kind) (left right : List Int) (hl : left.length = N) (hr : right.length = N) (d : Nat) : ∀ (i : Nat) (L : List Int) (a s : Int), i + d = N → relP (N : Int) L → 0 ≤ a → a + 20 * d ≤ 10000000 →
  OrdR (fun k => spec_l1Cur_order.l1 k N kind left right (i : Int) c a s N L) N a (20 * d) := by
 induction d with
 | zero =>
  intro i L a s hi hL h0 h1
  by_cases h2 : kind > 0
  ·refine ⟨L, a, s, Ev.shift ?_, hL, by omega, by omega⟩
   simp only [spec_l1Cur_order.l1]
   exact Ev.neg (by omega) (Ev.pos h2 (Ev.ret rfl))
  ·refine ⟨clo L, a, s, Ev.shift ?_, clo_relP hL, by omega, by omega⟩
   simp only [spec_l1Cur_order.l1]
   exact Ev.neg (by omega) (Ev.neg h2 (Ev.bind (sCloseRelation_ev hL) (Ev.ret rfl)))
 | succ d ih =>
  intro i L a s hi hL h0 h1
  obtain ⟨L', a', s', he, hP, h2, h3⟩ := order_dl2 hc N hN kind hk left right hl hr i (by omega) (a + 2 * N) (20 * d) (by omega) N 0 L a s (by omega) hL h0 (by omega) (fun L a2 s hL h4 h5 => ih (i + 1) L a2 s (by omega) hL h4 (by omega))
  refine ⟨L', a', s', Ev.shift ?_, hP, h2, by omega⟩
  simp only [spec_l1Cur_order.l1]
  exact Ev.pos (by omega) he
theorem order_dl0 {c : List Int} (hc : bytesP c) (N : Nat) (hN : N ≤ 10) (kind : Int) (hk : 0 ≤ kind) (L : List Int) (hL : relP (N : Int) L) (d : Nat) : ∀ (left right : List Int) (a s : Int), left.length + d = N → right.length + d = N → 0 ≤ a → a + 4 * d ≤ 1000000 →
  OrdR (fun k => spec_l1Cur_order.l0 k N kind left right (left.length : Int) c a s N L) N a (4 * d + 20 * N) := by
 induction d with
 | zero =>
  intro left right a s hl hr h0 h1
  obtain ⟨L', a', s', he, hP, h2, h3⟩ := order_dl1 hc N hN kind hk left right (by omega) (by omega) N 0 L a s (by omega) hL h0 (by omega)
  refine ⟨L', a', s', Ev.shift ?_, hP, h2, by omega⟩
  simp only [spec_l1Cur_order.l0]
  exact Ev.neg (by omega) he
 | succ d ih =>
  intro left right a s hl hr h0 h1
  obtain ⟨x, a1, s1, e, hx, h2, h3⟩ := pick_d hc (a := a) s 8 h0 (by omega) (by omega)
  have hll : left.length < 1000000 := by omega
  by_cases h4 : kind = 1
  ·obtain ⟨y, a2, s2, e2, hy, h5, h6⟩ := pick_d hc (a := a1) s1 4 (by omega) (by omega) (by omega)
   obtain ⟨L', a', s', he, hP, h7, h8⟩ := ih (left ++ [x]) (right ++ [wrap64 (x + y)]) a2 s2 (by simp; omega) (by simp; omega) (by omega) (by omega)
   refine ⟨L', a', s', Ev.shift ?_, hP, by omega, by omega⟩
   simp only [spec_l1Cur_order.l0]
   refine Ev.pos (by omega) (Ev.bindc e (Ev.pos (by omega) (Ev.bindc rfl (Ev.pos h4 (Ev.bindc e2 (Ev.pos (by omega) ?_))))))
   rw [wrap_s _ hll]; simpa using he
  ·obtain ⟨L', a', s', he, hP, h7, h8⟩ := ih (left ++ [x]) (right ++ [wrap64 (x + 2)]) a1 s1 (by simp; omega) (by simp; omega) (by omega) (by omega)
   refine ⟨L', a', s', Ev.shift ?_, hP, by omega, by omega⟩
   simp only [spec_l1Cur_order.l0]
   refine Ev.pos (by omega) (Ev.bindc e (Ev.pos (by omega) (Ev.bindc rfl (Ev.neg h4 (Ev.pos (by omega) ?_)))))
   rw [wrap_s _ hll]; simpa using he
theorem order_d {c : List Int} (hc : bytesP c) {a : Int} (s most : Int) (h0 : 0 ≤ a) (h1 : a ≤ 100000) (hm : 0 ≤ most ∧ most ≤ 10) : Dro (fun k => spec_l1Cur_order.f k c a s most) (relW most) a 300 := by
 unfold spec_l1Cur_order.f
 rw [wrap64_id (by omega) (by omega)]
 obtain ⟨n, a1, s1, e, hn, h2, h3⟩ := pick_d hc s (most + 1) h0 (by omega) (by omega)
 obtain ⟨N, rfl⟩ : ∃ N : Nat, n = N := ⟨n.toNat, by omega⟩
 obtain ⟨kind, a2, s2, e2, hk, h4, h5⟩ := pick_d hc (a := a1) s1 3 (by omega) (by omega) (by omega)
 obtain ⟨L, a', s', he, hP, h6, h7⟩ := order_dl0 hc N (by omega) kind hk.1 (List.replicate N 0) (relP_zero N (by omega)) N [] [] a2 s2 (by simp) (by simp) (by omega) (by omega)
 refine ⟨(N : Int), L, a', s', Ev.bindc e (Ev.pos (by dsimp only; omega) (Ev.pos (by dsimp only; omega) (Ev.bindc e2 ?_))), ⟨hP, show (N : Int) ≤ most by omega⟩, by omega, by omega⟩
 simpa using he
def nearW (x : Int × List Int) : Prop := (-1 ≤ x.1 ∧ x.1 ≤ 11) ∧ x.2.length ≤ 10 ∧ ∀ y ∈ x.2, -1 ≤ y ∧ y ≤ 1024
theorem relW.near {most : Int} {x : Int × List Int} (h : relW most x) : nearW x := by
 obtain ⟨⟨h1, h2, h3⟩, _⟩ := h
 refine ⟨by omega, by omega, fun y hy => ?_⟩
 have := h3 y hy
 obtain ⟨N, e⟩ : ∃ N : Nat, x.1 = N := ⟨x.1.toNat, by omega⟩
 rw [e] at this
 have := full_1023 (n := N) (by omega)
 omega
theorem shl_small : ∀ n : Fin 11, 1 ≤ shl .i64 1 (n.val : Int) ∧ shl .i64 1 (n.val : Int) ≤ 1024 := by decide +kernel
theorem anyOrder_d {c : List Int} (hc : bytesP c) {a : Int} (s most : Int) (h0 : 0 ≤ a) (h1 : a ≤ 90000) (hm : 0 ≤ most ∧ most ≤ 10) : Dro (fun k => spec_l1Cur_anyOrder.f k c a s most) nearW a 700 := by
 unfold spec_l1Cur_anyOrder.f
 obtain ⟨n, L, a1, s1, e1, hP, h2, h3⟩ := order_d hc s most h0 (by omega) hm
 obtain ⟨w, a2, s2, e2, hw, h4, h5⟩ := pick_d hc (a := a1) s1 14 (by omega) (by omega) (by omega)
 by_cases w0 : w = 0
 ·obtain ⟨m, M, a3, s3, e3, hQ, h6, h7⟩ := relation_d hc (a := a2) s2 most (by omega) (by omega) hm
  exact ⟨m, M, a3, s3, Ev.bind e1 (Ev.bindc e2 (Ev.pos w0 (Ev.bind e3 (Ev.ret rfl)))), hQ.near, by omega, by omega⟩
 by_cases w1 : w = 1
 ·obtain ⟨z, a3, s3, e3, hz, h6, h7⟩ := among_d hc (a := a2) s2 [(-1), 0, 10, 11] (by omega) (by omega) (by simp)
  refine ⟨z, L, a3, s3, Ev.bind e1 (Ev.bindc e2 (Ev.neg w0 (Ev.pos w1 (Ev.bindc e3 (Ev.ret rfl))))), ⟨?_, hP.near.2⟩, by omega, by omega⟩
  simp at hz; dsimp only; omega
 by_cases w2 : w = 2
 ·by_cases hl : (L.length : Int) > 0
  ·obtain ⟨i, a3, s3, e3, hi, h6, h7⟩ := pick_d hc (a := a2) s2 (L.length : Int) (by omega) (by omega) (by omega)
   obtain ⟨z, a4, s4, e4, hz, h8, h9⟩ := among_d hc (a := a3) s3 [(-1), 0, 1, shl .i64 1 n] (by omega) (by omega) (by simp)
   have hn := hP.1.1
   refine ⟨n, L.set i.toNat z, a4, s4, Ev.bind e1 (Ev.bindc e2 (Ev.neg w0 (Ev.neg w1 (Ev.pos w2 (Ev.pos hl (Ev.bindc e3 (Ev.pos hn.1 (Ev.bindc e4 (Ev.pos hi.1 (Ev.pos hi.2 (Ev.ret rfl))))))))))), ⟨hP.near.1, by simpa using hP.near.2.1, fun y hy => ?_⟩, by omega, by omega⟩
   rcases List.mem_or_eq_of_mem_set hy with hy | hy
   ·exact hP.near.2.2 y hy
   ·subst hy
    obtain ⟨N, e⟩ : ∃ N : Nat, n = N := ⟨n.toNat, by have := hn.1; dsimp only at this; omega⟩
    have := shl_small ⟨N, by have := hn.2; dsimp only at this; omega⟩
    rw [← e] at this
    simp at hz; omega
  ·exact ⟨n, L, a2, s2, Ev.bind e1 (Ev.bindc e2 (Ev.neg w0 (Ev.neg w1 (Ev.pos w2 (Ev.neg hl (Ev.ret rfl)))))), hP.near, by omega, by omega⟩
 by_cases w3 : w = 3
 ·obtain ⟨m, M, a3, s3, e3, hQ, h6, h7⟩ := order_d hc (a := a2) s2 10 (by omega) (by omega) ⟨by omega, by omega⟩
  exact ⟨m, M, a3, s3, Ev.bind e1 (Ev.bindc e2 (Ev.neg w0 (Ev.neg w1 (Ev.neg w2 (Ev.pos w3 (Ev.bind e3 (Ev.ret rfl))))))), hQ.near, by omega, by omega⟩
 ·exact ⟨n, L, a2, s2, Ev.bind e1 (Ev.bindc e2 (Ev.neg w0 (Ev.neg w1 (Ev.neg w2 (Ev.neg w3 (Ev.ret rfl)))))), hP.near, by omega, by omega⟩
def wB (r : Nat → Nat → Bool) : Nat → Nat → Nat → Bool
 | 0, a, b => r a b
 | d + 1, a, b => wB r d a b || (wB r d a d && wB r d d b)
theorem wrow_lt {n : Int} {L : List Int} (h : relP n L) {k : Nat} (hk : k < L.length) (d : Nat) : d ≤ L.length → ∀ a b, a < L.length → lt (wrow k d L) a b = (lt L a b || (decide (a < d) && lt L a k && lt L k b)) := by
 induction d with
 | zero => intro _ a b ha; simp [wrow]
 | succ d ih =>
  intro hd a b ha
  have hr := wrow_relP h hk d (by omega)
  have hl := wrow_length k d L
  rw [wrow, wst_lt hr (by omega) (by omega) a b (by omega), ih (by omega) a b ha, ih (by omega) d k (by omega), ih (by omega) k b hk]
  by_cases e : a = d
  ·subst e
   simp only [Nat.lt_irrefl, decide_false, Bool.false_and, Bool.or_false, decide_true, Bool.true_and, Nat.lt_succ_self]
   cases h1 : lt L a k <;> cases h2 : lt L k b <;> cases h3 : lt L k k <;> cases h4 : decide (k < a) <;> simp_all
  ·have : (a < d + 1) = (a < d) := by rw [eq_iff_iff]; omega
   simp [e, this]
theorem wsh_lt {n : Int} {L : List Int} (h : relP n L) (d : Nat) : d ≤ L.length → ∀ a b, a < L.length → lt (wsh d L) a b = wB (lt L) d a b := by
 induction d with
 | zero => intro _ a b _; rfl
 | succ d ih =>
  intro hd a b ha
  have hr := wsh_relP h d (by omega)
  have hl := wsh_length d L
  rw [wsh, wrow_lt hr (by omega) _ (Nat.le_refl _) a b (by omega), ih (by omega) a b ha, ih (by omega) a d ha, ih (by omega) d b (by omega), hl]
  simp [wB, ha]
theorem wB_more {r : Nat → Nat → Bool} (d : Nat) {a b : Nat} (h : r a b = true) : wB r d a b = true := by
 induction d with
 | zero => exact h
 | succ d ih => simp [wB, ih]
theorem wB_trans {r : Nat → Nat → Bool} (d : Nat) : ∀ a m b, m < d → wB r d a m = true → wB r d m b = true → wB r d a b = true := by
 induction d with
 | zero => intro a m b hm; omega
 | succ d ih =>
  intro a m b hm h1 h2
  simp only [wB, Bool.or_eq_true, Bool.and_eq_true] at h1 h2 ⊢
  by_cases e : m = d
  ·subst e
   have g1 : wB r m a m = true := by rcases h1 with h1 | h1; exact h1; exact h1.1
   have g2 : wB r m m b = true := by rcases h2 with h2 | h2; exact h2; exact h2.2
   exact .inr ⟨g1, g2⟩
  ·rcases h1 with h1 | ⟨h1, h3⟩ <;> rcases h2 with h2 | ⟨h2, h4⟩
   ·exact .inl (ih a m b (by omega) h1 h2)
   ·exact .inr ⟨ih a m d (by omega) h1 h2, h4⟩
   ·exact .inr ⟨h1, ih d m b (by omega) h3 h2⟩
   ·exact .inr ⟨h1, h4⟩
theorem wB_least {N : Nat} {r t : Nat → Nat → Bool} (ht : ∀ a m b, a < N → m < N → t a m = true → t m b = true → t a b = true) (hr : ∀ a b, a < N → r a b = true → t a b = true) (d : Nat) (hd : d ≤ N) : ∀ a b, a < N → wB r d a b = true → t a b = true := by
 induction d with
 | zero => intro a b ha h; exact hr a b ha h
 | succ d ih =>
  intro a b ha h
  simp only [wB, Bool.or_eq_true, Bool.and_eq_true] at h
  rcases h with h | ⟨h1, h2⟩
  ·exact ih (by omega) a b ha h
  ·exact ht a d b ha (by omega) (ih (by omega) a d ha h1) (ih (by omega) d b (by omega) h2)
section
variable {n : Int} {L : List Int}
theorem clo_lt (h : relP n L) {a : Nat} (b : Nat) (ha : a < L.length) : lt (clo L) a b = wB (lt L) L.length a b := wsh_lt h _ (Nat.le_refl _) a b ha
theorem clo_more (h : relP n L) {a b : Nat} (ha : a < L.length) (hb : lt L a b = true) : lt (clo L) a b = true := by
 rw [clo_lt h b ha]; exact wB_more _ hb
theorem clo_trans (h : relP n L) {a m b : Nat} (ha : a < L.length) (h1 : lt (clo L) a m = true) (h2 : lt (clo L) m b = true) : lt (clo L) a b = true := by
 have hm : m < L.length := by have := (clo_relP h).lt_len (by rw [clo_length]; exact ha) h1; rwa [clo_length] at this
 rw [clo_lt h _ ha] at h1 ⊢
 rw [clo_lt h _ hm] at h2
 exact wB_trans _ a m b hm h1 h2
theorem clo_least (h : relP n L) {t : Nat → Nat → Bool} (ht : ∀ a m b, a < L.length → m < L.length → t a m = true → t m b = true → t a b = true) (hr : ∀ a b, a < L.length → lt L a b = true → t a b = true) {a b : Nat} (ha : a < L.length) (hb : lt (clo L) a b = true) : t a b = true := by
 rw [clo_lt h b ha] at hb
 exact wB_least ht hr _ (Nat.le_refl _) a b ha hb
end
theorem Ev.up {α : Type} {g : Nat → Option α} {r : α} (h : Ev g r) : Ev (fun k => g (k + 1)) r := by
 obtain ⟨K, hK⟩ := h; exact ⟨K, fun k hk => hK (k + 1) (by omega)⟩
def orb (x : Int) (j : Nat) : Int := Go.bits .or .i64 x (shl .i64 1 (j : Int))
def rowf (p : Nat → Bool) (d : Nat) : Int := (List.range d).foldl (fun x j => if p j then orb x j else x) 0
theorem rowf_succ (p : Nat → Bool) (d : Nat) : rowf p (d + 1) = if p d then orb (rowf p d) d else rowf p d := by
 simp [rowf, List.range_succ, List.foldl_append]
def rel (p : Nat → Nat → Bool) (n : Nat) : List Int := (List.range n).map fun i => rowf (p i) n
theorem rel_length (p : Nat → Nat → Bool) (n : Nat) : (rel p n).length = n := by simp [rel]
theorem rel_get (p : Nat → Nat → Bool) (n i : Nat) (h : i < n) : rd (rel p n) (i : Int) = rowf (p i) n := by
 rw [rd_lt _ i (by rw [rel_length]; exact h)]; simp [rel]
def relUpto (p : Nat → Nat → Bool) (n i : Nat) : List Int := (rel p n).take i ++ List.replicate (n - i) 0
theorem relation_l1 (p : Nat → Nat → Bool) (n : Nat) (hn : n ≤ 1000) (i : Nat) (hi : i < n) (R : Int × List Int) (hR : ∀ g : Nat → Int → Int → Option Bool, (∀ i j : Nat, i < n → j < n → Ev (fun k => g k i j) (p i j)) → ∀ y : List Int, y.length = n → rd y (i : Int) = rowf (p i) n → (∀ m : Nat, m < n → m ≠ i → rd y (m : Int) = if m < i then rowf (p m) n else 0) → Ev (fun k => impl_relation.l0 k n (g k) n ((i + 1 : Nat) : Int) n y) R) (d : Nat) :
  ∀ (j : Nat) (y : List Int) (g : Nat → Int → Int → Option Bool), (∀ i j : Nat, i < n → j < n → Ev (fun k => g k i j) (p i j)) → j + d = n → y.length = n → rd y (i : Int) = rowf (p i) j → (∀ m : Nat, m < n → m ≠ i → rd y (m : Int) = if m < i then rowf (p m) n else 0) →
  Ev (fun k => impl_relation.l1 k n (g k) (i : Int) n (i : Int) n (j : Int) n y) R := by
 induction d with
 | zero =>
  intro j y g hg hj hy h1 h2
  obtain rfl : j = n := by omega
  refine Ev.shift ?_
  simp only [impl_relation.l1]
  refine Ev.neg (by omega) ?_
  rw [wrap64_id (x := (i : Int) + 1) (by omega) (by omega), cast1]
  exact hR (fun k => g (k + 1)) (fun a b ha hb => Ev.up (hg a b ha hb)) y hy h1 h2
 | succ d ih =>
  intro j y g hg hj hy h1 h2
  have hg' : ∀ i j : Nat, i < n → j < n → Ev (fun k => g (k + 1) i j) (p i j) := fun a b ha hb => Ev.up (hg a b ha hb)
  refine Ev.shift ?_
  simp only [impl_relation.l1]
  refine Ev.pos (by omega) (Ev.bind (hg' i j hi (by omega)) ?_)
  rw [wrap64_id (x := (j : Int) + 1) (by omega) (by omega), cast1]
  by_cases hp : p i j = true
  ·refine Ev.pos hp (Ev.pos (by omega) (Ev.pos (by omega) (Ev.pos (by omega) ?_)))
   rw [Int.toNat_natCast]
   refine ih (j + 1) _ (fun k => g (k + 1)) hg' (by omega) (by simp; omega) ?_ ?_
   ·rw [rd_lt _ i (by simp; omega), List.getElem_set_self, rowf_succ, if_pos hp, h1]; rfl
   ·intro m hm hmi
    rw [rd_lt _ m (by simp; omega), List.getElem_set_ne (Ne.symm hmi), ← rd_lt y m (by omega)]
    exact h2 m hm hmi
  ·refine Ev.neg hp (ih (j + 1) y (fun k => g (k + 1)) hg' (by omega) hy ?_ h2)
   rw [rowf_succ, if_neg hp]; exact h1
theorem relation_l0 (p : Nat → Nat → Bool) (n : Nat) (hn : n ≤ 1000) (d : Nat) : ∀ (i : Nat) (y : List Int) (g : Nat → Int → Int → Option Bool), (∀ i j : Nat, i < n → j < n → Ev (fun k => g k i j) (p i j)) → i + d = n → y.length = n → (∀ m : Nat, m < n → rd y (m : Int) = if m < i then rowf (p m) n else 0) →
  Ev (fun k => impl_relation.l0 k n (g k) n (i : Int) n y) ((n : Int), rel p n) := by
 induction d with
 | zero =>
  intro i y g hg hi hy h1
  refine Ev.shift ?_
  simp only [impl_relation.l0]
  refine Ev.neg (by omega) (Ev.ret ?_)
  congr 1
  apply List.ext_getElem (by rw [rel_length]; exact hy)
  intro m hm1 hm2
  have := h1 m (by omega)
  rw [if_pos (by omega), rd_lt y m hm1, ← rel_get p n m (by omega), rd_lt _ m hm2] at this
  exact this
 | succ d ih =>
  intro i y g hg hi hy h1
  refine Ev.shift ?_
  simp only [impl_relation.l0]
  refine Ev.pos (by omega) ?_
  refine relation_l1 p n hn i (by omega) _ (fun g' hg' y' hy' h1' h2' => ih (i + 1) y' g' hg' (by omega) hy' (fun m hm => ?_)) n 0 y (fun k => g (k + 1)) (fun a b ha hb => Ev.up (hg a b ha hb)) (by omega) hy ?_ ?_
  ·by_cases e : m = i
   ·subst e; rw [h1', if_pos (by omega)]
   ·rw [h2' m hm e]
    by_cases hlt : m < i
    ·rw [if_pos hlt, if_pos (by omega)]
    ·rw [if_neg hlt, if_neg (by omega)]
  ·rw [h1 i (by omega), if_neg (by omega)]; rfl
  ·intro m hm e; exact h1 m hm
theorem relation_ev (p : Nat → Nat → Bool) (n : Nat) (hn : n ≤ 1000) (g : Nat → Int → Int → Option Bool) (hg : ∀ i j : Nat, i < n → j < n → Ev (fun k => g k i j) (p i j)) : Ev (fun k => impl_relation.f k n (g k)) ((n : Int), rel p n) := by
 unfold impl_relation.f
 refine Ev.pos (by omega) (Ev.pos (by omega) ?_)
 rw [Int.toNat_natCast]
 exact relation_l0 p n hn n 0 _ g hg (by omega) (by simp) (fun m hm => by rw [rd_lt _ m (by simp; omega), List.getElem_replicate, if_neg (by omega)])
theorem rowf_bits (p : Nat → Bool) (d : Nat) : d ≤ 10 → setP (rowf p d) ∧ ∀ m, bit (rowf p d) m = (decide (m < d) && p m) := by
 induction d with
 | zero => intro _; exact ⟨set_zero, fun m => by rw [show rowf p 0 = 0 from rfl, bit_zero]; simp⟩
 | succ d ih =>
  intro hd
  obtain ⟨h1, h2⟩ := ih (by omega)
  rw [rowf_succ]
  by_cases hp : p d = true
  ·rw [if_pos hp]
   have hs := set_shl (j := d) (by omega)
   have ho := set_or h1 hs.1
   refine ⟨ho.1, fun m => ?_⟩
   show bit (Go.bits .or .i64 (rowf p d) (shl .i64 1 (d : Int))) m = _
   rw [ho.2, h2, hs.2]
   by_cases e : m = d
   ·subst e; simp [hp]
   ·by_cases l : m < d
    ·simp [l, e, show m < d + 1 by omega]
    ·simp [l, e, show ¬ m < d + 1 by omega]
  ·rw [if_neg hp]
   refine ⟨h1, fun m => ?_⟩
   rw [h2]
   by_cases e : m = d
   ·subst e; simp [hp]
   ·by_cases l : m < d
    ·simp [l, show m < d + 1 by omega]
    ·simp [l, show ¬ m < d + 1 by omega]
theorem rel_set {p : Nat → Nat → Bool} {n i : Nat} (hn : n ≤ 10) (hi : i < n) : setP (rd (rel p n) (i : Int)) := by
 rw [rel_get p n i hi]; exact (rowf_bits (p i) n hn).1
theorem rel_lt {p : Nat → Nat → Bool} {n i : Nat} (hn : n ≤ 10) (hi : i < n) (j : Nat) : lt (rel p n) i j = (decide (j < n) && p i j) := by
 unfold lt; rw [rel_get p n i hi]; exact (rowf_bits (p i) n hn).2 j
theorem orderP_of {n : Int} {L : List Int} (h : relP n L) (h1 : ∀ i, i < L.length → lt L i i = false) (h2 : ∀ i j m, i < L.length → j < L.length → lt L i j = true → lt L j m = true → lt L i m = true) : orderP n L :=
 ⟨h, fun m hm => ⟨h1 m hm, fun j hj => by
  obtain ⟨j', rfl, hj', hb⟩ := h.bits hm hj
  exact (andNot_zero (h.set hj') (h.set hm)).2 fun q _ hb2 => h2 m j' q hm hj' hb hb2⟩⟩
theorem rel_relP {n : Int} {N : Nat} (hn : n = N) (h10 : N ≤ 10) (p : Nat → Nat → Bool) : relP n (rel p N) := by
 subst hn
 refine ⟨⟨by omega, by omega⟩, by rw [rel_length], fun x hx => ?_⟩
 obtain ⟨i, hi, rfl⟩ := List.mem_iff_getElem.1 hx
 rw [rel_length] at hi
 rw [← rd_lt _ i (by rw [rel_length]; exact hi)]
 have hs := rel_set (p := p) h10 hi
 refine ⟨hs.1, ?_⟩
 rw [full_pow h10]
 obtain ⟨a, ha, hlt⟩ := hs.nat
 rw [ha]
 have : a < 2 ^ N := by
  refine Nat.lt_pow_two_of_testBit a fun m hm => ?_
  have := rel_lt (p := p) h10 hi m
  unfold lt at this
  rw [ha, bit_nat] at this
  rw [this]; simp; omega
 have h2 : ((2 ^ N : Nat) : Int) = (2 : Int) ^ N := by simp
 omega
def mir (L : List Int) : List Int := rel (fun i j => lt L j i) L.length
theorem rel_self {n : Int} {L : List Int} (h : relP n L) {p : Nat → Nat → Bool} (hp : ∀ i j, i < L.length → j < L.length → p i j = lt L i j) : rel p L.length = L := by
 have h10 : L.length ≤ 10 := by have := h.1; have := h.2.1; omega
 have hr := rel_relP h.2.1.symm h10 p
 refine rel_ext (rel_length _ _) (fun i hi => hr.set hi) (fun i hi => h.set hi) (fun i j hi hj => ?_)
 rw [rel_length] at hi
 rw [rel_lt h10 hi]
 by_cases hjl : j < L.length
 ·rw [hp i j hi hjl]; simp [hjl]
 ·have e2 : lt L i j = false := by
   cases hb : lt L i j
   ·rfl
   ·have := h.lt_len hi hb; omega
  rw [e2]; simp [hjl]
end Go.Proofs.YthdlkadfhbbilaaDoor.Pure
namespace Go.Proofs.YthdlkadfhbbilaaDoor.Pure
set_option linter.unusedVariables false
set_option linter.unusedSimpArgs false
-- plain
theorem cnt_le {n : Nat} {p q : Nat → Bool} (h : ∀ x, x < n → p x = true → q x = true) : (List.range n).countP p ≤ (List.range n).countP q := by
 induction n with
 | zero => simp
 | succ n ih =>
  have h1 := ih (fun x hx => h x (by omega))
  have h2 := h n (by omega)
  rw [List.range_succ, List.countP_append, List.countP_append, List.countP_singleton, List.countP_singleton]
  by_cases hp : p n = true
  ·rw [if_pos hp, if_pos (h2 hp)]; omega
  ·rw [if_neg hp]; split <;> omega
theorem cnt_lt {n : Nat} {p q : Nat → Bool} (h : ∀ x, x < n → p x = true → q x = true) (hx : ∃ x, x < n ∧ q x = true ∧ p x = false) : (List.range n).countP p < (List.range n).countP q := by
 induction n with
 | zero => obtain ⟨x, hx, _⟩ := hx; omega
 | succ n ih =>
  have h1 := cnt_le (n := n) (fun x hx => h x (by omega))
  have h2 := h n (by omega)
  rw [List.range_succ, List.countP_append, List.countP_append, List.countP_singleton, List.countP_singleton]
  by_cases hn : q n = true ∧ p n = false
  ·rw [if_pos hn.1, if_neg (by simp [hn.2])]; omega
  ·obtain ⟨x, hx, hq, hp⟩ := hx
   have hxn : x < n := by
    rcases Nat.lt_or_ge x n with h | h
    ·exact h
    ·obtain rfl : x = n := by omega
     exact absurd ⟨hq, hp⟩ hn
   have := ih (fun x hx => h x (by omega)) ⟨x, hxn, hq, hp⟩
   by_cases hpn : p n = true
   ·rw [if_pos hpn, if_pos (h2 hpn)]; omega
   ·rw [if_neg hpn]; split <;> omega
end Go.Proofs.YthdlkadfhbbilaaDoor.Pure
