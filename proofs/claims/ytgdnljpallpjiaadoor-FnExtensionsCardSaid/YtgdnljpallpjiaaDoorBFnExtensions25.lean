import Derived.Test.YtgdnljpallpjiaaDoorBFnExtensions15
import Derived.Test.YtgdnljpallpjiaaDoorBFnExtensions24
namespace Go.Proofs.YtgdnljpallpjiaaDoor.Pure
open Go.RowKit Go.Proofs.YtgdnljpallpjiaaDoor.Q Go.Proofs.YtgdnljpallpjiaaDoorW.PrintWords Go.Proofs.YtgdnljpallpjiaaDoorW.PrintLast
set_option linter.unusedVariables false
set_option linter.unusedSimpArgs false
-- drawn orders
theorem wrap_s (j : Nat) (h : j < 1000000) : wrap64 ((j : Int) + 1) = ((j + 1 : Nat) : Int) := by rw [wrap64_id (by omega) (by omega), cast1]
theorem relP_orb {n : Int} {L : List Int} (h : relP n L) {i j : Nat} (hi : i < L.length) (hj : j < L.length) : relP n (L.set i (Go.bits .or .i64 (rd L (i : Int)) (shl .i64 1 (j : Int)))) := by
 have h10 : L.length ≤ 10 := by have := h.1; have := h.2.1; omega
 have hs := set_shl (j := j) (by omega)
 have ho := set_or (h.set hi) hs.1
 refine relP_of_rows h (by simp) (fun a ha => ?_) (fun a b ha hb => ?_)
 ·rw [set_rd L i _ hi a]
  split
  ·exact ho.1
  ·exact h.set ha
 ·unfold lt at hb
  rw [set_rd L i _ hi a] at hb
  split at hb
  ·rw [ho.2, hs.2] at hb
   simp only [Bool.or_eq_true, decide_eq_true_eq] at hb
   rcases hb with hb | hb
   ·exact h.lt_len hi hb
   ·omega
  ·exact h.lt_len ha hb
theorem relP_zero (N : Nat) (hN : N ≤ 10) : relP (N : Int) (List.replicate N 0) := by
 refine ⟨⟨by omega, by omega⟩, by simp, fun x hx => ?_⟩
 rw [(List.mem_replicate.1 hx).2, full_pow hN]
 have : (0 : Int) < 2 ^ N := Int.pow_pos (by omega)
 omega
/-- what an order's drawing answers -/
def OrdR (g : Nat → Option (Int × List Int × Int × Int)) (N : Nat) (a n : Int) : Prop := ∃ L a' s', Ev g ((N : Int), L, a', s') ∧ relP (N : Int) L ∧ a ≤ a' ∧ a' ≤ a + n
theorem order_dl2 {c : List Int} (hc : bytesP c) (N : Nat) (hN : N ≤ 10) (kind : Int) (hk : 0 ≤ kind) (left right : List Int) (hl : left.length = N) (hr : right.length = N) (i : Nat) (hi : i < N) (B n : Int) (hB : B ≤ 100000000) (d : Nat) : ∀ (j : Nat) (L : List Int) (a s : Int), j + d = N → relP (N : Int) L → 0 ≤ a → a + 2 * d ≤ B →
  (∀ L a s, relP (N : Int) L → 0 ≤ a → a ≤ B → OrdR (fun k => spec_l1Cur_order.l1 k N kind left right ((i + 1 : Nat) : Int) c a s N L) N a n) → OrdR (fun k => spec_l1Cur_order.l2 k N kind left right (i : Int) (j : Int) c a s N L) N a (n + 2 * d) := by
 induction d with
 | zero =>
  intro j L a s hj hL h0 h1 hR
  obtain ⟨L', a', s', he, hP, h2, h3⟩ := hR L a s hL h0 (by omega)
  refine ⟨L', a', s', Ev.shift ?_, hP, h2, by omega⟩
  simp only [spec_l1Cur_order.l2]
  refine Ev.neg (by omega) ?_
  rw [wrap64_id (by omega) (by omega), cast1]; exact he
 | succ d ih =>
  intro j L a s hj hL h0 h1 hR
  have hll : L.length = N := by have := hL.2.1; omega
  have keep : OrdR (fun k => spec_l1Cur_order.l2 k N kind left right (i : Int) ((j + 1 : Nat) : Int) c a s N L) N a (n + 2 * d) := ih (j + 1) L a s (by omega) hL h0 (by omega) hR
  have put : OrdR (fun k => spec_l1Cur_order.l2 k N kind left right (i : Int) ((j + 1 : Nat) : Int) c a s N (L.set i (Go.bits .or .i64 (rd L (i : Int)) (shl .i64 1 (j : Int))))) N a (n + 2 * d) := ih (j + 1) _ a s (by omega) (relP_orb hL (by omega) (by omega)) h0 (by omega) hR
  have f1 : (j : Int) < N := by omega
  have f2 : 0 ≤ (i : Int) := by omega
  have f3 : (i : Int) < (right.length : Int) := by omega
  have f4 : 0 ≤ (j : Int) := by omega
  have f5 : (j : Int) < (left.length : Int) := by omega
  have f6 : (i : Int) < (L.length : Int) := by omega
  by_cases h2 : kind > 0
  ·have k0 : ¬ kind = 0 := by omega
   by_cases h3 : rd right (i : Int) < rd left (j : Int)
   ·obtain ⟨L', a', s', he, hP, h4, h5⟩ := put
    refine ⟨L', a', s', Ev.shift ?_, hP, h4, by omega⟩
    simp only [spec_l1Cur_order.l2]
    refine Ev.pos f1 (Ev.pos h2 (Ev.pos f2 (Ev.pos f3 (Ev.pos f4 (Ev.pos f5 (Ev.pos h3 (Ev.pos f6 ?_)))))))
    rw [wrap_s j (by omega), Int.toNat_natCast]; exact he
   ·obtain ⟨L', a', s', he, hP, h4, h5⟩ := keep
    refine ⟨L', a', s', Ev.shift ?_, hP, h4, by omega⟩
    simp only [spec_l1Cur_order.l2]
    refine Ev.pos f1 (Ev.pos h2 (Ev.pos f2 (Ev.pos f3 (Ev.pos f4 (Ev.pos f5 (Ev.neg h3 (Ev.neg k0 ?_)))))))
    rw [wrap_s j (by omega)]; exact he
  ·have k0 : kind = 0 := by omega
   by_cases h3 : (i : Int) < (j : Int)
   ·obtain ⟨b, a1, s1, e, _, h4, h5⟩ := one_d hc (a := a) s 3 h0 (by omega) (by omega)
    by_cases hb : b = true
    ·obtain ⟨L', a', s', he, hP, h6, h7⟩ := ih (j + 1) _ a1 s1 (by omega) (relP_orb hL (i := i) (j := j) (by omega) (by omega)) (by omega) (by omega) hR
     refine ⟨L', a', s', Ev.shift ?_, hP, by omega, by omega⟩
     simp only [spec_l1Cur_order.l2]
     refine Ev.pos f1 (Ev.neg h2 (Ev.pos k0 (Ev.pos h3 (Ev.bindc e (Ev.pos hb (Ev.pos f2 (Ev.pos f6 (Ev.pos f4 ?_))))))))
     rw [wrap_s j (by omega), Int.toNat_natCast]; exact he
    ·obtain ⟨L', a', s', he, hP, h6, h7⟩ := ih (j + 1) L a1 s1 (by omega) hL (by omega) (by omega) hR
     refine ⟨L', a', s', Ev.shift ?_, hP, by omega, by omega⟩
     simp only [spec_l1Cur_order.l2]
     refine Ev.pos f1 (Ev.neg h2 (Ev.pos k0 (Ev.pos h3 (Ev.bindc e (Ev.neg hb ?_)))))
     rw [wrap_s j (by omega)]; exact he
   ·obtain ⟨L', a', s', he, hP, h4, h5⟩ := keep
    refine ⟨L', a', s', Ev.shift ?_, hP, h4, by omega⟩
    simp only [spec_l1Cur_order.l2]
    refine Ev.pos f1 (Ev.neg h2 (Ev.pos k0 (Ev.neg h3 ?_)))
    rw [wrap_s j (by omega)]; exact he
theorem order_dl1 {c : List Int} (hc : bytesP c) (N : Nat) (hN : N ≤ 10) (kind : Int) (hk : 0 ≤ kind) (left right : List Int) (hl : left.length = N) (hr : right.length = N) (d : Nat) : ∀ (i : Nat) (L : List Int) (a s : Int), i + d = N → relP (N : Int) L → 0 ≤ a → a + 20 * d ≤ 10000000 →
  OrdR (fun k => spec_l1Cur_order.l1 k N kind left right (i : Int) c a s N L) N a (20 * d) := by
 induction d with
 | zero =>
  intro i L a s hi hL h0 h1
  by_cases h2 : kind > 0
  ·refine ⟨L, a, s, Ev.shift ?_, hL, by omega, by omega⟩
   simp only [spec_l1Cur_order.l1]
   exact Ev.neg (by omega) (Ev.pos h2 (Ev.ret rfl))
  ·refine ⟨clo L, a, s, Ev.shift ?_, clo_relP hL, by omega, by omega⟩
   simp only [spec_l1Cur_order.l1]
   exact Ev.neg (by omega) (Ev.neg h2 (Ev.bind (sCloseRelation_ev hL) (Ev.ret rfl)))
 | succ d ih =>
  intro i L a s hi hL h0 h1
  obtain ⟨L', a', s', he, hP, h2, h3⟩ := order_dl2 hc N hN kind hk left right hl hr i (by omega) (a + 2 * N) (20 * d) (by omega) N 0 L a s (by omega) hL h0 (by omega) (fun L a2 s hL h4 h5 => ih (i + 1) L a2 s (by omega) hL h4 (by omega))
  refine ⟨L', a', s', Ev.shift ?_, hP, h2, by omega⟩
  simp only [spec_l1Cur_order.l1]
  exact Ev.pos (by omega) he
theorem order_dl0 {c : List Int} (hc : bytesP c) (N : Nat) (hN : N ≤ 10) (kind : Int) (hk : 0 ≤ kind) (L : List Int) (hL : relP (N : Int) L) (d : Nat) : ∀ (left right : List Int) (a s : Int), left.length + d = N → right.length + d = N → 0 ≤ a → a + 4 * d ≤ 1000000 →
  OrdR (fun k => spec_l1Cur_order.l0 k N kind left right (left.length : Int) c a s N L) N a (4 * d + 20 * N) := by
 induction d with
 | zero =>
  intro left right a s hl hr h0 h1
  obtain ⟨L', a', s', he, hP, h2, h3⟩ := order_dl1 hc N hN kind hk left right (by omega) (by omega) N 0 L a s (by omega) hL h0 (by omega)
  refine ⟨L', a', s', Ev.shift ?_, hP, h2, by omega⟩
  simp only [spec_l1Cur_order.l0]
  exact Ev.neg (by omega) he
 | succ d ih =>
  intro left right a s hl hr h0 h1
  obtain ⟨x, a1, s1, e, hx, h2, h3⟩ := pick_d hc (a := a) s 8 h0 (by omega) (by omega)
  have hll : left.length < 1000000 := by omega
  by_cases h4 : kind = 1
  ·obtain ⟨y, a2, s2, e2, hy, h5, h6⟩ := pick_d hc (a := a1) s1 4 (by omega) (by omega) (by omega)
   obtain ⟨L', a', s', he, hP, h7, h8⟩ := ih (left ++ [x]) (right ++ [wrap64 (x + y)]) a2 s2 (by simp; omega) (by simp; omega) (by omega) (by omega)
   refine ⟨L', a', s', Ev.shift ?_, hP, by omega, by omega⟩
   simp only [spec_l1Cur_order.l0]
   refine Ev.pos (by omega) (Ev.bindc e (Ev.pos (by omega) (Ev.bindc rfl (Ev.pos h4 (Ev.bindc e2 (Ev.pos (by omega) ?_))))))
   rw [wrap_s _ hll]; simpa using he
  ·obtain ⟨L', a', s', he, hP, h7, h8⟩ := ih (left ++ [x]) (right ++ [wrap64 (x + 2)]) a1 s1 (by simp; omega) (by simp; omega) (by omega) (by omega)
   refine ⟨L', a', s', Ev.shift ?_, hP, by omega, by omega⟩
   simp only [spec_l1Cur_order.l0]
   refine Ev.pos (by omega) (Ev.bindc e (Ev.pos (by omega) (Ev.bindc rfl (Ev.neg h4 (Ev.pos (by omega) ?_)))))
   rw [wrap_s _ hll]; simpa using he
theorem order_d {c : List Int} (hc : bytesP c) {a : Int} (s most : Int) (h0 : 0 ≤ a) (h1 : a ≤ 100000) (hm : 0 ≤ most ∧ most ≤ 10) : Dro (fun k => spec_l1Cur_order.f k c a s most) (relW most) a 300 := by
 unfold spec_l1Cur_order.f
 rw [wrap64_id (by omega) (by omega)]
 obtain ⟨n, a1, s1, e, hn, h2, h3⟩ := pick_d hc s (most + 1) h0 (by omega) (by omega)
 obtain ⟨N, rfl⟩ : ∃ N : Nat, n = N := ⟨n.toNat, by omega⟩
 obtain ⟨kind, a2, s2, e2, hk, h4, h5⟩ := pick_d hc (a := a1) s1 3 (by omega) (by omega) (by omega)
 obtain ⟨L, a', s', he, hP, h6, h7⟩ := order_dl0 hc N (by omega) kind hk.1 (List.replicate N 0) (relP_zero N (by omega)) N [] [] a2 s2 (by simp) (by simp) (by omega) (by omega)
 refine ⟨(N : Int), L, a', s', Ev.bindc e (Ev.pos (by dsimp only; omega) (Ev.pos (by dsimp only; omega) (Ev.bindc e2 ?_))), ⟨hP, show (N : Int) ≤ most by omega⟩, by omega, by omega⟩
 simpa using he
/-- an order, or something near one: short, of small numbers -/
def nearW (x : Int × List Int) : Prop := (-1 ≤ x.1 ∧ x.1 ≤ 11) ∧ x.2.length ≤ 10 ∧ ∀ y ∈ x.2, -1 ≤ y ∧ y ≤ 1024
theorem relW.near {most : Int} {x : Int × List Int} (h : relW most x) : nearW x := by
 obtain ⟨⟨h1, h2, h3⟩, _⟩ := h
 refine ⟨by omega, by omega, fun y hy => ?_⟩
 have := h3 y hy
 obtain ⟨N, e⟩ : ∃ N : Nat, x.1 = N := ⟨x.1.toNat, by omega⟩
 rw [e] at this
 have := full_1023 (n := N) (by omega)
 omega
theorem shl_small : ∀ n : Fin 11, 1 ≤ shl .i64 1 (n.val : Int) ∧ shl .i64 1 (n.val : Int) ≤ 1024 := by decide +kernel
theorem anyOrder_d {c : List Int} (hc : bytesP c) {a : Int} (s most : Int) (h0 : 0 ≤ a) (h1 : a ≤ 90000) (hm : 0 ≤ most ∧ most ≤ 10) : Dro (fun k => spec_l1Cur_anyOrder.f k c a s most) nearW a 700 := by
 unfold spec_l1Cur_anyOrder.f
 obtain ⟨n, L, a1, s1, e1, hP, h2, h3⟩ := order_d hc s most h0 (by omega) hm
 obtain ⟨w, a2, s2, e2, hw, h4, h5⟩ := pick_d hc (a := a1) s1 14 (by omega) (by omega) (by omega)
 by_cases w0 : w = 0
 ·obtain ⟨m, M, a3, s3, e3, hQ, h6, h7⟩ := relation_d hc (a := a2) s2 most (by omega) (by omega) hm
  exact ⟨m, M, a3, s3, Ev.bind e1 (Ev.bindc e2 (Ev.pos w0 (Ev.bind e3 (Ev.ret rfl)))), hQ.near, by omega, by omega⟩
 by_cases w1 : w = 1
 ·obtain ⟨z, a3, s3, e3, hz, h6, h7⟩ := among_d hc (a := a2) s2 [(-1), 0, 10, 11] (by omega) (by omega) (by simp)
  refine ⟨z, L, a3, s3, Ev.bind e1 (Ev.bindc e2 (Ev.neg w0 (Ev.pos w1 (Ev.bindc e3 (Ev.ret rfl))))), ⟨?_, hP.near.2⟩, by omega, by omega⟩
  simp at hz; dsimp only; omega
 by_cases w2 : w = 2
 ·by_cases hl : (L.length : Int) > 0
  ·obtain ⟨i, a3, s3, e3, hi, h6, h7⟩ := pick_d hc (a := a2) s2 (L.length : Int) (by omega) (by omega) (by omega)
   obtain ⟨z, a4, s4, e4, hz, h8, h9⟩ := among_d hc (a := a3) s3 [(-1), 0, 1, shl .i64 1 n] (by omega) (by omega) (by simp)
   have hn := hP.1.1
   refine ⟨n, L.set i.toNat z, a4, s4, Ev.bind e1 (Ev.bindc e2 (Ev.neg w0 (Ev.neg w1 (Ev.pos w2 (Ev.pos hl (Ev.bindc e3 (Ev.pos hn.1 (Ev.bindc e4 (Ev.pos hi.1 (Ev.pos hi.2 (Ev.ret rfl))))))))))), ⟨hP.near.1, by simpa using hP.near.2.1, fun y hy => ?_⟩, by omega, by omega⟩
   rcases List.mem_or_eq_of_mem_set hy with hy | hy
   ·exact hP.near.2.2 y hy
   ·subst hy
    obtain ⟨N, e⟩ : ∃ N : Nat, n = N := ⟨n.toNat, by have := hn.1; dsimp only at this; omega⟩
    have := shl_small ⟨N, by have := hn.2; dsimp only at this; omega⟩
    rw [← e] at this
    simp at hz; omega
  ·exact ⟨n, L, a2, s2, Ev.bind e1 (Ev.bindc e2 (Ev.neg w0 (Ev.neg w1 (Ev.pos w2 (Ev.neg hl (Ev.ret rfl)))))), hP.near, by omega, by omega⟩
 by_cases w3 : w = 3
 ·obtain ⟨m, M, a3, s3, e3, hQ, h6, h7⟩ := order_d hc (a := a2) s2 10 (by omega) (by omega) ⟨by omega, by omega⟩
  exact ⟨m, M, a3, s3, Ev.bind e1 (Ev.bindc e2 (Ev.neg w0 (Ev.neg w1 (Ev.neg w2 (Ev.pos w3 (Ev.bind e3 (Ev.ret rfl))))))), hQ.near, by omega, by omega⟩
 ·exact ⟨n, L, a2, s2, Ev.bind e1 (Ev.bindc e2 (Ev.neg w0 (Ev.neg w1 (Ev.neg w2 (Ev.neg w3 (Ev.ret rfl)))))), hP.near, by omega, by omega⟩
-- the statements' own comparisons
theorem pSame_l (l m : List Int) (hlm : l.length = m.length) (hl : l.length ≤ 1048576) (d : Nat) : ∀ i : Nat, i + d = l.length → Ev (fun k => laws_pSame.l0 k l m (l.length : Int) (i : Int)) (l.drop i == m.drop i) := by
 induction d with
 | zero =>
  intro i hi
  refine Ev.shift ?_
  simp only [laws_pSame.l0]
  refine Ev.neg (by omega) (Ev.ret ?_)
  rw [List.drop_of_length_le (by omega), List.drop_of_length_le (by omega)]; rfl
 | succ d ih =>
  intro i hi
  have e := ih (i + 1) (by omega)
  have f1 : (i : Int) < l.length := by omega
  have f2 : (i : Int) < m.length := by omega
  refine Ev.shift ?_
  simp only [laws_pSame.l0]
  refine Ev.pos f1 (Ev.pos (by omega) (Ev.pos f1 (Ev.pos f2 ?_)))
  rw [wrap64_id (by omega) (by omega), cast1, drop_rd l i (by omega), drop_rd m i (by omega)]
  by_cases hc : rd l (i : Int) = rd m (i : Int)
  ·refine Ev.pos hc (Ev.eq e ?_)
   rw [hc]; simp
  ·refine Ev.neg hc (Ev.ret ?_)
   symm; rw [beq_eq_false_iff_ne]; intro h; exact hc (List.cons.inj h).1
theorem pSame_ev (l m : List Int) (hl : l.length ≤ 1048576) : Ev (fun k => laws_pSame.f k l m) (l == m) := by
 unfold laws_pSame.f
 by_cases h : (l.length : Int) = m.length
 ·refine Ev.pos h ?_
  simpa using pSame_l l m (by omega) hl l.length 0 (by omega)
 ·refine Ev.neg h (Ev.ret ?_)
  symm; rw [beq_eq_false_iff_ne]; intro e; exact h (by rw [e])
theorem pSameOrder_ev (n : Int) (l : List Int) (n' : Int) (m : List Int) (hl : l.length ≤ 1048576) : Ev (fun k => laws_pSameOrder.f k n l n' m) (decide (n = n') && (l == m)) := by
 unfold laws_pSameOrder.f
 by_cases h : n = n'
 ·exact Ev.pos h (Ev.bind (pSame_ev l m hl) (Ev.ret (by simp [h])))
 ·exact Ev.neg h (Ev.ret (by simp [h]))
theorem pSameOrder_self (n : Int) (l : List Int) (hl : l.length ≤ 1048576) : Ev (fun k => laws_pSameOrder.f k n l n l) true := Ev.eq (pSameOrder_ev n l n l hl) (by simp)
theorem Ev.up {α : Type} {g : Nat → Option α} {r : α} (h : Ev g r) : Ev (fun k => g (k + 1)) r := by
 obtain ⟨K, hK⟩ := h; exact ⟨K, fun k hk => hK (k + 1) (by omega)⟩
/-- one more bit -/
def orb (x : Int) (j : Nat) : Int := Go.bits .or .i64 x (shl .i64 1 (j : Int))
/-- a row: the bits of those before d that p tells -/
def rowf (p : Nat → Bool) (d : Nat) : Int := (List.range d).foldl (fun x j => if p j then orb x j else x) 0
theorem rowf_succ (p : Nat → Bool) (d : Nat) : rowf p (d + 1) = if p d then orb (rowf p d) d else rowf p d := by
 simp [rowf, List.range_succ, List.foldl_append]
/-- the rows of a relation on n elements -/
def rel (p : Nat → Nat → Bool) (n : Nat) : List Int := (List.range n).map fun i => rowf (p i) n
theorem rel_length (p : Nat → Nat → Bool) (n : Nat) : (rel p n).length = n := by simp [rel]
theorem rel_get (p : Nat → Nat → Bool) (n i : Nat) (h : i < n) : rd (rel p n) (i : Int) = rowf (p i) n := by
 rw [rd_lt _ i (by rw [rel_length]; exact h)]; simp [rel]
theorem rel_congr {p q : Nat → Nat → Bool} {n : Nat} (h : ∀ i j, i < n → j < n → p i j = q i j) : rel p n = rel q n := by
 unfold rel
 refine List.map_congr_left fun i hi => ?_
 rw [List.mem_range] at hi
 have : ∀ d, d ≤ n → rowf (p i) d = rowf (q i) d := by
  intro d
  induction d with
  | zero => intro _; rfl
  | succ d ih => intro hd; rw [rowf_succ, rowf_succ, ih (by omega), h i d hi (by omega)]
 exact this n (Nat.le_refl _)
/-- the rows up to i are told, the ones behind are empty -/
def relUpto (p : Nat → Nat → Bool) (n i : Nat) : List Int := (rel p n).take i ++ List.replicate (n - i) 0
theorem relation_l1 (p : Nat → Nat → Bool) (n : Nat) (hn : n ≤ 1000) (i : Nat) (hi : i < n) (R : Int × List Int) (hR : ∀ g : Nat → Int → Int → Option Bool, (∀ i j : Nat, i < n → j < n → Ev (fun k => g k i j) (p i j)) → ∀ y : List Int, y.length = n → rd y (i : Int) = rowf (p i) n → (∀ m : Nat, m < n → m ≠ i → rd y (m : Int) = if m < i then rowf (p m) n else 0) → Ev (fun k => impl_relation.l0 k n (g k) n ((i + 1 : Nat) : Int) n y) R) (d : Nat) :
  ∀ (j : Nat) (y : List Int) (g : Nat → Int → Int → Option Bool), (∀ i j : Nat, i < n → j < n → Ev (fun k => g k i j) (p i j)) → j + d = n → y.length = n → rd y (i : Int) = rowf (p i) j → (∀ m : Nat, m < n → m ≠ i → rd y (m : Int) = if m < i then rowf (p m) n else 0) →
  Ev (fun k => impl_relation.l1 k n (g k) (i : Int) n (i : Int) n (j : Int) n y) R := by
 induction d with
 | zero =>
  intro j y g hg hj hy h1 h2
  obtain rfl : j = n := by omega
  refine Ev.shift ?_
  simp only [impl_relation.l1]
  refine Ev.neg (by omega) ?_
  rw [wrap64_id (x := (i : Int) + 1) (by omega) (by omega), cast1]
  exact hR (fun k => g (k + 1)) (fun a b ha hb => Ev.up (hg a b ha hb)) y hy h1 h2
 | succ d ih =>
  intro j y g hg hj hy h1 h2
  have hg' : ∀ i j : Nat, i < n → j < n → Ev (fun k => g (k + 1) i j) (p i j) := fun a b ha hb => Ev.up (hg a b ha hb)
  refine Ev.shift ?_
  simp only [impl_relation.l1]
  refine Ev.pos (by omega) (Ev.bind (hg' i j hi (by omega)) ?_)
  rw [wrap64_id (x := (j : Int) + 1) (by omega) (by omega), cast1]
  by_cases hp : p i j = true
  ·refine Ev.pos hp (Ev.pos (by omega) (Ev.pos (by omega) (Ev.pos (by omega) ?_)))
   rw [Int.toNat_natCast]
   refine ih (j + 1) _ (fun k => g (k + 1)) hg' (by omega) (by simp; omega) ?_ ?_
   ·rw [rd_lt _ i (by simp; omega), List.getElem_set_self, rowf_succ, if_pos hp, h1]; rfl
   ·intro m hm hmi
    rw [rd_lt _ m (by simp; omega), List.getElem_set_ne (Ne.symm hmi), ← rd_lt y m (by omega)]
    exact h2 m hm hmi
  ·refine Ev.neg hp (ih (j + 1) y (fun k => g (k + 1)) hg' (by omega) hy ?_ h2)
   rw [rowf_succ, if_neg hp]; exact h1
theorem relation_l0 (p : Nat → Nat → Bool) (n : Nat) (hn : n ≤ 1000) (d : Nat) : ∀ (i : Nat) (y : List Int) (g : Nat → Int → Int → Option Bool), (∀ i j : Nat, i < n → j < n → Ev (fun k => g k i j) (p i j)) → i + d = n → y.length = n → (∀ m : Nat, m < n → rd y (m : Int) = if m < i then rowf (p m) n else 0) →
  Ev (fun k => impl_relation.l0 k n (g k) n (i : Int) n y) ((n : Int), rel p n) := by
 induction d with
 | zero =>
  intro i y g hg hi hy h1
  refine Ev.shift ?_
  simp only [impl_relation.l0]
  refine Ev.neg (by omega) (Ev.ret ?_)
  congr 1
  apply List.ext_getElem (by rw [rel_length]; exact hy)
  intro m hm1 hm2
  have := h1 m (by omega)
  rw [if_pos (by omega), rd_lt y m hm1, ← rel_get p n m (by omega), rd_lt _ m hm2] at this
  exact this
 | succ d ih =>
  intro i y g hg hi hy h1
  refine Ev.shift ?_
  simp only [impl_relation.l0]
  refine Ev.pos (by omega) ?_
  refine relation_l1 p n hn i (by omega) _ (fun g' hg' y' hy' h1' h2' => ih (i + 1) y' g' hg' (by omega) hy' (fun m hm => ?_)) n 0 y (fun k => g (k + 1)) (fun a b ha hb => Ev.up (hg a b ha hb)) (by omega) hy ?_ ?_
  ·by_cases e : m = i
   ·subst e; rw [h1', if_pos (by omega)]
   ·rw [h2' m hm e]
    by_cases hlt : m < i
    ·rw [if_pos hlt, if_pos (by omega)]
    ·rw [if_neg hlt, if_neg (by omega)]
  ·rw [h1 i (by omega), if_neg (by omega)]; rfl
  ·intro m hm e; exact h1 m hm
theorem relation_ev (p : Nat → Nat → Bool) (n : Nat) (hn : n ≤ 1000) (g : Nat → Int → Int → Option Bool) (hg : ∀ i j : Nat, i < n → j < n → Ev (fun k => g k i j) (p i j)) : Ev (fun k => impl_relation.f k n (g k)) ((n : Int), rel p n) := by
 unfold impl_relation.f
 refine Ev.pos (by omega) (Ev.pos (by omega) ?_)
 rw [Int.toNat_natCast]
 exact relation_l0 p n hn n 0 _ g hg (by omega) (by simp) (fun m hm => by rw [rd_lt _ m (by simp; omega), List.getElem_replicate, if_neg (by omega)])
theorem rowf_bits (p : Nat → Bool) (d : Nat) : d ≤ 10 → setP (rowf p d) ∧ ∀ m, bit (rowf p d) m = (decide (m < d) && p m) := by
 induction d with
 | zero => intro _; exact ⟨set_zero, fun m => by rw [show rowf p 0 = 0 from rfl, bit_zero]; simp⟩
 | succ d ih =>
  intro hd
  obtain ⟨h1, h2⟩ := ih (by omega)
  rw [rowf_succ]
  by_cases hp : p d = true
  ·rw [if_pos hp]
   have hs := set_shl (j := d) (by omega)
   have ho := set_or h1 hs.1
   refine ⟨ho.1, fun m => ?_⟩
   show bit (Go.bits .or .i64 (rowf p d) (shl .i64 1 (d : Int))) m = _
   rw [ho.2, h2, hs.2]
   by_cases e : m = d
   ·subst e; simp [hp]
   ·by_cases l : m < d
    ·simp [l, e, show m < d + 1 by omega]
    ·simp [l, e, show ¬ m < d + 1 by omega]
  ·rw [if_neg hp]
   refine ⟨h1, fun m => ?_⟩
   rw [h2]
   by_cases e : m = d
   ·subst e; simp [hp]
   ·by_cases l : m < d
    ·simp [l, show m < d + 1 by omega]
    ·simp [l, show ¬ m < d + 1 by omega]
theorem rel_set {p : Nat → Nat → Bool} {n i : Nat} (hn : n ≤ 10) (hi : i < n) : setP (rd (rel p n) (i : Int)) := by
 rw [rel_get p n i hi]; exact (rowf_bits (p i) n hn).1
theorem rel_lt {p : Nat → Nat → Bool} {n i : Nat} (hn : n ≤ 10) (hi : i < n) (j : Nat) : lt (rel p n) i j = (decide (j < n) && p i j) := by
 unfold lt; rw [rel_get p n i hi]; exact (rowf_bits (p i) n hn).2 j
theorem mirror_ev {n : Int} {L : List Int} (h : relP n L) : Ev (fun k => impl_Order_mirror.f k n L) (n, rel (fun i j => lt L j i) L.length) := by
 have e1 := h.2.1
 have e3 := h.1
 unfold impl_Order_mirror.f
 have hrel := relation_ev (fun i j => lt L j i) L.length (by omega) (fun _ u0_ u1_ => impl_Order_mirror_1.f u0_ u1_ n L) (fun i j hi hj => Ev.const (by
  unfold impl_Order_mirror_1.f
  rw [better_f n L hj (h.set hj) (by omega), Option.bind_some]; rfl))
 rw [e1] at hrel
 exact Ev.bind hrel (Ev.ret rfl)
theorem orderP_of {n : Int} {L : List Int} (h : relP n L) (h1 : ∀ i, i < L.length → lt L i i = false) (h2 : ∀ i j m, i < L.length → j < L.length → lt L i j = true → lt L j m = true → lt L i m = true) : orderP n L :=
 ⟨h, fun m hm => ⟨h1 m hm, fun j hj => by
  obtain ⟨j', rfl, hj', hb⟩ := h.bits hm hj
  exact (andNot_zero (h.set hj') (h.set hm)).2 fun q _ hb2 => h2 m j' q hm hj' hb hb2⟩⟩
theorem rel_relP {n : Int} {N : Nat} (hn : n = N) (h10 : N ≤ 10) (p : Nat → Nat → Bool) : relP n (rel p N) := by
 subst hn
 refine ⟨⟨by omega, by omega⟩, by rw [rel_length], fun x hx => ?_⟩
 obtain ⟨i, hi, rfl⟩ := List.mem_iff_getElem.1 hx
 rw [rel_length] at hi
 rw [← rd_lt _ i (by rw [rel_length]; exact hi)]
 have hs := rel_set (p := p) h10 hi
 refine ⟨hs.1, ?_⟩
 rw [full_pow h10]
 obtain ⟨a, ha, hlt⟩ := hs.nat
 rw [ha]
 have : a < 2 ^ N := by
  refine Nat.lt_pow_two_of_testBit a fun m hm => ?_
  have := rel_lt (p := p) h10 hi m
  unfold lt at this
  rw [ha, bit_nat] at this
  rw [this]; simp; omega
 have h2 : ((2 ^ N : Nat) : Int) = (2 : Int) ^ N := by simp
 omega
/-- the mirrored rows -/
def mir (L : List Int) : List Int := rel (fun i j => lt L j i) L.length
theorem mir_length (L : List Int) : (mir L).length = L.length := rel_length _ _
theorem mir_relP {n : Int} {L : List Int} (h : relP n L) : relP n (mir L) := rel_relP h.2.1.symm (by have := h.1; have := h.2.1; omega) _
theorem mir_lt {n : Int} {L : List Int} (h : relP n L) {i j : Nat} (hi : i < L.length) (hj : j < L.length) : lt (mir L) i j = lt L j i := by
 have h1 := h.1; have h2 := h.2.1
 unfold mir; rw [rel_lt (by omega) hi]; simp [hj]
theorem mir_mir {n : Int} {L : List Int} (h : relP n L) : mir (mir L) = L := by
 have h1 := h.1; have h2 := h.2.1
 have hm := mir_relP h
 have hmm := mir_relP hm
 refine rel_ext (by rw [mir_length, mir_length]) (fun i hi => hmm.set hi) (fun i hi => h.set hi) (fun i j hi hj => ?_)
 rw [mir_length, mir_length] at hi
 by_cases hjl : j < L.length
 ·rw [mir_lt hm (by rw [mir_length]; exact hi) (by rw [mir_length]; exact hjl), mir_lt h hjl hi]
 ·have e1 : lt (mir (mir L)) i j = false := by
   cases hb : lt (mir (mir L)) i j
   ·rfl
   ·have := hmm.lt_len (by rw [mir_length, mir_length]; exact hi) hb; rw [mir_length, mir_length] at this; omega
  have e2 : lt L i j = false := by
   cases hb : lt L i j
   ·rfl
   ·have := h.lt_len hi hb; omega
  rw [e1, e2]
theorem mir_order {n : Int} {L : List Int} (h : orderP n L) : orderP n (mir L) := by
 have hm := mir_relP h.1
 refine orderP_of hm (fun i hi => ?_) (fun i j m hi hj h1 h2 => ?_)
 ·rw [mir_length] at hi; rw [mir_lt h.1 hi hi]; exact h.irr hi
 ·have hml := hm.lt_len hj h2
  rw [mir_length] at hi hj hml
  rw [mir_lt h.1 hi hj] at h1
  rw [mir_lt h.1 hj hml] at h2
  rw [mir_lt h.1 hi hml]
  exact h.trans hml h2 h1
theorem mir_order_iff {n : Int} {L : List Int} (h : relP n L) : orderP n (mir L) ↔ orderP n L :=
 ⟨fun h2 => by have := mir_order h2; rwa [mir_mir h] at this, mir_order⟩
end Go.Proofs.YtgdnljpallpjiaaDoor.Pure
