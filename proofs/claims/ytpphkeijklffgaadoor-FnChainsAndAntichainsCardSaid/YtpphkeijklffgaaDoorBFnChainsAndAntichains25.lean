import Derived.Test.YtpphkeijklffgaaDoorBFnChainsAndAntichains24
namespace Go.Proofs.YtpphkeijklffgaaDoor.Pure
open Go.RowKit Go.Proofs.YtpphkeijklffgaaDoor.Q Go.Proofs.YtpphkeijklffgaaDoorW.PrintWords Go.Proofs.YtpphkeijklffgaaDoorW.PrintLast
set_option linter.unusedVariables false
set_option linter.unusedSimpArgs false
-- closing a relation, step by step
def wst (L : List Int) (k i : Nat) : List Int := if lt L i k = true then L.set i (Go.bits .or .i64 (rd L (i : Int)) (rd L (k : Int))) else L
def wrow (k : Nat) : Nat → List Int → List Int
 | 0, L => L
 | d + 1, L => wst (wrow k d L) k d
def wsh : Nat → List Int → List Int
 | 0, L => L
 | d + 1, L => wrow d (wsh d L).length (wsh d L)
theorem wst_length (L : List Int) (k i : Nat) : (wst L k i).length = L.length := by unfold wst; split <;> simp
theorem wrow_length (k d : Nat) (L : List Int) : (wrow k d L).length = L.length := by
 induction d with
 | zero => rfl
 | succ d ih => rw [wrow, wst_length, ih]
theorem wsh_length (d : Nat) (L : List Int) : (wsh d L).length = L.length := by
 induction d with
 | zero => rfl
 | succ d ih => rw [wsh, wrow_length, ih]
theorem relP_of_rows {n : Int} {L M : List Int} (h : relP n L) (hl : M.length = L.length) (hs : ∀ i, i < L.length → setP (rd M (i : Int))) (hb : ∀ i j, i < L.length → lt M i j = true → j < L.length) : relP n M := by
 refine ⟨h.1, by rw [hl]; exact h.2.1, fun x hx => ?_⟩
 obtain ⟨i, hi, rfl⟩ := List.mem_iff_getElem.1 hx
 rw [← rd_lt M i hi]
 have hi' : i < L.length := by omega
 have h10 : L.length ≤ 10 := by have := h.1; have := h.2.1; omega
 refine ⟨(hs i hi').1, ?_⟩
 rw [← h.2.1, full_pow h10]
 obtain ⟨a, ha, _⟩ := (hs i hi').nat
 rw [ha]
 have : a < 2 ^ L.length := by
  refine Nat.lt_pow_two_of_testBit a fun m hm => ?_
  cases hq : a.testBit m
  ·rfl
  ·have := hb i m hi' (by unfold lt; rw [ha, bit_nat]; exact hq)
   omega
 have h2 : ((2 ^ L.length : Nat) : Int) = (2 : Int) ^ L.length := by simp
 omega
theorem set_rd (L : List Int) (i : Nat) (x : Int) (hi : i < L.length) (m : Nat) : rd (L.set i x) (m : Int) = if m = i then x else rd L (m : Int) := by
 rw [rd_nat, rd_nat, List.getD_eq_getElem?_getD, List.getD_eq_getElem?_getD, List.getElem?_set]
 by_cases e : i = m
 ·subst e; simp [hi]
 ·simp [e, Ne.symm e]
theorem wst_lt {n : Int} {L : List Int} (h : relP n L) {k i : Nat} (hk : k < L.length) (hi : i < L.length) (a b : Nat) (ha : a < L.length) : lt (wst L k i) a b = (lt L a b || (decide (a = i) && lt L i k && lt L k b)) := by
 unfold wst
 by_cases hb : lt L i k = true
 ·rw [if_pos hb]
  have ho := set_or (h.set hi) (h.set hk)
  show bit (rd (L.set i _) (a : Int)) b = _
  rw [set_rd L i _ hi a]
  by_cases e : a = i
  ·subst e; rw [if_pos rfl, ho.2]; simp [hb]; rfl
  ·rw [if_neg e]; simp [e]; rfl
 ·rw [if_neg hb]; simp [hb]
theorem wst_relP {n : Int} {L : List Int} (h : relP n L) {k i : Nat} (hk : k < L.length) (hi : i < L.length) : relP n (wst L k i) := by
 refine relP_of_rows h (wst_length L k i) (fun a ha => ?_) (fun a b ha hb => ?_)
 ·unfold wst
  split
  ·rw [set_rd L i _ hi a]
   split
   ·exact (set_or (h.set hi) (h.set hk)).1
   ·exact h.set ha
  ·exact h.set ha
 ·rw [wst_lt h hk hi a b ha] at hb
  simp only [Bool.or_eq_true, Bool.and_eq_true, decide_eq_true_eq] at hb
  rcases hb with hb | ⟨_, hb⟩
  ·exact h.lt_len ha hb
  ·exact h.lt_len hk hb
theorem wrow_relP {n : Int} {L : List Int} (h : relP n L) {k : Nat} (hk : k < L.length) (d : Nat) : d ≤ L.length → relP n (wrow k d L) := by
 induction d with
 | zero => intro _; exact h
 | succ d ih =>
  intro hd
  exact wst_relP (ih (by omega)) (by rw [wrow_length]; exact hk) (by rw [wrow_length]; omega)
theorem wsh_relP {n : Int} {L : List Int} (h : relP n L) (d : Nat) : d ≤ L.length → relP n (wsh d L) := by
 induction d with
 | zero => intro _; exact h
 | succ d ih => intro hd; exact wrow_relP (ih (by omega)) (by rw [wsh_length]; omega) _ (Nat.le_refl _)
def clo (L : List Int) : List Int := wsh L.length L
theorem clo_relP {n : Int} {L : List Int} (h : relP n L) : relP n (clo L) := wsh_relP h _ (Nat.le_refl _)
-- the reference's closing
theorem l1Own_f (l : List Int) (h : l.length ≤ 1048576) : spec_l1Own.f l = some l := by
 unfold spec_l1Own.f
 rw [Option.bind_some, if_pos (by simp; omega), List.nil_append]
theorem sclose_l1 {n : Int} (N : Nat) (hN : N ≤ 10) (k : Nat) (hk : k < N) (R : Int × List Int × Bool) (d : Nat) : ∀ (i : Nat) (L : List Int), relP n L → L.length = N → i + d = N → (∀ M, relP n M → M.length = N → M = (List.range' i d).foldl (fun M i => wst M k i) L → Ev (fun q => spec_CloseRelation.l0 q N ((k + 1 : Nat) : Int) n M) R) →
  Ev (fun q => spec_CloseRelation.l1 q (k : Int) N (k : Int) N (i : Int) n L) R := by
 induction d with
 | zero =>
  intro i L hL hl hi hR
  refine Ev.shift ?_
  simp only [spec_CloseRelation.l1]
  refine Ev.neg (by omega) ?_
  rw [wrap64_id (by omega) (by omega), cast1]
  exact hR L hL hl rfl
 | succ d ih =>
  intro i L hL hl hi hR
  refine Ev.shift ?_
  simp only [spec_CloseRelation.l1]
  refine Ev.pos (by omega) (Ev.pos (by omega) (Ev.pos (by omega) (Ev.bindc (orHas_f (hL.set (i := i) (by omega)).1 (hL.set (i := i) (by omega)).2 (by omega)) ?_)))
  rw [wrap64_id (x := (i : Int) + 1) (by omega) (by omega), cast1]
  have hw := wst_relP hL (k := k) (i := i) (by omega) (by omega)
  have hwl := wst_length L k i
  have hgo := ih (i + 1) (wst L k i) hw (by omega) (by omega) (fun M hM hMl e => hR M hM hMl (by rw [List.range'_succ, List.foldl_cons]; exact e))
  unfold wst at hgo
  by_cases hb : lt L i k = true
  ·rw [if_pos hb] at hgo
   refine Ev.pos hb (Ev.pos (by omega) (Ev.pos (by omega) ?_))
   rw [Int.toNat_natCast]; exact hgo
  ·rw [if_neg hb] at hgo
   exact Ev.neg hb hgo
theorem wrow_fold (k d : Nat) (L : List Int) : wrow k d L = (List.range' 0 d).foldl (fun M i => wst M k i) L := by
 induction d with
 | zero => rfl
 | succ d ih => rw [wrow, ih, List.range'_concat, List.foldl_append]; simp
theorem sclose_l0 {n : Int} (N : Nat) (hN : N ≤ 10) (L : List Int) (hL : relP n L) (hl : L.length = N) (d : Nat) : ∀ k : Nat, k + d = N → Ev (fun q => spec_CloseRelation.l0 q N (k : Int) n (wsh k L)) (n, wsh N L, true) := by
 induction d with
 | zero =>
  intro k hk
  refine Ev.shift ?_
  simp only [spec_CloseRelation.l0]
  exact Ev.neg (by omega) (Ev.ret (by rw [show k = N by omega]))
 | succ d ih =>
  intro k hk
  have hw := wsh_relP hL k (by omega)
  have hwl := wsh_length k L
  refine Ev.shift ?_
  simp only [spec_CloseRelation.l0]
  refine Ev.pos (by omega) ?_
  rw [hwl, hl]
  refine sclose_l1 N hN k (by omega) _ N 0 (wsh k L) hw (by omega) (by omega) (fun M hM hMl e => ?_)
  have := ih (k + 1) (by omega)
  rw [wsh, wrow_fold, hwl, hl] at this
  rw [e]; exact this
theorem sCloseRelation_ev {n : Int} {L : List Int} (h : relP n L) : Ev (fun k => spec_CloseRelation.f k n L) (n, clo L, true) := by
 have h1 := h.1; have h2 := h.2.1
 unfold spec_CloseRelation.f
 refine Ev.bind (orRelation_ev n L (by omega)) (Ev.pos (by simpa using h) (Ev.bindc (l1Own_f L (by omega)) ?_))
 exact sclose_l0 L.length (by omega) L h rfl L.length 0 (by omega)
-- drawn relations and orders: short, their numbers small
theorem setP_full {n : Nat} (hn : n ≤ 10) {x : Int} (hx : setP x) (hb : ∀ j, bit x j = true → j < n) : 0 ≤ x ∧ x ≤ full (n : Int) := by
 refine ⟨hx.1, ?_⟩
 rw [full_pow hn]
 obtain ⟨a, rfl, _⟩ := hx.nat
 have : a < 2 ^ n := by
  refine Nat.lt_pow_two_of_testBit a fun m hm => ?_
  cases hq : a.testBit m
  ·rfl
  ·have := hb m (by rw [bit_nat]; exact hq)
   omega
 have h2 : ((2 ^ n : Nat) : Int) = (2 : Int) ^ n := by simp
 omega
def relW (most : Int) (x : Int × List Int) : Prop := relP x.1 x.2 ∧ x.1 ≤ most
def Dro (g : Nat → Option (Int × List Int × Int × Int)) (P : Int × List Int → Prop) (a n : Int) : Prop := ∃ m L a' s', Ev g (m, L, a', s') ∧ P (m, L) ∧ a ≤ a' ∧ a' ≤ a + n
theorem relation_dl1 {c : List Int} (hc : bytesP c) (N : Nat) (hN : N ≤ 10) (P : Int × List Int → Prop) (r : Nat) (rows : List Int) (hr : rows.length = r) (hrN : r < N) (B : Int) (d : Nat) : ∀ (j : Nat) (x a s : Int), j + d = N → setP x → (∀ m, bit x m = true → m < j) → 0 ≤ a → a + 2 * d ≤ B → B ≤ 1000000000 →
  (∀ y a s, setP y → (∀ m, bit y m = true → m < N) → 0 ≤ a → a ≤ B → ∃ m L a' s', Ev (fun k => spec_l1Cur_relation.l0 k c a s N (rows ++ [y])) (m, L, a', s') ∧ P (m, L) ∧ a ≤ a' ∧ a' ≤ a + 20 * (N - (r + 1))) →
  ∃ m L a' s', Ev (fun k => spec_l1Cur_relation.l1 k x (j : Int) c a s N rows) (m, L, a', s') ∧ P (m, L) ∧ a ≤ a' ∧ a' ≤ a + 2 * d + 20 * (N - (r + 1)) := by
 induction d with
 | zero =>
  intro j x a s hj hx hb h0 h1 hB hR
  obtain ⟨m, L, a', s', he, hP, h2, h3⟩ := hR x a s hx (fun m hm => by have := hb m hm; omega) h0 (by omega)
  refine ⟨m, L, a', s', Ev.shift ?_, hP, h2, by omega⟩
  simp only [spec_l1Cur_relation.l1]
  exact Ev.neg (by omega) (Ev.pos (by omega) he)
 | succ d ih =>
  intro j x a s hj hx hb h0 h1 hB hR
  obtain ⟨b, a1, s1, e, _, h2, h3⟩ := one_d hc (a := a) s 4 h0 (by omega) (by omega)
  by_cases hbt : b = true
  ·have hs := set_shl (j := j) (by omega)
   have ho := set_or hx hs.1
   obtain ⟨m, L, a', s', he, hP, h4, h5⟩ := ih (j + 1) _ a1 s1 (by omega) ho.1 (fun m hm => by
    rw [ho.2, hs.2] at hm
    simp only [Bool.or_eq_true, decide_eq_true_eq] at hm
    rcases hm with hm | hm
    ·have := hb m hm; omega
    ·omega) (by omega) (by omega) hB hR
   refine ⟨m, L, a', s', Ev.shift ?_, hP, by omega, by omega⟩
   simp only [spec_l1Cur_relation.l1]
   refine Ev.pos (by omega) (Ev.bindc e (Ev.pos hbt (Ev.pos (by omega) ?_)))
   rw [wrap64_id (by omega) (by omega), cast1]; exact he
  ·obtain ⟨m, L, a', s', he, hP, h4, h5⟩ := ih (j + 1) x a1 s1 (by omega) hx (fun m hm => by have := hb m hm; omega) (by omega) (by omega) hB hR
   refine ⟨m, L, a', s', Ev.shift ?_, hP, by omega, by omega⟩
   simp only [spec_l1Cur_relation.l1]
   refine Ev.pos (by omega) (Ev.bindc e (Ev.neg hbt ?_))
   rw [wrap64_id (by omega) (by omega), cast1]; exact he
theorem relation_dl0 {c : List Int} (hc : bytesP c) (N : Nat) (hN : N ≤ 10) (d : Nat) : ∀ (rows : List Int) (a s : Int), rows.length + d = N → (∀ y ∈ rows, 0 ≤ y ∧ y ≤ full (N : Int)) → 0 ≤ a → a + 20 * d ≤ 100000000 →
  ∃ m L a' s', Ev (fun k => spec_l1Cur_relation.l0 k c a s N rows) (m, L, a', s') ∧ (m = N ∧ relP m L) ∧ a ≤ a' ∧ a' ≤ a + 20 * d := by
 induction d with
 | zero =>
  intro rows a s hl hr h0 h1
  refine ⟨N, rows, a, s, Ev.shift ?_, ⟨rfl, ⟨by omega, by omega⟩, by omega, hr⟩, by omega, by omega⟩
  simp only [spec_l1Cur_relation.l0]
  exact Ev.neg (by omega) (Ev.ret rfl)
 | succ d ih =>
  intro rows a s hl hr h0 h1
  obtain ⟨m, L, a', s', he, hP, h2, h3⟩ := relation_dl1 hc N hN (fun z => z.1 = N ∧ relP z.1 z.2) rows.length rows rfl (by omega) (a + 2 * N) N 0 0 a s (by omega) set_zero (fun m hm => by rw [bit_zero] at hm; cases hm) h0 (by omega) (by omega)
   (fun y a2 s2 hy hyb h4 h5 => by
    obtain ⟨m, L, a', s', he, hP, h6, h7⟩ := ih (rows ++ [y]) a2 s2 (by simp; omega) (fun z hz => by
     rcases List.mem_append.1 hz with hz | hz
     ·exact hr z hz
     ·rw [List.mem_singleton] at hz; subst hz; exact setP_full hN hy hyb) h4 (by omega)
    exact ⟨m, L, a', s', he, hP, h6, by omega⟩)
  refine ⟨m, L, a', s', Ev.shift ?_, hP, h2, by omega⟩
  simp only [spec_l1Cur_relation.l0]
  exact Ev.pos (by omega) he
theorem relation_d {c : List Int} (hc : bytesP c) {a : Int} (s most : Int) (h0 : 0 ≤ a) (h1 : a ≤ 10000000) (hm : 0 ≤ most ∧ most ≤ 10) : Dro (fun k => spec_l1Cur_relation.f k c a s most) (relW most) a 300 := by
 unfold spec_l1Cur_relation.f
 rw [wrap64_id (by omega) (by omega)]
 obtain ⟨n, a1, s1, e, hn, h2, h3⟩ := pick_d hc s (most + 1) h0 (by omega) (by omega)
 obtain ⟨N, rfl⟩ : ∃ N : Nat, n = N := ⟨n.toNat, by omega⟩
 obtain ⟨m, L, a', s', he, ⟨rfl, hP⟩, h4, h5⟩ := relation_dl0 hc N (by omega) N [] a1 s1 (by simp) (fun y hy => by cases hy) (by omega) (by omega)
 exact ⟨_, L, a', s', Ev.bindc e he, ⟨hP, by dsimp only; omega⟩, by omega, by omega⟩
-- drawn orders
theorem wrap_s (j : Nat) (h : j < 1000000) : wrap64 ((j : Int) + 1) = ((j + 1 : Nat) : Int) := by rw [wrap64_id (by omega) (by omega), cast1]
theorem relP_orb {n : Int} {L : List Int} (h : relP n L) {i j : Nat} (hi : i < L.length) (hj : j < L.length) : relP n (L.set i (Go.bits .or .i64 (rd L (i : Int)) (shl .i64 1 (j : Int)))) := by
 have h10 : L.length ≤ 10 := by have := h.1; have := h.2.1; omega
 have hs := set_shl (j := j) (by omega)
 have ho := set_or (h.set hi) hs.1
 refine relP_of_rows h (by simp) (fun a ha => ?_) (fun a b ha hb => ?_)
 ·rw [set_rd L i _ hi a]
  split
  ·exact ho.1
  ·exact h.set ha
 ·unfold lt at hb
  rw [set_rd L i _ hi a] at hb
  split at hb
  ·rw [ho.2, hs.2] at hb
   simp only [Bool.or_eq_true, decide_eq_true_eq] at hb
   rcases hb with hb | hb
   ·exact h.lt_len hi hb
   ·omega
  ·exact h.lt_len ha hb
theorem relP_zero (N : Nat) (hN : N ≤ 10) : relP (N : Int) (List.replicate N 0) := by
 refine ⟨⟨by omega, by omega⟩, by simp, fun x hx => ?_⟩
 rw [(List.mem_replicate.1 hx).2, full_pow hN]
 have : (0 : Int) < 2 ^ N := Int.pow_pos (by omega)
 omega
def OrdR (g : Nat → Option (Int × List Int × Int × Int)) (N : Nat) (a n : Int) : Prop := ∃ L a' s', Ev g ((N : Int), L, a', s') ∧ relP (N : Int) L ∧ a ≤ a' ∧ a' ≤ a + n
theorem order_dl2 {c : List Int} (hc : bytesP c) (N : Nat) (hN : N ≤ 10) (kind : Int) (hk : 0 ≤ kind) (left right : List Int) (hl : left.length = N) (hr : right.length = N) (i : Nat) (hi : i < N) (B n : Int) (hB : B ≤ 100000000) (d : Nat) : ∀ (j : Nat) (L : List Int) (a s : Int), j + d = N → relP (N : Int) L → 0 ≤ a → a + 2 * d ≤ B →
  (∀ L a s, relP (N : Int) L → 0 ≤ a → a ≤ B → OrdR (fun k => spec_l1Cur_order.l1 k N kind left right ((i + 1 : Nat) : Int) c a s N L) N a n) → OrdR (fun k => spec_l1Cur_order.l2 k N kind left right (i : Int) (j : Int) c a s N L) N a (n + 2 * d) := by
 induction d with
 | zero =>
  intro j L a s hj hL h0 h1 hR
  obtain ⟨L', a', s', he, hP, h2, h3⟩ := hR L a s hL h0 (by omega)
  refine ⟨L', a', s', Ev.shift ?_, hP, h2, by omega⟩
  simp only [spec_l1Cur_order.l2]
  refine Ev.neg (by omega) ?_
  rw [wrap64_id (by omega) (by omega), cast1]; exact he
 | succ d ih =>
  intro j L a s hj hL h0 h1 hR
  have hll : L.length = N := by have := hL.2.1; omega
  have keep : OrdR (fun k => spec_l1Cur_order.l2 k N kind left right (i : Int) ((j + 1 : Nat) : Int) c a s N L) N a (n + 2 * d) := ih (j + 1) L a s (by omega) hL h0 (by omega) hR
  have put : OrdR (fun k => spec_l1Cur_order.l2 k N kind left right (i : Int) ((j + 1 : Nat) : Int) c a s N (L.set i (Go.bits .or .i64 (rd L (i : Int)) (shl .i64 1 (j : Int))))) N a (n + 2 * d) := ih (j + 1) _ a s (by omega) (relP_orb hL (by omega) (by omega)) h0 (by omega) hR
  have f1 : (j : Int) < N := by omega
  have f2 : 0 ≤ (i : Int) := by omega
  have f3 : (i : Int) < (right.length : Int) := by omega
  have f4 : 0 ≤ (j : Int) := by omega
  have f5 : (j : Int) < (left.length : Int) := by omega
  have f6 : (i : Int) < (L.length : Int) := by omega
  by_cases h2 : kind > 0
  ·have k0 : ¬ kind = 0 := by omega
   by_cases h3 : rd right (i : Int) < rd left (j : Int)
   ·obtain ⟨L', a', s', he, hP, h4, h5⟩ := put
    refine ⟨L', a', s', Ev.shift ?_, hP, h4, by omega⟩
    simp only [spec_l1Cur_order.l2]
    refine Ev.pos f1 (Ev.pos h2 (Ev.pos f2 (Ev.pos f3 (Ev.pos f4 (Ev.pos f5 (Ev.pos h3 (Ev.pos f6 ?_)))))))
    rw [wrap_s j (by omega), Int.toNat_natCast]; exact he
   ·obtain ⟨L', a', s', he, hP, h4, h5⟩ := keep
    refine ⟨L', a', s', Ev.shift ?_, hP, h4, by omega⟩
    simp only [spec_l1Cur_order.l2]
    refine Ev.pos f1 (Ev.pos h2 (Ev.pos f2 (Ev.pos f3 (Ev.pos f4 (Ev.pos f5 (Ev.neg h3 (Ev.neg k0 ?_)))))))
    rw [wrap_s j (by omega)]; exact he
  ·have k0 : kind = 0 := by omega
   by_cases h3 : (i : Int) < (j : Int)
   ·obtain ⟨b, a1, s1, e, _, h4, h5⟩ := one_d hc (a := a) s 3 h0 (by omega) (by omega)
    by_cases hb : b = true
    ·obtain ⟨L', a', s', he, hP, h6, h7⟩ := ih (j + 1) _ a1 s1 (by omega) (relP_orb hL (i := i) (j := j) (by omega) (by omega)) (by omega) (by omega) hR
     refine ⟨L', a', s', Ev.shift ?_, hP, by omega, by omega⟩
     simp only [spec_l1Cur_order.l2]
     refine Ev.pos f1 (Ev.neg h2 (Ev.pos k0 (Ev.pos h3 (Ev.bindc e (Ev.pos hb (Ev.pos f2 (Ev.pos f6 (Ev.pos f4 ?_))))))))
     rw [wrap_s j (by omega), Int.toNat_natCast]; exact he
    ·obtain ⟨L', a', s', he, hP, h6, h7⟩ := ih (j + 1) L a1 s1 (by omega) hL (by omega) (by omega) hR
     refine ⟨L', a', s', Ev.shift ?_, hP, by omega, by omega⟩
     simp only [spec_l1Cur_order.l2]
     refine Ev.pos f1 (Ev.neg h2 (Ev.pos k0 (Ev.pos h3 (Ev.bindc e (Ev.neg hb ?_)))))
     rw [wrap_s j (by omega)]; exact he
   ·obtain ⟨L', a', s', he, hP, h4, h5⟩ := keep
    refine ⟨L', a', s', Ev.shift ?_, hP, h4, by omega⟩
    simp only [spec_l1Cur_order.l2]
    refine Ev.pos f1 (Ev.neg h2 (Ev.pos k0 (Ev.neg h3 ?_)))
    rw [wrap_s j (by omega)]; exact he
theorem order_dl1 {c : List Int} (hc : bytesP c) (N : Nat) (hN : N ≤ 10) (kind : Int) (hk : 0 ≤ kind) (left right : List Int) (hl : left.length = N) (hr : right.length = N) (d : Nat) : ∀ (i : Nat) (L : List Int) (a s : Int), i + d = N → relP (N : Int) L → 0 ≤ a → a + 20 * d ≤ 10000000 →
  OrdR (fun k => spec_l1Cur_order.l1 k N kind left right (i : Int) c a s N L) N a (20 * d) := by
 induction d with
 | zero =>
  intro i L a s hi hL h0 h1
  by_cases h2 : kind > 0
  ·refine ⟨L, a, s, Ev.shift ?_, hL, by omega, by omega⟩
   simp only [spec_l1Cur_order.l1]
   exact Ev.neg (by omega) (Ev.pos h2 (Ev.ret rfl))
  ·refine ⟨clo L, a, s, Ev.shift ?_, clo_relP hL, by omega, by omega⟩
   simp only [spec_l1Cur_order.l1]
   exact Ev.neg (by omega) (Ev.neg h2 (Ev.bind (sCloseRelation_ev hL) (Ev.ret rfl)))
 | succ d ih =>
  intro i L a s hi hL h0 h1
  obtain ⟨L', a', s', he, hP, h2, h3⟩ := order_dl2 hc N hN kind hk left right hl hr i (by omega) (a + 2 * N) (20 * d) (by omega) N 0 L a s (by omega) hL h0 (by omega) (fun L a2 s hL h4 h5 => ih (i + 1) L a2 s (by omega) hL h4 (by omega))
  refine ⟨L', a', s', Ev.shift ?_, hP, h2, by omega⟩
  simp only [spec_l1Cur_order.l1]
  exact Ev.pos (by omega) he
theorem order_dl0 {c : List Int} (hc : bytesP c) (N : Nat) (hN : N ≤ 10) (kind : Int) (hk : 0 ≤ kind) (L : List Int) (hL : relP (N : Int) L) (d : Nat) : ∀ (left right : List Int) (a s : Int), left.length + d = N → right.length + d = N → 0 ≤ a → a + 4 * d ≤ 1000000 →
  OrdR (fun k => spec_l1Cur_order.l0 k N kind left right (left.length : Int) c a s N L) N a (4 * d + 20 * N) := by
 induction d with
 | zero =>
  intro left right a s hl hr h0 h1
  obtain ⟨L', a', s', he, hP, h2, h3⟩ := order_dl1 hc N hN kind hk left right (by omega) (by omega) N 0 L a s (by omega) hL h0 (by omega)
  refine ⟨L', a', s', Ev.shift ?_, hP, h2, by omega⟩
  simp only [spec_l1Cur_order.l0]
  exact Ev.neg (by omega) he
 | succ d ih =>
  intro left right a s hl hr h0 h1
  obtain ⟨x, a1, s1, e, hx, h2, h3⟩ := pick_d hc (a := a) s 8 h0 (by omega) (by omega)
  have hll : left.length < 1000000 := by omega
  by_cases h4 : kind = 1
  ·obtain ⟨y, a2, s2, e2, hy, h5, h6⟩ := pick_d hc (a := a1) s1 4 (by omega) (by omega) (by omega)
   obtain ⟨L', a', s', he, hP, h7, h8⟩ := ih (left ++ [x]) (right ++ [wrap64 (x + y)]) a2 s2 (by simp; omega) (by simp; omega) (by omega) (by omega)
   refine ⟨L', a', s', Ev.shift ?_, hP, by omega, by omega⟩
   simp only [spec_l1Cur_order.l0]
   refine Ev.pos (by omega) (Ev.bindc e (Ev.pos (by omega) (Ev.bindc rfl (Ev.pos h4 (Ev.bindc e2 (Ev.pos (by omega) ?_))))))
   rw [wrap_s _ hll]; simpa using he
  ·obtain ⟨L', a', s', he, hP, h7, h8⟩ := ih (left ++ [x]) (right ++ [wrap64 (x + 2)]) a1 s1 (by simp; omega) (by simp; omega) (by omega) (by omega)
   refine ⟨L', a', s', Ev.shift ?_, hP, by omega, by omega⟩
   simp only [spec_l1Cur_order.l0]
   refine Ev.pos (by omega) (Ev.bindc e (Ev.pos (by omega) (Ev.bindc rfl (Ev.neg h4 (Ev.pos (by omega) ?_)))))
   rw [wrap_s _ hll]; simpa using he
theorem order_d {c : List Int} (hc : bytesP c) {a : Int} (s most : Int) (h0 : 0 ≤ a) (h1 : a ≤ 100000) (hm : 0 ≤ most ∧ most ≤ 10) : Dro (fun k => spec_l1Cur_order.f k c a s most) (relW most) a 300 := by
 unfold spec_l1Cur_order.f
 rw [wrap64_id (by omega) (by omega)]
 obtain ⟨n, a1, s1, e, hn, h2, h3⟩ := pick_d hc s (most + 1) h0 (by omega) (by omega)
 obtain ⟨N, rfl⟩ : ∃ N : Nat, n = N := ⟨n.toNat, by omega⟩
 obtain ⟨kind, a2, s2, e2, hk, h4, h5⟩ := pick_d hc (a := a1) s1 3 (by omega) (by omega) (by omega)
 obtain ⟨L, a', s', he, hP, h6, h7⟩ := order_dl0 hc N (by omega) kind hk.1 (List.replicate N 0) (relP_zero N (by omega)) N [] [] a2 s2 (by simp) (by simp) (by omega) (by omega)
 refine ⟨(N : Int), L, a', s', Ev.bindc e (Ev.pos (by dsimp only; omega) (Ev.pos (by dsimp only; omega) (Ev.bindc e2 ?_))), ⟨hP, show (N : Int) ≤ most by omega⟩, by omega, by omega⟩
 simpa using he
def nearW (x : Int × List Int) : Prop := (-1 ≤ x.1 ∧ x.1 ≤ 11) ∧ x.2.length ≤ 10 ∧ ∀ y ∈ x.2, -1 ≤ y ∧ y ≤ 1024
theorem relW.near {most : Int} {x : Int × List Int} (h : relW most x) : nearW x := by
 obtain ⟨⟨h1, h2, h3⟩, _⟩ := h
 refine ⟨by omega, by omega, fun y hy => ?_⟩
 have := h3 y hy
 obtain ⟨N, e⟩ : ∃ N : Nat, x.1 = N := ⟨x.1.toNat, by omega⟩
 rw [e] at this
 have := full_1023 (n := N) (by omega)
 omega
theorem shl_small : ∀ n : Fin 11, 1 ≤ shl .i64 1 (n.val : Int) ∧ shl .i64 1 (n.val : Int) ≤ 1024 := by decide +kernel
theorem anyOrder_d {c : List Int} (hc : bytesP c) {a : Int} (s most : Int) (h0 : 0 ≤ a) (h1 : a ≤ 90000) (hm : 0 ≤ most ∧ most ≤ 10) : Dro (fun k => spec_l1Cur_anyOrder.f k c a s most) nearW a 700 := by
 unfold spec_l1Cur_anyOrder.f
 obtain ⟨n, L, a1, s1, e1, hP, h2, h3⟩ := order_d hc s most h0 (by omega) hm
 obtain ⟨w, a2, s2, e2, hw, h4, h5⟩ := pick_d hc (a := a1) s1 14 (by omega) (by omega) (by omega)
 by_cases w0 : w = 0
 ·obtain ⟨m, M, a3, s3, e3, hQ, h6, h7⟩ := relation_d hc (a := a2) s2 most (by omega) (by omega) hm
  exact ⟨m, M, a3, s3, Ev.bind e1 (Ev.bindc e2 (Ev.pos w0 (Ev.bind e3 (Ev.ret rfl)))), hQ.near, by omega, by omega⟩
 by_cases w1 : w = 1
 ·obtain ⟨z, a3, s3, e3, hz, h6, h7⟩ := among_d hc (a := a2) s2 [(-1), 0, 10, 11] (by omega) (by omega) (by simp)
  refine ⟨z, L, a3, s3, Ev.bind e1 (Ev.bindc e2 (Ev.neg w0 (Ev.pos w1 (Ev.bindc e3 (Ev.ret rfl))))), ⟨?_, hP.near.2⟩, by omega, by omega⟩
  simp at hz; dsimp only; omega
 by_cases w2 : w = 2
 ·by_cases hl : (L.length : Int) > 0
  ·obtain ⟨i, a3, s3, e3, hi, h6, h7⟩ := pick_d hc (a := a2) s2 (L.length : Int) (by omega) (by omega) (by omega)
   obtain ⟨z, a4, s4, e4, hz, h8, h9⟩ := among_d hc (a := a3) s3 [(-1), 0, 1, shl .i64 1 n] (by omega) (by omega) (by simp)
   have hn := hP.1.1
   refine ⟨n, L.set i.toNat z, a4, s4, Ev.bind e1 (Ev.bindc e2 (Ev.neg w0 (Ev.neg w1 (Ev.pos w2 (Ev.pos hl (Ev.bindc e3 (Ev.pos hn.1 (Ev.bindc e4 (Ev.pos hi.1 (Ev.pos hi.2 (Ev.ret rfl))))))))))), ⟨hP.near.1, by simpa using hP.near.2.1, fun y hy => ?_⟩, by omega, by omega⟩
   rcases List.mem_or_eq_of_mem_set hy with hy | hy
   ·exact hP.near.2.2 y hy
   ·subst hy
    obtain ⟨N, e⟩ : ∃ N : Nat, n = N := ⟨n.toNat, by have := hn.1; dsimp only at this; omega⟩
    have := shl_small ⟨N, by have := hn.2; dsimp only at this; omega⟩
    rw [← e] at this
    simp at hz; omega
  ·exact ⟨n, L, a2, s2, Ev.bind e1 (Ev.bindc e2 (Ev.neg w0 (Ev.neg w1 (Ev.pos w2 (Ev.neg hl (Ev.ret rfl)))))), hP.near, by omega, by omega⟩
 by_cases w3 : w = 3
 ·obtain ⟨m, M, a3, s3, e3, hQ, h6, h7⟩ := order_d hc (a := a2) s2 10 (by omega) (by omega) ⟨by omega, by omega⟩
  exact ⟨m, M, a3, s3, Ev.bind e1 (Ev.bindc e2 (Ev.neg w0 (Ev.neg w1 (Ev.neg w2 (Ev.pos w3 (Ev.bind e3 (Ev.ret rfl))))))), hQ.near, by omega, by omega⟩
 ·exact ⟨n, L, a2, s2, Ev.bind e1 (Ev.bindc e2 (Ev.neg w0 (Ev.neg w1 (Ev.neg w2 (Ev.neg w3 (Ev.ret rfl)))))), hP.near, by omega, by omega⟩
-- drawn lists of names
theorem orUpTo_l (N : Nat) (hN : N ≤ 1000) (d : Nat) : ∀ i : Nat, i + d = N → Ev (fun k => spec_orUpTo.l0 k (N : Int) ((List.range i).map fun (j : Nat) => (j : Int)) (i : Int)) ((List.range N).map fun (j : Nat) => (j : Int)) := by
 induction d with
 | zero =>
  intro i hi
  obtain rfl : i = N := by omega
  refine Ev.shift ?_
  simp only [spec_orUpTo.l0]
  exact Ev.neg (by omega) (Ev.ret rfl)
 | succ d ih =>
  intro i hi
  have e := ih (i + 1) (by omega)
  rw [List.range_succ, List.map_append] at e
  refine Ev.shift ?_
  simp only [spec_orUpTo.l0]
  refine Ev.pos (by omega) (Ev.pos (by simp; omega) ?_)
  rw [wrap64_id (by omega) (by omega), cast1]; exact e
theorem orUpTo_ev (N : Nat) (hN : N ≤ 1000) : Ev (fun k => spec_orUpTo.f k (N : Int)) ((List.range N).map fun (j : Nat) => (j : Int)) := by
 unfold spec_orUpTo.f
 exact orUpTo_l N hN N 0 (by omega)
def DrL (g : Nat → Option (List Int × Int × Int)) (P : List Int → Prop) (a n : Int) : Prop := ∃ l a' s', Ev g (l, a', s') ∧ P l ∧ a ≤ a' ∧ a' ≤ a + n
theorem names_l {c : List Int} (hc : bytesP c) (N : Nat) (hN : N ≤ 20) (d : Nat) : ∀ (i : Nat) (l : List Int) (a s : Int), i + d = N → l.length = N → 0 ≤ a → a + 2 * d ≤ 1000000 → DrL (fun k => spec_l1Cur_names.l0 k l (N : Int) (i : Int) c a s) (fun l => l.length ≤ N + 1) a (2 * d + 4) := by
 induction d with
 | zero =>
  intro i l a s hi hl h0 h1
  obtain ⟨b, a1, s1, e, _, h2, h3⟩ := one_d hc (a := a) s 10 h0 (by omega) (by omega)
  by_cases hb : b = true
  ·obtain ⟨x, a2, s2, e2, hx, h4, h5⟩ := pick_d hc (a := a1) s1 3 (by omega) (by omega) (by omega)
   refine ⟨l ++ [wrap64 (x - 1)], a2, s2, Ev.shift ?_, by simp; omega, by omega, by omega⟩
   simp only [spec_l1Cur_names.l0]
   exact Ev.neg (by omega) (Ev.bindc e (Ev.pos hb (Ev.bindc e2 (Ev.pos (by omega) (Ev.ret rfl)))))
  ·refine ⟨l, a1, s1, Ev.shift ?_, by omega, by omega, by omega⟩
   simp only [spec_l1Cur_names.l0]
   exact Ev.neg (by omega) (Ev.bindc e (Ev.neg hb (Ev.ret rfl)))
 | succ d ih =>
  intro i l a s hi hl h0 h1
  obtain ⟨x, a1, s1, e, hx, h2, h3⟩ := pick_d hc (a := a) s (l.length : Int) h0 (by omega) (by omega)
  obtain ⟨m, a2, s2, he, hm, h4, h5⟩ := ih (i + 1) ((l.set (i : Int).toNat (rd l x)).set x.toNat (rd l (i : Int))) a1 s1 (by omega) (by simp; omega) (by omega) (by omega)
  refine ⟨m, a2, s2, Ev.shift ?_, hm, by omega, by omega⟩
  simp only [spec_l1Cur_names.l0]
  refine Ev.pos (by omega) (Ev.bindc e (Ev.pos (by omega) (Ev.pos (by omega) (Ev.pos hx.1 (Ev.pos hx.2 ?_)))))
  rw [wrap64_id (by omega) (by omega), cast1]; exact he
theorem names_d {c : List Int} (hc : bytesP c) {a : Int} (s n : Int) (hn : 0 ≤ n) (h0 : 0 ≤ a) (h1 : a ≤ 100000) : DrL (fun k => spec_l1Cur_names.f k c a s n) (fun l => l.length ≤ 12) a 26 := by
 obtain ⟨N, hN, hN2⟩ : ∃ N : Nat, spec_l1Least.f n 11 = some (N : Int) ∧ N ≤ 11 := by
  unfold spec_l1Least.f
  by_cases h : n < 11
  ·exact ⟨n.toNat, by rw [if_pos h, Int.toNat_of_nonneg hn], by omega⟩
  ·exact ⟨11, by rw [if_neg h]; rfl, by omega⟩
 obtain ⟨l, a', s', he, hl, h2, h3⟩ := names_l hc N (by omega) N 0 ((List.range N).map fun (j : Nat) => (j : Int)) a s (by omega) (by simp) h0 (by omega)
 refine ⟨l, a', s', ?_, by omega, h2, by omega⟩
 unfold spec_l1Cur_names.f
 refine Ev.bindc hN (Ev.bind (orUpTo_ev N (by omega)) ?_)
 simpa using he
end Go.Proofs.YtpphkeijklffgaaDoor.Pure
