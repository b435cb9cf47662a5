import Derived.Test.YteechpappfagpaaDoorBFnMirrors0
import Derived.Test.YteechpappfagpaaDoorBFnMirrors5
import Derived.Test.YteechpappfagpaaDoorBFnMirrors8
import Derived.Test.YteechpappfagpaaDoorBFnMirrors9
import Derived.Test.YteechpappfagpaaDoorBFnMirrors11
import Derived.Test.YteechpappfagpaaDoorBFnMirrors13
import Derived.Test.YteechpappfagpaaDoorBFnMirrors15
import Derived.Test.YteechpappfagpaaDoorBFnMirrors17
import Derived.Test.YteechpappfagpaaDoorBFnMirrors18
import Derived.Test.YteechpappfagpaaDoorBFnMirrors19
namespace Go.Proofs.YteechpappfagpaaDoor.Pure
open Go.RowKit Go.Proofs.YteechpappfagpaaDoor.Q Go.Proofs.YteechpappfagpaaDoorW.PrintWords Go.Proofs.YteechpappfagpaaDoorW.PrintLast
set_option linter.unusedVariables false
set_option linter.unusedSimpArgs false

-- drawn relations and orders: short, their numbers small
theorem relP_nil : relP 0 [] := ⟨⟨by omega, by omega⟩, rfl, fun x hx => by cases hx⟩
theorem setP_full {n : Nat} (hn : n ≤ 10) {x : Int} (hx : setP x) (hb : ∀ j, bit x j = true → j < n) : 0 ≤ x ∧ x ≤ full (n : Int) := by
  refine ⟨hx.1, ?_⟩
  rw [full_pow hn]
  obtain ⟨a, rfl, _⟩ := hx.nat
  have : a < 2 ^ n := by
    refine Nat.lt_pow_two_of_testBit a fun m hm => ?_
    cases hq : a.testBit m
    · rfl
    · have := hb m (by rw [bit_nat]; exact hq)
      omega
  have h2 : ((2 ^ n : Nat) : Int) = (2 : Int) ^ n := by simp
  omega
/-- a drawn order or relation: n elements, at most 'most' -/
def relW (most : Int) (x : Int × List Int) : Prop := relP x.1 x.2 ∧ x.1 ≤ most
def Dro (g : Nat → Option (Int × List Int × Int × Int)) (P : Int × List Int → Prop) (a n : Int) : Prop := ∃ m L a' s', Ev g (m, L, a', s') ∧ P (m, L) ∧ a ≤ a' ∧ a' ≤ a + n
theorem relation_dl1 {c : List Int} (hc : bytesP c) (N : Nat) (hN : N ≤ 10) (P : Int × List Int → Prop) (r : Nat) (rows : List Int) (hr : rows.length = r) (hrN : r < N) (B : Int) (d : Nat) : ∀ (j : Nat) (x a s : Int), j + d = N → setP x → (∀ m, bit x m = true → m < j) → 0 ≤ a → a + 2 * d ≤ B → B ≤ 1000000000 →
    (∀ y a s, setP y → (∀ m, bit y m = true → m < N) → 0 ≤ a → a ≤ B → ∃ m L a' s', Ev (fun k => spec_l1Cur_relation.l0 k c a s N (rows ++ [y])) (m, L, a', s') ∧ P (m, L) ∧ a ≤ a' ∧ a' ≤ a + 20 * (N - (r + 1))) →
    ∃ m L a' s', Ev (fun k => spec_l1Cur_relation.l1 k x (j : Int) c a s N rows) (m, L, a', s') ∧ P (m, L) ∧ a ≤ a' ∧ a' ≤ a + 2 * d + 20 * (N - (r + 1)) := by
  induction d with
  | zero =>
    intro j x a s hj hx hb h0 h1 hB hR
    obtain ⟨m, L, a', s', he, hP, h2, h3⟩ := hR x a s hx (fun m hm => by have := hb m hm; omega) h0 (by omega)
    refine ⟨m, L, a', s', Ev.shift ?_, hP, h2, by omega⟩
    simp only [spec_l1Cur_relation.l1]
    exact Ev.neg (by omega) (Ev.pos (by omega) he)
  | succ d ih =>
    intro j x a s hj hx hb h0 h1 hB hR
    obtain ⟨b, a1, s1, e, _, h2, h3⟩ := one_d hc (a := a) s 4 h0 (by omega) (by omega)
    by_cases hbt : b = true
    · have hs := set_shl (j := j) (by omega)
      have ho := set_or hx hs.1
      obtain ⟨m, L, a', s', he, hP, h4, h5⟩ := ih (j + 1) _ a1 s1 (by omega) ho.1 (fun m hm => by
        rw [ho.2, hs.2] at hm
        simp only [Bool.or_eq_true, decide_eq_true_eq] at hm
        rcases hm with hm | hm
        · have := hb m hm; omega
        · omega) (by omega) (by omega) hB hR
      refine ⟨m, L, a', s', Ev.shift ?_, hP, by omega, by omega⟩
      simp only [spec_l1Cur_relation.l1]
      refine Ev.pos (by omega) (Ev.bindc e (Ev.pos hbt (Ev.pos (by omega) ?_)))
      rw [wrap64_id (by omega) (by omega), cast1]; exact he
    · obtain ⟨m, L, a', s', he, hP, h4, h5⟩ := ih (j + 1) x a1 s1 (by omega) hx (fun m hm => by have := hb m hm; omega) (by omega) (by omega) hB hR
      refine ⟨m, L, a', s', Ev.shift ?_, hP, by omega, by omega⟩
      simp only [spec_l1Cur_relation.l1]
      refine Ev.pos (by omega) (Ev.bindc e (Ev.neg hbt ?_))
      rw [wrap64_id (by omega) (by omega), cast1]; exact he
theorem relation_dl0 {c : List Int} (hc : bytesP c) (N : Nat) (hN : N ≤ 10) (d : Nat) : ∀ (rows : List Int) (a s : Int), rows.length + d = N → (∀ y ∈ rows, 0 ≤ y ∧ y ≤ full (N : Int)) → 0 ≤ a → a + 20 * d ≤ 100000000 →
    ∃ m L a' s', Ev (fun k => spec_l1Cur_relation.l0 k c a s N rows) (m, L, a', s') ∧ (m = N ∧ relP m L) ∧ a ≤ a' ∧ a' ≤ a + 20 * d := by
  induction d with
  | zero =>
    intro rows a s hl hr h0 h1
    refine ⟨N, rows, a, s, Ev.shift ?_, ⟨rfl, ⟨by omega, by omega⟩, by omega, hr⟩, by omega, by omega⟩
    simp only [spec_l1Cur_relation.l0]
    exact Ev.neg (by omega) (Ev.ret rfl)
  | succ d ih =>
    intro rows a s hl hr h0 h1
    obtain ⟨m, L, a', s', he, hP, h2, h3⟩ := relation_dl1 hc N hN (fun z => z.1 = N ∧ relP z.1 z.2) rows.length rows rfl (by omega) (a + 2 * N) N 0 0 a s (by omega) set_zero (fun m hm => by rw [bit_zero] at hm; cases hm) h0 (by omega) (by omega)
      (fun y a2 s2 hy hyb h4 h5 => by
        obtain ⟨m, L, a', s', he, hP, h6, h7⟩ := ih (rows ++ [y]) a2 s2 (by simp; omega) (fun z hz => by
          rcases List.mem_append.1 hz with hz | hz
          · exact hr z hz
          · rw [List.mem_singleton] at hz; subst hz; exact setP_full hN hy hyb) h4 (by omega)
        exact ⟨m, L, a', s', he, hP, h6, by omega⟩)
    refine ⟨m, L, a', s', Ev.shift ?_, hP, h2, by omega⟩
    simp only [spec_l1Cur_relation.l0]
    exact Ev.pos (by omega) he
theorem relation_d {c : List Int} (hc : bytesP c) {a : Int} (s most : Int) (h0 : 0 ≤ a) (h1 : a ≤ 10000000) (hm : 0 ≤ most ∧ most ≤ 10) : Dro (fun k => spec_l1Cur_relation.f k c a s most) (relW most) a 300 := by
  unfold spec_l1Cur_relation.f
  rw [wrap64_id (by omega) (by omega)]
  obtain ⟨n, a1, s1, e, hn, h2, h3⟩ := pick_d hc s (most + 1) h0 (by omega) (by omega)
  obtain ⟨N, rfl⟩ : ∃ N : Nat, n = N := ⟨n.toNat, by omega⟩
  obtain ⟨m, L, a', s', he, ⟨rfl, hP⟩, h4, h5⟩ := relation_dl0 hc N (by omega) N [] a1 s1 (by simp) (fun y hy => by cases hy) (by omega) (by omega)
  exact ⟨_, L, a', s', Ev.bindc e he, ⟨hP, by dsimp only; omega⟩, by omega, by omega⟩

end Go.Proofs.YteechpappfagpaaDoor.Pure

namespace Go.Proofs.YteechpappfagpaaDoor.Pure
open Go.RowKit Go.Proofs.YteechpappfagpaaDoor.Q Go.Proofs.YteechpappfagpaaDoorW.PrintWords Go.Proofs.YteechpappfagpaaDoorW.PrintLast
set_option linter.unusedVariables false
set_option linter.unusedSimpArgs false

-- drawn orders
theorem wrap_s (j : Nat) (h : j < 1000000) : wrap64 ((j : Int) + 1) = ((j + 1 : Nat) : Int) := by rw [wrap64_id (by omega) (by omega), cast1]
theorem relP_orb {n : Int} {L : List Int} (h : relP n L) {i j : Nat} (hi : i < L.length) (hj : j < L.length) : relP n (L.set i (Go.bits .or .i64 (rd L (i : Int)) (shl .i64 1 (j : Int)))) := by
  have h10 : L.length ≤ 10 := by have := h.1; have := h.2.1; omega
  have hs := set_shl (j := j) (by omega)
  have ho := set_or (h.set hi) hs.1
  refine relP_of_rows h (by simp) (fun a ha => ?_) (fun a b ha hb => ?_)
  · rw [set_rd L i _ hi a]
    split
    · exact ho.1
    · exact h.set ha
  · unfold lt at hb
    rw [set_rd L i _ hi a] at hb
    split at hb
    · rw [ho.2, hs.2] at hb
      simp only [Bool.or_eq_true, decide_eq_true_eq] at hb
      rcases hb with hb | hb
      · exact h.lt_len hi hb
      · omega
    · exact h.lt_len ha hb
theorem relP_zero (N : Nat) (hN : N ≤ 10) : relP (N : Int) (List.replicate N 0) := by
  refine ⟨⟨by omega, by omega⟩, by simp, fun x hx => ?_⟩
  rw [(List.mem_replicate.1 hx).2, full_pow hN]
  have : (0 : Int) < 2 ^ N := Int.pow_pos (by omega)
  omega
/-- what an order's drawing answers -/
def OrdR (g : Nat → Option (Int × List Int × Int × Int)) (N : Nat) (a n : Int) : Prop := ∃ L a' s', Ev g ((N : Int), L, a', s') ∧ relP (N : Int) L ∧ a ≤ a' ∧ a' ≤ a + n
theorem order_dl2 {c : List Int} (hc : bytesP c) (N : Nat) (hN : N ≤ 10) (kind : Int) (hk : 0 ≤ kind) (left right : List Int) (hl : left.length = N) (hr : right.length = N) (i : Nat) (hi : i < N) (B n : Int) (hB : B ≤ 100000000) (d : Nat) : ∀ (j : Nat) (L : List Int) (a s : Int), j + d = N → relP (N : Int) L → 0 ≤ a → a + 2 * d ≤ B →
    (∀ L a s, relP (N : Int) L → 0 ≤ a → a ≤ B → OrdR (fun k => spec_l1Cur_order.l1 k N kind left right ((i + 1 : Nat) : Int) c a s N L) N a n) → OrdR (fun k => spec_l1Cur_order.l2 k N kind left right (i : Int) (j : Int) c a s N L) N a (n + 2 * d) := by
  induction d with
  | zero =>
    intro j L a s hj hL h0 h1 hR
    obtain ⟨L', a', s', he, hP, h2, h3⟩ := hR L a s hL h0 (by omega)
    refine ⟨L', a', s', Ev.shift ?_, hP, h2, by omega⟩
    simp only [spec_l1Cur_order.l2]
    refine Ev.neg (by omega) ?_
    rw [wrap64_id (by omega) (by omega), cast1]; exact he
  | succ d ih =>
    intro j L a s hj hL h0 h1 hR
    have hll : L.length = N := by have := hL.2.1; omega
    have keep : OrdR (fun k => spec_l1Cur_order.l2 k N kind left right (i : Int) ((j + 1 : Nat) : Int) c a s N L) N a (n + 2 * d) := ih (j + 1) L a s (by omega) hL h0 (by omega) hR
    have put : OrdR (fun k => spec_l1Cur_order.l2 k N kind left right (i : Int) ((j + 1 : Nat) : Int) c a s N (L.set i (Go.bits .or .i64 (rd L (i : Int)) (shl .i64 1 (j : Int))))) N a (n + 2 * d) := ih (j + 1) _ a s (by omega) (relP_orb hL (by omega) (by omega)) h0 (by omega) hR
    have f1 : (j : Int) < N := by omega
    have f2 : 0 ≤ (i : Int) := by omega
    have f3 : (i : Int) < (right.length : Int) := by omega
    have f4 : 0 ≤ (j : Int) := by omega
    have f5 : (j : Int) < (left.length : Int) := by omega
    have f6 : (i : Int) < (L.length : Int) := by omega
    by_cases h2 : kind > 0
    · have k0 : ¬ kind = 0 := by omega
      by_cases h3 : rd right (i : Int) < rd left (j : Int)
      · obtain ⟨L', a', s', he, hP, h4, h5⟩ := put
        refine ⟨L', a', s', Ev.shift ?_, hP, h4, by omega⟩
        simp only [spec_l1Cur_order.l2]
        refine Ev.pos f1 (Ev.pos h2 (Ev.pos f2 (Ev.pos f3 (Ev.pos f4 (Ev.pos f5 (Ev.pos h3 (Ev.pos f6 ?_)))))))
        rw [wrap_s j (by omega), Int.toNat_natCast]; exact he
      · obtain ⟨L', a', s', he, hP, h4, h5⟩ := keep
        refine ⟨L', a', s', Ev.shift ?_, hP, h4, by omega⟩
        simp only [spec_l1Cur_order.l2]
        refine Ev.pos f1 (Ev.pos h2 (Ev.pos f2 (Ev.pos f3 (Ev.pos f4 (Ev.pos f5 (Ev.neg h3 (Ev.neg k0 ?_)))))))
        rw [wrap_s j (by omega)]; exact he
    · have k0 : kind = 0 := by omega
      by_cases h3 : (i : Int) < (j : Int)
      · obtain ⟨b, a1, s1, e, _, h4, h5⟩ := one_d hc (a := a) s 3 h0 (by omega) (by omega)
        by_cases hb : b = true
        · obtain ⟨L', a', s', he, hP, h6, h7⟩ := ih (j + 1) _ a1 s1 (by omega) (relP_orb hL (i := i) (j := j) (by omega) (by omega)) (by omega) (by omega) hR
          refine ⟨L', a', s', Ev.shift ?_, hP, by omega, by omega⟩
          simp only [spec_l1Cur_order.l2]
          refine Ev.pos f1 (Ev.neg h2 (Ev.pos k0 (Ev.pos h3 (Ev.bindc e (Ev.pos hb (Ev.pos f2 (Ev.pos f6 (Ev.pos f4 ?_))))))))
          rw [wrap_s j (by omega), Int.toNat_natCast]; exact he
        · obtain ⟨L', a', s', he, hP, h6, h7⟩ := ih (j + 1) L a1 s1 (by omega) hL (by omega) (by omega) hR
          refine ⟨L', a', s', Ev.shift ?_, hP, by omega, by omega⟩
          simp only [spec_l1Cur_order.l2]
          refine Ev.pos f1 (Ev.neg h2 (Ev.pos k0 (Ev.pos h3 (Ev.bindc e (Ev.neg hb ?_)))))
          rw [wrap_s j (by omega)]; exact he
      · obtain ⟨L', a', s', he, hP, h4, h5⟩ := keep
        refine ⟨L', a', s', Ev.shift ?_, hP, h4, by omega⟩
        simp only [spec_l1Cur_order.l2]
        refine Ev.pos f1 (Ev.neg h2 (Ev.pos k0 (Ev.neg h3 ?_)))
        rw [wrap_s j (by omega)]; exact he
theorem order_dl1 {c : List Int} (hc : bytesP c) (N : Nat) (hN : N ≤ 10) (kind : Int) (hk : 0 ≤ kind) (left right : List Int) (hl : left.length = N) (hr : right.length = N) (d : Nat) : ∀ (i : Nat) (L : List Int) (a s : Int), i + d = N → relP (N : Int) L → 0 ≤ a → a + 20 * d ≤ 10000000 →
    OrdR (fun k => spec_l1Cur_order.l1 k N kind left right (i : Int) c a s N L) N a (20 * d) := by
  induction d with
  | zero =>
    intro i L a s hi hL h0 h1
    by_cases h2 : kind > 0
    · refine ⟨L, a, s, Ev.shift ?_, hL, by omega, by omega⟩
      simp only [spec_l1Cur_order.l1]
      exact Ev.neg (by omega) (Ev.pos h2 (Ev.ret rfl))
    · refine ⟨clo L, a, s, Ev.shift ?_, clo_relP hL, by omega, by omega⟩
      simp only [spec_l1Cur_order.l1]
      exact Ev.neg (by omega) (Ev.neg h2 (Ev.bind (sCloseRelation_ev hL) (Ev.ret rfl)))
  | succ d ih =>
    intro i L a s hi hL h0 h1
    obtain ⟨L', a', s', he, hP, h2, h3⟩ := order_dl2 hc N hN kind hk left right hl hr i (by omega) (a + 2 * N) (20 * d) (by omega) N 0 L a s (by omega) hL h0 (by omega) (fun L a2 s hL h4 h5 => ih (i + 1) L a2 s (by omega) hL h4 (by omega))
    refine ⟨L', a', s', Ev.shift ?_, hP, h2, by omega⟩
    simp only [spec_l1Cur_order.l1]
    exact Ev.pos (by omega) he
theorem order_dl0 {c : List Int} (hc : bytesP c) (N : Nat) (hN : N ≤ 10) (kind : Int) (hk : 0 ≤ kind) (L : List Int) (hL : relP (N : Int) L) (d : Nat) : ∀ (left right : List Int) (a s : Int), left.length + d = N → right.length + d = N → 0 ≤ a → a + 4 * d ≤ 1000000 →
    OrdR (fun k => spec_l1Cur_order.l0 k N kind left right (left.length : Int) c a s N L) N a (4 * d + 20 * N) := by
  induction d with
  | zero =>
    intro left right a s hl hr h0 h1
    obtain ⟨L', a', s', he, hP, h2, h3⟩ := order_dl1 hc N hN kind hk left right (by omega) (by omega) N 0 L a s (by omega) hL h0 (by omega)
    refine ⟨L', a', s', Ev.shift ?_, hP, h2, by omega⟩
    simp only [spec_l1Cur_order.l0]
    exact Ev.neg (by omega) he
  | succ d ih =>
    intro left right a s hl hr h0 h1
    obtain ⟨x, a1, s1, e, hx, h2, h3⟩ := pick_d hc (a := a) s 8 h0 (by omega) (by omega)
    have hll : left.length < 1000000 := by omega
    by_cases h4 : kind = 1
    · obtain ⟨y, a2, s2, e2, hy, h5, h6⟩ := pick_d hc (a := a1) s1 4 (by omega) (by omega) (by omega)
      obtain ⟨L', a', s', he, hP, h7, h8⟩ := ih (left ++ [x]) (right ++ [wrap64 (x + y)]) a2 s2 (by simp; omega) (by simp; omega) (by omega) (by omega)
      refine ⟨L', a', s', Ev.shift ?_, hP, by omega, by omega⟩
      simp only [spec_l1Cur_order.l0]
      refine Ev.pos (by omega) (Ev.bindc e (Ev.pos (by omega) (Ev.bindc rfl (Ev.pos h4 (Ev.bindc e2 (Ev.pos (by omega) ?_))))))
      rw [wrap_s _ hll]; simpa using he
    · obtain ⟨L', a', s', he, hP, h7, h8⟩ := ih (left ++ [x]) (right ++ [wrap64 (x + 2)]) a1 s1 (by simp; omega) (by simp; omega) (by omega) (by omega)
      refine ⟨L', a', s', Ev.shift ?_, hP, by omega, by omega⟩
      simp only [spec_l1Cur_order.l0]
      refine Ev.pos (by omega) (Ev.bindc e (Ev.pos (by omega) (Ev.bindc rfl (Ev.neg h4 (Ev.pos (by omega) ?_)))))
      rw [wrap_s _ hll]; simpa using he
theorem order_d {c : List Int} (hc : bytesP c) {a : Int} (s most : Int) (h0 : 0 ≤ a) (h1 : a ≤ 100000) (hm : 0 ≤ most ∧ most ≤ 10) : Dro (fun k => spec_l1Cur_order.f k c a s most) (relW most) a 300 := by
  unfold spec_l1Cur_order.f
  rw [wrap64_id (by omega) (by omega)]
  obtain ⟨n, a1, s1, e, hn, h2, h3⟩ := pick_d hc s (most + 1) h0 (by omega) (by omega)
  obtain ⟨N, rfl⟩ : ∃ N : Nat, n = N := ⟨n.toNat, by omega⟩
  obtain ⟨kind, a2, s2, e2, hk, h4, h5⟩ := pick_d hc (a := a1) s1 3 (by omega) (by omega) (by omega)
  obtain ⟨L, a', s', he, hP, h6, h7⟩ := order_dl0 hc N (by omega) kind hk.1 (List.replicate N 0) (relP_zero N (by omega)) N [] [] a2 s2 (by simp) (by simp) (by omega) (by omega)
  refine ⟨(N : Int), L, a', s', Ev.bindc e (Ev.pos (by dsimp only; omega) (Ev.pos (by dsimp only; omega) (Ev.bindc e2 ?_))), ⟨hP, show (N : Int) ≤ most by omega⟩, by omega, by omega⟩
  simpa using he
/-- an order, or something near one: short, of small numbers -/
def nearW (x : Int × List Int) : Prop := (-1 ≤ x.1 ∧ x.1 ≤ 11) ∧ x.2.length ≤ 10 ∧ ∀ y ∈ x.2, -1 ≤ y ∧ y ≤ 1024
theorem relW.near {most : Int} {x : Int × List Int} (h : relW most x) : nearW x := by
  obtain ⟨⟨h1, h2, h3⟩, _⟩ := h
  refine ⟨by omega, by omega, fun y hy => ?_⟩
  have := h3 y hy
  obtain ⟨N, e⟩ : ∃ N : Nat, x.1 = N := ⟨x.1.toNat, by omega⟩
  rw [e] at this
  have := full_1023 (n := N) (by omega)
  omega
theorem shl_small : ∀ n : Fin 11, 1 ≤ shl .i64 1 (n.val : Int) ∧ shl .i64 1 (n.val : Int) ≤ 1024 := by decide +kernel
theorem anyOrder_d {c : List Int} (hc : bytesP c) {a : Int} (s most : Int) (h0 : 0 ≤ a) (h1 : a ≤ 90000) (hm : 0 ≤ most ∧ most ≤ 10) : Dro (fun k => spec_l1Cur_anyOrder.f k c a s most) nearW a 700 := by
  unfold spec_l1Cur_anyOrder.f
  obtain ⟨n, L, a1, s1, e1, hP, h2, h3⟩ := order_d hc s most h0 (by omega) hm
  obtain ⟨w, a2, s2, e2, hw, h4, h5⟩ := pick_d hc (a := a1) s1 14 (by omega) (by omega) (by omega)
  by_cases w0 : w = 0
  · obtain ⟨m, M, a3, s3, e3, hQ, h6, h7⟩ := relation_d hc (a := a2) s2 most (by omega) (by omega) hm
    exact ⟨m, M, a3, s3, Ev.bind e1 (Ev.bindc e2 (Ev.pos w0 (Ev.bind e3 (Ev.ret rfl)))), hQ.near, by omega, by omega⟩
  by_cases w1 : w = 1
  · obtain ⟨z, a3, s3, e3, hz, h6, h7⟩ := among_d hc (a := a2) s2 [(-1), 0, 10, 11] (by omega) (by omega) (by simp)
    refine ⟨z, L, a3, s3, Ev.bind e1 (Ev.bindc e2 (Ev.neg w0 (Ev.pos w1 (Ev.bindc e3 (Ev.ret rfl))))), ⟨?_, hP.near.2⟩, by omega, by omega⟩
    simp at hz; dsimp only; omega
  by_cases w2 : w = 2
  · by_cases hl : (L.length : Int) > 0
    · obtain ⟨i, a3, s3, e3, hi, h6, h7⟩ := pick_d hc (a := a2) s2 (L.length : Int) (by omega) (by omega) (by omega)
      obtain ⟨z, a4, s4, e4, hz, h8, h9⟩ := among_d hc (a := a3) s3 [(-1), 0, 1, shl .i64 1 n] (by omega) (by omega) (by simp)
      have hn := hP.1.1
      refine ⟨n, L.set i.toNat z, a4, s4, Ev.bind e1 (Ev.bindc e2 (Ev.neg w0 (Ev.neg w1 (Ev.pos w2 (Ev.pos hl (Ev.bindc e3 (Ev.pos hn.1 (Ev.bindc e4 (Ev.pos hi.1 (Ev.pos hi.2 (Ev.ret rfl))))))))))), ⟨hP.near.1, by simpa using hP.near.2.1, fun y hy => ?_⟩, by omega, by omega⟩
      rcases List.mem_or_eq_of_mem_set hy with hy | hy
      · exact hP.near.2.2 y hy
      · subst hy
        obtain ⟨N, e⟩ : ∃ N : Nat, n = N := ⟨n.toNat, by have := hn.1; dsimp only at this; omega⟩
        have := shl_small ⟨N, by have := hn.2; dsimp only at this; omega⟩
        rw [← e] at this
        simp at hz; omega
    · exact ⟨n, L, a2, s2, Ev.bind e1 (Ev.bindc e2 (Ev.neg w0 (Ev.neg w1 (Ev.pos w2 (Ev.neg hl (Ev.ret rfl)))))), hP.near, by omega, by omega⟩
  by_cases w3 : w = 3
  · obtain ⟨m, M, a3, s3, e3, hQ, h6, h7⟩ := order_d hc (a := a2) s2 10 (by omega) (by omega) ⟨by omega, by omega⟩
    exact ⟨m, M, a3, s3, Ev.bind e1 (Ev.bindc e2 (Ev.neg w0 (Ev.neg w1 (Ev.neg w2 (Ev.pos w3 (Ev.bind e3 (Ev.ret rfl))))))), hQ.near, by omega, by omega⟩
  · exact ⟨n, L, a2, s2, Ev.bind e1 (Ev.bindc e2 (Ev.neg w0 (Ev.neg w1 (Ev.neg w2 (Ev.neg w3 (Ev.ret rfl)))))), hP.near, by omega, by omega⟩

end Go.Proofs.YteechpappfagpaaDoor.Pure

namespace Go.Proofs.YteechpappfagpaaDoor.Pure
open Go.RowKit Go.Proofs.YteechpappfagpaaDoor.Q Go.Proofs.YteechpappfagpaaDoorW.PrintWords Go.Proofs.YteechpappfagpaaDoorW.PrintLast
set_option linter.unusedVariables false
set_option linter.unusedSimpArgs false

-- the statements' own comparisons
theorem pIn_all : ∀ x : Fin 1024, ∀ j : Fin 10, laws_pIn.f (x.val : Int) (j.val : Int) = some (bit (x.val : Int) j.val) := by decide +kernel
theorem pIn_f {x : Int} (h0 : 0 ≤ x) (h1 : x < 1024) {j : Nat} (hj : j < 10) : laws_pIn.f x (j : Int) = some (bit x j) := by
  obtain ⟨m, rfl⟩ : ∃ m : Nat, x = m := ⟨x.toNat, by omega⟩
  exact pIn_all ⟨m, by omega⟩ ⟨j, hj⟩
theorem pSame_l (l m : List Int) (hlm : l.length = m.length) (hl : l.length ≤ 1048576) (d : Nat) : ∀ i : Nat, i + d = l.length → Ev (fun k => laws_pSame.l0 k l m (l.length : Int) (i : Int)) (l.drop i == m.drop i) := by
  induction d with
  | zero =>
    intro i hi
    refine Ev.shift ?_
    simp only [laws_pSame.l0]
    refine Ev.neg (by omega) (Ev.ret ?_)
    rw [List.drop_of_length_le (by omega), List.drop_of_length_le (by omega)]; rfl
  | succ d ih =>
    intro i hi
    have e := ih (i + 1) (by omega)
    have f1 : (i : Int) < l.length := by omega
    have f2 : (i : Int) < m.length := by omega
    refine Ev.shift ?_
    simp only [laws_pSame.l0]
    refine Ev.pos f1 (Ev.pos (by omega) (Ev.pos f1 (Ev.pos f2 ?_)))
    rw [wrap64_id (by omega) (by omega), cast1, drop_rd l i (by omega), drop_rd m i (by omega)]
    by_cases hc : rd l (i : Int) = rd m (i : Int)
    · refine Ev.pos hc (Ev.eq e ?_)
      rw [hc]; simp
    · refine Ev.neg hc (Ev.ret ?_)
      symm; rw [beq_eq_false_iff_ne]; intro h; exact hc (List.cons.inj h).1
theorem pSame_ev (l m : List Int) (hl : l.length ≤ 1048576) : Ev (fun k => laws_pSame.f k l m) (l == m) := by
  unfold laws_pSame.f
  by_cases h : (l.length : Int) = m.length
  · refine Ev.pos h ?_
    simpa using pSame_l l m (by omega) hl l.length 0 (by omega)
  · refine Ev.neg h (Ev.ret ?_)
    symm; rw [beq_eq_false_iff_ne]; intro e; exact h (by rw [e])
theorem pSameOrder_ev (n : Int) (l : List Int) (n' : Int) (m : List Int) (hl : l.length ≤ 1048576) : Ev (fun k => laws_pSameOrder.f k n l n' m) (decide (n = n') && (l == m)) := by
  unfold laws_pSameOrder.f
  by_cases h : n = n'
  · exact Ev.pos h (Ev.bind (pSame_ev l m hl) (Ev.ret (by simp [h])))
  · exact Ev.neg h (Ev.ret (by simp [h]))
theorem pSameOrder_self (n : Int) (l : List Int) (hl : l.length ≤ 1048576) : Ev (fun k => laws_pSameOrder.f k n l n l) true := Ev.eq (pSameOrder_ev n l n l hl) (by simp)

end Go.Proofs.YteechpappfagpaaDoor.Pure

-- printed by this project's own program (wip/mp/mp.py) over the kit's print, for this seat; Lean checks it
namespace Go.Proofs.YteechpappfagpaaDoor.Q
open Go.RowKit Go.Proofs.YteechpappfagpaaDoorW.PrintWords Go.Proofs.YteechpappfagpaaDoorW.PrintLast Go.Proofs.YteechpappfagpaaDoorW.PrintMore
attribute [local go_sem] max2_int min2_int max_two min_two max_three min_three max_four min_four   -- for this text's walks alone
set_option linter.unusedVariables false
set_option maxHeartbeats 8000000
set_option maxRecDepth 100000
set_option linter.unusedSimpArgs false

/-! ### spec_orFree: function 95 -/
def spec_orFree.f (k : Nat) (a0_0 : Int) (l0_1 : List Int) (a1 : Int) : Option (Int) := if 0 ≤ a0_0 then (if 0 ≤ a1 then (if a1 < (l0_1.length : Int) then ((spec_orBelow.f k a0_0 l0_1 a1).bind fun t384 => (some (Go.bits .andNot .i64 (wrap64 ((shl .i64 1 a0_0) - 1)) (Go.bits .or .i64 (Go.bits .or .i64 (rd l0_1 a1) t384) (shl .i64 1 a1))))) else (none)) else (none)) else (none)
theorem spec_orFree.mono : ∀ a0 a1 a2 k, LeO (spec_orFree.f k a0 a1 a2) (spec_orFree.f (k + 1) a0 a1 a2) := by
 intro a0 a1 a2 k
 unfold spec_orFree.f
 repeat' (with_reducible first|exact spec_orBelow.mono _ _ _ _|exact LeO.refl _|exact LeO.none _|refine LeO.ite ?_ ?_|refine LeO.bind ?_ (fun _ => ?_))
def spec_orFree.T1 : Bool × List (List Nat × List Nat) := (true, [([], []), ([0], [0]), ([1], [1]), ([2], [2]), ([], []), ([4], [4]), ([], []), ([5, 6], [5, 6]), ([7], [7]), ([], []), ([], []), ([9, 10], [9, 10]), ([8, 11], [8, 11]), ([], []), ([13], [13]), ([12, 14], [12, 14]), ([3, 15], [3, 15]), ([16, 11, 0, 1, 2, 3, 4, 5, 6, 7, 8, 9, 10, 11, 12, 13, 14, 15, 16], [16])])
def spec_orFree.B1 : List Nat := [0, 1, 3, 7, 0, 16, 0, 112, 240, 0, 0, 1536, 4080, 0, 8192, 32752, 65535, 131071]
theorem spec_orFree.tab1 : rtab .any (opsOf Tryd.f95 1) = spec_orFree.T1 := by kernel_rfl
theorem spec_orFree.bits1 : waitsOk spec_orFree.T1.2 spec_orFree.B1 = true := by kernel_rfl
theorem spec_orFree.calls (k : Nat) (a0_0 : Int) (A0_1 : Option Addr) (c0_1 : Nat) (l0_1 : List Int) (a1 : Int) (r : Int) (w : World) (hr0_1 : Kd.C (Kd.int .i64) w A0_1 l0_1.length l0_1) (hc0_1 : l0_1.length ≤ c0_1) (h : spec_orFree.f k a0_0 l0_1 a1 = some r) :
  Calls Tryd.prog 95 #[.agg #[.int .i64 a0_0, .slice A0_1 l0_1.length c0_1], .int .i64 a1] w fun e w' => e = .returned (.int .i64 r) ∧ Below w.heap.size w w' := by
 have hu28 := Tryd.underlying28
 have HR0_1 := Aside0.mk hr0_1
 have HC0_1 := Aside0.mk hc0_1
 clear hr0_1 hc0_1
 have HB := Aside0.mk (Below.refl w.heap.size w)
 have H : (if 0 ≤ a0_0 then (if 0 ≤ a1 then (if a1 < (l0_1.length : Int) then ((spec_orBelow.f k a0_0 l0_1 a1).bind fun t384 => (some (Go.bits .andNot .i64 (wrap64 ((shl .i64 1 a0_0) - 1)) (Go.bits .or .i64 (Go.bits .or .i64 (rd l0_1 a1) t384) (shl .i64 1 a1))))) else (none)) else (none)) else (none)) = some r := h
 clear h
 rcases iteP H with ⟨c3, H⟩ | ⟨c3, H⟩
 ·have c3b0 := eq_true c3
  have c3b1 : decide (0 ≤ a0_0) = true := decide_eq_true c3
  clear c3
  obtain ⟨ji4, hji4⟩ : ∃ j_ : Int, (shl .i64 1 a0_0) = j_ := ⟨_, rfl⟩
  replace H : (if 0 ≤ a1 then (if a1 < (l0_1.length : Int) then ((spec_orBelow.f k a0_0 l0_1 a1).bind fun t384 => (some (Go.bits .andNot .i64 (wrap64 ((ji4) - 1)) (Go.bits .or .i64 (Go.bits .or .i64 (rd l0_1 a1) t384) (shl .i64 1 a1))))) else (none)) else (none)) = some r := by first | (rw [hji4] at H; exact H) | (simp only [hji4] at H ⊢; exact H)
  have hji4_ : (IntKind.i64.wrap (1 * 2 ^ min a0_0.toNat 64)) = ji4 := hji4
  have hji4z : a0_0 ≤ 64 → (IntKind.i64.wrap (1 * 2 ^ a0_0.toNat)) = ji4 := shl_small hji4
  have hji4u : (IntKind.i64.wrap (2 ^ min a0_0.toNat 64)) = ji4 := by have h_ := hji4_; rw [Int.one_mul] at h_; exact h_
  have hji4v : a0_0 ≤ 64 → (IntKind.i64.wrap (2 ^ a0_0.toNat)) = ji4 := fun hle_ => by have h_ := hji4z hle_; rw [Int.one_mul] at h_; exact h_
  have hji4y : (wrap64 (1 * 2 ^ min a0_0.toNat 64)) = ji4 := (i64_w _).symm.trans hji4_
  have hji4x : a0_0 ≤ 64 → (wrap64 (1 * 2 ^ a0_0.toNat)) = ji4 := fun h_ => (i64_w _).symm.trans (hji4z h_)
  rcases iteP H with ⟨c5, H⟩ | ⟨c5, H⟩
  ·have c5b0 : decide (0 ≤ a1) = true := decide_eq_true c5
   clear c5
   rcases iteP H with ⟨c6, H⟩ | ⟨c6, H⟩
   ·have c6b0 : decide (a1 < (l0_1.length : Int)) = true := decide_eq_true c6
    clear c6
    obtain ⟨t384, A7, H⟩ := obE H
    have c8b0 := eq_true (ofd : 0 ≤ a1)
    obtain ⟨ji9, hji9⟩ : ∃ j_ : Int, (shl .i64 1 a1) = j_ := ⟨_, rfl⟩
    replace H : (some (Go.bits .andNot .i64 (wrap64 ((ji4) - 1)) (Go.bits .or .i64 (Go.bits .or .i64 (rd l0_1 a1) t384) (ji9)))) = some r := by first | (rw [hji9] at H; exact H) | (simp only [hji9] at H ⊢; exact H)
    (try rw [hji9] at A7)
    have hji9_ : (IntKind.i64.wrap (1 * 2 ^ min a1.toNat 64)) = ji9 := hji9
    have hji9z : a1 ≤ 64 → (IntKind.i64.wrap (1 * 2 ^ a1.toNat)) = ji9 := shl_small hji9
    have hji9u : (IntKind.i64.wrap (2 ^ min a1.toNat 64)) = ji9 := by have h_ := hji9_; rw [Int.one_mul] at h_; exact h_
    have hji9v : a1 ≤ 64 → (IntKind.i64.wrap (2 ^ a1.toNat)) = ji9 := fun hle_ => by have h_ := hji9z hle_; rw [Int.one_mul] at h_; exact h_
    have hji9y : (wrap64 (1 * 2 ^ min a1.toNat 64)) = ji9 := (i64_w _).symm.trans hji9_
    have hji9x : a1 ≤ 64 → (wrap64 (1 * 2 ^ a1.toNat)) = ji9 := fun h_ => (i64_w _).symm.trans (hji9z h_)
    obtain rfl := Option.some.inj H
    go_enter Tryd.func95, Tryd.ntmps95
    try go_wp2_with (first | ((with_reducible refine gate_dst (N := 2) rfl ?_); refine boxE (N := 2) (cs := #[.int .i64 a0_0, .slice A0_1 l0_1.length c0_1]) (t := 28) ?_; intro gb382 hg w10 hbox hb; have BK382 := Aside0.mk (hbox); have GE382 := geB HB hg; replace HB := bst HB hb; clear hb hbox hg))
    replace BK382 := Aside0.mk (blk_drew BK382.out)
    replace HB := Aside0.mk (below_drew1 HB.out)
    have p383 : 0 ≤ (a1 : Int) := ofd
    have q383 : a1 < (l0_1.length : Int) := ofd
    obtain ⟨ad383, e383, hx383_0⟩ := Kd.at_int HR0_1.out a1 p383 q383
    have hw383_0 := hx383_0
    cases e383
    replace hx383_0 := (HB.out.cell (World.block_lt_of_cell? w _ hx383_0)).trans hx383_0
    replace p383 := eq_true p383
    replace q383 := eq_true q383
    refine start_ (n := 18) (S := fun w' => w'.cell? ⟨gb382, 0, none⟩ = some (.int .i64 a0_0) ∧ w'.cell? ⟨gb382, 1, none⟩ = some (.slice (some ad383) l0_1.length c0_1) ∧ w'.cell? (ad383.add (a1).toNat) = some (.int .i64 (rd l0_1 a1))) (ds := []) (bm 18 0) (by kernel_rfl) rfl (by kernel_rfl) ⟨(blk_cell BK382.out 0).trans rfl, (blk_cell BK382.out 1).trans rfl, ((HB.out.cell (World.block_lt_of_cell? w _ hw383_0)).trans hw383_0)⟩ (fun hHeld => ?_); refine with_tabW spec_orFree.tab1 spec_orFree.bits1 (fun HT_ HW_ => ?_)
    generalize w10.drew = w11 at BK382 HB hx383_0 hHeld ⊢
    refine pureW 0 (some 5) (bm 18 1) HT_ ?_
    refine pureW 4 (some 9) (bm 18 17) HT_ ?_
    refine pureW 6 (some 11) (bm 18 81) HT_ ?_
    refine pureW 10 (some 15) (bm 18 1105) HT_ ?_
    refine pureW 13 (some 18) (bm 18 9297) HT_ ?_
    refine pureW 14 (some 19) (bm 18 25681) HT_ ?_
    refine takeW 1 (some 6) (bm 18 25683) HT_ HW_ hHeld ?_
    refine pureW 2 (some 7) (bm 18 25687) HT_ ?_
    refine pureW 3 (some 8) (bm 18 25695) HT_ ?_
    refine takeW 5 (some 10) (bm 18 25727) HT_ HW_ hHeld ?_
    refine pureW 7 (some 12) (bm 18 25855) HT_ ?_
    refine takeW 8 (some 13) (bm 18 26111) HT_ HW_ hHeld ?_
    refine takeW 9 (some 14) (bm 18 26623) HT_ HW_ hHeld ?_
    refine oneW 11 (some 16) (bm 18 28671) HT_ (fun K hK => ?_)
    refine goesR Tryd.func147 #[.agg #[.int .i64 a0_0, .slice (some ad383) l0_1.length c0_1], .int .i64 a1] ?_
    with_reducible refine (spec_orBelow.calls k a0_0 _ _ l0_1 a1 t384 _ ?side1 ?side2 A7.out).mono ?_
    (case side1 => exact C_g HR0_1 HB)
    (case side2 => exact HC0_1.out)
    rintro e w12 ⟨rfl, hb⟩
    refine ⟨_, rfl, ?_⟩
    replace BK382 := blkB BK382 hb
    replace HB := bst HB hb
    (try clear hb)
    (try clear hb2)
    (try clear hk)
    (try clear hi)
    refine hK.out _ _ ⟨(blk_cell BK382.out 0).trans rfl, (blk_cell BK382.out 1).trans rfl, ((HB.out.cell (World.block_lt_of_cell? w _ hw383_0)).trans hw383_0)⟩ (fun hHeld => ?_)
    clear hK K
    refine normW 16 ?_
    refine pureW 12 (some 17) (bm 18 32767) HT_ ?_
    refine pureW 15 (some 20) (bm 18 65535) HT_ ?_
    refine pureW 16 (some 21) (bm 18 131071) HT_ ?_
    refine pureW 17 (some 4) (bm 18 262143) HT_ ?_
    refine doneW HT_ ?_
    try go_wp2
    go_ret
    exact ⟨by first | rfl | (simp [errW_none, errW_some] <;> rfl) | (simp only [← hji4, ← hji9]; first | rfl | (simp [errW_none, errW_some] <;> rfl)) | (simp [*, errW_none, errW_some] <;> rfl), bel_g HB.out⟩
   ·exact absurd H (by simp)
  ·exact absurd H (by simp)
 ·exact absurd H (by simp)

end Go.Proofs.YteechpappfagpaaDoor.Q
