import Derived.Lib.SlicesCompact
import Derived.Lib.RowBridge
import Derived.Test.YtpphkeijklffgaaDoorBFnChainsAndAntichains26
namespace Go.Proofs.YtpphkeijklffgaaDoor.Pure
open Go.RowKit Go.Proofs.YtpphkeijklffgaaDoor.Q Go.Proofs.YtpphkeijklffgaaDoorW.PrintWords Go.Proofs.YtpphkeijklffgaaDoorW.PrintLast
set_option linter.unusedVariables false
set_option linter.unusedSimpArgs false
theorem below_l {n : Int} {L : List Int} (h : relP n L) (i : Nat) (hi : i < L.length) (d : Nat) : ∀ (j : Nat), j + d = L.length → Ev (fun k => spec_orBelow.l0 k (i : Int) (rowf (fun j => lt L j i) j) L (L.length : Int) (j : Int)) (rowf (fun j => lt L j i) L.length) := by
 have e1 := h.2.1
 have e3 := h.1
 induction d with
 | zero =>
  intro j hj
  refine Ev.shift ?_
  simp only [spec_orBelow.l0]
  exact Ev.neg (by omega) (Ev.ret (by rw [show j = L.length by omega]))
 | succ d ih =>
  intro j hj
  have := ih (j + 1) (by omega)
  rw [rowf_succ] at this
  refine Ev.shift ?_
  simp only [spec_orBelow.l0]
  refine Ev.pos (by omega) (Ev.pos (by omega) (Ev.pos (by omega) (Ev.bindc (orHas_f (h.set (i := j) (by omega)).1 (h.set (i := j) (by omega)).2 (by omega)) ?_)))
  rw [wrap64_id (by omega) (by omega), cast1]
  by_cases hb : bit (rd L (j : Int)) i = true
  ·rw [if_pos (show lt L j i = true from hb)] at this
   exact Ev.pos hb this
  ·rw [if_neg (show ¬ lt L j i = true from hb)] at this
   exact Ev.neg hb this
theorem below_ev {n : Int} {L : List Int} (h : relP n L) {i : Nat} (hi : i < L.length) : Ev (fun k => spec_orBelow.f k n L (i : Int)) (rowf (fun j => lt L j i) L.length) := by
 unfold spec_orBelow.f
 exact below_l h i hi L.length 0 (by omega)
theorem free_ev {n : Int} {L : List Int} (h : relP n L) {i : Nat} (hi : i < L.length) : Ev (fun k => spec_orFree.f k n L (i : Int)) (rowf (freeP L i) L.length) := by
 have e1 := h.2.1
 have e3 := h.1
 unfold spec_orFree.f
 refine Ev.pos h.1.1 (Ev.pos (by omega) (Ev.pos (by omega) (Ev.bind (below_ev h hi) (Ev.ret ?_))))
 have hf := set_full (n := L.length) (by omega)
 rw [e1] at hf
 have hb := rowf_bits (fun j => lt L j i) L.length (by omega)
 have o1 := set_or (h.set hi) hb.1
 have o2 := set_or o1.1 (set_shl (j := i) (by omega)).1
 have a1 := set_andNot hf.1 o2.1
 have hr := rowf_bits (freeP L i) L.length (by omega)
 refine set_ext a1.1 hr.1 (fun j hj => ?_)
 show bit (Go.bits .andNot .i64 (full n) _) j = _
 rw [a1.2, o2.2, o1.2, hb.2, hf.2, (set_shl (j := i) (by omega)).2, hr.2]
 unfold freeP lt
 by_cases hjn : j < L.length
 ·simp [hjn]
  try (cases bit (rd L (i : Int)) j <;> cases bit (rd L (j : Int)) i <;> simp)
 ·simp [hjn]
def dif (l : List Int) : List Int := Lib.compact (l.mergeSort fun x y => decide (x ≤ y))
theorem rising_ext : ∀ {a b : List Int}, a.Pairwise (· < ·) → b.Pairwise (· < ·) → (∀ x, x ∈ a ↔ x ∈ b) → a = b
 | [], [], _, _, _ => rfl
 | [], y :: b, _, _, h => by have := (h y).2 (by simp); simp at this
 | x :: a, [], _, _, h => by have := (h x).1 (by simp); simp at this
 | x :: a, y :: b, ha, hb, h => by
  rw [List.pairwise_cons] at ha hb
  have e : x = y := by
   rcases List.mem_cons.1 ((h x).1 (by simp)) with e | hx
   ·exact e
   ·rcases List.mem_cons.1 ((h y).2 (by simp)) with e | hy
    ·exact e.symm
    ·have := ha.1 y hy; have := hb.1 x hx; omega
  subst e
  congr 1
  refine rising_ext ha.2 hb.2 fun z => ?_
  constructor
  ·intro hz
   rcases List.mem_cons.1 ((h z).1 (List.mem_cons_of_mem _ hz)) with e | hz'
   ·have := ha.1 z hz; omega
   ·exact hz'
  ·intro hz
   rcases List.mem_cons.1 ((h z).2 (List.mem_cons_of_mem _ hz)) with e | hz'
   ·have := hb.1 z hz; omega
   ·exact hz'
-- the first one of the largest antichains
theorem lexN_irr : ∀ a : List Int, ¬ lexN a a
 | [], h => h
 | x :: a, h => by rcases h with h | ⟨_, h⟩; exact absurd h (Int.lt_irrefl x); exact lexN_irr a h
theorem lexN_trans : ∀ a b c : List Int, lexN a b → lexN b c → lexN a c
 | [], _, _, h, _ => h.elim
 | _ :: _, [], _, h, _ => h.elim
 | _ :: _, _ :: _, [], _, h => h.elim
 | x :: a, y :: b, z :: c, h1, h2 => by
  rcases h1 with h1 | ⟨rfl, h1⟩ <;> rcases h2 with h2 | ⟨rfl, h2⟩
  ·exact .inl (Int.lt_trans h1 h2)
  ·exact .inl h1
  ·exact .inl h2
  ·exact .inr ⟨rfl, lexN_trans a b c h1 h2⟩
theorem lexN_tot : ∀ a b : List Int, a.length = b.length → ¬ lexN a b → ¬ lexN b a → a = b
 | [], [], _, _, _ => rfl
 | [], _ :: _, h, _, _ => by cases h
 | _ :: _, [], h, _, _ => by cases h
 | x :: a, y :: b, h, h1, h2 => by
  have hxy : x = y := by
   have a1 : ¬ x < y := fun e => h1 (.inl e)
   have a2 : ¬ y < x := fun e => h2 (.inl e)
   omega
  subst hxy
  rw [lexN_tot a b (by simpa using h) (fun e => h1 (.inr ⟨rfl, e⟩)) (fun e => h2 (.inr ⟨rfl, e⟩))]
def bet (y x : List Int) : Prop := x.length < y.length ∨ (y.length = x.length ∧ lexN y x)
theorem bet_trans {a b c : List Int} (h1 : bet a b) (h2 : bet b c) : bet a c := by
 rcases h1 with h1 | ⟨e1, h1⟩ <;> rcases h2 with h2 | ⟨e2, h2⟩
 ·exact .inl (by omega)
 ·exact .inl (by omega)
 ·exact .inl (by omega)
 ·exact .inr ⟨by omega, lexN_trans _ _ _ h1 h2⟩
theorem bet_irr (a : List Int) : ¬ bet a a := by
 rintro (h | ⟨_, h⟩)
 ·omega
 ·exact lexN_irr a h
theorem bet_tot {a b : List Int} (h1 : ¬ bet a b) (h2 : ¬ bet b a) : a = b := by
 have l1 : ¬ b.length < a.length := fun e => h1 (.inl e)
 have l2 : ¬ a.length < b.length := fun e => h2 (.inl e)
 exact lexN_tot a b (by omega) (fun e => h1 (.inr ⟨by omega, e⟩)) (fun e => h2 (.inr ⟨by omega, e⟩))
theorem compare_lex (l m : List Int) (hlm : l.length = m.length) (hl : l.length ≤ 1000) (d : Nat) : ∀ i : Nat, i + d = l.length → ∃ r : Int, Ev (fun k => slices_Compare_int_int.l0 k l m l (l.length : Int) (i : Int)) r ∧ (r < 0 ↔ lexN (l.drop i) (m.drop i)) := by
 induction d with
 | zero =>
  intro i hi
  refine ⟨0, Ev.shift ?_, ?_⟩
  ·simp only [slices_Compare_int_int.l0]
   exact Ev.neg (by omega) (Ev.neg (by omega) (Ev.ret rfl))
  ·rw [List.drop_of_length_le (by omega)]
   exact ⟨fun e => by omega, fun e => e.elim⟩
 | succ d ih =>
  intro i hi
  obtain ⟨r, r1, r2⟩ := ih (i + 1) (by omega)
  have d1 := List.drop_eq_getElem_cons (l := l) (i := i) (by omega)
  have d2 := List.drop_eq_getElem_cons (l := m) (i := i) (by omega)
  rw [← rd_lt l i (by omega)] at d1
  rw [← rd_lt m i (by omega)] at d2
  rw [d1, d2]
  by_cases hz : (if rd l (i : Int) < rd m (i : Int) then (-1 : Int) else if rd l (i : Int) > rd m (i : Int) then 1 else 0) = 0
  ·refine ⟨r, Ev.shift ?_, ?_⟩
   ·simp only [slices_Compare_int_int.l0]
    refine Ev.pos (by omega) (Ev.pos (by omega) (Ev.pos (by omega) (Ev.neg (by omega) (Ev.pos (by omega) (Ev.bindc (cmp_f _ _) (Ev.pos hz ?_))))))
    rw [wrap64_id (by omega) (by omega), cast1]
    exact r1
   ·have he : rd l (i : Int) = rd m (i : Int) := by
     split at hz
     ·omega
     ·split at hz <;> omega
    rw [r2]
    exact ⟨fun h => .inr ⟨he, h⟩, fun h => by
     rcases h with h | ⟨_, h⟩
     ·omega
     ·exact h⟩
  ·refine ⟨(if rd l (i : Int) < rd m (i : Int) then (-1 : Int) else if rd l (i : Int) > rd m (i : Int) then 1 else 0), Ev.shift ?_, ?_⟩
   ·simp only [slices_Compare_int_int.l0]
    exact Ev.pos (by omega) (Ev.pos (by omega) (Ev.pos (by omega) (Ev.neg (by omega) (Ev.pos (by omega) (Ev.bindc (cmp_f _ _) (Ev.neg hz (Ev.ret rfl)))))))
   ·by_cases hlt : rd l (i : Int) < rd m (i : Int)
    ·rw [if_pos hlt]
     exact ⟨fun _ => .inl hlt, fun _ => by omega⟩
    ·rw [if_neg hlt] at hz ⊢
     by_cases hgt : rd l (i : Int) > rd m (i : Int)
     ·rw [if_pos hgt]
      refine ⟨fun e => by omega, fun h => ?_⟩
      rcases h with h | ⟨h, _⟩ <;> omega
     ·rw [if_neg hgt] at hz
      exact absurd rfl hz
section
variable {n : Int} {L : List Int}
def isA (L : List Int) (x : List Int) : Prop := ∃ S : Nat, S < 2 ^ L.length ∧ antiP L (S : Int) ∧ x = bitsOf (S : Int)
theorem anti_lex (h : relP n L) (d : Nat) : ∀ (S : Nat) (x3 : List Int), S + d = 2 ^ L.length → isA L x3 → (∀ T : Nat, T < S → antiP L (T : Int) → ¬ bet (bitsOf (T : Int)) x3) → ∃ x, Ev (fun k => impl_Order_antichain.l0 k x3 (rel (freeP L) L.length) ((2 ^ L.length : Nat) : Int) (S : Int)) x ∧ isA L x ∧ ∀ T : Nat, T < 2 ^ L.length → antiP L (T : Int) → ¬ bet (bitsOf (T : Int)) x := by
 have h10 : L.length ≤ 10 := by have := h.1; have := h.2.1; omega
 have hp : 2 ^ L.length ≤ 2 ^ 10 := Nat.pow_le_pow_right (by omega) h10
 induction d with
 | zero =>
  intro S x3 hS hb hx
  obtain rfl : S = 2 ^ L.length := by omega
  refine ⟨x3, Ev.shift ?_, hb, hx⟩
  simp only [impl_Order_antichain.l0]
  exact Ev.neg (by omega) (Ev.ret rfl)
 | succ d ih =>
  intro S x3 hS hb hx
  have hs := set_below h10 (S := S) (by omega)
  have hl := bitsOf_len (S : Int)
  have w : wrap64 ((S : Int) + 1) = ((S + 1 : Nat) : Int) := by rw [wrap64_id (by omega) (by omega), cast1]
  have hm := members_ev hs.1.1 hs.1.2
  have hx10 : x3.length ≤ 10 := by obtain ⟨S0, _, _, rfl⟩ := hb; exact bitsOf_len _
  by_cases ha : antiP L (S : Int)
  ·by_cases hbt : bet (bitsOf (S : Int)) x3
   ·obtain ⟨x, x1, x2, x3'⟩ := ih (S + 1) (bitsOf (S : Int)) (by omega) ⟨S, by omega, ha, rfl⟩ (fun T hT hTa hbe => by
     by_cases e : T = S
     ·subst e; exact bet_irr _ hbe
     ·exact hx T (by omega) hTa (bet_trans hbe hbt))
    refine ⟨x, Ev.shift ?_, x2, x3'⟩
    simp only [impl_Order_antichain.l0]
    refine Ev.pos (by omega) (Ev.bind hm (anti_l1 h (S : Int) _ x3 hs.1 hs.2 x (fun g => (g ha).elim) (fun _ => ?_) (bitsOf (S : Int)).length 0 (by omega) (fun p hp => by omega)))
    rw [w]
    rcases hbt with hbt | ⟨he, hbt⟩
    ·exact Ev.pos (by omega) x1
    ·obtain ⟨c, c1, c2⟩ := compare_lex (bitsOf (S : Int)) x3 he (by omega) (bitsOf (S : Int)).length 0 (by omega)
     have c1 : Ev (fun k => slices_Compare_int_int.f k (bitsOf (S : Int)) x3) c := by unfold slices_Compare_int_int.f; exact c1
     rw [List.drop_zero, List.drop_zero] at c2
     exact Ev.neg (by omega) (Ev.pos (by omega) (Ev.bind c1 (Ev.pos (c2.2 hbt) x1)))
   ·obtain ⟨x, x1, x2, x3'⟩ := ih (S + 1) x3 (by omega) hb (fun T hT hTa => by
     by_cases e : T = S
     ·subst e; exact hbt
     ·exact hx T (by omega) hTa)
    refine ⟨x, Ev.shift ?_, x2, x3'⟩
    simp only [impl_Order_antichain.l0]
    refine Ev.pos (by omega) (Ev.bind hm (anti_l1 h (S : Int) _ x3 hs.1 hs.2 x (fun g => (g ha).elim) (fun _ => ?_) (bitsOf (S : Int)).length 0 (by omega) (fun p hp => by omega)))
    rw [w]
    have hlen : ¬ x3.length < (bitsOf (S : Int)).length := fun e => hbt (.inl e)
    refine Ev.neg (by omega) ?_
    by_cases he : ((bitsOf (S : Int)).length : Int) = (x3.length : Int)
    ·obtain ⟨c, c1, c2⟩ := compare_lex (bitsOf (S : Int)) x3 (by omega) (by omega) (bitsOf (S : Int)).length 0 (by omega)
     have c1 : Ev (fun k => slices_Compare_int_int.f k (bitsOf (S : Int)) x3) c := by unfold slices_Compare_int_int.f; exact c1
     rw [List.drop_zero, List.drop_zero] at c2
     exact Ev.pos he (Ev.bind c1 (Ev.neg (fun e => hbt (.inr ⟨by omega, c2.1 e⟩)) x1))
    ·exact Ev.neg he x1
  ·obtain ⟨x, x1, x2, x3'⟩ := ih (S + 1) x3 (by omega) hb (fun T hT hTa => by
    by_cases e : T = S
    ·subst e; exact absurd hTa ha
    ·exact hx T (by omega) hTa)
   refine ⟨x, Ev.shift ?_, x2, x3'⟩
   simp only [impl_Order_antichain.l0]
   exact Ev.pos (by omega) (Ev.bind hm (anti_l1 h (S : Int) _ x3 hs.1 hs.2 x (fun _ => by rw [w]; exact x1) (fun g => (ha g).elim) (bitsOf (S : Int)).length 0 (by omega) (fun p hp => by omega)))
theorem bitsOf_lt (S : Int) : (bitsOf S).Pairwise (· < ·) := by
 unfold bitsOf
 refine List.pairwise_map.2 (List.Pairwise.imp (fun {a b} (h : a < b) => by omega) (List.Pairwise.filter _ List.pairwise_lt_range))
def AL (L : List Int) (S : Int) (t : List Int) : Prop := t.Pairwise (· < ·) ∧ (∀ x ∈ t, x ∈ bitsOf S) ∧ t.Pairwise (fun x y => freeP L x.toNat y.toNat = true)
theorem freeP_sym {i j : Nat} (h : freeP L i j = true) : freeP L j i = true := by
 unfold freeP at h ⊢
 simp only [Bool.and_eq_true, Bool.not_eq_true', decide_eq_false_iff_not] at h ⊢
 exact ⟨⟨h.1.2, h.1.1⟩, fun e => h.2 e.symm⟩
theorem al_set (h : relP n L) {S : Int} (hSb : ∀ j, bit S j = true → j < L.length) {t : List Int} (ht : AL L S t) : ∃ T : Nat, T < 2 ^ L.length ∧ antiP L (T : Int) ∧ bitsOf (T : Int) = t := by
 have h10 : L.length ≤ 10 := by have := h.1; have := h.2.1; omega
 have hel : ∀ y ∈ t, ∃ i : Nat, y = i ∧ i < L.length := fun y hy => by
  obtain ⟨i, _, hb, rfl⟩ := mem_bitsOf.1 (ht.2.1 y hy)
  exact ⟨i, rfl, hSb i hb⟩
 obtain ⟨s1, s2⟩ := setL_bits (l := t) (fun y hy => by obtain ⟨i, rfl, hi⟩ := hel y hy; omega)
 have e : setL t = (((setL t).toNat : Nat) : Int) := by have := s1.1; omega
 refine ⟨(setL t).toNat, ?_, ?_, ?_⟩
 ·refine Nat.lt_pow_two_of_testBit _ (fun i hi => ?_)
  have : bit (setL t) i = false := by
   rw [s2]
   simp only [decide_eq_false_iff_not]
   intro hm
   obtain ⟨j, hj, hjl⟩ := hel _ hm
   omega
  exact this
 ·rw [← e]
  intro i hi hbi
  rw [fits_iff h s1 hi]
  intro j hj hbj
  rw [s2, decide_eq_true_eq] at hbi hbj
  by_cases hij : j = i
  ·exact .inr hij
  ·obtain ⟨j', hj', hjl⟩ := hel _ hbj
   refine .inl ⟨by omega, ?_⟩
   obtain ⟨p, hp, ep⟩ := List.mem_iff_getElem.1 hbi
   obtain ⟨q, hq, eq⟩ := List.mem_iff_getElem.1 hbj
   have hpq : p ≠ q := fun e => by subst e; rw [ep] at eq; omega
   rcases Nat.lt_or_gt_of_ne hpq with hlt | hlt
   ·have := List.pairwise_iff_getElem.1 ht.2.2 p q hp hq hlt
    rw [ep, eq] at this; simpa using this
   ·have := List.pairwise_iff_getElem.1 ht.2.2 q p hq hp hlt
    rw [ep, eq] at this; exact freeP_sym (by simpa using this)
 ·rw [← e]
  refine rising_ext (bitsOf_lt _) ht.1 (fun x => ?_)
  rw [mem_bitsOf]
  constructor
  ·rintro ⟨i, _, hb, rfl⟩
   rw [s2, decide_eq_true_eq] at hb
   exact hb
  ·intro hx
   obtain ⟨i, rfl, hi⟩ := hel x hx
   exact ⟨i, by omega, by rw [s2]; simpa using hx, rfl⟩
theorem set_al (h : relP n L) {T : Nat} (hT : T < 2 ^ L.length) (ha : antiP L (T : Int)) : AL L (T : Int) (bitsOf (T : Int)) := by
 have h10 : L.length ≤ 10 := by have := h.1; have := h.2.1; omega
 obtain ⟨s1, s2⟩ := set_below h10 hT
 refine ⟨bitsOf_lt _, fun x hx => hx, List.Pairwise.imp_of_mem ?_ (bitsOf_lt _)⟩
 intro a b ha2 hb2 hlt
 obtain ⟨i, hi, hbi, rfl⟩ := mem_bitsOf.1 ha2
 obtain ⟨j, hj, hbj, rfl⟩ := mem_bitsOf.1 hb2
 rw [Int.toNat_natCast, Int.toNat_natCast]
 rcases (fits_iff h s1 (s2 i hbi)).1 (ha i (s2 i hbi) hbi) j hj hbj with g | g
 ·exact g.2
 ·omega
end
section
variable {n : Int} {L : List Int}
theorem cons_bet {x : Int} {a b : List Int} : bet (x :: a) (x :: b) ↔ bet a b := by
 unfold bet
 simp only [List.length_cons]
 constructor
 ·rintro (h | ⟨h1, h2⟩)
  ·exact .inl (by omega)
  ·rcases h2 with h2 | ⟨_, h2⟩
   ·exact absurd h2 (Int.lt_irrefl x)
   ·exact .inr ⟨by omega, h2⟩
 ·rintro (h | ⟨h1, h2⟩)
  ·exact .inl (by omega)
  ·exact .inr ⟨by omega, .inr ⟨rfl, h2⟩⟩
def restS (L : List Int) (S : Int) (i : Nat) : Int := Go.bits .andNot .i64 (Go.bits .and .i64 S (rowf (freeP L i) L.length)) (full (i : Int))
theorem restS_bits (h : relP n L) {S : Int} (hS : setP S) {i : Nat} (hi : i < L.length) : setP (restS L S i) ∧ ∀ j, bit (restS L S i) j = true ↔ bit S j = true ∧ j < L.length ∧ freeP L i j = true ∧ i < j := by
 have h10 : L.length ≤ 10 := by have := h.1; have := h.2.1; omega
 have f1 := rowf_bits (freeP L i) L.length h10
 have f2 := set_full (n := i) (by omega)
 have f3 := set_and hS f1.1
 have f4 := set_andNot f3.1 f2.1
 refine ⟨f4.1, fun j => ?_⟩
 unfold restS
 rw [f4.2, f3.2, f1.2, f2.2]
 simp only [Bool.and_eq_true, decide_eq_true_eq, Bool.not_eq_true', decide_eq_false_iff_not]
 constructor
 ·rintro ⟨⟨a, b, c⟩, d⟩
  refine ⟨a, b, c, ?_⟩
  have : j ≠ i := fun e => by
   subst e
   unfold freeP at c
   simp at c
  omega
 ·rintro ⟨a, b, c, d⟩
  exact ⟨⟨a, b, c⟩, by omega⟩
theorem al_nil (L : List Int) (S : Int) : AL L S [] := ⟨List.Pairwise.nil, by simp, List.Pairwise.nil⟩
theorem al_cons (h : relP n L) {S : Int} (hS : setP S) (hSm : ∀ j, bit S j = true → j < L.length) {i : Nat} (hi : i < L.length) {t : List Int} : AL L S ((i : Int) :: t) ↔ bit S i = true ∧ AL L (restS L S i) t := by
 have h10 : L.length ≤ 10 := by have := h.1; have := h.2.1; omega
 obtain ⟨r1, r2⟩ := restS_bits h hS hi
 constructor
 ·rintro ⟨a, b, c⟩
  have a2 := List.pairwise_cons.1 a
  have c2 := List.pairwise_cons.1 c
  have hb : bit S i = true := by
   obtain ⟨m, _, hm, he⟩ := mem_bitsOf.1 (b (i : Int) List.mem_cons_self)
   have : m = i := by omega
   subst this; exact hm
  refine ⟨hb, a2.2, fun x hx => ?_, c2.2⟩
  obtain ⟨m, hm10, hm, rfl⟩ := mem_bitsOf.1 (b x (List.mem_cons_of_mem _ hx))
  have hlt := a2.1 _ hx
  have hf := c2.1 _ hx
  simp only [Int.toNat_natCast] at hf
  exact mem_bitsOf.2 ⟨m, hm10, (r2 m).2 ⟨hm, hSm m hm, hf, by omega⟩, rfl⟩
 ·rintro ⟨hb, a, b, c⟩
  have hel : ∀ x ∈ t, ∃ m : Nat, x = m ∧ bit S m = true ∧ freeP L i m = true ∧ i < m ∧ m < 10 := fun x hx => by
   obtain ⟨m, hm10, hm, rfl⟩ := mem_bitsOf.1 (b x hx)
   obtain ⟨g1, g2, g3, g4⟩ := (r2 m).1 hm
   exact ⟨m, rfl, g1, g3, g4, hm10⟩
  refine ⟨List.pairwise_cons.2 ⟨fun x hx => ?_, a⟩, fun x hx => ?_, List.pairwise_cons.2 ⟨fun x hx => ?_, c⟩⟩
  ·obtain ⟨m, rfl, _, _, g, _⟩ := hel x hx; omega
  ·rcases List.mem_cons.1 hx with rfl | hx
   ·exact mem_bitsOf.2 ⟨i, by omega, hb, rfl⟩
   ·obtain ⟨m, rfl, g, _, _, g10⟩ := hel x hx
    exact mem_bitsOf.2 ⟨m, g10, g, rfl⟩
  ·obtain ⟨m, rfl, _, g, _, _⟩ := hel x hx
   simpa using g
theorem larger_l (h : relP n L) (S : Int) (hS : setP S) (hSm : ∀ j, bit S j = true → j < L.length) (hrec : ∀ i, i < L.length → bit S i = true → ∃ y, Ev (fun k => spec_orLarger.f k n L (restS L S i)) y ∧ AL L (restS L S i) y ∧ ∀ t, AL L (restS L S i) t → ¬ bet t y) (d : Nat) :
  ∀ (q : Nat) (b : List Int), q + d = (bitsOf S).length → AL L S b → b.length ≤ 10 → (∀ x t, AL L S (x :: t) → x ∈ (bitsOf S).take q → ¬ bet (x :: t) b) → (∀ x t, b = x :: t → x ∈ (bitsOf S).take q) → ∃ y, Ev (fun k => spec_orLarger.l0 k S b (bitsOf S) ((bitsOf S).length : Int) (q : Int) n L) y ∧ AL L S y ∧ ∀ t, AL L S t → ¬ bet t y := by
 have h10 : L.length ≤ 10 := by have := h.1; have := h.2.1; omega
 have hbl := bitsOf_len S
 induction d with
 | zero =>
  intro q b hq hb hb10 hall hhead
  obtain rfl : q = (bitsOf S).length := by omega
  refine ⟨b, Ev.shift ?_, hb, fun t ht => ?_⟩
  ·simp only [spec_orLarger.l0]
   exact Ev.neg (by omega) (Ev.ret rfl)
  ·cases t with
   | nil =>
    rintro (g | ⟨_, g⟩)
    ·simp at g
    ·exact g
   | cons x t => exact hall x t ht (by rw [List.take_length]; exact ht.2.1 x List.mem_cons_self)
 | succ d ih =>
  intro q b hq hb hb10 hall hhead
  have hql : q < (bitsOf S).length := by omega
  obtain ⟨i, hi10, hbi, ei⟩ := el_of S hql
  have hi := hSm i hbi
  obtain ⟨r, r1, r2, r3⟩ := hrec i hi hbi
  have hcand : AL L S ((i : Int) :: r) := (al_cons h hS hSm hi).2 ⟨hbi, r2⟩
  have hr10 : r.length ≤ 10 := by
   obtain ⟨T, _, _, e⟩ := al_set h (S := restS L S i) (fun j hj => ((restS_bits h hS hi).2 j).1 hj |>.2.1) r2
   rw [← e]; exact bitsOf_len _
  have hc10 : ((i : Int) :: r).length ≤ 10 := by
   obtain ⟨T, _, _, e⟩ := al_set h hSm hcand
   rw [← e]; exact bitsOf_len _
  have htake : (bitsOf S).take (q + 1) = (bitsOf S).take q ++ [(i : Int)] := by rw [take_snoc _ q hql, ei]
  have hdec : ∀ x t, AL L S (x :: t) → x ∈ (bitsOf S).take (q + 1) → x ∈ (bitsOf S).take q ∨ (x = i ∧ AL L (restS L S i) t) := fun x t ht hx => by
   rw [htake] at hx
   rcases List.mem_append.1 hx with hx | hx
   ·exact .inl hx
   ·obtain rfl := List.mem_singleton.1 hx
    exact .inr ⟨rfl, ((al_cons h hS hSm hi).1 ht).2⟩
  by_cases hlong : r.length + 1 > b.length
  ·obtain ⟨y, y1, y2, y3⟩ := ih (q + 1) ((i : Int) :: r) (by omega) hcand hc10 (fun x t ht hx hbe => by
    rcases hdec x t ht hx with hx | ⟨rfl, ht2⟩
    ·have hn := hall x t ht hx
     have hl : ¬ b.length < (x :: t).length := fun e => hn (.inl e)
     rcases hbe with g | ⟨g, _⟩
     ·simp only [List.length_cons] at g hl; omega
     ·simp only [List.length_cons] at g hl; omega
    ·exact r3 t ht2 (cons_bet.1 hbe)) (fun x t e => by
    injection e with e1 _
    rw [htake, ← e1]; simp)
   refine ⟨y, Ev.shift ?_, y2, y3⟩
   simp only [spec_orLarger.l0]
   rw [ei, wrap64_id (x := (q : Int) + 1) (by omega) (by omega), cast1]
   refine Ev.pos (by omega) (Ev.pos (by omega) (Ev.pos (by omega) (Ev.bind (free_ev h hi) (Ev.pos (by omega) (Ev.bind r1 (Ev.pos ?_ (Ev.bindc rfl (Ev.pos (by simp; omega) y1))))))))
   rw [wrap64_id (by omega) (by omega)]; omega
  ·obtain ⟨y, y1, y2, y3⟩ := ih (q + 1) b (by omega) hb hb10 (fun x t ht hx hbe => by
    rcases hdec x t ht hx with hx | ⟨rfl, ht2⟩
    ·exact hall x t ht hx hbe
    ·have hn := r3 t ht2
     have hl : ¬ r.length < t.length := fun e => hn (.inl e)
     rcases hbe with g | ⟨g, g2⟩
     ·simp only [List.length_cons] at g; omega
     ·cases hbb : b with
      | nil => rw [hbb] at g; simp at g
      | cons z u =>
       rw [hbb] at g2
       have hz := hhead z u hbb
       -- the head of what is best so far is less
       have hlt : z < (i : Int) := by
        obtain ⟨p, hp, ep⟩ := List.mem_iff_getElem.1 hz
        rw [List.length_take] at hp
        rw [List.getElem_take] at ep
        have := List.pairwise_iff_getElem.1 (bitsOf_lt S) p q (by omega) hql (by omega)
        rw [ep, ← rd_lt _ q hql, ei] at this
        exact this
       rcases g2 with g2 | ⟨g2, _⟩ <;> omega) (fun x t e => by rw [htake]; exact List.mem_append_left _ (hhead x t e))
   refine ⟨y, Ev.shift ?_, y2, y3⟩
   simp only [spec_orLarger.l0]
   rw [ei, wrap64_id (x := (q : Int) + 1) (by omega) (by omega), cast1]
   refine Ev.pos (by omega) (Ev.pos (by omega) (Ev.pos (by omega) (Ev.bind (free_ev h hi) (Ev.pos (by omega) (Ev.bind r1 (Ev.neg ?_ y1))))))
   rw [wrap64_id (by omega) (by omega)]; omega
theorem larger_ev (h : relP n L) (d : Nat) : ∀ S : Int, setP S → (∀ j, bit S j = true → j < L.length) → (∀ j, bit S j = true → L.length ≤ j + d) → ∃ y, Ev (fun k => spec_orLarger.f k n L S) y ∧ AL L S y ∧ ∀ t, AL L S t → ¬ bet t y := by
 induction d with
 | zero =>
  intro S hS hSm hlow
  obtain ⟨y, y1, y2, y3⟩ := larger_l h S hS hSm (fun i hi hb => by have := hlow i hb; omega) (bitsOf S).length 0 [] (by omega) (al_nil L S) (by simp) (fun x t _ hx => by simp at hx) (fun x t e => by cases e)
  refine ⟨y, Ev.shift ?_, y2, y3⟩
  simp only [spec_orLarger.f]
  exact Ev.bind (orList_ev hS.1 hS.2) y1
 | succ d ih =>
  intro S hS hSm hlow
  obtain ⟨y, y1, y2, y3⟩ := larger_l h S hS hSm (fun i hi hb => by
   obtain ⟨r1, r2⟩ := restS_bits h hS hi
   exact ih (restS L S i) r1 (fun j hj => ((r2 j).1 hj).2.1) (fun j hj => by
    have := ((r2 j).1 hj).2.2.2
    have := hlow i hb
    omega)) (bitsOf S).length 0 [] (by omega) (al_nil L S) (by simp) (fun x t _ hx => by simp at hx) (fun x t e => by cases e)
  refine ⟨y, Ev.shift ?_, y2, y3⟩
  simp only [spec_orLarger.f]
  exact Ev.bind (orList_ev hS.1 hS.2) y1
theorem anti_both (h : orderP n L) (hL : L.length ≤ 1048576) : ∃ x, Ev (fun k => impl_Order_antichain.f k n L) x ∧ Ev (fun k => spec_orLarger.f k n L (full n)) x ∧ AL L (full n) x ∧ x.length ≤ 10 ∧ ∀ t, AL L (full n) t → t.length ≤ x.length := by
 have e1 := h.1.2.1
 have e0 := h.1.1
 have e := pow_all ⟨L.length, by omega⟩
 have hf := set_full (n := L.length) (by omega)
 rw [e1] at hf
 obtain ⟨x, x1, ⟨T, t1, t2, rfl⟩, x3⟩ := anti_lex h.1 (2 ^ L.length) 0 [] (by omega) ⟨0, Nat.two_pow_pos _, fun i hi hb => (by rw [show ((0 : Nat) : Int) = 0 from rfl, bit_zero] at hb; cases hb), rfl⟩ (fun T hT => by omega)
 have hfm : ∀ j, bit (full n) j = true → j < L.length := fun j hj => by rw [hf.2] at hj; simpa using hj
 obtain ⟨y, y1, y2, y3⟩ := larger_ev h.1 L.length (full n) hf.1 hfm (fun j hj => by omega)
 have hal : AL L (full n) (bitsOf (T : Int)) := by
  have := set_al h.1 t1 t2
  refine ⟨this.1, fun z hz => ?_, this.2.2⟩
  obtain ⟨m, hm10, hm, rfl⟩ := mem_bitsOf.1 hz
  refine mem_bitsOf.2 ⟨m, hm10, ?_, rfl⟩
  rw [hf.2]
  simpa using (set_below (by omega) t1).2 m hm
 have hxa : ∀ t, AL L (full n) t → ¬ bet t (bitsOf (T : Int)) := fun t ht => by
  obtain ⟨U, u1, u2, rfl⟩ := al_set h.1 hfm ht
  exact x3 U u1 u2
 have hxy : bitsOf (T : Int) = y := bet_tot (y3 _ hal) (hxa y y2)
 refine ⟨bitsOf (T : Int), ?_, by rw [hxy]; exact y1, hal, bitsOf_len _, fun t ht => Nat.le_of_not_lt fun hc => hxa t ht (.inl hc)⟩
 unfold impl_Order_antichain.f
 refine Ev.bind (near_ev h.1) (Ev.pos (by omega) ?_)
 rw [show n = ((L.length : Nat) : Int) by omega, e]
 exact x1
end
end Go.Proofs.YtpphkeijklffgaaDoor.Pure
