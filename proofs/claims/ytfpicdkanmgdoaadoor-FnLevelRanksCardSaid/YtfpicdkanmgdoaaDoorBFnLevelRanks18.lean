import Derived.Laws.Bits64b
import Derived.Lib.SlicesCompact
import Derived.Test.YtfpicdkanmgdoaaDoorBFnLevelRanks17
namespace Go.Proofs.YtfpicdkanmgdoaaDoor.Pure
open Go.RowKit Go.Proofs.YtfpicdkanmgdoaaDoor.Q Go.Proofs.YtfpicdkanmgdoaaDoorW.PrintWords Go.Proofs.YtfpicdkanmgdoaaDoorW.PrintLast
set_option linter.unusedVariables false
set_option linter.unusedSimpArgs false
-- choices out of bytes: numbers below what is asked, the place goes on by a few
def bytesP (l : List Int) : Prop := ∀ x ∈ l, 0 ≤ x ∧ x < 256
theorem bytesP.rd {l : List Int} (h : bytesP l) {i : Int} (h0 : 0 ≤ i) (h1 : i < l.length) : 0 ≤ rd l i ∧ rd l i < 256 := by
 obtain ⟨m, rfl⟩ : ∃ m : Nat, i = m := ⟨i.toNat, by omega⟩
 rw [rd_lt l m (by omega)]
 exact h _ (List.getElem_mem _)
theorem bytesP.of {l : List Int} (h : ∀ x ∈ l, (Lit.int .u8 x).wf = true) : bytesP l := fun x hx => by
 have := h x hx
 simp [Lit.wf, IntKind.min, IntKind.max, IntKind.signed, IntKind.bits] at this
 omega
theorem and255 (x : Int) : 0 ≤ Go.bits .and .u64 x 255 ∧ Go.bits .and .u64 x 255 < 256 := by
 show 0 ≤ IntKind.u64.wrap ((BitVec.ofInt 64 x &&& BitVec.ofInt 64 255).toNat : Int) ∧ IntKind.u64.wrap ((BitVec.ofInt 64 x &&& BitVec.ofInt 64 255).toNat : Int) < 256
 rw [BitVec.toNat_and]
 have h : (BitVec.ofInt 64 x).toNat &&& (BitVec.ofInt 64 255).toNat ≤ (BitVec.ofInt 64 255).toNat := Nat.and_le_right
 have e : (BitVec.ofInt 64 255).toNat = 255 := by decide
 rw [e] at h
 rw [e]
 generalize (BitVec.ofInt 64 x).toNat &&& 255 = m at h
 simp [IntKind.wrap, IntKind.signed, IntKind.bits]; omega
def Drw {α : Type} (g : Option (α × Int × Int)) (P : α → Prop) (a n : Int) : Prop := ∃ x a' s', g = some (x, a', s') ∧ P x ∧ a ≤ a' ∧ a' ≤ a + n
theorem next_d {c : List Int} (hc : bytesP c) {a : Int} (s : Int) (h0 : 0 ≤ a) (h1 : a ≤ 1152921504606846976) : Drw (spec_l1Cur_next.f c a s) (fun x => 0 ≤ x ∧ x < 256) a 1 := by
 unfold Drw spec_l1Cur_next.f
 rw [wrap64_id (x := a + 1) (by omega) (by omega)]
 have hb := and255
 by_cases h2 : a < (c.length : Int)
 ·have hr := hc.rd h0 h2
  rw [if_pos h2, if_pos h0, if_pos (by omega)]
  exact ⟨_, _, _, rfl, by rw [wrap64_id (by omega) (by omega)]; exact hr, by omega, by omega⟩
 ·rw [if_neg h2, if_neg (by omega)]
  refine ⟨_, _, _, rfl, ?_, by omega, by omega⟩
  have := hb (IntKind.u64.wrap (IntKind.u64.wrap (IntKind.u64.wrap (s * 6364136223846793005) + 0) + 1442695040888963407) / 1099511627776)
  rw [wrap64_id (by omega) (by omega)]; exact this
theorem pick_d {c : List Int} (hc : bytesP c) {a : Int} (s n : Int) (h0 : 0 ≤ a) (h1 : a ≤ 1000000000000) (hn : 1 ≤ n) : Drw (spec_l1Cur_pick.f c a s n) (fun x => 0 ≤ x ∧ x < n) a 2 := by
 unfold spec_l1Cur_pick.f
 by_cases h2 : n ≤ 1
 ·rw [if_pos h2]; exact ⟨_, _, _, rfl, by omega, by omega, by omega⟩
 ·rw [if_neg h2]
  obtain ⟨x, a', s', e, hx, h3, h4⟩ := next_d hc s h0 (by omega)
  rw [e, Option.bind_some]
  by_cases h5 : n > 200
  ·rw [if_pos h5]
   obtain ⟨y, a2, s2, e2, hy, h6, h7⟩ := next_d hc s' (a := a') (by omega) (by omega)
   dsimp only
   rw [e2, Option.bind_some, if_neg (by omega)]
   refine ⟨_, _, _, rfl, ?_, by dsimp only; omega, by dsimp only; omega⟩
   dsimp only
   rw [wrap64_id (x := x * 256) (by omega) (by omega), wrap64_id (by omega) (by omega)]
   exact ⟨Int.tmod_nonneg _ (by omega), Int.tmod_lt_of_pos _ (by omega)⟩
  ·rw [if_neg h5, if_neg (by omega)]
   exact ⟨_, _, _, rfl, ⟨Int.tmod_nonneg _ hx.1, Int.tmod_lt_of_pos _ (by omega)⟩, by dsimp only; omega, by dsimp only; omega⟩
theorem one_d {c : List Int} (hc : bytesP c) {a : Int} (s n : Int) (h0 : 0 ≤ a) (h1 : a ≤ 1000000000000) (hn : 1 ≤ n) : Drw (spec_l1Cur_one.f c a s n) (fun _ => True) a 2 := by
 unfold spec_l1Cur_one.f
 obtain ⟨x, a', s', e, hx, h3, h4⟩ := pick_d hc s n h0 h1 hn
 rw [e, Option.bind_some]
 exact ⟨_, _, _, rfl, trivial, h3, h4⟩
theorem among_d {c : List Int} (hc : bytesP c) {a : Int} (s : Int) (l : List Int) (h0 : 0 ≤ a) (h1 : a ≤ 1000000000000) (hn : 1 ≤ l.length) : Drw (spec_l1Cur_among.f c a s l) (fun x => x ∈ l) a 2 := by
 unfold spec_l1Cur_among.f
 obtain ⟨x, a', s', e, hx, h3, h4⟩ := pick_d hc s (l.length : Int) h0 h1 (by omega)
 rw [e, Option.bind_some]
 dsimp only
 rw [if_pos hx.1, if_pos hx.2]
 refine ⟨_, _, _, rfl, ?_, h3, h4⟩
 obtain ⟨m, rfl⟩ : ∃ m : Nat, x = m := ⟨x.toNat, by omega⟩
 rw [rd_lt l m (by omega)]; exact List.getElem_mem _
theorem bang (zs : List Int) (i : Nat) (h : i < zs.length) : zs.toArray[i]! = zs[i] := by
 rw [getElem!_pos zs.toArray i (by simpa using h)]; simp
def dif (l : List Int) : List Int := Lib.compact (l.mergeSort fun x y => decide (x ≤ y))
theorem compactUpTo_facts (d : Array Int) (hs : ∀ i j : Nat, i < j → j < d.size → d[i]! ≤ d[j]!) : ∀ m, m ≤ d.size →
  (Lib.compactUpTo d m).Pairwise (· < ·) ∧ (∀ x, x ∈ Lib.compactUpTo d m ↔ ∃ j, j < m ∧ d[j]! = x) ∧ (∀ x ∈ Lib.compactUpTo d m, ∀ j, m = j + 1 → x ≤ d[j]!) := by
 intro m
 induction m with
 | zero => intro _; simp [Lib.compactUpTo]
 | succ m ih =>
  intro hm
  obtain ⟨h1, h2, h3⟩ := ih (by omega)
  rw [Lib.compactUpTo_succ]
  by_cases h0 : m = 0
  ·subst h0
   rw [Lib.keeps_lt_one d 0 (by omega)]
   simp [Lib.compactUpTo]
   intro x; exact eq_comm
  ·obtain ⟨q, rfl⟩ : ∃ q, m = q + 1 := ⟨m - 1, by omega⟩
   have hle : d[q]! ≤ d[q + 1]! := hs q (q + 1) (by omega) (by omega)
   by_cases he : d[q + 1]! = d[q]!
   ·rw [Lib.keeps_neg (by omega) (by simpa using he)]
    simp only [Bool.false_eq_true, if_false, List.append_nil]
    refine ⟨h1, fun x => ?_, fun x hx j hj => ?_⟩
    ·rw [h2]
     constructor
     ·rintro ⟨j, hj, e⟩; exact ⟨j, by omega, e⟩
     ·rintro ⟨j, hj, e⟩
      by_cases hjq : j = q + 1
      ·subst hjq; exact ⟨q, by omega, by rw [← he]; exact e⟩
      ·exact ⟨j, by omega, e⟩
    ·obtain rfl : j = q + 1 := by omega
     have := h3 x hx q rfl
     omega
   ·rw [Lib.keeps_pos (by simpa using he)]
    simp only [if_true]
    refine ⟨?_, fun x => ?_, fun x hx j hj => ?_⟩
    ·rw [List.pairwise_append]
     refine ⟨h1, by simp, fun x hx y hy => ?_⟩
     have := h3 x hx q rfl
     rw [List.mem_singleton] at hy
     subst hy
     omega
    ·rw [List.mem_append, h2, List.mem_singleton]
     constructor
     ·rintro (⟨j, hj, e⟩ | e)
      ·exact ⟨j, by omega, e⟩
      ·exact ⟨q + 1, by omega, e.symm⟩
     ·rintro ⟨j, hj, e⟩
      by_cases hjq : j = q + 1
      ·subst hjq; exact .inr e.symm
      ·exact .inl ⟨j, by omega, e⟩
    ·obtain rfl : j = q + 1 := by omega
     rw [List.mem_append, List.mem_singleton] at hx
     rcases hx with hx | rfl
     ·have := h3 x hx q rfl; omega
     ·omega
theorem sort_pairwise (l : List Int) : (l.mergeSort fun x y => decide (x ≤ y)).Pairwise (· ≤ ·) := by
 have := List.pairwise_mergeSort (le := fun x y : Int => decide (x ≤ y)) (by intro a b c h1 h2; simp at h1 h2 ⊢; omega) (by intro a b; simp; omega) l
 simpa using this
theorem dif_facts (l : List Int) : (dif l).Pairwise (· < ·) ∧ ∀ x, x ∈ dif l ↔ x ∈ l := by
 have hp := sort_pairwise l
 have h := compactUpTo_facts (l.mergeSort fun x y => decide (x ≤ y)).toArray (fun i j hij hj => by
  have hj' : j < (l.mergeSort fun x y => decide (x ≤ y)).length := by simpa using hj
  have := List.pairwise_iff_getElem.1 hp i j (by omega) hj' hij
  rw [bang _ i (by omega), bang _ j hj']
  exact this) (l.mergeSort fun x y => decide (x ≤ y)).length (by simp)
 refine ⟨h.1, fun x => ?_⟩
 show x ∈ Lib.compactUpTo _ _ ↔ _
 rw [h.2.1, ← List.mem_mergeSort (le := fun x y : Int => decide (x ≤ y)), List.mem_iff_getElem]
 constructor
 ·rintro ⟨j, hj, e⟩; exact ⟨j, hj, by rw [bang _ j hj] at e; exact e⟩
 ·rintro ⟨j, hj, e⟩; exact ⟨j, hj, by rw [bang _ j hj]; exact e⟩
theorem dif_sorted (l : List Int) : (dif l).Pairwise (· < ·) := (dif_facts l).1
theorem mem_dif {l : List Int} {x : Int} : x ∈ dif l ↔ x ∈ l := (dif_facts l).2 x
theorem dif_length (l : List Int) : (dif l).length ≤ l.length := by
 have := Lib.compact_length_le (l.mergeSort fun x y => decide (x ≤ y))
 rwa [List.length_mergeSort] at this
theorem rising_ext : ∀ {a b : List Int}, a.Pairwise (· < ·) → b.Pairwise (· < ·) → (∀ x, x ∈ a ↔ x ∈ b) → a = b
 | [], [], _, _, _ => rfl
 | [], y :: b, _, _, h => by have := (h y).2 (by simp); simp at this
 | x :: a, [], _, _, h => by have := (h x).1 (by simp); simp at this
 | x :: a, y :: b, ha, hb, h => by
  rw [List.pairwise_cons] at ha hb
  have e : x = y := by
   rcases List.mem_cons.1 ((h x).1 (by simp)) with e | hx
   ·exact e
   ·rcases List.mem_cons.1 ((h y).2 (by simp)) with e | hy
    ·exact e.symm
    ·have := ha.1 y hy; have := hb.1 x hx; omega
  subst e
  congr 1
  refine rising_ext ha.2 hb.2 fun z => ?_
  constructor
  ·intro hz
   rcases List.mem_cons.1 ((h z).1 (List.mem_cons_of_mem _ hz)) with e | hz'
   ·have := ha.1 z hz; omega
   ·exact hz'
  ·intro hz
   rcases List.mem_cons.1 ((h z).2 (List.mem_cons_of_mem _ hz)) with e | hz'
   ·have := hb.1 z hz; omega
   ·exact hz'
theorem different_f (l : List Int) (h : l.length ≤ 1048576) : impl_different.f l = some (dif l) := by
 unfold impl_different.f dif
 rw [if_pos (by omega)]
def low (D : List Int) (x : Int) : Int := ((D.filter fun y => decide (y < x)).length : Int)
def lev (l : List Int) : List Int := l.map (low (dif l))
theorem low_split {D : List Int} {x : Int} (p : Nat) (hp : p ≤ D.length) (h1 : ∀ j : Nat, j < p → rd D (j : Int) < x) (h2 : ∀ j : Nat, p ≤ j → j < D.length → x ≤ rd D (j : Int)) : low D x = p := by
 unfold low
 have e : D.filter (fun y => decide (y < x)) = D.take p := by
  conv => lhs; rw [← List.take_append_drop p D]
  rw [List.filter_append]
  have a : (D.take p).filter (fun y => decide (y < x)) = D.take p := by
   rw [List.filter_eq_self]
   intro y hy
   obtain ⟨j, hj, rfl⟩ := List.mem_iff_getElem.1 hy
   rw [List.length_take] at hj
   have := h1 j (by omega)
   rw [rd_lt D j (by omega)] at this
   simpa using this
  have b : (D.drop p).filter (fun y => decide (y < x)) = [] := by
   rw [List.filter_eq_nil_iff]
   intro y hy
   obtain ⟨j, hj, rfl⟩ := List.mem_iff_getElem.1 hy
   rw [List.length_drop] at hj
   have := h2 (p + j) (by omega) (by omega)
   rw [rd_lt D _ (by omega)] at this
   simp; omega
  rw [a, b, List.append_nil]
 rw [e, List.length_take, Nat.min_eq_left hp]
theorem rising_rd {D : List Int} (h : D.Pairwise (· < ·)) {i j : Nat} (hij : i < j) (hj : j < D.length) : rd D (i : Int) < rd D (j : Int) := by
 rw [rd_lt D i (by omega), rd_lt D j hj]
 exact List.pairwise_iff_getElem.1 h i j (by omega) hj hij
theorem low_get {D : List Int} (h : D.Pairwise (· < ·)) (i : Nat) (hi : i < D.length) : low D (rd D (i : Int)) = i := by
 refine low_split i (by omega) (fun j hj => rising_rd h hj hi) (fun j h1 h2 => ?_)
 by_cases e : i = j
 ·subst e; omega
 ·have := rising_rd h (show i < j by omega) h2; omega
theorem lev_length (l : List Int) : (lev l).length = l.length := by simp [lev]
theorem put_l (D : List Int) (x : Int) (h : D.Pairwise (· < ·)) (hD : D.length ≤ 1048576) (d : Nat) : ∀ (i : Nat), i + d = D.length → (∀ m : Nat, m < i → rd D (m : Int) < x) →
  ∃ r, Ev (fun k => spec_l1Put.l0 k D x i) r ∧ r.Pairwise (· < ·) ∧ (∀ y, y ∈ r ↔ y = x ∨ y ∈ D) ∧ r.length ≤ D.length + 1 := by
 have ins : ∀ i : Nat, i ≤ D.length → (∀ m : Nat, m < i → rd D (m : Int) < x) → (∀ m : Nat, i ≤ m → m < D.length → x < rd D (m : Int)) → (D.take i ++ [x] ++ D.drop i).Pairwise (· < ·) ∧ (∀ y, y ∈ D.take i ++ [x] ++ D.drop i ↔ y = x ∨ y ∈ D) ∧ (D.take i ++ [x] ++ D.drop i).length ≤ D.length + 1 := by
  intro i hi h1 h2
  have a : ∀ y ∈ D.take i, y < x := by
   intro y hy
   obtain ⟨j, hj, rfl⟩ := List.mem_iff_getElem.1 hy
   rw [List.length_take] at hj
   have := h1 j (by omega)
   rw [rd_lt D j (by omega)] at this
   simpa using this
  have b : ∀ y ∈ D.drop i, x < y := by
   intro y hy
   obtain ⟨j, hj, rfl⟩ := List.mem_iff_getElem.1 hy
   rw [List.length_drop] at hj
   have := h2 (i + j) (by omega) (by omega)
   rw [rd_lt D _ (by omega)] at this
   simpa using this
  refine ⟨?_, fun y => ?_, by simp; omega⟩
  ·rw [List.pairwise_append, List.pairwise_append]
   refine ⟨⟨h.sublist (List.take_sublist _ _), by simp, fun y hy z hz => ?_⟩, h.sublist (List.drop_sublist _ _), fun y hy z hz => ?_⟩
   ·rw [List.mem_singleton] at hz; subst hz; exact a y hy
   ·rw [List.mem_append, List.mem_singleton] at hy
    rcases hy with hy | rfl
    ·have := a y hy; have := b z hz; omega
    ·exact b z hz
  ·conv => rhs; rw [← List.take_append_drop i D]
   simp only [List.mem_append, List.mem_singleton]
   constructor
   ·rintro ((h | h) | h)
    ·exact .inr (.inl h)
    ·exact .inl h
    ·exact .inr (.inr h)
   ·rintro (h | h | h)
    ·exact .inl (.inr h)
    ·exact .inl (.inl h)
    ·exact .inr h
 induction d with
 | zero =>
  intro i hi h1
  refine ⟨_, Ev.shift ?_, ins i (by omega) h1 (fun m a b => by omega)⟩
  simp only [spec_l1Put.l0, Option.bind_some, List.nil_append, List.length_nil]
  refine Ev.neg (by omega) (Ev.pos (by omega) (Ev.pos (by omega) (Ev.pos (by simp; omega) (Ev.pos (by simp; omega) (Ev.pos (by simp; omega) (Ev.ret (by simp)))))))
 | succ d ih =>
  intro i hi h1
  by_cases hc : rd D (i : Int) < x
  ·obtain ⟨r, hr, hq⟩ := ih (i + 1) (by omega) (fun m hm => by
    by_cases e : m = i
    ·subst e; exact hc
    ·exact h1 m (by omega))
   refine ⟨r, Ev.shift ?_, hq⟩
   simp only [spec_l1Put.l0]
   refine Ev.pos (by omega) (Ev.pos (by omega) (Ev.pos hc ?_))
   rw [wrap64_id (by omega) (by omega), cast1]
   exact hr
  ·by_cases he : rd D (i : Int) = x
   ·refine ⟨D, Ev.shift ?_, h, fun y => ⟨fun hy => .inr hy, fun hy => hy.elim (fun e => by rw [e, ← he, rd_lt D i (by omega)]; exact List.getElem_mem _) id⟩, by omega⟩
    simp only [spec_l1Put.l0]
    exact Ev.pos (by omega) (Ev.pos (by omega) (Ev.neg hc (Ev.pos he (Ev.ret rfl))))
   ·refine ⟨_, Ev.shift ?_, ins i (by omega) h1 (fun m a b => by
     by_cases e : i = m
     ·subst e; omega
     ·have := rising_rd h (show i < m by omega) b; omega)⟩
    simp only [spec_l1Put.l0, Option.bind_some, List.nil_append, List.length_nil]
    refine Ev.pos (by omega) (Ev.pos (by omega) (Ev.neg hc (Ev.neg he (Ev.pos (by omega) (Ev.pos (by simp; omega) (Ev.pos (by simp; omega) (Ev.pos (by simp; omega) (Ev.ret (by simp)))))))))
theorem place_l (D : List Int) (x : Int) (h : D.Pairwise (· < ·)) (hD : D.length ≤ 1048576) (p : Nat) (hp : p < D.length) (he : rd D (p : Int) = x) (d : Nat) : ∀ i : Nat, i + d = p → Ev (fun k => spec_orPlace.l0 k x D (D.length : Int) i) (low D x) := by
 induction d with
 | zero =>
  intro i hi
  obtain rfl : i = p := by omega
  refine Ev.shift ?_
  simp only [spec_orPlace.l0]
  refine Ev.pos (by omega) (Ev.pos (by omega) (Ev.pos (by omega) (Ev.pos he (Ev.ret ?_))))
  rw [← he, low_get h i hp]
 | succ d ih =>
  intro i hi
  have := rising_rd h (show i < p by omega) hp
  refine Ev.shift ?_
  simp only [spec_orPlace.l0]
  refine Ev.pos (by omega) (Ev.pos (by omega) (Ev.pos (by omega) (Ev.neg (by omega) ?_)))
  rw [wrap64_id (by omega) (by omega), cast1]
  exact ih (i + 1) (by omega)
theorem place_ev (D : List Int) (x : Int) (h : D.Pairwise (· < ·)) (hD : D.length ≤ 1048576) (hx : x ∈ D) : Ev (fun k => spec_orPlace.f k D x) (low D x) := by
 unfold spec_orPlace.f
 obtain ⟨p, hp, rfl⟩ := List.mem_iff_getElem.1 hx
 exact place_l D _ h hD p hp (rd_lt D p hp) p 0 (by omega)
theorem ofNumbers_in (l D : List Int) (h : D.Pairwise (· < ·)) (hD : D.length ≤ 1048576) (hm : ∀ x ∈ l, x ∈ D) (hl : l.length ≤ 1048576) (d : Nat) : ∀ (i : Nat), i + d = l.length → Ev (fun k => spec_weOfNumbers.l1 k D ((l.take i).map (low D)) l (l.length : Int) i) (l.map (low D)) := by
 induction d with
 | zero =>
  intro i hi
  refine Ev.shift ?_
  simp only [spec_weOfNumbers.l1]
  exact Ev.neg (by omega) (Ev.ret (by rw [List.take_of_length_le (by omega)]))
 | succ d ih =>
  intro i hi
  refine Ev.shift ?_
  simp only [spec_weOfNumbers.l1]
  refine Ev.pos (by omega) (Ev.pos (by omega) (Ev.pos (by omega) (Ev.bind (place_ev D (rd l (i : Int)) h hD (hm _ (by rw [rd_lt l i (by omega)]; exact List.getElem_mem _))) (Ev.pos (by simp; omega) ?_))))
  rw [wrap64_id (by omega) (by omega), cast1]
  have := ih (i + 1) (by omega)
  rw [List.take_succ_eq_append_getElem (by omega), List.map_append, ← rd_lt l i (by omega)] at this
  exact this
theorem ofNumbers_l (l : List Int) (hl : l.length ≤ 1000000) (d : Nat) : ∀ (i : Nat) (D : List Int), i + d = l.length → D.Pairwise (· < ·) → D.length ≤ i → (∀ x, x ∈ D ↔ x ∈ l.take i) → Ev (fun k => spec_weOfNumbers.l0 k l D l (l.length : Int) i) (lev l) := by
 induction d with
 | zero =>
  intro i D hi h hD hm
  rw [List.take_of_length_le (by omega)] at hm
  have e : D = dif l := rising_ext h (dif_sorted l) fun x => by rw [hm, mem_dif]
  refine Ev.shift ?_
  simp only [spec_weOfNumbers.l0]
  refine Ev.neg (by omega) ?_
  subst e
  exact ofNumbers_in l (dif l) h (by omega) (fun x hx => mem_dif.2 hx) (by omega) l.length 0 (by omega)
 | succ d ih =>
  intro i D hi h hD hm
  obtain ⟨r, hr, h1, h2, h3⟩ := put_l D (rd l (i : Int)) h (by omega) D.length 0 (by omega) (fun m hm => by omega)
  refine Ev.shift ?_
  simp only [spec_weOfNumbers.l0]
  refine Ev.pos (by omega) (Ev.pos (by omega) (Ev.pos (by omega) (Ev.bind (a := r) (by unfold spec_l1Put.f; exact hr) ?_)))
  rw [wrap64_id (by omega) (by omega), cast1]
  refine ih (i + 1) r (by omega) h1 (by omega) fun x => ?_
  rw [h2, hm, List.take_succ_eq_append_getElem (by omega), List.mem_append, List.mem_singleton, rd_lt l i (by omega)]
  exact Or.comm
theorem ofNumbers_ev (l : List Int) (hl : l.length ≤ 1000000) : Ev (fun k => spec_weOfNumbers.f k l) (lev l) := by
 unfold spec_weOfNumbers.f
 exact ofNumbers_l l hl l.length 0 [] (by omega) (by simp) (by simp) (by simp)
-- drawn levels: short lists
theorem elements_d {c : List Int} (hc : bytesP c) {a : Int} (s : Int) (h0 : 0 ≤ a) (h1 : a ≤ 1000000) : Drw (spec_l1Cur_elements.f c a s) (fun x => 0 ≤ x ∧ x ≤ 11) a 4 := by
 unfold spec_l1Cur_elements.f
 obtain ⟨b, a1, s1, e, _, h2, h3⟩ := one_d hc (a := a) s 15 h0 (by omega) (by omega)
 rw [e, Option.bind_some]
 dsimp only
 by_cases hb : b = true
 ·rw [if_pos hb]
  obtain ⟨x, a2, s2, e2, hx, h4, h5⟩ := among_d hc (a := a1) s1 [0, 10, 11] (by omega) (by omega) (by simp)
  rw [e2, Option.bind_some]
  refine ⟨_, _, _, rfl, ?_, by dsimp only; omega, by dsimp only; omega⟩
  simp at hx; dsimp only; omega
 ·rw [if_neg hb]
  obtain ⟨x, a2, s2, e2, hx, h4, h5⟩ := pick_d hc (a := a1) s1 7 (by omega) (by omega) (by omega)
  rw [e2, Option.bind_some]
  refine ⟨_, _, _, rfl, ?_, by dsimp only; omega, by dsimp only; omega⟩
  dsimp only; omega
def DrV (g : Nat → Option (List Int × Int × Int)) (P : List Int → Prop) (a n : Int) : Prop := ∃ l a' s', Ev g (l, a', s') ∧ P l ∧ a ≤ a' ∧ a' ≤ a + n
theorem levels_dj {c : List Int} (hc : bytesP c) (l : List Int) (b : Bool) (hb : b = true → 0 < l.length) {a : Int} (s : Int) (h0 : 0 ≤ a) (h1 : a ≤ 1000000) : DrV (fun k => spec_l1Cur_levels.j1 k l b c a s) (fun m => m.length = l.length) a 4 := by
 cases b with
 | false =>
  refine ⟨l, a, s, Ev.shift ?_, rfl, by omega, by omega⟩
  simp only [spec_l1Cur_levels.j1]
  exact Ev.neg (by simp) (Ev.ret rfl)
 | true =>
  have := hb rfl
  obtain ⟨x, a1, s1, e1, hx, h2, h3⟩ := pick_d hc (a := a) s (l.length : Int) h0 (by omega) (by omega)
  obtain ⟨y, a2, s2, e2, hy, h4, h5⟩ := among_d hc (a := a1) s1 [(-1), 0, 1, 9, 11, (-9223372036854775808)] (by omega) (by omega) (by simp)
  refine ⟨l.set x.toNat y, a2, s2, Ev.shift ?_, by simp, by omega, by omega⟩
  simp only [spec_l1Cur_levels.j1]
  exact Ev.pos (by simp) (Ev.bindc e1 (Ev.bindc e2 (Ev.pos hx.1 (Ev.pos hx.2 (Ev.ret rfl)))))
theorem levels_dl {c : List Int} (hc : bytesP c) (d : Nat) : ∀ (l : List Int) (a s : Int), l.length + d ≤ 1000 → 0 ≤ a → a + 2 * d ≤ 100000 → DrV (fun k => spec_l1Cur_levels.l0 k (d : Int) l c a s) (fun m => m.length = l.length + d) a (2 * d + 6) := by
 induction d with
 | zero =>
  intro l a s hl h0 h1
  by_cases hp : 0 < l.length
  ·obtain ⟨b, a1, s1, e1, _, h2, h3⟩ := one_d hc (a := a) s 20 h0 (by omega) (by omega)
   obtain ⟨m, a2, s2, e2, hm, h4, h5⟩ := levels_dj hc (lev l) b (fun _ => by rw [lev_length]; exact hp) (a := a1) s1 (by omega) (by omega)
   refine ⟨m, a2, s2, Ev.shift ?_, by dsimp only; rw [hm, lev_length]; omega, by omega, by omega⟩
   simp only [spec_l1Cur_levels.l0]
   exact Ev.neg (by omega) (Ev.bind (ofNumbers_ev l (by omega)) (Ev.pos (by rw [lev_length]; omega) (Ev.bindc e1 e2)))
  ·obtain ⟨m, a2, s2, e2, hm, h4, h5⟩ := levels_dj hc (lev l) false (fun h => by cases h) (a := a) s (by omega) (by omega)
   refine ⟨m, a2, s2, Ev.shift ?_, by dsimp only; rw [hm, lev_length]; omega, by omega, by omega⟩
   simp only [spec_l1Cur_levels.l0]
   exact Ev.neg (by omega) (Ev.bind (ofNumbers_ev l (by omega)) (Ev.neg (by rw [lev_length]; omega) e2))
 | succ d ih =>
  intro l a s hl h0 h1
  obtain ⟨x, a1, s1, e, hx, h2, h3⟩ := pick_d hc (a := a) s 5 h0 (by omega) (by omega)
  obtain ⟨m, a2, s2, e2, hm, h4, h5⟩ := ih (l ++ [x]) a1 s1 (by simp; omega) (by omega) (by omega)
  refine ⟨m, a2, s2, Ev.shift ?_, by dsimp only; rw [hm]; simp; omega, by omega, by omega⟩
  simp only [spec_l1Cur_levels.l0]
  refine Ev.pos (by omega) (Ev.bindc e (Ev.pos (by omega) ?_))
  rw [show wrap64 ((d + 1 : Nat) - 1 : Int) = (d : Int) by rw [wrap64_id (by omega) (by omega)]; omega]
  exact e2
theorem levels_d {c : List Int} (hc : bytesP c) {a : Int} (s n : Int) (hn : 0 ≤ n ∧ n ≤ 20) (h0 : 0 ≤ a) (h1 : a ≤ 10000) : DrV (fun k => spec_l1Cur_levels.f k c a s n) (fun m => (m.length : Int) = n) a 50 := by
 obtain ⟨N, rfl⟩ : ∃ N : Nat, n = N := ⟨n.toNat, by omega⟩
 obtain ⟨m, a2, s2, e2, hm, h4, h5⟩ := levels_dl hc N [] a s (by simp; omega) h0 (by omega)
 refine ⟨m, a2, s2, ?_, by dsimp only; rw [hm]; simp, h4, by omega⟩
 unfold spec_l1Cur_levels.f
 exact e2
theorem impl_in (a b c : Int) : impl_within.f a b c = some (decide (b ≤ a ∧ a ≤ c)) := by
 unfold impl_within.f
 by_cases h : a ≥ b
 ·rw [if_pos h]; by_cases h2 : a ≤ c <;> simp [h2] <;> omega
 ·rw [if_neg h]; simp; omega
theorem spec_in (a b c : Int) : spec_l1In.f a b c = some (decide (b ≤ a ∧ a ≤ c)) := by
 unfold spec_l1In.f
 by_cases h : a ≥ b
 ·rw [if_pos h]; by_cases h2 : a ≤ c <;> simp [h2] <;> omega
 ·rw [if_neg h]; simp; omega
theorem drop_rd (l : List Int) (i : Nat) (h : i < l.length) : l.drop i = rd l (i : Int) :: l.drop (i + 1) := by
 rw [rd_lt l i h]; exact List.drop_eq_getElem_cons h
def iota (n : Nat) : List Int := (List.range n).map fun (i : Nat) => (i : Int)
theorem mem_iota {n : Nat} {x : Int} : x ∈ iota n ↔ 0 ≤ x ∧ x < n := by
 simp only [iota, List.mem_map, List.mem_range]
 constructor
 ·rintro ⟨i, h, rfl⟩; omega
 ·intro h; exact ⟨x.toNat, by omega, by omega⟩
theorem iota_length (n : Nat) : (iota n).length = n := by simp [iota]
theorem iota_rising (n : Nat) : (iota n).Pairwise (· < ·) := by
 unfold iota
 rw [List.pairwise_map]
 exact List.pairwise_lt_range.imp (by intro a b h; omega)
theorem dif_iota {l : List Int} {n : Nat} (h : ∀ x, x ∈ l ↔ 0 ≤ x ∧ x < n) : dif l = iota n :=
 rising_ext (dif_sorted l) (iota_rising n) fun x => by rw [mem_dif, mem_iota]; exact h x
end Go.Proofs.YtfpicdkanmgdoaaDoor.Pure
