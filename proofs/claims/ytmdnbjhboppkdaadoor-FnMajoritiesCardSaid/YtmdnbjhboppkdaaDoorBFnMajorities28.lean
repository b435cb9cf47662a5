import Derived.Lib.SlicesCompact
import Derived.Test.YtmdnbjhboppkdaaDoorBFnMajorities27
namespace Go.Proofs.YtmdnbjhboppkdaaDoor.Pure
open Go.RowKit Go.Proofs.YtmdnbjhboppkdaaDoor.Q Go.Proofs.YtmdnbjhboppkdaaDoorW.PrintWords Go.Proofs.YtmdnbjhboppkdaaDoorW.PrintLast
set_option linter.unusedVariables false
set_option linter.unusedSimpArgs false
theorem bang (zs : List Int) (i : Nat) (h : i < zs.length) : zs.toArray[i]! = zs[i] := by
 rw [getElem!_pos zs.toArray i (by simpa using h)]; simp
def dif (l : List Int) : List Int := Lib.compact (l.mergeSort fun x y => decide (x ≤ y))
theorem compactUpTo_facts (d : Array Int) (hs : ∀ i j : Nat, i < j → j < d.size → d[i]! ≤ d[j]!) : ∀ m, m ≤ d.size →
  (Lib.compactUpTo d m).Pairwise (· < ·) ∧ (∀ x, x ∈ Lib.compactUpTo d m ↔ ∃ j, j < m ∧ d[j]! = x) ∧ (∀ x ∈ Lib.compactUpTo d m, ∀ j, m = j + 1 → x ≤ d[j]!) := by
 intro m
 induction m with
 | zero => intro _; simp [Lib.compactUpTo]
 | succ m ih =>
  intro hm
  obtain ⟨h1, h2, h3⟩ := ih (by omega)
  rw [Lib.compactUpTo_succ]
  by_cases h0 : m = 0
  ·subst h0
   rw [Lib.keeps_lt_one d 0 (by omega)]
   simp [Lib.compactUpTo]
   intro x; exact eq_comm
  ·obtain ⟨q, rfl⟩ : ∃ q, m = q + 1 := ⟨m - 1, by omega⟩
   have hle : d[q]! ≤ d[q + 1]! := hs q (q + 1) (by omega) (by omega)
   by_cases he : d[q + 1]! = d[q]!
   ·rw [Lib.keeps_neg (by omega) (by simpa using he)]
    simp only [Bool.false_eq_true, if_false, List.append_nil]
    refine ⟨h1, fun x => ?_, fun x hx j hj => ?_⟩
    ·rw [h2]
     constructor
     ·rintro ⟨j, hj, e⟩; exact ⟨j, by omega, e⟩
     ·rintro ⟨j, hj, e⟩
      by_cases hjq : j = q + 1
      ·subst hjq; exact ⟨q, by omega, by rw [← he]; exact e⟩
      ·exact ⟨j, by omega, e⟩
    ·obtain rfl : j = q + 1 := by omega
     have := h3 x hx q rfl
     omega
   ·rw [Lib.keeps_pos (by simpa using he)]
    simp only [if_true]
    refine ⟨?_, fun x => ?_, fun x hx j hj => ?_⟩
    ·rw [List.pairwise_append]
     refine ⟨h1, by simp, fun x hx y hy => ?_⟩
     have := h3 x hx q rfl
     rw [List.mem_singleton] at hy
     subst hy
     omega
    ·rw [List.mem_append, h2, List.mem_singleton]
     constructor
     ·rintro (⟨j, hj, e⟩ | e)
      ·exact ⟨j, by omega, e⟩
      ·exact ⟨q + 1, by omega, e.symm⟩
     ·rintro ⟨j, hj, e⟩
      by_cases hjq : j = q + 1
      ·subst hjq; exact .inr e.symm
      ·exact .inl ⟨j, by omega, e⟩
    ·obtain rfl : j = q + 1 := by omega
     rw [List.mem_append, List.mem_singleton] at hx
     rcases hx with hx | rfl
     ·have := h3 x hx q rfl; omega
     ·omega
theorem sort_pairwise (l : List Int) : (l.mergeSort fun x y => decide (x ≤ y)).Pairwise (· ≤ ·) := by
 have := List.pairwise_mergeSort (le := fun x y : Int => decide (x ≤ y)) (by intro a b c h1 h2; simp at h1 h2 ⊢; omega) (by intro a b; simp; omega) l
 simpa using this
theorem dif_facts (l : List Int) : (dif l).Pairwise (· < ·) ∧ ∀ x, x ∈ dif l ↔ x ∈ l := by
 have hp := sort_pairwise l
 have h := compactUpTo_facts (l.mergeSort fun x y => decide (x ≤ y)).toArray (fun i j hij hj => by
  have hj' : j < (l.mergeSort fun x y => decide (x ≤ y)).length := by simpa using hj
  have := List.pairwise_iff_getElem.1 hp i j (by omega) hj' hij
  rw [bang _ i (by omega), bang _ j hj']
  exact this) (l.mergeSort fun x y => decide (x ≤ y)).length (by simp)
 refine ⟨h.1, fun x => ?_⟩
 show x ∈ Lib.compactUpTo _ _ ↔ _
 rw [h.2.1, ← List.mem_mergeSort (le := fun x y : Int => decide (x ≤ y)), List.mem_iff_getElem]
 constructor
 ·rintro ⟨j, hj, e⟩; exact ⟨j, hj, by rw [bang _ j hj] at e; exact e⟩
 ·rintro ⟨j, hj, e⟩; exact ⟨j, hj, by rw [bang _ j hj]; exact e⟩
theorem dif_sorted (l : List Int) : (dif l).Pairwise (· < ·) := (dif_facts l).1
theorem mem_dif {l : List Int} {x : Int} : x ∈ dif l ↔ x ∈ l := (dif_facts l).2 x
theorem dif_length (l : List Int) : (dif l).length ≤ l.length := by
 have := Lib.compact_length_le (l.mergeSort fun x y => decide (x ≤ y))
 rwa [List.length_mergeSort] at this
theorem rising_ext : ∀ {a b : List Int}, a.Pairwise (· < ·) → b.Pairwise (· < ·) → (∀ x, x ∈ a ↔ x ∈ b) → a = b
 | [], [], _, _, _ => rfl
 | [], y :: b, _, _, h => by have := (h y).2 (by simp); simp at this
 | x :: a, [], _, _, h => by have := (h x).1 (by simp); simp at this
 | x :: a, y :: b, ha, hb, h => by
  rw [List.pairwise_cons] at ha hb
  have e : x = y := by
   rcases List.mem_cons.1 ((h x).1 (by simp)) with e | hx
   ·exact e
   ·rcases List.mem_cons.1 ((h y).2 (by simp)) with e | hy
    ·exact e.symm
    ·have := ha.1 y hy; have := hb.1 x hx; omega
  subst e
  congr 1
  refine rising_ext ha.2 hb.2 fun z => ?_
  constructor
  ·intro hz
   rcases List.mem_cons.1 ((h z).1 (List.mem_cons_of_mem _ hz)) with e | hz'
   ·have := ha.1 z hz; omega
   ·exact hz'
  ·intro hz
   rcases List.mem_cons.1 ((h z).2 (List.mem_cons_of_mem _ hz)) with e | hz'
   ·have := hb.1 z hz; omega
   ·exact hz'
theorem different_f (l : List Int) (h : l.length ≤ 1048576) : impl_different.f l = some (dif l) := by
 unfold impl_different.f dif
 rw [if_pos (by omega)]
def low (D : List Int) (x : Int) : Int := ((D.filter fun y => decide (y < x)).length : Int)
def lev (l : List Int) : List Int := l.map (low (dif l))
theorem low_split {D : List Int} {x : Int} (p : Nat) (hp : p ≤ D.length) (h1 : ∀ j : Nat, j < p → rd D (j : Int) < x) (h2 : ∀ j : Nat, p ≤ j → j < D.length → x ≤ rd D (j : Int)) : low D x = p := by
 unfold low
 have e : D.filter (fun y => decide (y < x)) = D.take p := by
  conv => lhs; rw [← List.take_append_drop p D]
  rw [List.filter_append]
  have a : (D.take p).filter (fun y => decide (y < x)) = D.take p := by
   rw [List.filter_eq_self]
   intro y hy
   obtain ⟨j, hj, rfl⟩ := List.mem_iff_getElem.1 hy
   rw [List.length_take] at hj
   have := h1 j (by omega)
   rw [rd_lt D j (by omega)] at this
   simpa using this
  have b : (D.drop p).filter (fun y => decide (y < x)) = [] := by
   rw [List.filter_eq_nil_iff]
   intro y hy
   obtain ⟨j, hj, rfl⟩ := List.mem_iff_getElem.1 hy
   rw [List.length_drop] at hj
   have := h2 (p + j) (by omega) (by omega)
   rw [rd_lt D _ (by omega)] at this
   simp; omega
  rw [a, b, List.append_nil]
 rw [e, List.length_take, Nat.min_eq_left hp]
theorem rising_rd {D : List Int} (h : D.Pairwise (· < ·)) {i j : Nat} (hij : i < j) (hj : j < D.length) : rd D (i : Int) < rd D (j : Int) := by
 rw [rd_lt D i (by omega), rd_lt D j hj]
 exact List.pairwise_iff_getElem.1 h i j (by omega) hj hij
theorem low_get {D : List Int} (h : D.Pairwise (· < ·)) (i : Nat) (hi : i < D.length) : low D (rd D (i : Int)) = i := by
 refine low_split i (by omega) (fun j hj => rising_rd h hj hi) (fun j h1 h2 => ?_)
 by_cases e : i = j
 ·subst e; omega
 ·have := rising_rd h (show i < j by omega) h2; omega
theorem low_range (D : List Int) (x : Int) : 0 ≤ low D x ∧ low D x ≤ D.length := by
 unfold low
 have := List.length_filter_le (fun y => decide (y < x)) D
 omega
theorem lev_length (l : List Int) : (lev l).length = l.length := by simp [lev]
theorem put_l (D : List Int) (x : Int) (h : D.Pairwise (· < ·)) (hD : D.length ≤ 1048576) (d : Nat) : ∀ (i : Nat), i + d = D.length → (∀ m : Nat, m < i → rd D (m : Int) < x) →
  ∃ r, Ev (fun k => spec_l1Put.l0 k D x i) r ∧ r.Pairwise (· < ·) ∧ (∀ y, y ∈ r ↔ y = x ∨ y ∈ D) ∧ r.length ≤ D.length + 1 := by
 have ins : ∀ i : Nat, i ≤ D.length → (∀ m : Nat, m < i → rd D (m : Int) < x) → (∀ m : Nat, i ≤ m → m < D.length → x < rd D (m : Int)) → (D.take i ++ [x] ++ D.drop i).Pairwise (· < ·) ∧ (∀ y, y ∈ D.take i ++ [x] ++ D.drop i ↔ y = x ∨ y ∈ D) ∧ (D.take i ++ [x] ++ D.drop i).length ≤ D.length + 1 := by
  intro i hi h1 h2
  have a : ∀ y ∈ D.take i, y < x := by
   intro y hy
   obtain ⟨j, hj, rfl⟩ := List.mem_iff_getElem.1 hy
   rw [List.length_take] at hj
   have := h1 j (by omega)
   rw [rd_lt D j (by omega)] at this
   simpa using this
  have b : ∀ y ∈ D.drop i, x < y := by
   intro y hy
   obtain ⟨j, hj, rfl⟩ := List.mem_iff_getElem.1 hy
   rw [List.length_drop] at hj
   have := h2 (i + j) (by omega) (by omega)
   rw [rd_lt D _ (by omega)] at this
   simpa using this
  refine ⟨?_, fun y => ?_, by simp; omega⟩
  ·rw [List.pairwise_append, List.pairwise_append]
   refine ⟨⟨h.sublist (List.take_sublist _ _), by simp, fun y hy z hz => ?_⟩, h.sublist (List.drop_sublist _ _), fun y hy z hz => ?_⟩
   ·rw [List.mem_singleton] at hz; subst hz; exact a y hy
   ·rw [List.mem_append, List.mem_singleton] at hy
    rcases hy with hy | rfl
    ·have := a y hy; have := b z hz; omega
    ·exact b z hz
  ·conv => rhs; rw [← List.take_append_drop i D]
   simp only [List.mem_append, List.mem_singleton]
   constructor
   ·rintro ((h | h) | h)
    ·exact .inr (.inl h)
    ·exact .inl h
    ·exact .inr (.inr h)
   ·rintro (h | h | h)
    ·exact .inl (.inr h)
    ·exact .inl (.inl h)
    ·exact .inr h
 induction d with
 | zero =>
  intro i hi h1
  refine ⟨_, Ev.shift ?_, ins i (by omega) h1 (fun m a b => by omega)⟩
  simp only [spec_l1Put.l0, Option.bind_some, List.nil_append, List.length_nil]
  refine Ev.neg (by omega) (Ev.pos (by omega) (Ev.pos (by omega) (Ev.pos (by simp; omega) (Ev.pos (by simp; omega) (Ev.pos (by simp; omega) (Ev.ret (by simp)))))))
 | succ d ih =>
  intro i hi h1
  by_cases hc : rd D (i : Int) < x
  ·obtain ⟨r, hr, hq⟩ := ih (i + 1) (by omega) (fun m hm => by
    by_cases e : m = i
    ·subst e; exact hc
    ·exact h1 m (by omega))
   refine ⟨r, Ev.shift ?_, hq⟩
   simp only [spec_l1Put.l0]
   refine Ev.pos (by omega) (Ev.pos (by omega) (Ev.pos hc ?_))
   rw [wrap64_id (by omega) (by omega), cast1]
   exact hr
  ·by_cases he : rd D (i : Int) = x
   ·refine ⟨D, Ev.shift ?_, h, fun y => ⟨fun hy => .inr hy, fun hy => hy.elim (fun e => by rw [e, ← he, rd_lt D i (by omega)]; exact List.getElem_mem _) id⟩, by omega⟩
    simp only [spec_l1Put.l0]
    exact Ev.pos (by omega) (Ev.pos (by omega) (Ev.neg hc (Ev.pos he (Ev.ret rfl))))
   ·refine ⟨_, Ev.shift ?_, ins i (by omega) h1 (fun m a b => by
     by_cases e : i = m
     ·subst e; omega
     ·have := rising_rd h (show i < m by omega) b; omega)⟩
    simp only [spec_l1Put.l0, Option.bind_some, List.nil_append, List.length_nil]
    refine Ev.pos (by omega) (Ev.pos (by omega) (Ev.neg hc (Ev.neg he (Ev.pos (by omega) (Ev.pos (by simp; omega) (Ev.pos (by simp; omega) (Ev.pos (by simp; omega) (Ev.ret (by simp)))))))))
theorem place_l (D : List Int) (x : Int) (h : D.Pairwise (· < ·)) (hD : D.length ≤ 1048576) (p : Nat) (hp : p < D.length) (he : rd D (p : Int) = x) (d : Nat) : ∀ i : Nat, i + d = p → Ev (fun k => spec_orPlace.l0 k x D (D.length : Int) i) (low D x) := by
 induction d with
 | zero =>
  intro i hi
  obtain rfl : i = p := by omega
  refine Ev.shift ?_
  simp only [spec_orPlace.l0]
  refine Ev.pos (by omega) (Ev.pos (by omega) (Ev.pos (by omega) (Ev.pos he (Ev.ret ?_))))
  rw [← he, low_get h i hp]
 | succ d ih =>
  intro i hi
  have := rising_rd h (show i < p by omega) hp
  refine Ev.shift ?_
  simp only [spec_orPlace.l0]
  refine Ev.pos (by omega) (Ev.pos (by omega) (Ev.pos (by omega) (Ev.neg (by omega) ?_)))
  rw [wrap64_id (by omega) (by omega), cast1]
  exact ih (i + 1) (by omega)
theorem place_ev (D : List Int) (x : Int) (h : D.Pairwise (· < ·)) (hD : D.length ≤ 1048576) (hx : x ∈ D) : Ev (fun k => spec_orPlace.f k D x) (low D x) := by
 unfold spec_orPlace.f
 obtain ⟨p, hp, rfl⟩ := List.mem_iff_getElem.1 hx
 exact place_l D _ h hD p hp (rd_lt D p hp) p 0 (by omega)
theorem ofNumbers_in (l D : List Int) (h : D.Pairwise (· < ·)) (hD : D.length ≤ 1048576) (hm : ∀ x ∈ l, x ∈ D) (hl : l.length ≤ 1048576) (d : Nat) : ∀ (i : Nat), i + d = l.length → Ev (fun k => spec_weOfNumbers.l1 k D ((l.take i).map (low D)) l (l.length : Int) i) (l.map (low D)) := by
 induction d with
 | zero =>
  intro i hi
  refine Ev.shift ?_
  simp only [spec_weOfNumbers.l1]
  exact Ev.neg (by omega) (Ev.ret (by rw [List.take_of_length_le (by omega)]))
 | succ d ih =>
  intro i hi
  refine Ev.shift ?_
  simp only [spec_weOfNumbers.l1]
  refine Ev.pos (by omega) (Ev.pos (by omega) (Ev.pos (by omega) (Ev.bind (place_ev D (rd l (i : Int)) h hD (hm _ (by rw [rd_lt l i (by omega)]; exact List.getElem_mem _))) (Ev.pos (by simp; omega) ?_))))
  rw [wrap64_id (by omega) (by omega), cast1]
  have := ih (i + 1) (by omega)
  rw [List.take_succ_eq_append_getElem (by omega), List.map_append, ← rd_lt l i (by omega)] at this
  exact this
theorem ofNumbers_l (l : List Int) (hl : l.length ≤ 1000000) (d : Nat) : ∀ (i : Nat) (D : List Int), i + d = l.length → D.Pairwise (· < ·) → D.length ≤ i → (∀ x, x ∈ D ↔ x ∈ l.take i) → Ev (fun k => spec_weOfNumbers.l0 k l D l (l.length : Int) i) (lev l) := by
 induction d with
 | zero =>
  intro i D hi h hD hm
  rw [List.take_of_length_le (by omega)] at hm
  have e : D = dif l := rising_ext h (dif_sorted l) fun x => by rw [hm, mem_dif]
  refine Ev.shift ?_
  simp only [spec_weOfNumbers.l0]
  refine Ev.neg (by omega) ?_
  subst e
  exact ofNumbers_in l (dif l) h (by omega) (fun x hx => mem_dif.2 hx) (by omega) l.length 0 (by omega)
 | succ d ih =>
  intro i D hi h hD hm
  obtain ⟨r, hr, h1, h2, h3⟩ := put_l D (rd l (i : Int)) h (by omega) D.length 0 (by omega) (fun m hm => by omega)
  refine Ev.shift ?_
  simp only [spec_weOfNumbers.l0]
  refine Ev.pos (by omega) (Ev.pos (by omega) (Ev.pos (by omega) (Ev.bind (a := r) (by unfold spec_l1Put.f; exact hr) ?_)))
  rw [wrap64_id (by omega) (by omega), cast1]
  refine ih (i + 1) r (by omega) h1 (by omega) fun x => ?_
  rw [h2, hm, List.take_succ_eq_append_getElem (by omega), List.mem_append, List.mem_singleton, rd_lt l i (by omega)]
  exact Or.comm
theorem ofNumbers_ev (l : List Int) (hl : l.length ≤ 1000000) : Ev (fun k => spec_weOfNumbers.f k l) (lev l) := by
 unfold spec_weOfNumbers.f
 exact ofNumbers_l l hl l.length 0 [] (by omega) (by simp) (by simp) (by simp)
-- drawn levels: short lists
theorem elements_d {c : List Int} (hc : bytesP c) {a : Int} (s : Int) (h0 : 0 ≤ a) (h1 : a ≤ 1000000) : Drw (spec_l1Cur_elements.f c a s) (fun x => 0 ≤ x ∧ x ≤ 11) a 4 := by
 unfold spec_l1Cur_elements.f
 obtain ⟨b, a1, s1, e, _, h2, h3⟩ := one_d hc (a := a) s 15 h0 (by omega) (by omega)
 rw [e, Option.bind_some]
 dsimp only
 by_cases hb : b = true
 ·rw [if_pos hb]
  obtain ⟨x, a2, s2, e2, hx, h4, h5⟩ := among_d hc (a := a1) s1 [0, 10, 11] (by omega) (by omega) (by simp)
  rw [e2, Option.bind_some]
  refine ⟨_, _, _, rfl, ?_, by dsimp only; omega, by dsimp only; omega⟩
  simp at hx; dsimp only; omega
 ·rw [if_neg hb]
  obtain ⟨x, a2, s2, e2, hx, h4, h5⟩ := pick_d hc (a := a1) s1 7 (by omega) (by omega) (by omega)
  rw [e2, Option.bind_some]
  refine ⟨_, _, _, rfl, ?_, by dsimp only; omega, by dsimp only; omega⟩
  dsimp only; omega
def DrV (g : Nat → Option (List Int × Int × Int)) (P : List Int → Prop) (a n : Int) : Prop := ∃ l a' s', Ev g (l, a', s') ∧ P l ∧ a ≤ a' ∧ a' ≤ a + n
theorem levels_dj {c : List Int} (hc : bytesP c) (l : List Int) (b : Bool) (hb : b = true → 0 < l.length) {a : Int} (s : Int) (h0 : 0 ≤ a) (h1 : a ≤ 1000000) : DrV (fun k => spec_l1Cur_levels.j1 k l b c a s) (fun m => m.length = l.length) a 4 := by
 cases b with
 | false =>
  refine ⟨l, a, s, Ev.shift ?_, rfl, by omega, by omega⟩
  simp only [spec_l1Cur_levels.j1]
  exact Ev.neg (by simp) (Ev.ret rfl)
 | true =>
  have := hb rfl
  obtain ⟨x, a1, s1, e1, hx, h2, h3⟩ := pick_d hc (a := a) s (l.length : Int) h0 (by omega) (by omega)
  obtain ⟨y, a2, s2, e2, hy, h4, h5⟩ := among_d hc (a := a1) s1 [(-1), 0, 1, 9, 11, (-9223372036854775808)] (by omega) (by omega) (by simp)
  refine ⟨l.set x.toNat y, a2, s2, Ev.shift ?_, by simp, by omega, by omega⟩
  simp only [spec_l1Cur_levels.j1]
  exact Ev.pos (by simp) (Ev.bindc e1 (Ev.bindc e2 (Ev.pos hx.1 (Ev.pos hx.2 (Ev.ret rfl)))))
theorem levels_dl {c : List Int} (hc : bytesP c) (d : Nat) : ∀ (l : List Int) (a s : Int), l.length + d ≤ 1000 → 0 ≤ a → a + 2 * d ≤ 100000 → DrV (fun k => spec_l1Cur_levels.l0 k (d : Int) l c a s) (fun m => m.length = l.length + d) a (2 * d + 6) := by
 induction d with
 | zero =>
  intro l a s hl h0 h1
  by_cases hp : 0 < l.length
  ·obtain ⟨b, a1, s1, e1, _, h2, h3⟩ := one_d hc (a := a) s 20 h0 (by omega) (by omega)
   obtain ⟨m, a2, s2, e2, hm, h4, h5⟩ := levels_dj hc (lev l) b (fun _ => by rw [lev_length]; exact hp) (a := a1) s1 (by omega) (by omega)
   refine ⟨m, a2, s2, Ev.shift ?_, by dsimp only; rw [hm, lev_length]; omega, by omega, by omega⟩
   simp only [spec_l1Cur_levels.l0]
   exact Ev.neg (by omega) (Ev.bind (ofNumbers_ev l (by omega)) (Ev.pos (by rw [lev_length]; omega) (Ev.bindc e1 e2)))
  ·obtain ⟨m, a2, s2, e2, hm, h4, h5⟩ := levels_dj hc (lev l) false (fun h => by cases h) (a := a) s (by omega) (by omega)
   refine ⟨m, a2, s2, Ev.shift ?_, by dsimp only; rw [hm, lev_length]; omega, by omega, by omega⟩
   simp only [spec_l1Cur_levels.l0]
   exact Ev.neg (by omega) (Ev.bind (ofNumbers_ev l (by omega)) (Ev.neg (by rw [lev_length]; omega) e2))
 | succ d ih =>
  intro l a s hl h0 h1
  obtain ⟨x, a1, s1, e, hx, h2, h3⟩ := pick_d hc (a := a) s 5 h0 (by omega) (by omega)
  obtain ⟨m, a2, s2, e2, hm, h4, h5⟩ := ih (l ++ [x]) a1 s1 (by simp; omega) (by omega) (by omega)
  refine ⟨m, a2, s2, Ev.shift ?_, by dsimp only; rw [hm]; simp; omega, by omega, by omega⟩
  simp only [spec_l1Cur_levels.l0]
  refine Ev.pos (by omega) (Ev.bindc e (Ev.pos (by omega) ?_))
  rw [show wrap64 ((d + 1 : Nat) - 1 : Int) = (d : Int) by rw [wrap64_id (by omega) (by omega)]; omega]
  exact e2
theorem levels_d {c : List Int} (hc : bytesP c) {a : Int} (s n : Int) (hn : 0 ≤ n ∧ n ≤ 20) (h0 : 0 ≤ a) (h1 : a ≤ 10000) : DrV (fun k => spec_l1Cur_levels.f k c a s n) (fun m => (m.length : Int) = n) a 50 := by
 obtain ⟨N, rfl⟩ : ∃ N : Nat, n = N := ⟨n.toNat, by omega⟩
 obtain ⟨m, a2, s2, e2, hm, h4, h5⟩ := levels_dl hc N [] a s (by simp; omega) h0 (by omega)
 refine ⟨m, a2, s2, ?_, by dsimp only; rw [hm]; simp, h4, by omega⟩
 unfold spec_l1Cur_levels.f
 exact e2
end Go.Proofs.YtmdnbjhboppkdaaDoor.Pure
namespace Go.Proofs.YtmdnbjhboppkdaaDoor.Pure
open Go.RowKit Go.Proofs.YtmdnbjhboppkdaaDoor.Q Go.Proofs.YtmdnbjhboppkdaaDoorW.PrintWords Go.Proofs.YtmdnbjhboppkdaaDoorW.PrintLast
set_option linter.unusedVariables false
set_option linter.unusedSimpArgs false
end Go.Proofs.YtmdnbjhboppkdaaDoor.Pure
namespace Go.Proofs.YtmdnbjhboppkdaaDoor.Pure
open Go.RowKit Go.Proofs.YtmdnbjhboppkdaaDoor.Q Go.Proofs.YtmdnbjhboppkdaaDoorW.PrintWords Go.Proofs.YtmdnbjhboppkdaaDoorW.PrintLast
set_option linter.unusedVariables false
set_option linter.unusedSimpArgs false
theorem Ev.up {α : Type} {g : Nat → Option α} {r : α} (h : Ev g r) : Ev (fun k => g (k + 1)) r := by
 obtain ⟨K, hK⟩ := h; exact ⟨K, fun k hk => hK (k + 1) (by omega)⟩
def orb (x : Int) (j : Nat) : Int := Go.bits .or .i64 x (shl .i64 1 (j : Int))
def rowf (p : Nat → Bool) (d : Nat) : Int := (List.range d).foldl (fun x j => if p j then orb x j else x) 0
theorem rowf_succ (p : Nat → Bool) (d : Nat) : rowf p (d + 1) = if p d then orb (rowf p d) d else rowf p d := by
 simp [rowf, List.range_succ, List.foldl_append]
def rel (p : Nat → Nat → Bool) (n : Nat) : List Int := (List.range n).map fun i => rowf (p i) n
theorem rel_length (p : Nat → Nat → Bool) (n : Nat) : (rel p n).length = n := by simp [rel]
theorem rel_get (p : Nat → Nat → Bool) (n i : Nat) (h : i < n) : rd (rel p n) (i : Int) = rowf (p i) n := by
 rw [rd_lt _ i (by rw [rel_length]; exact h)]; simp [rel]
def relUpto (p : Nat → Nat → Bool) (n i : Nat) : List Int := (rel p n).take i ++ List.replicate (n - i) 0
theorem relation_l1 (p : Nat → Nat → Bool) (n : Nat) (hn : n ≤ 1000) (i : Nat) (hi : i < n) (R : Int × List Int) (hR : ∀ g : Nat → Int → Int → Option Bool, (∀ i j : Nat, i < n → j < n → Ev (fun k => g k i j) (p i j)) → ∀ y : List Int, y.length = n → rd y (i : Int) = rowf (p i) n → (∀ m : Nat, m < n → m ≠ i → rd y (m : Int) = if m < i then rowf (p m) n else 0) → Ev (fun k => impl_relation.l0 k n (g k) n ((i + 1 : Nat) : Int) n y) R) (d : Nat) :
  ∀ (j : Nat) (y : List Int) (g : Nat → Int → Int → Option Bool), (∀ i j : Nat, i < n → j < n → Ev (fun k => g k i j) (p i j)) → j + d = n → y.length = n → rd y (i : Int) = rowf (p i) j → (∀ m : Nat, m < n → m ≠ i → rd y (m : Int) = if m < i then rowf (p m) n else 0) →
  Ev (fun k => impl_relation.l1 k n (g k) (i : Int) n (i : Int) n (j : Int) n y) R := by
 induction d with
 | zero =>
  intro j y g hg hj hy h1 h2
  obtain rfl : j = n := by omega
  refine Ev.shift ?_
  simp only [impl_relation.l1]
  refine Ev.neg (by omega) ?_
  rw [wrap64_id (x := (i : Int) + 1) (by omega) (by omega), cast1]
  exact hR (fun k => g (k + 1)) (fun a b ha hb => Ev.up (hg a b ha hb)) y hy h1 h2
 | succ d ih =>
  intro j y g hg hj hy h1 h2
  have hg' : ∀ i j : Nat, i < n → j < n → Ev (fun k => g (k + 1) i j) (p i j) := fun a b ha hb => Ev.up (hg a b ha hb)
  refine Ev.shift ?_
  simp only [impl_relation.l1]
  refine Ev.pos (by omega) (Ev.bind (hg' i j hi (by omega)) ?_)
  rw [wrap64_id (x := (j : Int) + 1) (by omega) (by omega), cast1]
  by_cases hp : p i j = true
  ·refine Ev.pos hp (Ev.pos (by omega) (Ev.pos (by omega) (Ev.pos (by omega) ?_)))
   rw [Int.toNat_natCast]
   refine ih (j + 1) _ (fun k => g (k + 1)) hg' (by omega) (by simp; omega) ?_ ?_
   ·rw [rd_lt _ i (by simp; omega), List.getElem_set_self, rowf_succ, if_pos hp, h1]; rfl
   ·intro m hm hmi
    rw [rd_lt _ m (by simp; omega), List.getElem_set_ne (Ne.symm hmi), ← rd_lt y m (by omega)]
    exact h2 m hm hmi
  ·refine Ev.neg hp (ih (j + 1) y (fun k => g (k + 1)) hg' (by omega) hy ?_ h2)
   rw [rowf_succ, if_neg hp]; exact h1
theorem relation_l0 (p : Nat → Nat → Bool) (n : Nat) (hn : n ≤ 1000) (d : Nat) : ∀ (i : Nat) (y : List Int) (g : Nat → Int → Int → Option Bool), (∀ i j : Nat, i < n → j < n → Ev (fun k => g k i j) (p i j)) → i + d = n → y.length = n → (∀ m : Nat, m < n → rd y (m : Int) = if m < i then rowf (p m) n else 0) →
  Ev (fun k => impl_relation.l0 k n (g k) n (i : Int) n y) ((n : Int), rel p n) := by
 induction d with
 | zero =>
  intro i y g hg hi hy h1
  refine Ev.shift ?_
  simp only [impl_relation.l0]
  refine Ev.neg (by omega) (Ev.ret ?_)
  congr 1
  apply List.ext_getElem (by rw [rel_length]; exact hy)
  intro m hm1 hm2
  have := h1 m (by omega)
  rw [if_pos (by omega), rd_lt y m hm1, ← rel_get p n m (by omega), rd_lt _ m hm2] at this
  exact this
 | succ d ih =>
  intro i y g hg hi hy h1
  refine Ev.shift ?_
  simp only [impl_relation.l0]
  refine Ev.pos (by omega) ?_
  refine relation_l1 p n hn i (by omega) _ (fun g' hg' y' hy' h1' h2' => ih (i + 1) y' g' hg' (by omega) hy' (fun m hm => ?_)) n 0 y (fun k => g (k + 1)) (fun a b ha hb => Ev.up (hg a b ha hb)) (by omega) hy ?_ ?_
  ·by_cases e : m = i
   ·subst e; rw [h1', if_pos (by omega)]
   ·rw [h2' m hm e]
    by_cases hlt : m < i
    ·rw [if_pos hlt, if_pos (by omega)]
    ·rw [if_neg hlt, if_neg (by omega)]
  ·rw [h1 i (by omega), if_neg (by omega)]; rfl
  ·intro m hm e; exact h1 m hm
theorem relation_ev (p : Nat → Nat → Bool) (n : Nat) (hn : n ≤ 1000) (g : Nat → Int → Int → Option Bool) (hg : ∀ i j : Nat, i < n → j < n → Ev (fun k => g k i j) (p i j)) : Ev (fun k => impl_relation.f k n (g k)) ((n : Int), rel p n) := by
 unfold impl_relation.f
 refine Ev.pos (by omega) (Ev.pos (by omega) ?_)
 rw [Int.toNat_natCast]
 exact relation_l0 p n hn n 0 _ g hg (by omega) (by simp) (fun m hm => by rw [rd_lt _ m (by simp; omega), List.getElem_replicate, if_neg (by omega)])
theorem rowf_bits (p : Nat → Bool) (d : Nat) : d ≤ 10 → setP (rowf p d) ∧ ∀ m, bit (rowf p d) m = (decide (m < d) && p m) := by
 induction d with
 | zero => intro _; exact ⟨set_zero, fun m => by rw [show rowf p 0 = 0 from rfl, bit_zero]; simp⟩
 | succ d ih =>
  intro hd
  obtain ⟨h1, h2⟩ := ih (by omega)
  rw [rowf_succ]
  by_cases hp : p d = true
  ·rw [if_pos hp]
   have hs := set_shl (j := d) (by omega)
   have ho := set_or h1 hs.1
   refine ⟨ho.1, fun m => ?_⟩
   show bit (Go.bits .or .i64 (rowf p d) (shl .i64 1 (d : Int))) m = _
   rw [ho.2, h2, hs.2]
   by_cases e : m = d
   ·subst e; simp [hp]
   ·by_cases l : m < d
    ·simp [l, e, show m < d + 1 by omega]
    ·simp [l, e, show ¬ m < d + 1 by omega]
  ·rw [if_neg hp]
   refine ⟨h1, fun m => ?_⟩
   rw [h2]
   by_cases e : m = d
   ·subst e; simp [hp]
   ·by_cases l : m < d
    ·simp [l, show m < d + 1 by omega]
    ·simp [l, show ¬ m < d + 1 by omega]
theorem rel_set {p : Nat → Nat → Bool} {n i : Nat} (hn : n ≤ 10) (hi : i < n) : setP (rd (rel p n) (i : Int)) := by
 rw [rel_get p n i hi]; exact (rowf_bits (p i) n hn).1
theorem rel_lt {p : Nat → Nat → Bool} {n i : Nat} (hn : n ≤ 10) (hi : i < n) (j : Nat) : lt (rel p n) i j = (decide (j < n) && p i j) := by
 unfold lt; rw [rel_get p n i hi]; exact (rowf_bits (p i) n hn).2 j
theorem rel_relP {n : Int} {N : Nat} (hn : n = N) (h10 : N ≤ 10) (p : Nat → Nat → Bool) : relP n (rel p N) := by
 subst hn
 refine ⟨⟨by omega, by omega⟩, by rw [rel_length], fun x hx => ?_⟩
 obtain ⟨i, hi, rfl⟩ := List.mem_iff_getElem.1 hx
 rw [rel_length] at hi
 rw [← rd_lt _ i (by rw [rel_length]; exact hi)]
 have hs := rel_set (p := p) h10 hi
 refine ⟨hs.1, ?_⟩
 rw [full_pow h10]
 obtain ⟨a, ha, hlt⟩ := hs.nat
 rw [ha]
 have : a < 2 ^ N := by
  refine Nat.lt_pow_two_of_testBit a fun m hm => ?_
  have := rel_lt (p := p) h10 hi m
  unfold lt at this
  rw [ha, bit_nat] at this
  rw [this]; simp; omega
 have h2 : ((2 ^ N : Nat) : Int) = (2 : Int) ^ N := by simp
 omega
def mir (L : List Int) : List Int := rel (fun i j => lt L j i) L.length
theorem mir_length (L : List Int) : (mir L).length = L.length := rel_length _ _
theorem below_l {n : Int} {L : List Int} (h : relP n L) (i : Nat) (hi : i < L.length) (d : Nat) : ∀ (j : Nat), j + d = L.length → Ev (fun k => spec_orBelow.l0 k (i : Int) (rowf (fun j => lt L j i) j) L (L.length : Int) (j : Int)) (rowf (fun j => lt L j i) L.length) := by
 have e1 := h.2.1
 have e3 := h.1
 induction d with
 | zero =>
  intro j hj
  refine Ev.shift ?_
  simp only [spec_orBelow.l0]
  exact Ev.neg (by omega) (Ev.ret (by rw [show j = L.length by omega]))
 | succ d ih =>
  intro j hj
  have := ih (j + 1) (by omega)
  rw [rowf_succ] at this
  refine Ev.shift ?_
  simp only [spec_orBelow.l0]
  refine Ev.pos (by omega) (Ev.pos (by omega) (Ev.pos (by omega) (Ev.bindc (orHas_f (h.set (i := j) (by omega)).1 (h.set (i := j) (by omega)).2 (by omega)) ?_)))
  rw [wrap64_id (by omega) (by omega), cast1]
  by_cases hb : bit (rd L (j : Int)) i = true
  ·rw [if_pos (show lt L j i = true from hb)] at this
   exact Ev.pos hb this
  ·rw [if_neg (show ¬ lt L j i = true from hb)] at this
   exact Ev.neg hb this
theorem below_ev {n : Int} {L : List Int} (h : relP n L) {i : Nat} (hi : i < L.length) : Ev (fun k => spec_orBelow.f k n L (i : Int)) (rowf (fun j => lt L j i) L.length) := by
 unfold spec_orBelow.f
 exact below_l h i hi L.length 0 (by omega)
theorem orMirror_l {n : Int} {L : List Int} (h : relP n L) (d : Nat) : ∀ i : Nat, i + d = L.length → Ev (fun k => spec_orMirror.l0 k (L.length : Int) (i : Int) n L n ((mir L).take i)) (n, mir L) := by
 have h1 := h.1; have h2 := h.2.1
 induction d with
 | zero =>
  intro i hi
  refine Ev.shift ?_
  simp only [spec_orMirror.l0]
  exact Ev.neg (by omega) (Ev.ret (by rw [List.take_of_length_le (by rw [mir_length]; omega)]))
 | succ d ih =>
  intro i hi
  have := ih (i + 1) (by omega)
  rw [List.take_succ_eq_append_getElem (by rw [mir_length]; omega), ← rd_lt _ i (by rw [mir_length]; omega)] at this
  refine Ev.shift ?_
  simp only [spec_orMirror.l0]
  refine Ev.pos (by omega) (Ev.bind (below_ev h (by omega)) (Ev.pos (by rw [List.length_take, mir_length]; omega) ?_))
  rw [wrap64_id (by omega) (by omega), cast1]
  rw [show rd (mir L) (i : Int) = rowf (fun j => lt L j i) L.length from rel_get _ _ i (by omega)] at this
  exact this
theorem orMirror_ev {n : Int} {L : List Int} (h : relP n L) : Ev (fun k => spec_orMirror.f k n L) (n, mir L) := by
 unfold spec_orMirror.f
 exact orMirror_l h L.length 0 (by omega)
end Go.Proofs.YtmdnbjhboppkdaaDoor.Pure
