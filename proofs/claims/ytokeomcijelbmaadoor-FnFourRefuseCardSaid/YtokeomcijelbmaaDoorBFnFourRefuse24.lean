import Derived.Lib.SlicesCompact
import Derived.Test.YtokeomcijelbmaaDoorBFnFourRefuse14
import Derived.Test.YtokeomcijelbmaaDoorBFnFourRefuse23
namespace Go.Proofs.YtokeomcijelbmaaDoor.Pure
open Go.RowKit Go.Proofs.YtokeomcijelbmaaDoor.Q Go.Proofs.YtokeomcijelbmaaDoorW.PrintWords Go.Proofs.YtokeomcijelbmaaDoorW.PrintLast
set_option linter.unusedVariables false
set_option linter.unusedSimpArgs false
theorem bang (zs : List Int) (i : Nat) (h : i < zs.length) : zs.toArray[i]! = zs[i] := by
 rw [getElem!_pos zs.toArray i (by simpa using h)]; simp
def dif (l : List Int) : List Int := Lib.compact (l.mergeSort fun x y => decide (x ≤ y))
theorem compactUpTo_facts (d : Array Int) (hs : ∀ i j : Nat, i < j → j < d.size → d[i]! ≤ d[j]!) : ∀ m, m ≤ d.size →
  (Lib.compactUpTo d m).Pairwise (· < ·) ∧ (∀ x, x ∈ Lib.compactUpTo d m ↔ ∃ j, j < m ∧ d[j]! = x) ∧ (∀ x ∈ Lib.compactUpTo d m, ∀ j, m = j + 1 → x ≤ d[j]!) := by
 intro m
 induction m with
 | zero => intro _; simp [Lib.compactUpTo]
 | succ m ih =>
  intro hm
  obtain ⟨h1, h2, h3⟩ := ih (by omega)
  rw [Lib.compactUpTo_succ]
  by_cases h0 : m = 0
  ·subst h0
   rw [Lib.keeps_lt_one d 0 (by omega)]
   simp [Lib.compactUpTo]
   intro x; exact eq_comm
  ·obtain ⟨q, rfl⟩ : ∃ q, m = q + 1 := ⟨m - 1, by omega⟩
   have hle : d[q]! ≤ d[q + 1]! := hs q (q + 1) (by omega) (by omega)
   by_cases he : d[q + 1]! = d[q]!
   ·rw [Lib.keeps_neg (by omega) (by simpa using he)]
    simp only [Bool.false_eq_true, if_false, List.append_nil]
    refine ⟨h1, fun x => ?_, fun x hx j hj => ?_⟩
    ·rw [h2]
     constructor
     ·rintro ⟨j, hj, e⟩; exact ⟨j, by omega, e⟩
     ·rintro ⟨j, hj, e⟩
      by_cases hjq : j = q + 1
      ·subst hjq; exact ⟨q, by omega, by rw [← he]; exact e⟩
      ·exact ⟨j, by omega, e⟩
    ·obtain rfl : j = q + 1 := by omega
     have := h3 x hx q rfl
     omega
   ·rw [Lib.keeps_pos (by simpa using he)]
    simp only [if_true]
    refine ⟨?_, fun x => ?_, fun x hx j hj => ?_⟩
    ·rw [List.pairwise_append]
     refine ⟨h1, by simp, fun x hx y hy => ?_⟩
     have := h3 x hx q rfl
     rw [List.mem_singleton] at hy
     subst hy
     omega
    ·rw [List.mem_append, h2, List.mem_singleton]
     constructor
     ·rintro (⟨j, hj, e⟩ | e)
      ·exact ⟨j, by omega, e⟩
      ·exact ⟨q + 1, by omega, e.symm⟩
     ·rintro ⟨j, hj, e⟩
      by_cases hjq : j = q + 1
      ·subst hjq; exact .inr e.symm
      ·exact .inl ⟨j, by omega, e⟩
    ·obtain rfl : j = q + 1 := by omega
     rw [List.mem_append, List.mem_singleton] at hx
     rcases hx with hx | rfl
     ·have := h3 x hx q rfl; omega
     ·omega
theorem sort_pairwise (l : List Int) : (l.mergeSort fun x y => decide (x ≤ y)).Pairwise (· ≤ ·) := by
 have := List.pairwise_mergeSort (le := fun x y : Int => decide (x ≤ y)) (by intro a b c h1 h2; simp at h1 h2 ⊢; omega) (by intro a b; simp; omega) l
 simpa using this
theorem dif_facts (l : List Int) : (dif l).Pairwise (· < ·) ∧ ∀ x, x ∈ dif l ↔ x ∈ l := by
 have hp := sort_pairwise l
 have h := compactUpTo_facts (l.mergeSort fun x y => decide (x ≤ y)).toArray (fun i j hij hj => by
  have hj' : j < (l.mergeSort fun x y => decide (x ≤ y)).length := by simpa using hj
  have := List.pairwise_iff_getElem.1 hp i j (by omega) hj' hij
  rw [bang _ i (by omega), bang _ j hj']
  exact this) (l.mergeSort fun x y => decide (x ≤ y)).length (by simp)
 refine ⟨h.1, fun x => ?_⟩
 show x ∈ Lib.compactUpTo _ _ ↔ _
 rw [h.2.1, ← List.mem_mergeSort (le := fun x y : Int => decide (x ≤ y)), List.mem_iff_getElem]
 constructor
 ·rintro ⟨j, hj, e⟩; exact ⟨j, hj, by rw [bang _ j hj] at e; exact e⟩
 ·rintro ⟨j, hj, e⟩; exact ⟨j, hj, by rw [bang _ j hj]; exact e⟩
theorem dif_sorted (l : List Int) : (dif l).Pairwise (· < ·) := (dif_facts l).1
theorem mem_dif {l : List Int} {x : Int} : x ∈ dif l ↔ x ∈ l := (dif_facts l).2 x
theorem dif_length (l : List Int) : (dif l).length ≤ l.length := by
 have := Lib.compact_length_le (l.mergeSort fun x y => decide (x ≤ y))
 rwa [List.length_mergeSort] at this
theorem rising_ext : ∀ {a b : List Int}, a.Pairwise (· < ·) → b.Pairwise (· < ·) → (∀ x, x ∈ a ↔ x ∈ b) → a = b
 | [], [], _, _, _ => rfl
 | [], y :: b, _, _, h => by have := (h y).2 (by simp); simp at this
 | x :: a, [], _, _, h => by have := (h x).1 (by simp); simp at this
 | x :: a, y :: b, ha, hb, h => by
  rw [List.pairwise_cons] at ha hb
  have e : x = y := by
   rcases List.mem_cons.1 ((h x).1 (by simp)) with e | hx
   ·exact e
   ·rcases List.mem_cons.1 ((h y).2 (by simp)) with e | hy
    ·exact e.symm
    ·have := ha.1 y hy; have := hb.1 x hx; omega
  subst e
  congr 1
  refine rising_ext ha.2 hb.2 fun z => ?_
  constructor
  ·intro hz
   rcases List.mem_cons.1 ((h z).1 (List.mem_cons_of_mem _ hz)) with e | hz'
   ·have := ha.1 z hz; omega
   ·exact hz'
  ·intro hz
   rcases List.mem_cons.1 ((h z).2 (List.mem_cons_of_mem _ hz)) with e | hz'
   ·have := hb.1 z hz; omega
   ·exact hz'
theorem different_f (l : List Int) (h : l.length ≤ 1048576) : impl_different.f l = some (dif l) := by
 unfold impl_different.f dif
 rw [if_pos (by omega)]
theorem countP_more {D : List Int} {p q : Int → Bool} (h : ∀ x ∈ D, p x = true → q x = true) (hx : ∃ a ∈ D, q a = true ∧ p a = false) : D.countP p + 1 ≤ D.countP q := by
 induction D with
 | nil => obtain ⟨a, ha, _⟩ := hx; simp at ha
 | cons y D ih =>
  have h1 : D.countP p ≤ D.countP q := List.countP_mono_left fun x hx => h x (List.mem_cons_of_mem _ hx)
  rw [List.countP_cons, List.countP_cons]
  by_cases hy : q y = true ∧ p y = false
  ·rw [if_pos hy.1, if_neg (by simp [hy.2])]; omega
  ·obtain ⟨a, ha, hq, hp⟩ := hx
   have ha' : a ∈ D := by
    rcases List.mem_cons.1 ha with rfl | h
    ·exact absurd ⟨hq, hp⟩ hy
    ·exact h
   have := ih (fun x hx => h x (List.mem_cons_of_mem _ hx)) ⟨a, ha', hq, hp⟩
   by_cases hpy : p y = true
   ·rw [if_pos hpy, if_pos (h y List.mem_cons_self hpy)]; omega
   ·rw [if_neg hpy]; split <;> omega
theorem countP_one {D : List Int} (hD : D.Nodup) {a : Int} (ha : a ∈ D) {p q : Int → Bool} (hp : p a = false) (hq : q a = true) (h : ∀ x ∈ D, x ≠ a → q x = p x) : D.countP q = D.countP p + 1 := by
 induction D with
 | nil => simp at ha
 | cons y D ih =>
  rw [List.nodup_cons] at hD
  rw [List.countP_cons, List.countP_cons]
  by_cases hy : y = a
  ·subst hy
   rw [if_pos hq, if_neg (by simp [hp])]
   have : D.countP q = D.countP p := List.countP_congr fun x hx => by
    rw [h x (List.mem_cons_of_mem _ hx) (fun e => hD.1 (e ▸ hx))]
   omega
  ·have ha' : a ∈ D := by
    rcases List.mem_cons.1 ha with h | h
    ·exact absurd h.symm hy
    ·exact h
   have := ih hD.2 ha' (fun x hx => h x (List.mem_cons_of_mem _ hx))
   rw [h y List.mem_cons_self hy]
   omega
theorem exists_max (n : Nat) (P : Nat → Prop) (f : Nat → Nat) (h : ∃ j, j < n ∧ P j) : ∃ j, j < n ∧ P j ∧ ∀ m, m < n → P m → f m ≤ f j := by
 induction n with
 | zero => obtain ⟨j, hj, _⟩ := h; omega
 | succ n ih =>
  by_cases h2 : ∃ j, j < n ∧ P j
  ·obtain ⟨j, hj, hp, hm⟩ := ih h2
   by_cases hn : P n ∧ f j < f n
   ·exact ⟨n, by omega, hn.1, fun m hm1 hm2 => by
     rcases Nat.lt_or_ge m n with h | h
     ·have := hm m h hm2; omega
     ·obtain rfl : m = n := by omega
      omega⟩
   ·refine ⟨j, by omega, hp, fun m hm1 hm2 => ?_⟩
    rcases Nat.lt_or_ge m n with h | h
    ·exact hm m h hm2
    ·obtain rfl : m = n := by omega
     exact Nat.le_of_not_lt fun h => hn ⟨hm2, h⟩
  ·obtain ⟨j, hj, hp⟩ := h
   have : j = n := by
    rcases Nat.lt_or_ge j n with h | h
    ·exact absurd ⟨j, h, hp⟩ h2
    ·omega
   subst this
   refine ⟨j, hj, hp, fun m hm1 hm2 => ?_⟩
   rcases Nat.lt_or_ge m j with h | h
   ·exact absurd ⟨m, h, hm2⟩ h2
   ·rw [show m = j by omega]; exact Nat.le_refl _
def below1 (x s : Int) : Bool := decide (s ≠ x ∧ andN s x = 0)
def lvc (L : List Int) (i : Nat) : Nat := (dif (dns L)).countP (below1 (dn L i))
theorem dif_nodup (l : List Int) : (dif l).Nodup := List.Pairwise.imp (fun h e => by omega) (dif_sorted l)
theorem mem_difs {L : List Int} {x : Int} : x ∈ dif (dns L) ↔ ∃ i, i < L.length ∧ dn L i = x := by rw [mem_dif, mem_dns]
theorem mirror_ev {n : Int} {L : List Int} (h : relP n L) : Ev (fun k => impl_Order_mirror.f k n L) (n, rel (fun i j => lt L j i) L.length) := by
 have e1 := h.2.1
 have e3 := h.1
 unfold impl_Order_mirror.f
 have hrel := relation_ev (fun i j => lt L j i) L.length (by omega) (fun _ u0_ u1_ => impl_Order_mirror_1.f u0_ u1_ n L) (fun i j hi hj => Ev.const (by
  unfold impl_Order_mirror_1.f
  rw [better_f n L hj (h.set hj) (by omega), Option.bind_some]; rfl))
 rw [e1] at hrel
 exact Ev.bind hrel (Ev.ret rfl)
def lvs (L : List Int) : List Int := (dns L).map fun x => ((dif (dns L)).countP (below1 x) : Int)
theorem lvs_eq (L : List Int) : lvs L = (List.range L.length).map fun i => (lvc L i : Int) := by
 unfold lvs lvc
 generalize dif (dns L) = D
 unfold dns rel
 rw [List.map_map]
 rfl
theorem lvs_length (L : List Int) : (lvs L).length = L.length := by rw [lvs_eq]; simp
theorem levels_in (x : Int) (x3 D M : List Int) (i : Nat) (hD : D.length ≤ 1000) (h3 : x3.length ≤ 1000) (R : List Int) (hR : Ev (fun k => impl_Order_levels.l0 k (x3 ++ [(D.countP (below1 x) : Int)]) D M (M.length : Int) ((i + 1 : Nat) : Int)) R) (hi : i < 1000) (d : Nat) :
  ∀ q : Nat, q + d = D.length → Ev (fun k => impl_Order_levels.l1 k x3 D x ((D.take q).countP (below1 x) : Int) M (M.length : Int) (i : Int) D (D.length : Int) (q : Int)) R := by
 induction d with
 | zero =>
  intro q hq
  refine Ev.shift ?_
  simp only [impl_Order_levels.l1]
  refine Ev.neg (by omega) (Ev.pos (by omega) ?_)
  rw [wrap64_id (by omega) (by omega), cast1, List.take_of_length_le (by omega)]
  exact hR
 | succ d ih =>
  intro q hq
  have hc := List.countP_le_length (p := below1 x) (l := D.take q)
  have hl : (D.take q).length ≤ q := by simp; omega
  have hn : (D.take (q + 1)).countP (below1 x) = (D.take q).countP (below1 x) + if below1 x (rd D (q : Int)) = true then 1 else 0 := by
   rw [List.take_succ_eq_append_getElem (show q < D.length by omega), List.countP_append, List.countP_singleton, rd_lt D q (by omega)]
  have hb : below1 x (rd D (q : Int)) = decide (rd D (q : Int) ≠ x ∧ Go.bits .andNot .i64 (rd D (q : Int)) x = 0) := rfl
  refine Ev.shift ?_
  simp only [impl_Order_levels.l1]
  refine Ev.pos (by omega) (Ev.pos (by omega) (Ev.pos (by omega) ?_))
  rw [wrap64_id (x := (q : Int) + 1) (by omega) (by omega), wrap64_id (x := ((D.take q).countP (below1 x) : Int) + 1) (by omega) (by omega), cast1]
  have := ih (q + 1) (by omega)
  rw [hn, hb] at this
  by_cases h1 : rd D (q : Int) = x
  ·rw [if_neg (by simp [h1])] at this
   exact Ev.pos h1 this
  ·refine Ev.neg h1 ?_
   by_cases h2 : Go.bits .andNot .i64 (rd D (q : Int)) x = 0
   ·rw [if_pos (by simp [h1, h2])] at this
    rw [cast1]
    exact Ev.pos h2 this
   ·rw [if_neg (by simp [h2])] at this
    exact Ev.neg h2 this
theorem levels_out (M D : List Int) (hD : D.length ≤ 1000) (hM : M.length ≤ 1000) (d : Nat) : ∀ i : Nat, i + d = M.length →
  Ev (fun k => impl_Order_levels.l0 k ((M.take i).map fun x => (D.countP (below1 x) : Int)) D M (M.length : Int) (i : Int)) (M.map fun x => (D.countP (below1 x) : Int)) := by
 induction d with
 | zero =>
  intro i hi
  refine Ev.shift ?_
  simp only [impl_Order_levels.l0]
  exact Ev.neg (by omega) (Ev.ret (by rw [List.take_of_length_le (by omega)]))
 | succ d ih =>
  intro i hi
  refine Ev.shift ?_
  simp only [impl_Order_levels.l0]
  refine Ev.pos (by omega) (Ev.pos (by omega) (Ev.pos (by omega) ?_))
  have := levels_in (rd M (i : Int)) ((M.take i).map fun x => (D.countP (below1 x) : Int)) D M i hD (by simp; omega) (M.map fun x => (D.countP (below1 x) : Int)) (by
   have := ih (i + 1) (by omega)
   rw [List.take_succ_eq_append_getElem (show i < M.length by omega), List.map_append, List.map_singleton, ← rd_lt M i (by omega)] at this
   exact this) (by omega) D.length 0 (by omega)
  simpa using this
theorem olevels_ev {n : Int} {L : List Int} (h : relP n L) : Ev (fun k => impl_Order_levels.f k n L) (lvs L) := by
 have h10 : L.length ≤ 10 := by have := h.1; have := h.2.1; omega
 have e1 := dns_length L
 have e2 := dif_length (dns L)
 unfold impl_Order_levels.f
 refine Ev.bind (mirror_ev h : Ev _ (n, dns L)) (Ev.bindc (different_f (dns L) (by omega)) ?_)
 have := levels_out (dns L) (dif (dns L)) (by omega) (by omega) (dns L).length 0 (by omega)
 have h2 : Ev (fun k => impl_Order_levels.l0 k [] (dif (dns L)) (dns L) ((dns L).length : Int) 0) (lvs L) := by
  unfold lvs; simpa using this
 exact h2
end Go.Proofs.YtokeomcijelbmaaDoor.Pure
namespace Go.Proofs.YtokeomcijelbmaaDoor.Pure
set_option linter.unusedVariables false
set_option linter.unusedSimpArgs false
-- plain
structure Lam (n : Nat) (r : Nat → Nat → Bool) (lam : Nat → Nat) : Prop where
 lt : ∀ i j, i < n → j < n → (lam i < lam j ↔ ∃ x, x < n ∧ r x j = true ∧ r x i = false)
 cov : ∀ j t, j < n → t ≤ lam j → ∃ l, l < n ∧ lam l = t
def rho (n : Nat) (r : Nat → Nat → Bool) (lam : Nat → Nat) (i : Nat) : Nat := (List.range n).foldl (fun m j => if r i j = true then m else max m (lam j)) (lam i)
section
variable {n : Nat} {r : Nat → Nat → Bool} {lam : Nat → Nat}
end
end Go.Proofs.YtokeomcijelbmaaDoor.Pure
namespace Go.Proofs.YtokeomcijelbmaaDoor.Pure
open Go.RowKit Go.Proofs.YtokeomcijelbmaaDoor.Q Go.Proofs.YtokeomcijelbmaaDoorW.PrintWords Go.Proofs.YtokeomcijelbmaaDoorW.PrintLast
set_option linter.unusedVariables false
set_option linter.unusedSimpArgs false
def iota (n : Nat) : List Int := (List.range n).map fun (i : Nat) => (i : Int)
theorem mem_iota {n : Nat} {x : Int} : x ∈ iota n ↔ 0 ≤ x ∧ x < n := by
 simp only [iota, List.mem_map, List.mem_range]
 constructor
 ·rintro ⟨i, h, rfl⟩; omega
 ·intro h; exact ⟨x.toNat, by omega, by omega⟩
theorem iota_length (n : Nat) : (iota n).length = n := by simp [iota]
theorem iota_rising (n : Nat) : (iota n).Pairwise (· < ·) := by
 unfold iota
 rw [List.pairwise_map]
 exact List.pairwise_lt_range.imp (by intro a b h; omega)
theorem dif_iota {l : List Int} {n : Nat} (h : ∀ x, x ∈ l ↔ 0 ≤ x ∧ x < n) : dif l = iota n :=
 rising_ext (dif_sorted l) (iota_rising n) fun x => by rw [mem_dif, mem_iota]; exact h x
section
variable {n : Int} {L : List Int}
theorem dn_more (h : relP n L) (h22 : No22 L.length (lt L)) {i j : Nat} (hi : i < L.length) (hj : j < L.length) : below1 (dn L j) (dn L i) = true ↔ ∃ x, x < L.length ∧ lt L x j = true ∧ lt L x i = false := by
 unfold below1
 rw [decide_eq_true_iff, dn_sub h j i, Ne, dn_eq h j i]
 constructor
 ·rintro ⟨h1, h2⟩
  refine Classical.byContradiction fun hn => h1 ⟨h2, fun x hx hxj => ?_⟩
  cases hb : lt L x i
  ·exact (hn ⟨x, hx, hxj, hb⟩).elim
  ·rfl
 ·rintro ⟨x, hx, h1, h2⟩
  refine ⟨fun g => ?_, fun z hz hzi => below_nested h22 hi hj hx h1 h2 z hz hzi⟩
  have := g.2 x hx h1
  rw [h2] at this; cases this
theorem lvc_le_of (h : relP n L) {i j : Nat} (hs : ∀ x, x < L.length → lt L x j = true → lt L x i = true) : lvc L j ≤ lvc L i := by
 unfold lvc
 refine List.countP_mono_left fun s hs2 hb => ?_
 obtain ⟨m, hm, rfl⟩ := mem_difs.1 hs2
 unfold below1 at hb ⊢
 rw [decide_eq_true_iff] at hb ⊢
 obtain ⟨h1, h2⟩ := hb
 have h2' := (dn_sub h j m).1 h2
 refine ⟨fun e => h1 ((dn_eq h j m).2 ⟨h2', fun x hx hxj => ?_⟩), (dn_sub h i m).2 fun x hx hxm => hs x hx (h2' x hx hxm)⟩
 exact ((dn_eq h i m).1 e).2 x hx (hs x hx hxj)
theorem lvc_lt_iff (h : relP n L) (h22 : No22 L.length (lt L)) {i j : Nat} (hi : i < L.length) (hj : j < L.length) : lvc L i < lvc L j ↔ ∃ x, x < L.length ∧ lt L x j = true ∧ lt L x i = false := by
 constructor
 ·intro hlt
  refine Classical.byContradiction fun hn => ?_
  have := lvc_le_of h (i := i) (j := j) (fun x hx hxj => by
   cases hb : lt L x i
   ·exact (hn ⟨x, hx, hxj, hb⟩).elim
   ·rfl)
  omega
 ·rintro ⟨x, hx, h1, h2⟩
  have hsub := below_nested h22 hi hj hx h1 h2
  unfold lvc
  refine countP_more (fun s hs hb => ?_) ⟨dn L i, mem_difs.2 ⟨i, hi, rfl⟩, (dn_more h h22 hi hj).2 ⟨x, hx, h1, h2⟩, by unfold below1; simp⟩
  obtain ⟨m, hm, rfl⟩ := mem_difs.1 hs
  obtain ⟨y, hy, g1, g2⟩ := (dn_more h h22 hm hi).1 hb
  exact (dn_more h h22 hm hj).2 ⟨y, hy, hsub y hy g1, g2⟩
theorem lvc_same (h : relP n L) (h22 : No22 L.length (lt L)) {i j : Nat} (hi : i < L.length) (hj : j < L.length) (e : lvc L i = lvc L j) : dn L i = dn L j := by
 refine ((dn_eq h i j).2 ⟨fun x hx hb => ?_, fun x hx hb => ?_⟩).symm
 ·cases hc : lt L x i
  ·have := (lvc_lt_iff h h22 hi hj).2 ⟨x, hx, hb, hc⟩; omega
  ·rfl
 ·cases hc : lt L x j
  ·have := (lvc_lt_iff h h22 hj hi).2 ⟨x, hx, hb, hc⟩; omega
  ·rfl
theorem lvc_prev (h : relP n L) (h22 : No22 L.length (lt L)) {j : Nat} (hj : j < L.length) (h0 : 0 < lvc L j) : ∃ m, m < L.length ∧ lvc L j = lvc L m + 1 := by
 have hx : ∃ m, m < L.length ∧ lvc L m < lvc L j := by
  unfold lvc at h0
  obtain ⟨s, hs, hb⟩ := List.countP_pos_iff.1 h0
  obtain ⟨m, hm, rfl⟩ := mem_difs.1 hs
  exact ⟨m, hm, (lvc_lt_iff h h22 hm hj).2 ((dn_more h h22 hm hj).1 hb)⟩
 obtain ⟨m, hm, hlt, hmax⟩ := exists_max L.length (fun m => lvc L m < lvc L j) (lvc L) hx
 refine ⟨m, hm, countP_one (dif_nodup _) (mem_difs.2 ⟨m, hm, rfl⟩) (by unfold below1; simp) ((dn_more h h22 hm hj).2 ((lvc_lt_iff h h22 hm hj).1 hlt)) fun s hs hne => ?_⟩
 obtain ⟨l, hl, rfl⟩ := mem_difs.1 hs
 rw [Bool.eq_iff_iff, dn_more h h22 hl hj, dn_more h h22 hl hm, ← lvc_lt_iff h h22 hl hj, ← lvc_lt_iff h h22 hl hm]
 constructor
 ·intro g
  have := hmax l hl g
  refine Nat.lt_of_le_of_ne this fun e => hne (lvc_same h h22 hl hm e)
 ·intro g; omega
theorem lvc_lam (h : relP n L) (h22 : No22 L.length (lt L)) : Lam L.length (lt L) (lvc L) := by
 refine ⟨fun i j hi hj => lvc_lt_iff h h22 hi hj, fun j t hj ht => ?_⟩
 obtain ⟨d, hd⟩ : ∃ d, lvc L j = t + d := ⟨lvc L j - t, by omega⟩
 clear ht
 induction d generalizing j with
 | zero => exact ⟨j, hj, by omega⟩
 | succ d ih =>
  obtain ⟨m, hm, e⟩ := lvc_prev h h22 hj (by omega)
  exact ih m hm (by omega)
def mag (L : List Int) : Nat := (dif (lvs L)).length
theorem mag_facts (h : relP n L) (h22 : No22 L.length (lt L)) : (∀ i, i < L.length → lvc L i < mag L) ∧ (∀ t, t < mag L → ∃ i, i < L.length ∧ lvc L i = t) ∧ dif (lvs L) = iota (mag L) := by
 have hl := lvc_lam h h22
 obtain ⟨K, h1, h2⟩ : ∃ K, (∀ i, i < L.length → lvc L i < K) ∧ ∀ t, t < K → ∃ i, i < L.length ∧ lvc L i = t := by
  by_cases h0 : 0 < L.length
  ·obtain ⟨j, hj, _, hmax⟩ := exists_max L.length (fun _ => True) (lvc L) ⟨0, h0, trivial⟩
   exact ⟨lvc L j + 1, fun i hi => by have := hmax i hi trivial; omega, fun t ht => hl.cov j t hj (by omega)⟩
  ·exact ⟨0, fun i hi => by omega, fun t ht => by omega⟩
 have e : dif (lvs L) = iota K := dif_iota fun x => by
  rw [lvs_eq]
  simp only [List.mem_map, List.mem_range]
  constructor
  ·rintro ⟨i, hi, rfl⟩
   have := h1 i hi; omega
  ·rintro ⟨g1, g2⟩
   obtain ⟨i, hi, e⟩ := h2 x.toNat (by omega)
   exact ⟨i, hi, by omega⟩
 have em : mag L = K := by unfold mag; rw [e, iota_length]
 rw [em]
 exact ⟨h1, h2, e⟩
end
def ivP (n : Int) (L : List Int) : Prop := orderP n L ∧ No22 L.length (lt L)
theorem look22_iff {L : List Int} : (∀ a, a < L.length → ∀ b, b < L.length → ∀ c, c < L.length → ∀ d, d < L.length → ¬ bad22 L a b c d) ↔ No22 L.length (lt L) := by
 constructor
 ·intro h a b c d ha hb hc hd h1 h2 h3 h4
  exact h a ha b hb c hc d hd ⟨h1, h2, h3, h4⟩
 ·intro h a ha b hb c hc d hd g
  exact h a b c d ha hb hc hd g.1 g.2.1 g.2.2.1 g.2.2.2
theorem iIsInt_ev (n : Int) (L : List Int) (hL : L.length ≤ 1048576) : ∃ b, Ev (fun k => impl_isInterval.f k n L) b ∧ (b = true ↔ ivP n L) := by
 unfold impl_isInterval.f
 by_cases h : orderP n L
 ·obtain ⟨x, x1, x2⟩ := twoTwo_ev h.1
  refine ⟨x == [], Ev.bind (isOrder_ev n L hL) (Ev.pos (by simpa using h) (Ev.bind x1 (Ev.ret rfl))), ?_⟩
  rw [beq_iff_eq, x2, look22_iff]
  exact ⟨fun g => ⟨h, g.1⟩, fun g => ⟨g.2, trivial⟩⟩
 ·exact ⟨false, Ev.bind (isOrder_ev n L hL) (Ev.neg (by simpa using h) (Ev.ret rfl)), ⟨fun g => (by cases g), fun g => (h g.1).elim⟩⟩
theorem refuses_f {n : Int} {L : List Int} (h : relP n L) {a b c d : Nat} (ha : a < L.length) (hb : b < L.length) (hc : c < L.length) (hd : d < L.length) : ∃ r, spec_ivRefuses.f n L (a : Int) (b : Int) (c : Int) (d : Int) = some r ∧ (r = true ↔ bad22 L a b c d) := by
 have h10 : L.length ≤ 10 := by have := h.1; have := h.2.1; omega
 have sa := h.set ha
 have sc := h.set hc
 unfold spec_ivRefuses.f bad22
 rw [if_pos (by omega), if_pos (by omega), orHas_f sa.1 sa.2 (by omega), Option.bind_some]
 by_cases c1 : lt L a b = true
 ·rw [if_pos (show bit (rd L (a : Int)) b = true from c1), if_pos (by omega), if_pos (by omega), orHas_f sc.1 sc.2 (by omega), Option.bind_some]
  by_cases c2 : lt L c d = true
  ·rw [if_pos (show bit (rd L (c : Int)) d = true from c2), orHas_f sc.1 sc.2 (by omega), Option.bind_some]
   by_cases c3 : lt L c b = true
   ·exact ⟨false, if_pos c3, by simp [c3]⟩
   ·rw [if_neg (show ¬ bit (rd L (c : Int)) b = true from c3), orHas_f sa.1 sa.2 (by omega), Option.bind_some]
    refine ⟨_, rfl, ?_⟩
    show (!(lt L a d)) = true ↔ _
    simp [c1, c2, c3]
  ·exact ⟨false, if_neg c2, by simp [c2]⟩
 ·exact ⟨false, if_neg c1, by simp [c1]⟩
-- the first list of numbers below n that goes on another one and fits at each step
def findP (fits : List Int → Int → Bool) (n : Nat) : Nat → List Int → Option (List Int)
 | 0, l => some l
 | m + 1, l => (List.range n).findSome? fun x : Nat => if fits l (x : Int) = true then findP fits n m (l ++ [(x : Int)]) else none
def okS (fits : List Int → Int → Bool) : List Int → List Int → Prop
 | _, [] => True
 | l, x :: s => fits l x = true ∧ okS fits (l ++ [x]) s
theorem findP_sound {fits : List Int → Int → Bool} {n : Nat} : ∀ (m : Nat) (l r : List Int), findP fits n m l = some r → ∃ s, r = l ++ s ∧ s.length = m ∧ (∀ x ∈ s, 0 ≤ x ∧ x < (n : Int)) ∧ okS fits l s
 | 0, l, r, h => by
  unfold findP at h
  exact ⟨[], by rw [List.append_nil]; exact (Option.some.inj h).symm, rfl, by simp, trivial⟩
 | m + 1, l, r, h => by
  unfold findP at h
  obtain ⟨x, hx, h⟩ := List.exists_of_findSome?_eq_some h
  split at h
  ·rename_i hf
   obtain ⟨s, h1, h2, h3, h4⟩ := findP_sound m _ r h
   refine ⟨(x : Int) :: s, by rw [h1]; simp, by simp [h2], fun y hy => ?_, hf, h4⟩
   rcases List.mem_cons.1 hy with rfl | hy
   ·have := List.mem_range.1 hx; omega
   ·exact h3 y hy
  ·cases h
theorem findP_complete {fits : List Int → Int → Bool} {n : Nat} : ∀ (m : Nat) (l s : List Int), s.length = m → (∀ x ∈ s, 0 ≤ x ∧ x < (n : Int)) → okS fits l s → ∃ r, findP fits n m l = some r
 | 0, l, s, _, _, _ => ⟨l, rfl⟩
 | m + 1, l, [], h, _, _ => by cases h
 | m + 1, l, x :: s, h, hx, ho => by
  obtain ⟨r, hr⟩ := findP_complete m (l ++ [x]) s (by simpa using h) (fun y hy => hx y (List.mem_cons_of_mem _ hy)) ho.2
  have h0 := hx x List.mem_cons_self
  unfold findP
  cases hc : (List.range n).findSome? fun x : Nat => if fits l (x : Int) = true then findP fits n m (l ++ [(x : Int)]) else none with
  | some r => exact ⟨r, rfl⟩
  | none =>
   have := List.findSome?_eq_none_iff.1 hc x.toNat (List.mem_range.2 (by omega))
   rw [show ((x.toNat : Nat) : Int) = x by omega, if_pos ho.1, hr] at this
   cases this
def lexN : List Int → List Int → Prop
 | x :: s, y :: t => x < y ∨ x = y ∧ lexN s t
 | _, _ => False
theorem findP_first {fits : List Int → Int → Bool} {n : Nat} : ∀ (m : Nat) (l r s t : List Int), findP fits n m l = some r → r = l ++ s → t.length = m → (∀ x ∈ t, 0 ≤ x ∧ x < (n : Int)) → okS fits l t → ¬ lexN t s
 | 0, l, r, s, t, h, hr, ht, hx, ho => by
  have := List.eq_nil_of_length_eq_zero ht
  subst this
  cases s <;> exact fun h => h
 | m + 1, l, r, s, [], h, hr, ht, hx, ho => by cases ht
 | m + 1, l, r, s, y :: t, h, hr, ht, hx, ho => by
  have h0 := hx y List.mem_cons_self
  unfold findP at h
  obtain ⟨l1, x, l2, e1, e2, e3⟩ := List.findSome?_eq_some_iff.1 h
  split at e2
  ·rename_i hf
   obtain ⟨s1, g1, g2, g3, g4⟩ := findP_sound m _ r e2
   have hs : s = (x : Int) :: s1 := by
    have : l ++ s = l ++ ((x : Int) :: s1) := by rw [← hr, g1]; simp
    exact List.append_cancel_left this
   subst hs
   have hl : ∀ z, z ∈ l1 ↔ z < x := by
    have hp : (List.range n).Pairwise (· < ·) := List.pairwise_lt_range
    rw [e1] at hp
    have h1 := (List.pairwise_append.1 hp).2.2
    have h2 := List.pairwise_cons.1 (List.pairwise_append.1 hp).2.1
    intro z
    constructor
    ·exact fun hz => h1 z hz x List.mem_cons_self
    ·intro hz
     have hxn : x ∈ List.range n := by rw [e1]; simp
     have : z ∈ List.range n := List.mem_range.2 (by have := List.mem_range.1 hxn; omega)
     rw [e1] at this
     rcases List.mem_append.1 this with h | h
     ·exact h
     ·rcases List.mem_cons.1 h with h | h
      ·omega
      ·have := h2.1 z h; omega
   rintro (hlt | ⟨rfl, hlt⟩)
   ·have := e3 y.toNat ((hl _).2 (by omega))
    rw [show ((y.toNat : Nat) : Int) = y by omega, if_pos ho.1] at this
    obtain ⟨r2, hr2⟩ := findP_complete m (l ++ [y]) t (by simpa using ht) (fun z hz => hx z (List.mem_cons_of_mem _ hz)) ho.2
    rw [hr2] at this; cases this
   ·exact findP_first m (l ++ [(x : Int)]) r s1 t e2 g1 (by simpa using ht) (fun z hz => hx z (List.mem_cons_of_mem _ hz)) ho.2 hlt
  ·cases e2
-- sets of the elements of lists
def setL (l : List Int) : Int := l.foldl (fun x i => Go.bits .or .i64 x (shl .i64 1 i)) 0
theorem setL_fold (l : List Int) : ∀ x : Int, setP x → (∀ y ∈ l, 0 ≤ y ∧ y < 10) → setP (l.foldl (fun x i => Go.bits .or .i64 x (shl .i64 1 i)) x) ∧ ∀ m : Nat, bit (l.foldl (fun x i => Go.bits .or .i64 x (shl .i64 1 i)) x) m = (bit x m || decide ((m : Int) ∈ l)) := by
 induction l with
 | nil => intro x hx _; exact ⟨hx, fun m => by simp⟩
 | cons y l ih =>
  intro x hx hl
  have hy := hl y (by simp)
  obtain ⟨j, rfl⟩ : ∃ j : Nat, y = j := ⟨y.toNat, by omega⟩
  have hs := set_shl (j := j) (by omega)
  have ho := set_or hx hs.1
  obtain ⟨h1, h2⟩ := ih _ ho.1 (fun z hz => hl z (by simp [hz]))
  refine ⟨h1, fun m => ?_⟩
  rw [List.foldl_cons, h2, ho.2, hs.2]
  by_cases e : m = j
  ·subst e; simp
  ·have e2 : ¬ (m : Int) = (j : Int) := by omega
   simp [e, e2]
theorem setL_bits {l : List Int} (h : ∀ y ∈ l, 0 ≤ y ∧ y < 10) : setP (setL l) ∧ ∀ m : Nat, bit (setL l) m = decide ((m : Int) ∈ l) := by
 obtain ⟨h1, h2⟩ := setL_fold l 0 set_zero h
 exact ⟨h1, fun m => by rw [setL, h2, bit_zero, Bool.false_or]⟩
def namP (n : Int) (l : List Int) : Prop := (l.length : Int) = n ∧ (∀ x ∈ l, 0 ≤ x ∧ x ≤ n - 1) ∧ setL l = full n
instance (n : Int) (l : List Int) : Decidable (namP n l) := by unfold namP; infer_instance
theorem namP.all {N : Nat} {l : List Int} (hN : N ≤ 10) (h : namP (N : Int) l) {m : Nat} (hm : m < N) : (m : Int) ∈ l := by
 have h1 := (setL_bits (l := l) (fun y hy => by have := h.2.1 y hy; omega)).2 m
 rw [h.2.2, (set_full hN).2] at h1
 simpa [hm] using h1
end Go.Proofs.YtokeomcijelbmaaDoor.Pure
