import Derived.Test.YtdpmoehmbjmkpaaDoorBFnPatterns18
import Derived.Test.YtdpmoehmbjmkpaaDoorBFnPatterns19
import Derived.Test.YtdpmoehmbjmkpaaDoorBFnPatterns24
namespace Go.Proofs.YtdpmoehmbjmkpaaDoor.Pure
open Go.RowKit Go.Proofs.YtdpmoehmbjmkpaaDoor.Q Go.Proofs.YtdpmoehmbjmkpaaDoorW.PrintWords Go.Proofs.YtdpmoehmbjmkpaaDoorW.PrintLast
set_option linter.unusedVariables false
set_option linter.unusedSimpArgs false
def orb (x : Int) (j : Nat) : Int := Go.bits .or .i64 x (shl .i64 1 (j : Int))
def rowf (p : Nat → Bool) (d : Nat) : Int := (List.range d).foldl (fun x j => if p j then orb x j else x) 0
theorem rowf_succ (p : Nat → Bool) (d : Nat) : rowf p (d + 1) = if p d then orb (rowf p d) d else rowf p d := by
 simp [rowf, List.range_succ, List.foldl_append]
def rel (p : Nat → Nat → Bool) (n : Nat) : List Int := (List.range n).map fun i => rowf (p i) n
theorem rel_length (p : Nat → Nat → Bool) (n : Nat) : (rel p n).length = n := by simp [rel]
theorem rel_get (p : Nat → Nat → Bool) (n i : Nat) (h : i < n) : rd (rel p n) (i : Int) = rowf (p i) n := by
 rw [rd_lt _ i (by rw [rel_length]; exact h)]; simp [rel]
theorem rel_congr {p q : Nat → Nat → Bool} {n : Nat} (h : ∀ i j, i < n → j < n → p i j = q i j) : rel p n = rel q n := by
 unfold rel
 refine List.map_congr_left fun i hi => ?_
 rw [List.mem_range] at hi
 have : ∀ d, d ≤ n → rowf (p i) d = rowf (q i) d := by
  intro d
  induction d with
  | zero => intro _; rfl
  | succ d ih => intro hd; rw [rowf_succ, rowf_succ, ih (by omega), h i d hi (by omega)]
 exact this n (Nat.le_refl _)
def relUpto (p : Nat → Nat → Bool) (n i : Nat) : List Int := (rel p n).take i ++ List.replicate (n - i) 0
theorem rowf_bits (p : Nat → Bool) (d : Nat) : d ≤ 10 → setP (rowf p d) ∧ ∀ m, bit (rowf p d) m = (decide (m < d) && p m) := by
 induction d with
 | zero => intro _; exact ⟨set_zero, fun m => by rw [show rowf p 0 = 0 from rfl, bit_zero]; simp⟩
 | succ d ih =>
  intro hd
  obtain ⟨h1, h2⟩ := ih (by omega)
  rw [rowf_succ]
  by_cases hp : p d = true
  ·rw [if_pos hp]
   have hs := set_shl (j := d) (by omega)
   have ho := set_or h1 hs.1
   refine ⟨ho.1, fun m => ?_⟩
   show bit (Go.bits .or .i64 (rowf p d) (shl .i64 1 (d : Int))) m = _
   rw [ho.2, h2, hs.2]
   by_cases e : m = d
   ·subst e; simp [hp]
   ·by_cases l : m < d
    ·simp [l, e, show m < d + 1 by omega]
    ·simp [l, e, show ¬ m < d + 1 by omega]
  ·rw [if_neg hp]
   refine ⟨h1, fun m => ?_⟩
   rw [h2]
   by_cases e : m = d
   ·subst e; simp [hp]
   ·by_cases l : m < d
    ·simp [l, show m < d + 1 by omega]
    ·simp [l, show ¬ m < d + 1 by omega]
theorem rel_set {p : Nat → Nat → Bool} {n i : Nat} (hn : n ≤ 10) (hi : i < n) : setP (rd (rel p n) (i : Int)) := by
 rw [rel_get p n i hi]; exact (rowf_bits (p i) n hn).1
theorem rel_lt {p : Nat → Nat → Bool} {n i : Nat} (hn : n ≤ 10) (hi : i < n) (j : Nat) : lt (rel p n) i j = (decide (j < n) && p i j) := by
 unfold lt; rw [rel_get p n i hi]; exact (rowf_bits (p i) n hn).2 j
-- the relation of some elements, in an order
def eN (E : List Int) (k : Nat) : Nat := (rd E (k : Int)).toNat
def partR (L E : List Int) : List Int := rel (fun a b => lt L (eN E a) (eN E b)) E.length
section
variable {n : Int} {L : List Int}
theorem orPart_l1 (hL : relP n L) (E : List Int) (hE : ∀ x ∈ E, 0 ≤ x ∧ x < n) (hl : E.length ≤ 10) (i : Nat) (hi : i < E.length) (Y : List Int) (r : Int × List Int) (hr : Ev (fun k => spec_orPart.l0 k E E (E.length : Int) (wrap64 ((i : Int) + 1)) n L (E.length : Int) (Y ++ [rowf (fun b => lt L (eN E i) (eN E b)) E.length])) r) (hY : Y.length ≤ 10) (d : Nat) :
  ∀ j : Nat, j + d = E.length → Ev (fun k => spec_orPart.l1 k E (rd E (i : Int)) (rowf (fun b => lt L (eN E i) (eN E b)) j) E (E.length : Int) (i : Int) E (E.length : Int) (j : Int) n L (E.length : Int) Y) r := by
 have hn := hL.2.1
 have hn1 := hL.1
 have he : ∀ q : Nat, q < E.length → rd E (q : Int) = (eN E q : Int) ∧ eN E q < L.length := fun q hq => by
  have := hE (rd E (q : Int)) (by rw [rd_lt E q hq]; exact List.getElem_mem _)
  unfold eN
  omega
 obtain ⟨ei, eil⟩ := he i hi
 have hri := hL.row eil
 induction d with
 | zero =>
  intro j hj
  obtain rfl : j = E.length := by omega
  refine Ev.shift ?_
  simp only [spec_orPart.l1]
  exact Ev.neg (by omega) (Ev.pos (by omega) hr)
 | succ d ih =>
  intro j hj
  obtain ⟨ej, ejl⟩ := he j (by omega)
  have hnext := ih (j + 1) (by omega)
  rw [rowf_succ] at hnext
  rw [ei] at hnext ⊢
  refine Ev.shift ?_
  simp only [spec_orPart.l1]
  rw [wrap64_id (x := (j : Int) + 1) (by omega) (by omega), cast1, ej]
  refine Ev.pos (by omega) (Ev.pos (by omega) (Ev.pos (by omega) (Ev.pos (by omega) (Ev.pos (by omega) (Ev.bindc (orHas_f hri.1 hri.2.1 (show eN E j < 10 by omega)) ?_)))))
  by_cases hb : bit (rd L (eN E i : Int)) (eN E j) = true
  ·rw [if_pos (show lt L (eN E i) (eN E j) = true from hb)] at hnext
   exact Ev.pos hb hnext
  ·rw [if_neg (show ¬ lt L (eN E i) (eN E j) = true from hb)] at hnext
   exact Ev.neg hb hnext
theorem orPart_l0 (hL : relP n L) (E : List Int) (hE : ∀ x ∈ E, 0 ≤ x ∧ x < n) (hl : E.length ≤ 10) (d : Nat) :
  ∀ i : Nat, i + d = E.length → Ev (fun k => spec_orPart.l0 k E E (E.length : Int) (i : Int) n L (E.length : Int) ((List.range i).map fun a => rowf (fun b => lt L (eN E a) (eN E b)) E.length)) ((E.length : Int), partR L E) := by
 induction d with
 | zero =>
  intro i hi
  obtain rfl : i = E.length := by omega
  refine Ev.shift ?_
  simp only [spec_orPart.l0]
  exact Ev.neg (by omega) (Ev.ret rfl)
 | succ d ih =>
  intro i hi
  have hnext := ih (i + 1) (by omega)
  rw [List.range_succ, List.map_append, List.map_singleton] at hnext
  refine Ev.shift ?_
  simp only [spec_orPart.l0]
  refine Ev.pos (by omega) (Ev.pos (by omega) (Ev.pos (by omega) ?_))
  have := orPart_l1 hL E hE hl i (by omega) ((List.range i).map fun a => rowf (fun b => lt L (eN E a) (eN E b)) E.length) _ (by rw [wrap64_id (x := (i : Int) + 1) (by omega) (by omega), cast1]; exact hnext) (by simp; omega) E.length 0 (by omega)
  exact this
theorem orPart_ev (hL : relP n L) (E : List Int) (hE : ∀ x ∈ E, 0 ≤ x ∧ x < n) (hl : E.length ≤ 10) : Ev (fun k => spec_orPart.f k n L E) ((E.length : Int), partR L E) := by
 unfold spec_orPart.f
 exact orPart_l0 hL E hE hl E.length 0 (by omega)
end
theorem bitsOf_len (x : Int) : (bitsOf x).length ≤ 10 := by
 have := List.length_filter_le (bit x) (List.range 10)
 simpa [bitsOf] using this
theorem isNaming_l {N : Nat} (hN : N ≤ 10) (l : List Int) (hl : l.length ≤ 1000) (h : ∀ x ∈ l, 0 ≤ x ∧ x ≤ (N : Int) - 1) (d : Nat) : ∀ i : Nat, i + d = l.length → Ev (fun k => impl_isNaming.l0 k l (N : Int) (setL (l.take i)) l (l.length : Int) (i : Int)) (decide (namP (N : Int) l)) := by
 induction d with
 | zero =>
  intro i hi
  rw [List.take_of_length_le (by omega)]
  refine Ev.shift ?_
  simp only [impl_isNaming.l0]
  refine Ev.neg (by omega) ?_
  by_cases h2 : (l.length : Int) = N
  ·refine Ev.pos h2 (Ev.pos (by omega) (Ev.ret ?_))
   rw [Bool.eq_iff_iff, beq_iff_eq, decide_eq_true_iff]
   exact ⟨fun h3 => ⟨h2, h, h3⟩, fun h3 => h3.2.2⟩
  ·refine Ev.neg h2 (Ev.ret ?_)
   symm; rw [decide_eq_false_iff_not]; exact fun h3 => h2 h3.1
 | succ d ih =>
  intro i hi
  have e := ih (i + 1) (by omega)
  rw [take_snoc l i (by omega), setL_snoc] at e
  obtain ⟨m, hm, hm2⟩ := rd_in h (k := i) (by omega)
  have f0 : 0 ≤ rd l (i : Int) := by omega
  refine Ev.shift ?_
  simp only [impl_isNaming.l0]
  refine Ev.pos (by omega) (Ev.pos (by omega) (Ev.pos (by omega) (Ev.pos f0 ?_)))
  rw [wrap64_id (by omega) (by omega), cast1]; exact e
theorem isNaming_ev {N : Nat} (hN : N ≤ 10) (l : List Int) (hl : l.length ≤ 1000) : Ev (fun k => impl_isNaming.f k l (N : Int)) (decide (namP (N : Int) l)) := by
 unfold impl_isNaming.f
 rw [wrap64_id (by omega) (by omega)]
 refine Ev.bind (allWithin_ev 0 ((N : Int) - 1) l (by omega)) ?_
 by_cases h : ∀ x ∈ l, 0 ≤ x ∧ x ≤ (N : Int) - 1
 ·exact Ev.pos (by simpa using h) (isNaming_l hN l hl h l.length 0 (by omega))
 ·refine Ev.neg (by simpa using h) (Ev.ret ?_)
  symm; rw [decide_eq_false_iff_not]; exact fun h3 => h h3.2.1
theorem orSet_l (l : List Int) (hl : l.length ≤ 1000) (h : ∀ x ∈ l, 0 ≤ x ∧ x < 10) (d : Nat) : ∀ i : Nat, i + d = l.length → Ev (fun k => spec_orSet.l0 k (setL (l.take i)) l (l.length : Int) (i : Int)) (setL l) := by
 induction d with
 | zero =>
  intro i hi
  rw [List.take_of_length_le (by omega)]
  refine Ev.shift ?_
  simp only [spec_orSet.l0]
  exact Ev.neg (by omega) (Ev.ret rfl)
 | succ d ih =>
  intro i hi
  have e := ih (i + 1) (by omega)
  rw [take_snoc l i (by omega), setL_snoc] at e
  have hr := h (rd l (i : Int)) (by rw [rd_lt l i (by omega)]; exact List.getElem_mem _)
  refine Ev.shift ?_
  simp only [spec_orSet.l0]
  refine Ev.pos (by omega) (Ev.pos (by omega) (Ev.pos (by omega) (Ev.pos hr.1 ?_)))
  rw [wrap64_id (by omega) (by omega), cast1]; exact e
theorem orSet_ev (l : List Int) (hl : l.length ≤ 1000) (h : ∀ x ∈ l, 0 ≤ x ∧ x < 10) : Ev (fun k => spec_orSet.f k l) (setL l) := by
 unfold spec_orSet.f
 exact orSet_l l hl h l.length 0 (by omega)
theorem orNames_ev {N : Nat} (hN : N ≤ 10) (l : List Int) (hl : l.length ≤ 1000) : Ev (fun k => spec_orNames.f k (N : Int) l) (decide (namP (N : Int) l)) := by
 unfold spec_orNames.f
 rw [wrap64_id (by omega) (by omega)]
 by_cases h2 : (l.length : Int) = N
 ·refine Ev.pos h2 (Ev.bind (l1All_ev 0 ((N : Int) - 1) l (by omega)) ?_)
  by_cases h : ∀ x ∈ l, 0 ≤ x ∧ x ≤ (N : Int) - 1
  ·refine Ev.pos (by simpa using h) (Ev.bind (orSet_ev l hl (fun x hx => by have := h x hx; omega)) (Ev.pos (by omega) (Ev.ret ?_)))
   rw [Bool.eq_iff_iff, beq_iff_eq, decide_eq_true_iff]
   exact ⟨fun h3 => ⟨h2, h, h3⟩, fun h3 => h3.2.2⟩
  ·refine Ev.neg (by simpa using h) (Ev.ret ?_)
   symm; rw [decide_eq_false_iff_not]; exact fun h3 => h h3.2.1
 ·refine Ev.neg h2 (Ev.ret ?_)
  symm; rw [decide_eq_false_iff_not]; exact fun h3 => h2 h3.1
theorem rel_relP {n : Int} {N : Nat} (hn : n = N) (h10 : N ≤ 10) (p : Nat → Nat → Bool) : relP n (rel p N) := by
 subst hn
 refine ⟨⟨by omega, by omega⟩, by rw [rel_length], fun x hx => ?_⟩
 obtain ⟨i, hi, rfl⟩ := List.mem_iff_getElem.1 hx
 rw [rel_length] at hi
 rw [← rd_lt _ i (by rw [rel_length]; exact hi)]
 have hs := rel_set (p := p) h10 hi
 refine ⟨hs.1, ?_⟩
 rw [full_pow h10]
 obtain ⟨a, ha, hlt⟩ := hs.nat
 rw [ha]
 have : a < 2 ^ N := by
  refine Nat.lt_pow_two_of_testBit a fun m hm => ?_
  have := rel_lt (p := p) h10 hi m
  unfold lt at this
  rw [ha, bit_nat] at this
  rw [this]; simp; omega
 have h2 : ((2 ^ N : Nat) : Int) = (2 : Int) ^ N := by simp
 omega
def mir (L : List Int) : List Int := rel (fun i j => lt L j i) L.length
-- other names: element i of a relation is called nm i
def ixOf (N : List Int) (a : Nat) : Nat := (N.idxOf (a : Int))
section
variable {W : Nat} {N : List Int}
theorem ix_lt (hW : W ≤ 10) (h : namP (W : Int) N) {a : Nat} (ha : a < W) : ixOf N a < W := by
 have h1 := h.1
 have := List.idxOf_lt_length_of_mem (h.all hW ha)
 unfold ixOf; omega
theorem ix_rd (hW : W ≤ 10) (h : namP (W : Int) N) {a : Nat} (ha : a < W) : rd N (ixOf N a : Int) = a := by
 have h1 := h.1
 have h2 := List.idxOf_lt_length_of_mem (h.all hW ha)
 unfold ixOf
 rw [rd_lt N _ h2, List.getElem_idxOf]
theorem nm_of (hW : W ≤ 10) (h : namP (W : Int) N) {i : Nat} (hi : i < W) : rd N (i : Int) = (eN N i : Int) ∧ eN N i < W ∧ ixOf N (eN N i) = i := by
 have h1 := h.1
 have h2 := h.2.1 (rd N (i : Int)) (by rw [rd_lt N i (by omega)]; exact List.getElem_mem _)
 have e : rd N (i : Int) = (eN N i : Int) := by unfold eN; omega
 have hl : eN N i < W := by omega
 refine ⟨e, hl, nodup_at (h.nodup hW) ?_ (by omega) ?_⟩
 ·have := ix_lt hW h hl; omega
 ·rw [ix_rd hW h hl, e]
end
theorem rel_orb {p : Nat → Nat → Bool} {W a b : Nat} (hW : W ≤ 10) (ha : a < W) (hb : b < W) : (rel p W).set a (Go.bits .or .i64 (rd (rel p W) (a : Int)) (shl .i64 1 (b : Int))) = rel (fun x y => p x y || (decide (x = a) && decide (y = b))) W := by
 have hs := rel_set (p := p) hW ha
 have ho := set_or hs (set_shl (j := b) (by omega)).1
 refine rel_ext (by simp [rel_length]) (fun i hi => ?_) (fun i hi => by rw [rel_length] at hi; exact rel_set hW hi) (fun i j hi hj => ?_)
 ·have hi' : i < W := by simpa [rel_length] using hi
  by_cases e : i = a
  ·subst e; rw [rd_lt _ i (by simpa [rel_length] using hi'), List.getElem_set_self]; exact ho.1
  ·rw [rd_lt _ i (by simpa [rel_length] using hi'), List.getElem_set_ne (Ne.symm e), ← rd_lt _ i (by rw [rel_length]; exact hi')]; exact rel_set hW hi'
 ·have hi' : i < W := by simpa [rel_length] using hi
  rw [rel_lt hW hi']
  unfold lt
  by_cases e : i = a
  ·subst e
   rw [rd_lt _ i (by simpa [rel_length] using hi'), List.getElem_set_self, ho.2, (set_shl (j := b) (by omega)).2]
   have := rel_lt (p := p) hW hi' j
   unfold lt at this
   rw [this]
   by_cases ej : j = b
   ·subst ej; simp [hb]
   ·simp [ej]
  ·rw [rd_lt _ i (by simpa [rel_length] using hi'), List.getElem_set_ne (Ne.symm e), ← rd_lt _ i (by rw [rel_length]; exact hi')]
   have := rel_lt (p := p) hW hi' j
   unfold lt at this
   rw [this]; simp [e]
def renR (L N : List Int) : List Int := rel (fun a b => lt L (ixOf N a) (ixOf N b)) L.length
section
variable {L N : List Int} {n : Int}
theorem renR_lt (hL : relP n L) (h : namP n N) {i j : Nat} (hi : i < L.length) (hj : j < L.length) : lt (renR L N) (eN N i) (eN N j) = lt L i j := by
 have h1 := hL.1
 have h2 := hL.2.1
 rw [← h2] at h
 obtain ⟨_, a1, a2⟩ := nm_of (by omega) h hi
 obtain ⟨_, b1, b2⟩ := nm_of (by omega) h hj
 unfold renR
 rw [rel_lt (by omega) a1, a2, b2]
 simp [b1]
theorem renR_relP (hL : relP n L) : relP n (renR L N) := by
 have h1 := hL.1
 have h2 := hL.2.1
 exact rel_relP (by omega) (by omega) _
theorem rename_l1 (hL : relP n L) (h : namP n N) (i : Nat) (hi : i < L.length) (r : Int × List Int × Bool) (p : Nat → Nat → Bool)
  (hr : ∀ q : Nat → Nat → Bool, (∀ x y, q x y = true ↔ p x y = true ∨ (x = eN N i ∧ ∃ j, bit (rd L (i : Int)) j = true ∧ y = eN N j)) → Ev (fun k => impl_RenameOf.l0 k N L (L.length : Int) (wrap64 ((i : Int) + 1)) n (rel q L.length)) r) (d : Nat) :
  ∀ (q : Nat) (p' : Nat → Nat → Bool), q + d = (bitsOf (rd L (i : Int))).length → (∀ x y, p' x y = true ↔ p x y = true ∨ (x = eN N i ∧ ∃ j : Nat, (j : Int) ∈ (bitsOf (rd L (i : Int))).take q ∧ y = eN N j)) →
  Ev (fun k => impl_RenameOf.l1 k N (i : Int) L (L.length : Int) (i : Int) (bitsOf (rd L (i : Int))) ((bitsOf (rd L (i : Int))).length : Int) (q : Int) n (rel p' L.length)) r := by
 have h1 := hL.1
 have h2 := hL.2.1
 have h' := h
 rw [← h2] at h'
 have hbl := bitsOf_len (rd L (i : Int))
 obtain ⟨ei, eil, _⟩ := nm_of (by omega) h' hi
 have hN := h.1
 have hrow := hL.row hi
 induction d with
 | zero =>
  intro q p' hq hp
  refine Ev.shift ?_
  simp only [impl_RenameOf.l1]
  refine Ev.neg (by omega) (hr p' (fun x y => ?_))
  rw [hp, List.take_of_length_le (by omega)]
  constructor
  ·rintro (hx | ⟨hx, j, hj, hy⟩)
   ·exact .inl hx
   ·obtain ⟨m, _, hb, hm⟩ := mem_bitsOf.1 hj
    obtain rfl : j = m := by omega
    exact .inr ⟨hx, j, hb, hy⟩
  ·rintro (hx | ⟨hx, j, hj, hy⟩)
   ·exact .inl hx
   ·exact .inr ⟨hx, j, mem_bitsOf.2 ⟨j, set_bit_lt ⟨hrow.1, hrow.2.1⟩ hj, hj, rfl⟩, hy⟩
 | succ d ih =>
  intro q p' hq hp
  have hql : q < (bitsOf (rd L (i : Int))).length := by omega
  obtain ⟨j, hj, hjl, _⟩ := hL.bits hi (j := rd (bitsOf (rd L (i : Int))) (q : Int)) (by rw [rd_lt _ q hql]; exact List.getElem_mem _)
  obtain ⟨ej, ejl, _⟩ := nm_of (by omega) h' hjl
  have hnext := ih (q + 1) (fun x y => p' x y || (decide (x = eN N i) && decide (y = eN N j))) (by omega) (fun x y => by
   rw [Bool.or_eq_true, hp, take_snoc _ q hql, hj, Bool.and_eq_true, decide_eq_true_eq, decide_eq_true_eq]
   constructor
   ·rintro ((hx | ⟨hx, m, hm, hy⟩) | ⟨hx, hy⟩)
    ·exact .inl hx
    ·exact .inr ⟨hx, m, List.mem_append_left _ hm, hy⟩
    ·exact .inr ⟨hx, j, by simp, hy⟩
   ·rintro (hx | ⟨hx, m, hm, hy⟩)
    ·exact .inl (.inl hx)
    ·rcases List.mem_append.1 hm with hm | hm
     ·exact .inl (.inr ⟨hx, m, hm, hy⟩)
     ·have : m = j := by have := List.mem_singleton.1 hm; omega
      subst this
      exact .inr ⟨hx, hy⟩)
  rw [← rel_orb (by omega) eil ejl] at hnext
  have hlen : (rel p' L.length).length = L.length := rel_length _ _
  refine Ev.shift ?_
  simp only [impl_RenameOf.l1]
  rw [wrap64_id (x := (q : Int) + 1) (by omega) (by omega), cast1, hj, ei, ej]
  refine Ev.pos (by omega) (Ev.pos (by omega) (Ev.pos (by omega) (Ev.pos (by omega) (Ev.pos (by omega) (Ev.pos (by omega) (Ev.pos (by omega) (Ev.pos (by omega) (Ev.pos (by omega) (Ev.pos (by omega) ?_)))))))))
  rw [Int.toNat_natCast]
  exact hnext
theorem rename_l0 (hL : relP n L) (h : namP n N) (d : Nat) : ∀ (i : Nat) (p : Nat → Nat → Bool), i + d = L.length → (∀ x y, p x y = true ↔ ∃ a b : Nat, a < i ∧ lt L a b = true ∧ x = eN N a ∧ y = eN N b) → Ev (fun k => impl_RenameOf.l0 k N L (L.length : Int) (i : Int) n (rel p L.length)) (n, renR L N, true) := by
 have h1 := hL.1
 have h2 := hL.2.1
 have h' := h
 rw [← h2] at h'
 induction d with
 | zero =>
  intro i p hi hp
  refine Ev.shift ?_
  simp only [impl_RenameOf.l0]
  refine Ev.neg (by omega) (Ev.ret ?_)
  have : rel p L.length = renR L N := by
   refine rel_congr (fun x y hx hy => ?_)
   rw [Bool.eq_iff_iff, hp]
   constructor
   ·rintro ⟨a, b, ha, hab, rfl, rfl⟩
    have hb := hL.lt_len (show a < L.length by omega) hab
    rw [(nm_of (by omega) h' (show a < L.length by omega)).2.2, (nm_of (by omega) h' hb).2.2]
    exact hab
   ·intro hxy
    have hx1 := ix_lt (by omega) h' hx
    refine ⟨ixOf N x, ixOf N y, by omega, hxy, ?_, ?_⟩
    ·unfold eN; rw [ix_rd (by omega) h' hx]; rfl
    ·unfold eN; rw [ix_rd (by omega) h' hy]; rfl
  rw [this]
 | succ d ih =>
  intro i p hi hp
  have hrow := hL.row (show i < L.length by omega)
  refine Ev.shift ?_
  simp only [impl_RenameOf.l0]
  refine Ev.pos (by omega) (Ev.pos (by omega) (Ev.pos (by omega) (Ev.bind (members_ev hrow.1 hrow.2.1) ?_)))
  refine rename_l1 hL h i (by omega) _ p (fun q hq => ?_) (bitsOf (rd L (i : Int))).length 0 p (by omega) (fun x y => by simp)
  rw [wrap64_id (x := (i : Int) + 1) (by omega) (by omega), cast1]
  refine ih (i + 1) q (by omega) (fun x y => ?_)
  rw [hq, hp]
  constructor
  ·rintro (⟨a, b, ha, hab, hx, hy⟩ | ⟨hx, b, hb, hy⟩)
   ·exact ⟨a, b, by omega, hab, hx, hy⟩
   ·exact ⟨i, b, by omega, hb, hx, hy⟩
  ·rintro ⟨a, b, ha, hab, hx, hy⟩
   by_cases e : a = i
   ·subst e; exact .inr ⟨hx, b, hab, hy⟩
   ·exact .inl ⟨a, b, by omega, hab, hx, hy⟩
end
def renRes (n : Int) (L N : List Int) : Int × List Int × Bool := if relP n L ∧ namP n N then (n, renR L N, true) else (0, [], false)
theorem iRename (n : Int) (L N : List Int) (hl : L.length ≤ 1000) (hN : N.length ≤ 1000) : Ev (fun k => impl_RenameOf.f k n L N) (renRes n L N) := by
 unfold impl_RenameOf.f renRes
 refine Ev.bind (isRelation_ev n L (by omega)) ?_
 by_cases h1 : relP n L
 ·have h2 := h1.1
  have h3 := h1.2.1
  refine Ev.pos (by simpa using h1) ?_
  have hn := isNaming_ev (N := L.length) (by omega) N hN
  rw [h3] at hn
  refine Ev.bind hn (Ev.shift ?_)
  simp only [impl_RenameOf.j0]
  by_cases h4 : namP n N
  ·rw [if_pos ⟨h1, h4⟩]
   refine Ev.neg (by simpa using h4) (Ev.pos (by omega) (Ev.pos (by omega) ?_))
   have := rename_l0 h1 h4 L.length 0 (fun _ _ => false) (by omega) (fun x y => by simp)
   have e : rel (fun _ _ => false) L.length = List.replicate n.toNat 0 := by
    apply List.ext_getElem (by rw [rel_length]; simp; omega)
    intro i hi1 hi2
    rw [rel_length] at hi1
    have hr := rel_get (fun _ _ => false) L.length i hi1
    rw [rd_lt _ i (by rw [rel_length]; exact hi1)] at hr
    rw [hr, List.getElem_replicate]
    have : ∀ m, rowf (fun _ => false) m = 0 := by
     intro m
     induction m with
     | zero => rfl
     | succ m ih => rw [rowf_succ, if_neg (by simp), ih]
    exact this _
   rw [e] at this
   exact this
  ·rw [if_neg (fun h => h4 h.2)]
   exact Ev.pos (by simpa using h4) (Ev.ret rfl)
 ·rw [if_neg (fun h => h1 h.1)]
  refine Ev.neg (by simpa using h1) (Ev.shift ?_)
  simp only [impl_RenameOf.j0]
  exact Ev.pos trivial (Ev.ret rfl)
theorem idx_l (N : List Int) (hN : N.length ≤ 1000) (a : Int) (ha : a ∈ N) (d : Nat) : ∀ i : Nat, i + d = N.idxOf a → Ev (fun k => spec_orPlace.l0 k a N (N.length : Int) (i : Int)) ((N.idxOf a : Nat) : Int) := by
 have hlt := List.idxOf_lt_length_of_mem ha
 induction d with
 | zero =>
  intro i hi
  obtain rfl : i = N.idxOf a := by omega
  refine Ev.shift ?_
  simp only [spec_orPlace.l0]
  refine Ev.pos (by omega) (Ev.pos (by omega) (Ev.pos (by omega) (Ev.pos ?_ (Ev.ret rfl))))
  rw [rd_lt N _ hlt, List.getElem_idxOf]
 | succ d ih =>
  intro i hi
  have hne : ¬ rd N (i : Int) = a := fun e => by
   rw [rd_lt N i (by omega)] at e
   have := List.not_of_lt_findIdx (p := fun x => x == a) (xs := N) (i := i) (by have : N.idxOf a = N.findIdx (fun x => x == a) := rfl; omega)
   simp [e] at this
  refine Ev.shift ?_
  simp only [spec_orPlace.l0]
  rw [wrap64_id (x := (i : Int) + 1) (by omega) (by omega), cast1]
  exact Ev.pos (by omega) (Ev.pos (by omega) (Ev.pos (by omega) (Ev.neg hne (ih (i + 1) (by omega)))))
theorem sRename_l0 {n : Int} {L N : List Int} (hL : relP n L) (h : namP n N) (d : Nat) : ∀ i : Nat, i + d = N.length → Ev (fun k => spec_RenameOf.l0 k N ((List.range i).map fun a => ((ixOf N a : Nat) : Int)) (N.length : Int) (i : Int) n L) (n, renR L N, true) := by
 have h1 := hL.1
 have h2 := hL.2.1
 have h3 := h.1
 have h' := h
 rw [← h2] at h'
 induction d with
 | zero =>
  intro i hi
  obtain rfl : i = N.length := by omega
  refine Ev.shift ?_
  simp only [spec_RenameOf.l0]
  have hlen : ((List.range N.length).map fun a => ((ixOf N a : Nat) : Int)).length = L.length := by simp; omega
  have hp := orPart_ev hL ((List.range N.length).map fun a => ((ixOf N a : Nat) : Int)) (fun x hx => by
   obtain ⟨a, ha, rfl⟩ := List.mem_map.1 hx
   have := ix_lt (by omega) h' (show a < L.length by have := List.mem_range.1 ha; omega)
   omega) (by omega)
  refine Ev.neg (by omega) (Ev.bind hp (Ev.ret ?_))
  rw [hlen]
  unfold partR renR
  rw [hlen, h2]
  congr 2
  refine rel_congr (fun a b ha hb => ?_)
  have e : ∀ c, c < L.length → eN ((List.range N.length).map fun a => ((ixOf N a : Nat) : Int)) c = ixOf N c := fun c hc => by
   unfold eN
   rw [rd_lt _ c (by omega)]; simp
  rw [e a ha, e b hb]
 | succ d ih =>
  intro i hi
  have hnext := ih (i + 1) (by omega)
  rw [List.range_succ, List.map_append, List.map_singleton] at hnext
  have hpl : Ev (fun k => spec_orPlace.f k N (i : Int)) ((ixOf N i : Nat) : Int) := by
   unfold spec_orPlace.f
   exact idx_l N (by omega) (i : Int) (h'.all (by omega) (by omega)) (N.idxOf (i : Int)) 0 (by omega)
  refine Ev.shift ?_
  simp only [spec_RenameOf.l0]
  rw [wrap64_id (x := (i : Int) + 1) (by omega) (by omega), cast1]
  exact Ev.pos (by omega) (Ev.bind hpl (Ev.pos (by simp; omega) hnext))
theorem sRename (n : Int) (L N : List Int) (hl : L.length ≤ 1000) (hN : N.length ≤ 1000) : Ev (fun k => spec_RenameOf.f k n L N) (renRes n L N) := by
 unfold spec_RenameOf.f renRes
 refine Ev.bind (orRelation_ev n L (by omega)) ?_
 by_cases h1 : relP n L
 ·have h2 := h1.1
  have h3 := h1.2.1
  refine Ev.pos (by simpa using h1) ?_
  have hn := orNames_ev (N := L.length) (by omega) N hN
  rw [h3] at hn
  refine Ev.bind hn (Ev.shift ?_)
  simp only [spec_RenameOf.j0]
  by_cases h4 : namP n N
  ·rw [if_pos ⟨h1, h4⟩]
   exact Ev.neg (by simpa using h4) (sRename_l0 h1 h4 N.length 0 (by omega))
  ·rw [if_neg (fun h => h4 h.2)]
   exact Ev.pos (by simpa using h4) (Ev.ret rfl)
 ·rw [if_neg (fun h => h1 h.1)]
  refine Ev.neg (by simpa using h1) (Ev.shift ?_)
  simp only [spec_RenameOf.j0]
  exact Ev.pos trivial (Ev.ret rfl)
-- the statements' own comparisons
theorem pSame_l (l m : List Int) (hlm : l.length = m.length) (hl : l.length ≤ 1048576) (d : Nat) : ∀ i : Nat, i + d = l.length → Ev (fun k => laws_pSame.l0 k l m (l.length : Int) (i : Int)) (l.drop i == m.drop i) := by
 induction d with
 | zero =>
  intro i hi
  refine Ev.shift ?_
  simp only [laws_pSame.l0]
  refine Ev.neg (by omega) (Ev.ret ?_)
  rw [List.drop_of_length_le (by omega), List.drop_of_length_le (by omega)]; rfl
 | succ d ih =>
  intro i hi
  have e := ih (i + 1) (by omega)
  have f1 : (i : Int) < l.length := by omega
  have f2 : (i : Int) < m.length := by omega
  refine Ev.shift ?_
  simp only [laws_pSame.l0]
  refine Ev.pos f1 (Ev.pos (by omega) (Ev.pos f1 (Ev.pos f2 ?_)))
  rw [wrap64_id (by omega) (by omega), cast1, drop_rd l i (by omega), drop_rd m i (by omega)]
  by_cases hc : rd l (i : Int) = rd m (i : Int)
  ·refine Ev.pos hc (Ev.eq e ?_)
   rw [hc]; simp
  ·refine Ev.neg hc (Ev.ret ?_)
   symm; rw [beq_eq_false_iff_ne]; intro h; exact hc (List.cons.inj h).1
theorem pSame_ev (l m : List Int) (hl : l.length ≤ 1048576) : Ev (fun k => laws_pSame.f k l m) (l == m) := by
 unfold laws_pSame.f
 by_cases h : (l.length : Int) = m.length
 ·refine Ev.pos h ?_
  simpa using pSame_l l m (by omega) hl l.length 0 (by omega)
 ·refine Ev.neg h (Ev.ret ?_)
  symm; rw [beq_eq_false_iff_ne]; intro e; exact h (by rw [e])
theorem pSameOrder_ev (n : Int) (l : List Int) (n' : Int) (m : List Int) (hl : l.length ≤ 1048576) : Ev (fun k => laws_pSameOrder.f k n l n' m) (decide (n = n') && (l == m)) := by
 unfold laws_pSameOrder.f
 by_cases h : n = n'
 ·exact Ev.pos h (Ev.bind (pSame_ev l m hl) (Ev.ret (by simp [h])))
 ·exact Ev.neg h (Ev.ret (by simp [h]))
theorem pSameOrder_self (n : Int) (l : List Int) (hl : l.length ≤ 1048576) : Ev (fun k => laws_pSameOrder.f k n l n l) true := Ev.eq (pSameOrder_ev n l n l hl) (by simp)
-- a set asked by the statements
theorem pIn_all : ∀ x : Fin 1024, ∀ j : Fin 10, laws_pIn.f (x.val : Int) (j.val : Int) = some (bit (x.val : Int) j.val) := by decide +kernel
theorem pIn_f {x : Int} (h0 : 0 ≤ x) (h1 : x < 1024) {j : Nat} (hj : j < 10) : laws_pIn.f x (j : Int) = some (bit x j) := by
 obtain ⟨m, rfl⟩ : ∃ m : Nat, x = m := ⟨x.toNat, by omega⟩
 exact pIn_all ⟨m, by omega⟩ ⟨j, hj⟩
end Go.Proofs.YtdpmoehmbjmkpaaDoor.Pure
