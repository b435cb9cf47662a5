import Derived.Test.YtgbdjchdfcodcaaDoorBFnRefinements17
import Derived.Test.YtgbdjchdfcodcaaDoorBFnRefinements24
import Derived.Test.YtgbdjchdfcodcaaDoorBFnRefinements29
namespace Go.Proofs.YtgbdjchdfcodcaaDoor.Pure
open Go.RowKit Go.Proofs.YtgbdjchdfcodcaaDoor.Q Go.Proofs.YtgbdjchdfcodcaaDoorW.PrintWords Go.Proofs.YtgbdjchdfcodcaaDoorW.PrintLast
set_option linter.unusedVariables false
set_option linter.unusedSimpArgs false
-- drawn levels: short lists
theorem elements_d {c : List Int} (hc : bytesP c) {a : Int} (s : Int) (h0 : 0 ≤ a) (h1 : a ≤ 1000000) : Drw (spec_l1Cur_elements.f c a s) (fun x => 0 ≤ x ∧ x ≤ 11) a 4 := by
 unfold spec_l1Cur_elements.f
 obtain ⟨b, a1, s1, e, _, h2, h3⟩ := one_d hc (a := a) s 15 h0 (by omega) (by omega)
 rw [e, Option.bind_some]
 dsimp only
 by_cases hb : b = true
 ·rw [if_pos hb]
  obtain ⟨x, a2, s2, e2, hx, h4, h5⟩ := among_d hc (a := a1) s1 [0, 10, 11] (by omega) (by omega) (by simp)
  rw [e2, Option.bind_some]
  refine ⟨_, _, _, rfl, ?_, by dsimp only; omega, by dsimp only; omega⟩
  simp at hx; dsimp only; omega
 ·rw [if_neg hb]
  obtain ⟨x, a2, s2, e2, hx, h4, h5⟩ := pick_d hc (a := a1) s1 7 (by omega) (by omega) (by omega)
  rw [e2, Option.bind_some]
  refine ⟨_, _, _, rfl, ?_, by dsimp only; omega, by dsimp only; omega⟩
  dsimp only; omega
def DrV (g : Nat → Option (List Int × Int × Int)) (P : List Int → Prop) (a n : Int) : Prop := ∃ l a' s', Ev g (l, a', s') ∧ P l ∧ a ≤ a' ∧ a' ≤ a + n
theorem levels_dj {c : List Int} (hc : bytesP c) (l : List Int) (b : Bool) (hb : b = true → 0 < l.length) {a : Int} (s : Int) (h0 : 0 ≤ a) (h1 : a ≤ 1000000) : DrV (fun k => spec_l1Cur_levels.j1 k l b c a s) (fun m => m.length = l.length) a 4 := by
 cases b with
 | false =>
  refine ⟨l, a, s, Ev.shift ?_, rfl, by omega, by omega⟩
  simp only [spec_l1Cur_levels.j1]
  exact Ev.neg (by simp) (Ev.ret rfl)
 | true =>
  have := hb rfl
  obtain ⟨x, a1, s1, e1, hx, h2, h3⟩ := pick_d hc (a := a) s (l.length : Int) h0 (by omega) (by omega)
  obtain ⟨y, a2, s2, e2, hy, h4, h5⟩ := among_d hc (a := a1) s1 [(-1), 0, 1, 9, 11, (-9223372036854775808)] (by omega) (by omega) (by simp)
  refine ⟨l.set x.toNat y, a2, s2, Ev.shift ?_, by simp, by omega, by omega⟩
  simp only [spec_l1Cur_levels.j1]
  exact Ev.pos (by simp) (Ev.bindc e1 (Ev.bindc e2 (Ev.pos hx.1 (Ev.pos hx.2 (Ev.ret rfl)))))
theorem levels_dl {c : List Int} (hc : bytesP c) (d : Nat) : ∀ (l : List Int) (a s : Int), l.length + d ≤ 1000 → 0 ≤ a → a + 2 * d ≤ 100000 → DrV (fun k => spec_l1Cur_levels.l0 k (d : Int) l c a s) (fun m => m.length = l.length + d) a (2 * d + 6) := by
 induction d with
 | zero =>
  intro l a s hl h0 h1
  by_cases hp : 0 < l.length
  ·obtain ⟨b, a1, s1, e1, _, h2, h3⟩ := one_d hc (a := a) s 20 h0 (by omega) (by omega)
   obtain ⟨m, a2, s2, e2, hm, h4, h5⟩ := levels_dj hc (lev l) b (fun _ => by rw [lev_length]; exact hp) (a := a1) s1 (by omega) (by omega)
   refine ⟨m, a2, s2, Ev.shift ?_, by dsimp only; rw [hm, lev_length]; omega, by omega, by omega⟩
   simp only [spec_l1Cur_levels.l0]
   exact Ev.neg (by omega) (Ev.bind (ofNumbers_ev l (by omega)) (Ev.pos (by rw [lev_length]; omega) (Ev.bindc e1 e2)))
  ·obtain ⟨m, a2, s2, e2, hm, h4, h5⟩ := levels_dj hc (lev l) false (fun h => by cases h) (a := a) s (by omega) (by omega)
   refine ⟨m, a2, s2, Ev.shift ?_, by dsimp only; rw [hm, lev_length]; omega, by omega, by omega⟩
   simp only [spec_l1Cur_levels.l0]
   exact Ev.neg (by omega) (Ev.bind (ofNumbers_ev l (by omega)) (Ev.neg (by rw [lev_length]; omega) e2))
 | succ d ih =>
  intro l a s hl h0 h1
  obtain ⟨x, a1, s1, e, hx, h2, h3⟩ := pick_d hc (a := a) s 5 h0 (by omega) (by omega)
  obtain ⟨m, a2, s2, e2, hm, h4, h5⟩ := ih (l ++ [x]) a1 s1 (by simp; omega) (by omega) (by omega)
  refine ⟨m, a2, s2, Ev.shift ?_, by dsimp only; rw [hm]; simp; omega, by omega, by omega⟩
  simp only [spec_l1Cur_levels.l0]
  refine Ev.pos (by omega) (Ev.bindc e (Ev.pos (by omega) ?_))
  rw [show wrap64 ((d + 1 : Nat) - 1 : Int) = (d : Int) by rw [wrap64_id (by omega) (by omega)]; omega]
  exact e2
theorem levels_d {c : List Int} (hc : bytesP c) {a : Int} (s n : Int) (hn : 0 ≤ n ∧ n ≤ 20) (h0 : 0 ≤ a) (h1 : a ≤ 10000) : DrV (fun k => spec_l1Cur_levels.f k c a s n) (fun m => (m.length : Int) = n) a 50 := by
 obtain ⟨N, rfl⟩ : ∃ N : Nat, n = N := ⟨n.toNat, by omega⟩
 obtain ⟨m, a2, s2, e2, hm, h4, h5⟩ := levels_dl hc N [] a s (by simp; omega) h0 (by omega)
 refine ⟨m, a2, s2, ?_, by dsimp only; rw [hm]; simp, h4, by omega⟩
 unfold spec_l1Cur_levels.f
 exact e2
theorem drawRefine {c : List Int} (hc : bytesP c) : ∃ x y, Ev (fun k => spec_DrawRefineLevels.f k c) (x, y) ∧ x.length ≤ 11 ∧ y.length ≤ 11 := by
 unfold spec_DrawRefineLevels.f
 obtain ⟨n, a1, s1, e1, hn, h2, h3⟩ := elements_d hc (a := 0) 0 (by omega) (by omega)
 obtain ⟨b, a2, s2, e2, _, h4, h5⟩ := one_d hc (a := a1) s1 12 (by omega) (by omega) (by omega)
 obtain ⟨x, a3, s3, e3, hx, h6, h7⟩ := levels_d hc (a := a2) s2 n ⟨by omega, by omega⟩ (by omega) (by omega)
 by_cases hb : b = true
 ·obtain ⟨m, a4, s4, e4, hm, h8, h9⟩ := elements_d hc (a := a3) s3 (by omega) (by omega)
  obtain ⟨y, a5, s5, e5, hy, _, _⟩ := levels_d hc (a := a4) s4 m ⟨by omega, by omega⟩ (by omega) (by omega)
  exact ⟨x, y, Ev.bindc e1 (Ev.bindc e2 (Ev.pos hb (Ev.bind e3 (Ev.bindc e4 (Ev.bind e5 (Ev.ret rfl)))))), by omega, by omega⟩
 ·obtain ⟨y, a5, s5, e5, hy, _, _⟩ := levels_d hc (a := a3) s3 n ⟨by omega, by omega⟩ (by omega) (by omega)
  exact ⟨x, y, Ev.bindc e1 (Ev.bindc e2 (Ev.neg hb (Ev.bind e3 (Ev.bind e5 (Ev.ret rfl))))), by omega, by omega⟩
theorem Ev.up {α : Type} {g : Nat → Option α} {r : α} (h : Ev g r) : Ev (fun k => g (k + 1)) r := by
 obtain ⟨K, hK⟩ := h; exact ⟨K, fun k hk => hK (k + 1) (by omega)⟩
/-- one more bit -/
def orb (x : Int) (j : Nat) : Int := Go.bits .or .i64 x (shl .i64 1 (j : Int))
/-- a row: the bits of those before d that p tells -/
def rowf (p : Nat → Bool) (d : Nat) : Int := (List.range d).foldl (fun x j => if p j then orb x j else x) 0
theorem rowf_succ (p : Nat → Bool) (d : Nat) : rowf p (d + 1) = if p d then orb (rowf p d) d else rowf p d := by
 simp [rowf, List.range_succ, List.foldl_append]
/-- the rows of a relation on n elements -/
def rel (p : Nat → Nat → Bool) (n : Nat) : List Int := (List.range n).map fun i => rowf (p i) n
theorem rel_length (p : Nat → Nat → Bool) (n : Nat) : (rel p n).length = n := by simp [rel]
theorem rel_get (p : Nat → Nat → Bool) (n i : Nat) (h : i < n) : rd (rel p n) (i : Int) = rowf (p i) n := by
 rw [rd_lt _ i (by rw [rel_length]; exact h)]; simp [rel]
theorem rel_congr {p q : Nat → Nat → Bool} {n : Nat} (h : ∀ i j, i < n → j < n → p i j = q i j) : rel p n = rel q n := by
 unfold rel
 refine List.map_congr_left fun i hi => ?_
 rw [List.mem_range] at hi
 have : ∀ d, d ≤ n → rowf (p i) d = rowf (q i) d := by
  intro d
  induction d with
  | zero => intro _; rfl
  | succ d ih => intro hd; rw [rowf_succ, rowf_succ, ih (by omega), h i d hi (by omega)]
 exact this n (Nat.le_refl _)
/-- the rows up to i are told, the ones behind are empty -/
def relUpto (p : Nat → Nat → Bool) (n i : Nat) : List Int := (rel p n).take i ++ List.replicate (n - i) 0
theorem relation_l1 (p : Nat → Nat → Bool) (n : Nat) (hn : n ≤ 1000) (i : Nat) (hi : i < n) (R : Int × List Int) (hR : ∀ g : Nat → Int → Int → Option Bool, (∀ i j : Nat, i < n → j < n → Ev (fun k => g k i j) (p i j)) → ∀ y : List Int, y.length = n → rd y (i : Int) = rowf (p i) n → (∀ m : Nat, m < n → m ≠ i → rd y (m : Int) = if m < i then rowf (p m) n else 0) → Ev (fun k => impl_relation.l0 k n (g k) n ((i + 1 : Nat) : Int) n y) R) (d : Nat) :
  ∀ (j : Nat) (y : List Int) (g : Nat → Int → Int → Option Bool), (∀ i j : Nat, i < n → j < n → Ev (fun k => g k i j) (p i j)) → j + d = n → y.length = n → rd y (i : Int) = rowf (p i) j → (∀ m : Nat, m < n → m ≠ i → rd y (m : Int) = if m < i then rowf (p m) n else 0) →
  Ev (fun k => impl_relation.l1 k n (g k) (i : Int) n (i : Int) n (j : Int) n y) R := by
 induction d with
 | zero =>
  intro j y g hg hj hy h1 h2
  obtain rfl : j = n := by omega
  refine Ev.shift ?_
  simp only [impl_relation.l1]
  refine Ev.neg (by omega) ?_
  rw [wrap64_id (x := (i : Int) + 1) (by omega) (by omega), cast1]
  exact hR (fun k => g (k + 1)) (fun a b ha hb => Ev.up (hg a b ha hb)) y hy h1 h2
 | succ d ih =>
  intro j y g hg hj hy h1 h2
  have hg' : ∀ i j : Nat, i < n → j < n → Ev (fun k => g (k + 1) i j) (p i j) := fun a b ha hb => Ev.up (hg a b ha hb)
  refine Ev.shift ?_
  simp only [impl_relation.l1]
  refine Ev.pos (by omega) (Ev.bind (hg' i j hi (by omega)) ?_)
  rw [wrap64_id (x := (j : Int) + 1) (by omega) (by omega), cast1]
  by_cases hp : p i j = true
  ·refine Ev.pos hp (Ev.pos (by omega) (Ev.pos (by omega) (Ev.pos (by omega) ?_)))
   rw [Int.toNat_natCast]
   refine ih (j + 1) _ (fun k => g (k + 1)) hg' (by omega) (by simp; omega) ?_ ?_
   ·rw [rd_lt _ i (by simp; omega), List.getElem_set_self, rowf_succ, if_pos hp, h1]; rfl
   ·intro m hm hmi
    rw [rd_lt _ m (by simp; omega), List.getElem_set_ne (Ne.symm hmi), ← rd_lt y m (by omega)]
    exact h2 m hm hmi
  ·refine Ev.neg hp (ih (j + 1) y (fun k => g (k + 1)) hg' (by omega) hy ?_ h2)
   rw [rowf_succ, if_neg hp]; exact h1
theorem relation_l0 (p : Nat → Nat → Bool) (n : Nat) (hn : n ≤ 1000) (d : Nat) : ∀ (i : Nat) (y : List Int) (g : Nat → Int → Int → Option Bool), (∀ i j : Nat, i < n → j < n → Ev (fun k => g k i j) (p i j)) → i + d = n → y.length = n → (∀ m : Nat, m < n → rd y (m : Int) = if m < i then rowf (p m) n else 0) →
  Ev (fun k => impl_relation.l0 k n (g k) n (i : Int) n y) ((n : Int), rel p n) := by
 induction d with
 | zero =>
  intro i y g hg hi hy h1
  refine Ev.shift ?_
  simp only [impl_relation.l0]
  refine Ev.neg (by omega) (Ev.ret ?_)
  congr 1
  apply List.ext_getElem (by rw [rel_length]; exact hy)
  intro m hm1 hm2
  have := h1 m (by omega)
  rw [if_pos (by omega), rd_lt y m hm1, ← rel_get p n m (by omega), rd_lt _ m hm2] at this
  exact this
 | succ d ih =>
  intro i y g hg hi hy h1
  refine Ev.shift ?_
  simp only [impl_relation.l0]
  refine Ev.pos (by omega) ?_
  refine relation_l1 p n hn i (by omega) _ (fun g' hg' y' hy' h1' h2' => ih (i + 1) y' g' hg' (by omega) hy' (fun m hm => ?_)) n 0 y (fun k => g (k + 1)) (fun a b ha hb => Ev.up (hg a b ha hb)) (by omega) hy ?_ ?_
  ·by_cases e : m = i
   ·subst e; rw [h1', if_pos (by omega)]
   ·rw [h2' m hm e]
    by_cases hlt : m < i
    ·rw [if_pos hlt, if_pos (by omega)]
    ·rw [if_neg hlt, if_neg (by omega)]
  ·rw [h1 i (by omega), if_neg (by omega)]; rfl
  ·intro m hm e; exact h1 m hm
theorem relation_ev (p : Nat → Nat → Bool) (n : Nat) (hn : n ≤ 1000) (g : Nat → Int → Int → Option Bool) (hg : ∀ i j : Nat, i < n → j < n → Ev (fun k => g k i j) (p i j)) : Ev (fun k => impl_relation.f k n (g k)) ((n : Int), rel p n) := by
 unfold impl_relation.f
 refine Ev.pos (by omega) (Ev.pos (by omega) ?_)
 rw [Int.toNat_natCast]
 exact relation_l0 p n hn n 0 _ g hg (by omega) (by simp) (fun m hm => by rw [rd_lt _ m (by simp; omega), List.getElem_replicate, if_neg (by omega)])
theorem rowf_bits (p : Nat → Bool) (d : Nat) : d ≤ 10 → setP (rowf p d) ∧ ∀ m, bit (rowf p d) m = (decide (m < d) && p m) := by
 induction d with
 | zero => intro _; exact ⟨set_zero, fun m => by rw [show rowf p 0 = 0 from rfl, bit_zero]; simp⟩
 | succ d ih =>
  intro hd
  obtain ⟨h1, h2⟩ := ih (by omega)
  rw [rowf_succ]
  by_cases hp : p d = true
  ·rw [if_pos hp]
   have hs := set_shl (j := d) (by omega)
   have ho := set_or h1 hs.1
   refine ⟨ho.1, fun m => ?_⟩
   show bit (Go.bits .or .i64 (rowf p d) (shl .i64 1 (d : Int))) m = _
   rw [ho.2, h2, hs.2]
   by_cases e : m = d
   ·subst e; simp [hp]
   ·by_cases l : m < d
    ·simp [l, e, show m < d + 1 by omega]
    ·simp [l, e, show ¬ m < d + 1 by omega]
  ·rw [if_neg hp]
   refine ⟨h1, fun m => ?_⟩
   rw [h2]
   by_cases e : m = d
   ·subst e; simp [hp]
   ·by_cases l : m < d
    ·simp [l, show m < d + 1 by omega]
    ·simp [l, show ¬ m < d + 1 by omega]
theorem rel_set {p : Nat → Nat → Bool} {n i : Nat} (hn : n ≤ 10) (hi : i < n) : setP (rd (rel p n) (i : Int)) := by
 rw [rel_get p n i hi]; exact (rowf_bits (p i) n hn).1
theorem rel_lt {p : Nat → Nat → Bool} {n i : Nat} (hn : n ≤ 10) (hi : i < n) (j : Nat) : lt (rel p n) i j = (decide (j < n) && p i j) := by
 unfold lt; rw [rel_get p n i hi]; exact (rowf_bits (p i) n hn).2 j
theorem orderP_of {n : Int} {L : List Int} (h : relP n L) (h1 : ∀ i, i < L.length → lt L i i = false) (h2 : ∀ i j m, i < L.length → j < L.length → lt L i j = true → lt L j m = true → lt L i m = true) : orderP n L :=
 ⟨h, fun m hm => ⟨h1 m hm, fun j hj => by
  obtain ⟨j', rfl, hj', hb⟩ := h.bits hm hj
  exact (andNot_zero (h.set hj') (h.set hm)).2 fun q _ hb2 => h2 m j' q hm hj' hb hb2⟩⟩
theorem rel_relP {n : Int} {N : Nat} (hn : n = N) (h10 : N ≤ 10) (p : Nat → Nat → Bool) : relP n (rel p N) := by
 subst hn
 refine ⟨⟨by omega, by omega⟩, by rw [rel_length], fun x hx => ?_⟩
 obtain ⟨i, hi, rfl⟩ := List.mem_iff_getElem.1 hx
 rw [rel_length] at hi
 rw [← rd_lt _ i (by rw [rel_length]; exact hi)]
 have hs := rel_set (p := p) h10 hi
 refine ⟨hs.1, ?_⟩
 rw [full_pow h10]
 obtain ⟨a, ha, hlt⟩ := hs.nat
 rw [ha]
 have : a < 2 ^ N := by
  refine Nat.lt_pow_two_of_testBit a fun m hm => ?_
  have := rel_lt (p := p) h10 hi m
  unfold lt at this
  rw [ha, bit_nat] at this
  rw [this]; simp; omega
 have h2 : ((2 ^ N : Nat) : Int) = (2 : Int) ^ N := by simp
 omega
/-- the mirrored rows -/
def mir (L : List Int) : List Int := rel (fun i j => lt L j i) L.length
theorem mir_length (L : List Int) : (mir L).length = L.length := rel_length _ _
theorem mir_relP {n : Int} {L : List Int} (h : relP n L) : relP n (mir L) := rel_relP h.2.1.symm (by have := h.1; have := h.2.1; omega) _
theorem mir_lt {n : Int} {L : List Int} (h : relP n L) {i j : Nat} (hi : i < L.length) (hj : j < L.length) : lt (mir L) i j = lt L j i := by
 have h1 := h.1; have h2 := h.2.1
 unfold mir; rw [rel_lt (by omega) hi]; simp [hj]
theorem mir_mir {n : Int} {L : List Int} (h : relP n L) : mir (mir L) = L := by
 have h1 := h.1; have h2 := h.2.1
 have hm := mir_relP h
 have hmm := mir_relP hm
 refine rel_ext (by rw [mir_length, mir_length]) (fun i hi => hmm.set hi) (fun i hi => h.set hi) (fun i j hi hj => ?_)
 rw [mir_length, mir_length] at hi
 by_cases hjl : j < L.length
 ·rw [mir_lt hm (by rw [mir_length]; exact hi) (by rw [mir_length]; exact hjl), mir_lt h hjl hi]
 ·have e1 : lt (mir (mir L)) i j = false := by
   cases hb : lt (mir (mir L)) i j
   ·rfl
   ·have := hmm.lt_len (by rw [mir_length, mir_length]; exact hi) hb; rw [mir_length, mir_length] at this; omega
  have e2 : lt L i j = false := by
   cases hb : lt L i j
   ·rfl
   ·have := h.lt_len hi hb; omega
  rw [e1, e2]
theorem mir_order {n : Int} {L : List Int} (h : orderP n L) : orderP n (mir L) := by
 have hm := mir_relP h.1
 refine orderP_of hm (fun i hi => ?_) (fun i j m hi hj h1 h2 => ?_)
 ·rw [mir_length] at hi; rw [mir_lt h.1 hi hi]; exact h.irr hi
 ·have hml := hm.lt_len hj h2
  rw [mir_length] at hi hj hml
  rw [mir_lt h.1 hi hj] at h1
  rw [mir_lt h.1 hj hml] at h2
  rw [mir_lt h.1 hi hml]
  exact h.trans hml h2 h1
theorem mir_order_iff {n : Int} {L : List Int} (h : relP n L) : orderP n (mir L) ↔ orderP n L :=
 ⟨fun h2 => by have := mir_order h2; rwa [mir_mir h] at this, mir_order⟩
theorem below_l {n : Int} {L : List Int} (h : relP n L) (i : Nat) (hi : i < L.length) (d : Nat) : ∀ (j : Nat), j + d = L.length → Ev (fun k => spec_orBelow.l0 k (i : Int) (rowf (fun j => lt L j i) j) L (L.length : Int) (j : Int)) (rowf (fun j => lt L j i) L.length) := by
 have e1 := h.2.1
 have e3 := h.1
 induction d with
 | zero =>
  intro j hj
  refine Ev.shift ?_
  simp only [spec_orBelow.l0]
  exact Ev.neg (by omega) (Ev.ret (by rw [show j = L.length by omega]))
 | succ d ih =>
  intro j hj
  have := ih (j + 1) (by omega)
  rw [rowf_succ] at this
  refine Ev.shift ?_
  simp only [spec_orBelow.l0]
  refine Ev.pos (by omega) (Ev.pos (by omega) (Ev.pos (by omega) (Ev.bindc (orHas_f (h.set (i := j) (by omega)).1 (h.set (i := j) (by omega)).2 (by omega)) ?_)))
  rw [wrap64_id (by omega) (by omega), cast1]
  by_cases hb : bit (rd L (j : Int)) i = true
  ·rw [if_pos (show lt L j i = true from hb)] at this
   exact Ev.pos hb this
  ·rw [if_neg (show ¬ lt L j i = true from hb)] at this
   exact Ev.neg hb this
theorem below_ev {n : Int} {L : List Int} (h : relP n L) {i : Nat} (hi : i < L.length) : Ev (fun k => spec_orBelow.f k n L (i : Int)) (rowf (fun j => lt L j i) L.length) := by
 unfold spec_orBelow.f
 exact below_l h i hi L.length 0 (by omega)
theorem orMirror_l {n : Int} {L : List Int} (h : relP n L) (d : Nat) : ∀ i : Nat, i + d = L.length → Ev (fun k => spec_orMirror.l0 k (L.length : Int) (i : Int) n L n ((mir L).take i)) (n, mir L) := by
 have h1 := h.1; have h2 := h.2.1
 induction d with
 | zero =>
  intro i hi
  refine Ev.shift ?_
  simp only [spec_orMirror.l0]
  exact Ev.neg (by omega) (Ev.ret (by rw [List.take_of_length_le (by rw [mir_length]; omega)]))
 | succ d ih =>
  intro i hi
  have := ih (i + 1) (by omega)
  rw [List.take_succ_eq_append_getElem (by rw [mir_length]; omega), ← rd_lt _ i (by rw [mir_length]; omega)] at this
  refine Ev.shift ?_
  simp only [spec_orMirror.l0]
  refine Ev.pos (by omega) (Ev.bind (below_ev h (by omega)) (Ev.pos (by rw [List.length_take, mir_length]; omega) ?_))
  rw [wrap64_id (by omega) (by omega), cast1]
  rw [show rd (mir L) (i : Int) = rowf (fun j => lt L j i) L.length from rel_get _ _ i (by omega)] at this
  exact this
theorem orMirror_ev {n : Int} {L : List Int} (h : relP n L) : Ev (fun k => spec_orMirror.f k n L) (n, mir L) := by
 unfold spec_orMirror.f
 exact orMirror_l h L.length 0 (by omega)
theorem all_l (a b : Int) (l : List Int) (hl : l.length ≤ 1048576) (d : Nat) : ∀ i : Nat, i + d = l.length → Ev (fun k => spec_l1All.l0 k a b l (l.length : Int) i) (decide (∀ x ∈ l.drop i, a ≤ x ∧ x ≤ b)) := by
 induction d with
 | zero =>
  intro i hi
  refine Ev.shift ?_
  simp only [spec_l1All.l0]
  refine Ev.neg (by omega) (Ev.ret ?_)
  rw [List.drop_of_length_le (by omega)]; simp
 | succ d ih =>
  intro i hi
  refine Ev.shift ?_
  simp only [spec_l1All.l0]
  refine Ev.pos (by omega) (Ev.pos (by omega) (Ev.pos (by omega) (Ev.bindc (spec_in _ _ _) ?_)))
  rw [wrap64_id (by omega) (by omega), cast1, drop_rd l i (by omega)]
  by_cases hc : a ≤ rd l (i : Int) ∧ rd l (i : Int) ≤ b
  ·exact Ev.pos (by simpa using hc) (Ev.eq (ih (i + 1) (by omega)) (by simp [hc]))
  ·refine Ev.neg (by simpa using hc) (Ev.ret ?_)
   symm; rw [decide_eq_false_iff_not]; intro h; exact hc (h _ (by simp))
theorem all_spec (a b : Int) (l : List Int) (hl : l.length ≤ 1048576) : Ev (fun k => spec_l1All.f k l a b) (decide (∀ x ∈ l, a ≤ x ∧ x ≤ b)) := by
 unfold spec_l1All.f
 simpa using all_l a b l hl l.length 0 (by omega)
theorem has_l (a : Int) (l : List Int) (hl : l.length ≤ 1048576) (d : Nat) : ∀ i : Nat, i + d = l.length → Ev (fun k => spec_l1Has.l0 k a l (l.length : Int) i) (decide (a ∈ l.drop i)) := by
 induction d with
 | zero =>
  intro i hi
  refine Ev.shift ?_
  simp only [spec_l1Has.l0]
  refine Ev.neg (by omega) (Ev.ret ?_)
  rw [List.drop_of_length_le (by omega)]; simp
 | succ d ih =>
  intro i hi
  refine Ev.shift ?_
  simp only [spec_l1Has.l0]
  refine Ev.pos (by omega) (Ev.pos (by omega) (Ev.pos (by omega) ?_))
  rw [wrap64_id (by omega) (by omega), cast1, drop_rd l i (by omega)]
  by_cases hc : rd l (i : Int) = a
  ·exact Ev.pos hc (Ev.ret (by simp [hc]))
  ·exact Ev.neg hc (Ev.eq (ih (i + 1) (by omega)) (by simp [Ne.symm hc]))
theorem has_spec (a : Int) (l : List Int) (hl : l.length ≤ 1048576) : Ev (fun k => spec_l1Has.f k l a) (decide (a ∈ l)) := by
 unfold spec_l1Has.f
 simpa using has_l a l hl l.length 0 (by omega)
/-- levels: at most ten numbers from 0 to 10, below each positive one the one less by 1 -/
def lvlP (l : List Int) : Prop := l.length ≤ 10 ∧ (∀ x ∈ l, 0 ≤ x ∧ x ≤ 10) ∧ ∀ x ∈ l, 0 < x → x - 1 ∈ l
instance (l : List Int) : Decidable (lvlP l) := by unfold lvlP; infer_instance
theorem weLevels_l (l : List Int) (hl : l.length ≤ 10) (hr : ∀ x ∈ l, 0 ≤ x ∧ x ≤ 10) (d : Nat) : ∀ i : Nat, i + d = l.length → Ev (fun k => spec_weLevels.l0 k l l (l.length : Int) i) (decide (∀ x ∈ l.drop i, 0 < x → x - 1 ∈ l)) := by
 induction d with
 | zero =>
  intro i hi
  refine Ev.shift ?_
  simp only [spec_weLevels.l0]
  refine Ev.neg (by omega) (Ev.ret ?_)
  rw [List.drop_of_length_le (by omega)]; simp
 | succ d ih =>
  intro i hi
  have hx := hr (rd l (i : Int)) (by rw [rd_lt l i (by omega)]; exact List.getElem_mem _)
  refine Ev.shift ?_
  simp only [spec_weLevels.l0]
  refine Ev.pos (by omega) (Ev.pos (by omega) (Ev.pos (by omega) ?_))
  rw [wrap64_id (x := (i : Int) + 1) (by omega) (by omega), wrap64_id (x := rd l (i : Int) - 1) (by omega) (by omega), cast1, drop_rd l i (by omega)]
  by_cases h0 : rd l (i : Int) > 0
  ·refine Ev.pos h0 (Ev.bind (has_spec _ l (by omega)) ?_)
   by_cases hm : rd l (i : Int) - 1 ∈ l
   ·exact Ev.pos (by simpa using hm) (Ev.eq (ih (i + 1) (by omega)) (by simp [hm]))
   ·refine Ev.neg (by simpa using hm) (Ev.ret ?_)
    symm; rw [decide_eq_false_iff_not]; intro h; exact hm (h _ (by simp) h0)
  ·exact Ev.neg h0 (Ev.eq (ih (i + 1) (by omega)) (by
    congr 1
    rw [eq_iff_iff]
    constructor
    ·intro h x hx hp
     rcases List.mem_cons.1 hx with rfl | hx
     ·omega
     ·exact h x hx hp
    ·intro h x hx hp; exact h x (List.mem_cons_of_mem _ hx) hp))
theorem levels_spec (l : List Int) (hl : l.length ≤ 1048576) : Ev (fun k => spec_weLevels.f k l) (decide (lvlP l)) := by
 unfold spec_weLevels.f
 by_cases h : (l.length : Int) > 10
 ·refine Ev.pos h (Ev.shift ?_)
  simp only [spec_weLevels.j0]
  refine Ev.pos (by simp) (Ev.ret ?_)
  symm; rw [decide_eq_false_iff_not]; intro h'; have := h'.1; omega
 ·refine Ev.neg h (Ev.bind (all_spec 0 10 l hl) (Ev.shift ?_))
  simp only [spec_weLevels.j0]
  by_cases hr : ∀ x ∈ l, 0 ≤ x ∧ x ≤ 10
  ·rw [decide_eq_true hr]
   refine Ev.neg (by simp) (Ev.eq (weLevels_l l (by omega) hr l.length 0 (by omega)) ?_)
   rw [Bool.eq_iff_iff, decide_eq_true_iff, decide_eq_true_iff]
   exact ⟨fun h' => ⟨by omega, hr, by simpa using h'⟩, fun h' => by simpa using h'.2.2⟩
  ·rw [decide_eq_false hr]
   refine Ev.pos (by simp) (Ev.ret ?_)
   symm; rw [decide_eq_false_iff_not]; exact fun h' => hr h'.2.1
/-- the numbers 0 to n - 1 -/
def iota (n : Nat) : List Int := (List.range n).map fun (i : Nat) => (i : Int)
theorem mem_iota {n : Nat} {x : Int} : x ∈ iota n ↔ 0 ≤ x ∧ x < n := by
 simp only [iota, List.mem_map, List.mem_range]
 constructor
 ·rintro ⟨i, h, rfl⟩; omega
 ·intro h; exact ⟨x.toNat, by omega, by omega⟩
theorem iota_length (n : Nat) : (iota n).length = n := by simp [iota]
theorem iota_rising (n : Nat) : (iota n).Pairwise (· < ·) := by
 unfold iota
 rw [List.pairwise_map]
 exact List.pairwise_lt_range.imp (by intro a b h; omega)
theorem dif_iota {l : List Int} {n : Nat} (h : ∀ x, x ∈ l ↔ 0 ≤ x ∧ x < n) : dif l = iota n :=
 rising_ext (dif_sorted l) (iota_rising n) fun x => by rw [mem_dif, mem_iota]; exact h x
/-- levels fill an interval from 0 on -/
theorem lvl_fill {l : List Int} (h : lvlP l) : ∃ n : Nat, n ≤ 10 ∧ ∀ x, x ∈ l ↔ 0 ≤ x ∧ x < n := by
 obtain ⟨h1, h2, h3⟩ := h
 have down : ∀ (d : Nat) (x : Int), x ∈ l → ∀ y, 0 ≤ y → y + d = x → y ∈ l := by
  intro d
  induction d with
  | zero => intro x hx y hy e; rw [show y = x by omega]; exact hx
  | succ d ih =>
   intro x hx y hy e
   exact ih (x - 1) (h3 x hx (by omega)) y hy (by omega)
 have hmax : ∀ m : Nat, (∀ x ∈ l, x < m) → ∃ n : Nat, n ≤ m ∧ ∀ x, x ∈ l ↔ 0 ≤ x ∧ x < n := by
  intro m
  induction m with
  | zero => intro hx; exact ⟨0, by omega, fun x => ⟨fun h => by have := hx x h; have := h2 x h; omega, fun h => by omega⟩⟩
  | succ m ih =>
   intro hx
   by_cases hm : (m : Int) ∈ l
   ·refine ⟨m + 1, by omega, fun x => ⟨fun h => ⟨(h2 x h).1, hx x h⟩, fun h => ?_⟩⟩
    exact down (m - x).toNat m hm x h.1 (by omega)
   ·obtain ⟨n, hn, h⟩ := ih (fun x hx' => by
     have := hx x hx'
     have : x ≠ m := fun e => hm (e ▸ hx')
     omega)
    exact ⟨n, by omega, h⟩
 obtain ⟨n, hn, h⟩ := hmax 11 (fun x hx => by have := h2 x hx; omega)
 refine ⟨n, ?_, h⟩
 have e := dif_iota h
 have := dif_length l
 rw [e, iota_length] at this
 omega
theorem lvl_iff (l : List Int) : lvlP l ↔ (∀ m : Nat, m < (dif l).length → rd (dif l) (m : Int) = m) ∧ l.length ≤ 10 := by
 constructor
 ·intro h
  obtain ⟨n, hn, hx⟩ := lvl_fill h
  refine ⟨fun m hm => ?_, h.1⟩
  rw [rd_lt _ m hm]
  simp [dif_iota hx, iota]
 ·rintro ⟨h1, h2⟩
  have hd := dif_length l
  have key : ∀ x, x ∈ l ↔ 0 ≤ x ∧ x < (dif l).length := by
   intro x
   rw [← mem_dif, List.mem_iff_getElem]
   constructor
   ·rintro ⟨m, hm, rfl⟩
    have := h1 m hm
    rw [rd_lt _ m hm] at this
    omega
   ·intro h
    refine ⟨x.toNat, by omega, ?_⟩
    have := h1 x.toNat (by omega)
    rw [rd_lt _ _ (by omega)] at this
    omega
  exact ⟨h2, fun x hx => by have := (key x).1 hx; omega, fun x hx h0 => (key (x - 1)).2 (by have := (key x).1 hx; omega)⟩
theorem areLevels_l (l D : List Int) (hD : D.length ≤ 1048576) (d : Nat) : ∀ i : Nat, i + d = D.length → ∃ r, Ev (fun k => impl_AreLevels.l0 k l D (D.length : Int) i) r ∧ (r = true ↔ (∀ m : Nat, i ≤ m → m < D.length → rd D (m : Int) = m) ∧ l.length ≤ 10) := by
 induction d with
 | zero =>
  intro i hi
  refine ⟨decide ((l.length : Int) ≤ 10), Ev.shift ?_, ?_⟩
  ·simp only [impl_AreLevels.l0]
   exact Ev.neg (by omega) (Ev.ret rfl)
  ·rw [decide_eq_true_iff]
   exact ⟨fun h => ⟨fun m h1 h2 => by omega, by omega⟩, fun h => by omega⟩
 | succ d ih =>
  intro i hi
  obtain ⟨r, hr, hq⟩ := ih (i + 1) (by omega)
  by_cases hc : rd D (i : Int) = i
  ·refine ⟨r, Ev.shift ?_, hq.trans ⟨fun h => ⟨fun m h1 h2 => ?_, h.2⟩, fun h => ⟨fun m h1 h2 => h.1 m (by omega) h2, h.2⟩⟩⟩
   ·simp only [impl_AreLevels.l0]
    refine Ev.pos (by omega) (Ev.pos (by omega) (Ev.pos (by omega) ?_))
    rw [wrap64_id (by omega) (by omega), cast1]
    exact Ev.pos hc hr
   ·by_cases e : m = i
    ·subst e; exact hc
    ·exact h.1 m (by omega) h2
  ·refine ⟨false, Ev.shift ?_, ?_⟩
   ·simp only [impl_AreLevels.l0]
    exact Ev.pos (by omega) (Ev.pos (by omega) (Ev.pos (by omega) (Ev.neg hc (Ev.ret rfl))))
   ·simp only [Bool.false_eq_true, false_iff]
    intro h; exact hc (h.1 i (Nat.le_refl _) (by omega))
theorem levels_impl (l : List Int) (hl : l.length ≤ 1048576) : Ev (fun k => impl_AreLevels.f k l) (decide (lvlP l)) := by
 unfold impl_AreLevels.f
 obtain ⟨r, hr, hq⟩ := areLevels_l l (dif l) (by have := dif_length l; omega) (dif l).length 0 (by omega)
 refine Ev.bindc (different_f l hl) (Ev.eq hr ?_)
 rw [Bool.eq_iff_iff, decide_eq_true_iff, lvl_iff, hq]
 exact ⟨fun h => ⟨fun m hm => h.1 m (Nat.zero_le _) hm, h.2⟩, fun h => ⟨fun m _ hm => h.1 m hm, h.2⟩⟩
end Go.Proofs.YtgbdjchdfcodcaaDoor.Pure
