import Derived.Test.YtlfjnllnddpgoaaDoorBFnStretchedIntervals14
import Derived.Test.YtlfjnllnddpgoaaDoorBFnStretchedIntervals31
namespace Go.Proofs.YtlfjnllnddpgoaaDoor.Pure
open Go.RowKit Go.Proofs.YtlfjnllnddpgoaaDoor.Q Go.Proofs.YtlfjnllnddpgoaaDoorW.PrintWords Go.Proofs.YtlfjnllnddpgoaaDoorW.PrintLast
set_option linter.unusedVariables false
set_option linter.unusedSimpArgs false
theorem Ev.up {α : Type} {g : Nat → Option α} {r : α} (h : Ev g r) : Ev (fun k => g (k + 1)) r := by
 obtain ⟨K, hK⟩ := h; exact ⟨K, fun k hk => hK (k + 1) (by omega)⟩
def orb (x : Int) (j : Nat) : Int := Go.bits .or .i64 x (shl .i64 1 (j : Int))
def rowf (p : Nat → Bool) (d : Nat) : Int := (List.range d).foldl (fun x j => if p j then orb x j else x) 0
theorem rowf_succ (p : Nat → Bool) (d : Nat) : rowf p (d + 1) = if p d then orb (rowf p d) d else rowf p d := by
 simp [rowf, List.range_succ, List.foldl_append]
def rel (p : Nat → Nat → Bool) (n : Nat) : List Int := (List.range n).map fun i => rowf (p i) n
theorem rel_length (p : Nat → Nat → Bool) (n : Nat) : (rel p n).length = n := by simp [rel]
theorem rel_get (p : Nat → Nat → Bool) (n i : Nat) (h : i < n) : rd (rel p n) (i : Int) = rowf (p i) n := by
 rw [rd_lt _ i (by rw [rel_length]; exact h)]; simp [rel]
theorem rel_congr {p q : Nat → Nat → Bool} {n : Nat} (h : ∀ i j, i < n → j < n → p i j = q i j) : rel p n = rel q n := by
 unfold rel
 refine List.map_congr_left fun i hi => ?_
 rw [List.mem_range] at hi
 have : ∀ d, d ≤ n → rowf (p i) d = rowf (q i) d := by
  intro d
  induction d with
  | zero => intro _; rfl
  | succ d ih => intro hd; rw [rowf_succ, rowf_succ, ih (by omega), h i d hi (by omega)]
 exact this n (Nat.le_refl _)
def relUpto (p : Nat → Nat → Bool) (n i : Nat) : List Int := (rel p n).take i ++ List.replicate (n - i) 0
theorem relation_l1 (p : Nat → Nat → Bool) (n : Nat) (hn : n ≤ 1000) (i : Nat) (hi : i < n) (R : Int × List Int) (hR : ∀ g : Nat → Int → Int → Option Bool, (∀ i j : Nat, i < n → j < n → Ev (fun k => g k i j) (p i j)) → ∀ y : List Int, y.length = n → rd y (i : Int) = rowf (p i) n → (∀ m : Nat, m < n → m ≠ i → rd y (m : Int) = if m < i then rowf (p m) n else 0) → Ev (fun k => impl_relation.l0 k n (g k) n ((i + 1 : Nat) : Int) n y) R) (d : Nat) :
  ∀ (j : Nat) (y : List Int) (g : Nat → Int → Int → Option Bool), (∀ i j : Nat, i < n → j < n → Ev (fun k => g k i j) (p i j)) → j + d = n → y.length = n → rd y (i : Int) = rowf (p i) j → (∀ m : Nat, m < n → m ≠ i → rd y (m : Int) = if m < i then rowf (p m) n else 0) →
  Ev (fun k => impl_relation.l1 k n (g k) (i : Int) n (i : Int) n (j : Int) n y) R := by
 induction d with
 | zero =>
  intro j y g hg hj hy h1 h2
  obtain rfl : j = n := by omega
  refine Ev.shift ?_
  simp only [impl_relation.l1]
  refine Ev.neg (by omega) ?_
  rw [wrap64_id (x := (i : Int) + 1) (by omega) (by omega), cast1]
  exact hR (fun k => g (k + 1)) (fun a b ha hb => Ev.up (hg a b ha hb)) y hy h1 h2
 | succ d ih =>
  intro j y g hg hj hy h1 h2
  have hg' : ∀ i j : Nat, i < n → j < n → Ev (fun k => g (k + 1) i j) (p i j) := fun a b ha hb => Ev.up (hg a b ha hb)
  refine Ev.shift ?_
  simp only [impl_relation.l1]
  refine Ev.pos (by omega) (Ev.bind (hg' i j hi (by omega)) ?_)
  rw [wrap64_id (x := (j : Int) + 1) (by omega) (by omega), cast1]
  by_cases hp : p i j = true
  ·refine Ev.pos hp (Ev.pos (by omega) (Ev.pos (by omega) (Ev.pos (by omega) ?_)))
   rw [Int.toNat_natCast]
   refine ih (j + 1) _ (fun k => g (k + 1)) hg' (by omega) (by simp; omega) ?_ ?_
   ·rw [rd_lt _ i (by simp; omega), List.getElem_set_self, rowf_succ, if_pos hp, h1]; rfl
   ·intro m hm hmi
    rw [rd_lt _ m (by simp; omega), List.getElem_set_ne (Ne.symm hmi), ← rd_lt y m (by omega)]
    exact h2 m hm hmi
  ·refine Ev.neg hp (ih (j + 1) y (fun k => g (k + 1)) hg' (by omega) hy ?_ h2)
   rw [rowf_succ, if_neg hp]; exact h1
theorem relation_l0 (p : Nat → Nat → Bool) (n : Nat) (hn : n ≤ 1000) (d : Nat) : ∀ (i : Nat) (y : List Int) (g : Nat → Int → Int → Option Bool), (∀ i j : Nat, i < n → j < n → Ev (fun k => g k i j) (p i j)) → i + d = n → y.length = n → (∀ m : Nat, m < n → rd y (m : Int) = if m < i then rowf (p m) n else 0) →
  Ev (fun k => impl_relation.l0 k n (g k) n (i : Int) n y) ((n : Int), rel p n) := by
 induction d with
 | zero =>
  intro i y g hg hi hy h1
  refine Ev.shift ?_
  simp only [impl_relation.l0]
  refine Ev.neg (by omega) (Ev.ret ?_)
  congr 1
  apply List.ext_getElem (by rw [rel_length]; exact hy)
  intro m hm1 hm2
  have := h1 m (by omega)
  rw [if_pos (by omega), rd_lt y m hm1, ← rel_get p n m (by omega), rd_lt _ m hm2] at this
  exact this
 | succ d ih =>
  intro i y g hg hi hy h1
  refine Ev.shift ?_
  simp only [impl_relation.l0]
  refine Ev.pos (by omega) ?_
  refine relation_l1 p n hn i (by omega) _ (fun g' hg' y' hy' h1' h2' => ih (i + 1) y' g' hg' (by omega) hy' (fun m hm => ?_)) n 0 y (fun k => g (k + 1)) (fun a b ha hb => Ev.up (hg a b ha hb)) (by omega) hy ?_ ?_
  ·by_cases e : m = i
   ·subst e; rw [h1', if_pos (by omega)]
   ·rw [h2' m hm e]
    by_cases hlt : m < i
    ·rw [if_pos hlt, if_pos (by omega)]
    ·rw [if_neg hlt, if_neg (by omega)]
  ·rw [h1 i (by omega), if_neg (by omega)]; rfl
  ·intro m hm e; exact h1 m hm
theorem relation_ev (p : Nat → Nat → Bool) (n : Nat) (hn : n ≤ 1000) (g : Nat → Int → Int → Option Bool) (hg : ∀ i j : Nat, i < n → j < n → Ev (fun k => g k i j) (p i j)) : Ev (fun k => impl_relation.f k n (g k)) ((n : Int), rel p n) := by
 unfold impl_relation.f
 refine Ev.pos (by omega) (Ev.pos (by omega) ?_)
 rw [Int.toNat_natCast]
 exact relation_l0 p n hn n 0 _ g hg (by omega) (by simp) (fun m hm => by rw [rd_lt _ m (by simp; omega), List.getElem_replicate, if_neg (by omega)])
def ivLt (l : List S37) (i j : Nat) : Bool := decide ((rd_T37 l (i : Int)).f1 < (rd_T37 l (j : Int)).f0)
theorem orderOf_ev (l : List S37) (hl : l.length ≤ 1000) : Ev (fun k => impl_orderOf.f k l) ((l.length : Int), rel (ivLt l) l.length) := by
 unfold impl_orderOf.f
 refine Ev.bind (relation_ev (ivLt l) l.length hl (fun _ u0_ u1_ => impl_orderOf_1.f u0_ u1_ l) (fun i j hi hj => ?_)) (Ev.ret rfl)
 refine Ev.const ?_
 unfold impl_orderOf_1.f
 rw [if_pos (by omega), if_pos (by omega), if_pos (by omega), if_pos (by omega)]
 rfl
theorem ivOrder_l1 (l : List S37) (hl : l.length ≤ 1000) (i : Nat) (hi : i < l.length) (y : List Int) (hy : y.length = i) (R : Int × List Int) (hR : Ev (fun k => spec_ivOrder.l0 k l l (l.length : Int) ((i + 1 : Nat) : Int) (l.length : Int) (y ++ [rowf (ivLt l i) l.length])) R) (d : Nat) :
  ∀ j : Nat, j + d = l.length → Ev (fun k => spec_ivOrder.l1 k l (rowf (ivLt l i) j) l (l.length : Int) (i : Int) l (l.length : Int) (j : Int) (l.length : Int) y (rd_T37 l (i : Int)).f0 (rd_T37 l (i : Int)).f1) R := by
 induction d with
 | zero =>
  intro j hj
  obtain rfl : j = l.length := by omega
  refine Ev.shift ?_
  simp only [spec_ivOrder.l1]
  refine Ev.neg (by omega) (Ev.pos (by omega) ?_)
  rw [wrap64_id (x := (i : Int) + 1) (by omega) (by omega), cast1]
  exact hR
 | succ d ih =>
  intro j hj
  have := ih (j + 1) (by omega)
  rw [rowf_succ] at this
  refine Ev.shift ?_
  simp only [spec_ivOrder.l1]
  refine Ev.pos (by omega) (Ev.pos (by omega) (Ev.pos (by omega) ?_))
  rw [wrap64_id (x := (j : Int) + 1) (by omega) (by omega), cast1]
  by_cases hc : (rd_T37 l (i : Int)).f1 < (rd_T37 l (j : Int)).f0
  ·rw [if_pos (by simpa [ivLt] using hc)] at this
   exact Ev.pos hc this
  ·rw [if_neg (by simpa [ivLt] using hc)] at this
   exact Ev.neg hc this
theorem ivOrder_l0 (l : List S37) (hl : l.length ≤ 1000) (d : Nat) : ∀ i : Nat, i + d = l.length → Ev (fun k => spec_ivOrder.l0 k l l (l.length : Int) (i : Int) (l.length : Int) ((rel (ivLt l) l.length).take i)) ((l.length : Int), rel (ivLt l) l.length) := by
 induction d with
 | zero =>
  intro i hi
  refine Ev.shift ?_
  simp only [spec_ivOrder.l0]
  exact Ev.neg (by omega) (Ev.ret (by rw [List.take_of_length_le (by rw [rel_length]; omega)]))
 | succ d ih =>
  intro i hi
  have := ih (i + 1) (by omega)
  rw [List.take_succ_eq_append_getElem (by rw [rel_length]; omega), ← rd_lt _ i (by rw [rel_length]; omega), rel_get _ _ i (by omega)] at this
  refine Ev.shift ?_
  simp only [spec_ivOrder.l0]
  refine Ev.pos (by omega) (Ev.pos (by omega) (Ev.pos (by omega) ?_))
  exact ivOrder_l1 l hl i (by omega) _ (by rw [List.length_take, rel_length]; omega) _ this l.length 0 (by omega)
theorem ivOrder_ev (l : List S37) (hl : l.length ≤ 1000) : Ev (fun k => spec_ivOrder.f k l) ((l.length : Int), rel (ivLt l) l.length) := by
 unfold spec_ivOrder.f
 exact ivOrder_l0 l hl l.length 0 (by omega)
theorem intervals_l1 {c : List Int} (hc : bytesP c) (d : Nat) : ∀ (l : List S37) (a s : Int), l.length + d = 11 → 0 ≤ a → a + 2 * d ≤ 100000 → ∃ m a' s', Ev (fun k => spec_l1Cur_intervals.l1 k l c a s) (m, a', s') ∧ m.length ≤ 11 ∧ a ≤ a' ∧ a' ≤ a + (2 * d + 2) := by
 induction d with
 | zero =>
  intro l a s hl h0 h1
  obtain ⟨x, a1, s1, e1, hx, h2, h3⟩ := pick_d hc s 2 h0 (by omega) (by omega)
  refine ⟨l, a1, s1, Ev.shift ?_, by omega, by omega, by omega⟩
  simp only [spec_l1Cur_intervals.l1]
  refine Ev.bindc e1 ?_
  dsimp only
  rw [wrap64_id (x := 10 + x) (by omega) (by omega)]
  exact Ev.neg (by omega) (Ev.ret rfl)
 | succ d ih =>
  intro l a s hl h0 h1
  obtain ⟨x, a1, s1, e1, hx, h2, h3⟩ := pick_d hc s 2 h0 (by omega) (by omega)
  by_cases hb : (l.length : Int) < 10 + x
  ·obtain ⟨m, a2, s2, e2, hm, h4, h5⟩ := ih (l ++ [⟨wrap64 ((l.length : Int) / 2), 3⟩]) a1 s1 (by simp; omega) (by omega) (by omega)
   refine ⟨m, a2, s2, Ev.shift ?_, hm, by omega, by omega⟩
   simp only [spec_l1Cur_intervals.l1]
   refine Ev.bindc e1 ?_
   dsimp only
   rw [wrap64_id (x := 10 + x) (by omega) (by omega)]
   exact Ev.pos hb (Ev.pos (by omega) e2)
  ·refine ⟨l, a1, s1, Ev.shift ?_, by omega, by omega, by omega⟩
   simp only [spec_l1Cur_intervals.l1]
   refine Ev.bindc e1 ?_
   dsimp only
   rw [wrap64_id (x := 10 + x) (by omega) (by omega)]
   exact Ev.neg hb (Ev.ret rfl)
theorem intervals_l0 {c : List Int} (hc : bytesP c) (d : Nat) : ∀ (l : List S37) (a s : Int), l.length + d ≤ 10 → 0 ≤ a → a + 4 * d ≤ 10000 → ∃ m a' s', Ev (fun k => spec_l1Cur_intervals.l0 k l (d : Int) c a s) (m, a', s') ∧ m.length ≤ 11 ∧ a ≤ a' ∧ a' ≤ a + (4 * d + 40) := by
 induction d with
 | zero =>
  intro l a s hl h0 h1
  obtain ⟨x, a1, s1, e1, hx, h2, h3⟩ := pick_d hc s 14 h0 (by omega) (by omega)
  by_cases hx0 : x = 0
  ·obtain ⟨y, a2, s2, e2, _, h4, h5⟩ := among_d hc (a := a1) s1 [(-1001), (-1000), 1, 1000] (by omega) (by omega) (by simp)
   obtain ⟨z, a3, s3, e3, _, h6, h7⟩ := among_d hc (a := a2) s2 [0, 1000, 1001] (by omega) (by omega) (by simp)
   refine ⟨l ++ [⟨y, z⟩], a3, s3, Ev.shift ?_, by simp; omega, by omega, by omega⟩
   simp only [spec_l1Cur_intervals.l0]
   exact Ev.neg (by omega) (Ev.bindc e1 (Ev.pos hx0 (Ev.bindc e2 (Ev.bindc e3 (Ev.pos (by omega) (Ev.ret rfl))))))
  ·by_cases hx1 : x = 1
   ·obtain ⟨m, a2, s2, e2, hm, h4, h5⟩ := intervals_l1 hc 11 [] a1 s1 (by simp) (by omega) (by omega)
    refine ⟨m, a2, s2, Ev.shift ?_, hm, by omega, by omega⟩
    simp only [spec_l1Cur_intervals.l0]
    exact Ev.neg (by omega) (Ev.bindc e1 (Ev.neg hx0 (Ev.pos hx1 e2)))
   ·refine ⟨l, a1, s1, Ev.shift ?_, by omega, by omega, by omega⟩
    simp only [spec_l1Cur_intervals.l0]
    exact Ev.neg (by omega) (Ev.bindc e1 (Ev.neg hx0 (Ev.neg hx1 (Ev.ret rfl))))
 | succ d ih =>
  intro l a s hl h0 h1
  obtain ⟨x, a1, s1, e1, hx, h2, h3⟩ := pick_d hc s 8 h0 (by omega) (by omega)
  obtain ⟨y, a2, s2, e2, hy, h4, h5⟩ := pick_d hc (a := a1) s1 4 (by omega) (by omega) (by omega)
  obtain ⟨m, a3, s3, e3, hm, h6, h7⟩ := ih (l ++ [⟨wrap64 (x - 1), wrap64 (wrap64 (x - 1) + y)⟩]) a2 s2 (by simp; omega) (by omega) (by omega)
  refine ⟨m, a3, s3, Ev.shift ?_, hm, by omega, by omega⟩
  simp only [spec_l1Cur_intervals.l0]
  refine Ev.pos (by omega) (Ev.bindc e1 (Ev.bindc e2 (Ev.pos (by omega) ?_)))
  rw [wrap64_id (x := ((d + 1 : Nat) : Int) - 1) (by omega) (by omega), show ((d + 1 : Nat) : Int) - 1 = (d : Int) by omega]
  exact e3
theorem intervals_d {c : List Int} (hc : bytesP c) {a : Int} (s m : Int) (hm : 0 ≤ m ∧ m ≤ 9) (h0 : 0 ≤ a) (h1 : a ≤ 1000) : ∃ l a' s', Ev (fun k => spec_l1Cur_intervals.f k c a s m) (l, a', s') ∧ l.length ≤ 11 ∧ a ≤ a' ∧ a' ≤ a + 100 := by
 unfold spec_l1Cur_intervals.f
 rw [wrap64_id (x := m + 1) (by omega) (by omega)]
 obtain ⟨x, a1, s1, e1, hx, h2, h3⟩ := pick_d hc s (m + 1) h0 (by omega) (by omega)
 obtain ⟨d, rfl⟩ : ∃ d : Nat, x = d := ⟨x.toNat, by omega⟩
 obtain ⟨l, a2, s2, e2, hl, h4, h5⟩ := intervals_l0 hc d [] a1 s1 (by simp; omega) (by omega) (by omega)
 exact ⟨l, a2, s2, Ev.bindc e1 e2, hl, by omega, by omega⟩
theorem ended_b {c : List Int} (hc : bytesP c) {a : Int} (s m : Int) (hm : 0 ≤ m ∧ m ≤ 9) (h0 : 0 ≤ a) (h1 : a ≤ 1000) : ∃ n L a' s', Ev (fun k => spec_l1Cur_ended.f k c a s m) (n, L, a', s') ∧ L.length ≤ 10 ∧ 0 ≤ a' ∧ a' ≤ 10000 := by
 unfold spec_l1Cur_ended.f
 obtain ⟨l, a1, s1, e1, hl, h2, h3⟩ := intervals_d hc s m hm h0 h1
 obtain ⟨b, b1, b2⟩ := ivGood_ev l (by omega)
 by_cases hb : b = true
 ·have h10 : l.length ≤ 10 := (b2.1 hb).2
  obtain ⟨y, a2, s2, e2, _, h4, h5⟩ := one_d hc (a := a1) s1 4 (by omega) (by omega) (by omega)
  by_cases hy : y = true
  ·obtain ⟨n, L, a3, s3, e3, hn, h6, h7⟩ := anyOrder_d hc (a := a2) s2 m (by omega) (by omega) ⟨by omega, by omega⟩
   refine ⟨n, L, a3, s3, Ev.bind e1 (Ev.bind b1 (Ev.pos hb (Ev.bindc e2 (Ev.shift ?_)))), hn.2.1, by omega, by omega⟩
   simp only [spec_l1Cur_ended.j0]
   exact Ev.neg (by simp [hy]) (Ev.bind e3 (Ev.ret rfl))
  ·refine ⟨(l.length : Int), rel (ivLt l) l.length, a2, s2, Ev.bind e1 (Ev.bind b1 (Ev.pos hb (Ev.bindc e2 (Ev.shift ?_)))), (show (rel (ivLt l) l.length).length ≤ 10 by rw [rel_length]; exact h10), by omega, by omega⟩
   simp only [spec_l1Cur_ended.j0]
   exact Ev.pos (by simp [hy]) (Ev.bind (ivOrder_ev l (by omega)) (Ev.ret rfl))
 ·obtain ⟨n, L, a3, s3, e3, hn, h6, h7⟩ := anyOrder_d hc (a := a1) s1 m (by omega) (by omega) ⟨by omega, by omega⟩
  refine ⟨n, L, a3, s3, Ev.bind e1 (Ev.bind b1 (Ev.neg hb (Ev.shift ?_))), hn.2.1, by omega, by omega⟩
  simp only [spec_l1Cur_ended.j0]
  exact Ev.neg (by simp) (Ev.bind e3 (Ev.ret rfl))
theorem drawStretch_d {c : List Int} (hc : bytesP c) : ∃ l p q, Ev (fun k => spec_DrawStretchIntervals.f k c) (l, p, q) ∧ l.length ≤ 11 := by
 unfold spec_DrawStretchIntervals.f
 obtain ⟨x, a1, s1, e1, hx, h2, h3⟩ := pick_d hc (a := 0) 0 9 (by omega) (by omega) (by omega)
 obtain ⟨y, a2, s2, e2, hy, h4, h5⟩ := pick_d hc (a := a1) s1 5 (by omega) (by omega) (by omega)
 obtain ⟨z, a3, s3, e3, hz, h6, h7⟩ := pick_d hc (a := a2) s2 10 (by omega) (by omega) (by omega)
 by_cases g0 : z = 0
 ·obtain ⟨p, a4, s4, e4, _, h8, h9⟩ := among_d hc (a := a3) s3 [(-1001), (-1000), 1000, 1001] (by omega) (by omega) (by simp)
  obtain ⟨l, a5, s5, e5, hl, _, _⟩ := intervals_d hc (a := a4) s4 7 (by omega) (by omega) (by omega)
  exact ⟨l, p, y, Ev.bindc e1 (Ev.bindc e2 (Ev.bindc e3 (Ev.pos g0 (Ev.bindc e4 (Ev.bind e5 (Ev.ret rfl)))))), hl⟩
 by_cases g1 : z = 1
 ·obtain ⟨p, a4, s4, e4, _, h8, h9⟩ := among_d hc (a := a3) s3 [(-1), 990, 1000, 1001] (by omega) (by omega) (by simp)
  obtain ⟨l, a5, s5, e5, hl, _, _⟩ := intervals_d hc (a := a4) s4 7 (by omega) (by omega) (by omega)
  exact ⟨l, wrap64 (x - 1), p, Ev.bindc e1 (Ev.bindc e2 (Ev.bindc e3 (Ev.neg g0 (Ev.pos g1 (Ev.bindc e4 (Ev.bind e5 (Ev.ret rfl))))))), hl⟩
 obtain ⟨l, a5, s5, e5, hl, _, _⟩ := intervals_d hc (a := a3) s3 7 (by omega) (by omega) (by omega)
 exact ⟨l, wrap64 (x - 1), y, Ev.bindc e1 (Ev.bindc e2 (Ev.bindc e3 (Ev.neg g0 (Ev.neg g1 (Ev.bind e5 (Ev.ret rfl)))))), hl⟩
theorem drawInsert_d {c : List Int} (hc : bytesP c) : ∃ n L x y, Ev (fun k => spec_DrawInsertInterval.f k c) (n, L, x, y) ∧ L.length ≤ 10 := by
 unfold spec_DrawInsertInterval.f
 obtain ⟨n, L, a1, s1, e1, hL, h2, h3⟩ := ended_b hc (a := 0) 0 7 (by omega) (by omega) (by omega)
 obtain ⟨x, a2, s2, e2, hx, h4, h5⟩ := pick_d hc (a := a1) s1 7 (by omega) (by omega) (by omega)
 obtain ⟨y, a3, s3, e3, hy, h6, h7⟩ := pick_d hc (a := a2) s2 4 (by omega) (by omega) (by omega)
 obtain ⟨z, a4, s4, e4, _, h8, h9⟩ := one_d hc (a := a3) s3 8 (by omega) (by omega) (by omega)
 by_cases g : z = true
 ·obtain ⟨u, a5, s5, e5, _, h10, h11⟩ := among_d hc (a := a4) s4 [(-1001), 3] (by omega) (by omega) (by simp)
  obtain ⟨v, a6, s6, e6, _, _, _⟩ := among_d hc (a := a5) s5 [2, 1000, 1001] (by omega) (by omega) (by simp)
  exact ⟨n, L, u, v, Ev.bind e1 (Ev.bindc e2 (Ev.bindc e3 (Ev.bindc e4 (Ev.pos g (Ev.bindc e5 (Ev.bindc e6 (Ev.ret rfl))))))), hL⟩
 ·exact ⟨n, L, wrap64 (x - 1), wrap64 (wrap64 (x - 1) + y), Ev.bind e1 (Ev.bindc e2 (Ev.bindc e3 (Ev.bindc e4 (Ev.neg g (Ev.ret rfl))))), hL⟩
theorem rowf_bits (p : Nat → Bool) (d : Nat) : d ≤ 10 → setP (rowf p d) ∧ ∀ m, bit (rowf p d) m = (decide (m < d) && p m) := by
 induction d with
 | zero => intro _; exact ⟨set_zero, fun m => by rw [show rowf p 0 = 0 from rfl, bit_zero]; simp⟩
 | succ d ih =>
  intro hd
  obtain ⟨h1, h2⟩ := ih (by omega)
  rw [rowf_succ]
  by_cases hp : p d = true
  ·rw [if_pos hp]
   have hs := set_shl (j := d) (by omega)
   have ho := set_or h1 hs.1
   refine ⟨ho.1, fun m => ?_⟩
   show bit (Go.bits .or .i64 (rowf p d) (shl .i64 1 (d : Int))) m = _
   rw [ho.2, h2, hs.2]
   by_cases e : m = d
   ·subst e; simp [hp]
   ·by_cases l : m < d
    ·simp [l, e, show m < d + 1 by omega]
    ·simp [l, e, show ¬ m < d + 1 by omega]
  ·rw [if_neg hp]
   refine ⟨h1, fun m => ?_⟩
   rw [h2]
   by_cases e : m = d
   ·subst e; simp [hp]
   ·by_cases l : m < d
    ·simp [l, show m < d + 1 by omega]
    ·simp [l, show ¬ m < d + 1 by omega]
theorem rel_set {p : Nat → Nat → Bool} {n i : Nat} (hn : n ≤ 10) (hi : i < n) : setP (rd (rel p n) (i : Int)) := by
 rw [rel_get p n i hi]; exact (rowf_bits (p i) n hn).1
theorem rel_lt {p : Nat → Nat → Bool} {n i : Nat} (hn : n ≤ 10) (hi : i < n) (j : Nat) : lt (rel p n) i j = (decide (j < n) && p i j) := by
 unfold lt; rw [rel_get p n i hi]; exact (rowf_bits (p i) n hn).2 j
end Go.Proofs.YtlfjnllnddpgoaaDoor.Pure
namespace Go.Proofs.YtlfjnllnddpgoaaDoor.Pure
open Go.RowKit Go.Proofs.YtlfjnllnddpgoaaDoor.Q Go.Proofs.YtlfjnllnddpgoaaDoorW.PrintWords Go.Proofs.YtlfjnllnddpgoaaDoorW.PrintLast
set_option linter.unusedVariables false
set_option linter.unusedSimpArgs false
end Go.Proofs.YtlfjnllnddpgoaaDoor.Pure
namespace Go.Proofs.YtlfjnllnddpgoaaDoor.Pure
open Go.RowKit Go.Proofs.YtlfjnllnddpgoaaDoor.Q Go.Proofs.YtlfjnllnddpgoaaDoorW.PrintWords Go.Proofs.YtlfjnllnddpgoaaDoorW.PrintLast
set_option linter.unusedVariables false
set_option linter.unusedSimpArgs false
theorem loopN {α : Type} (isNil : α → Prop) (N : Nat) (good : Nat → Prop) (Rest : Prop) (g : Nat → Nat → Option α)
  (hend : ∃ x, Ev (g N) x ∧ (isNil x ↔ Rest)) (hstep : ∀ i, i < N → ∀ R : Prop, (∃ x, Ev (g (i + 1)) x ∧ (isNil x ↔ R)) → ∃ x, Ev (g i) x ∧ (isNil x ↔ good i ∧ R)) :
  ∃ x, Ev (g 0) x ∧ (isNil x ↔ (∀ i, i < N → good i) ∧ Rest) := by
 have key : ∀ d i, i + d = N → ∃ x, Ev (g i) x ∧ (isNil x ↔ (∀ j, i ≤ j → j < N → good j) ∧ Rest) := by
  intro d
  induction d with
  | zero =>
   intro i hi
   obtain rfl : i = N := by omega
   obtain ⟨x, h1, h2⟩ := hend
   exact ⟨x, h1, h2.trans ⟨fun h => ⟨fun j h3 h4 => by omega, h⟩, fun h => h.2⟩⟩
  | succ d ih =>
   intro i hi
   obtain ⟨x, h1, h2⟩ := hstep i (by omega) _ (ih (i + 1) (by omega))
   refine ⟨x, h1, h2.trans ⟨fun h => ⟨fun j h3 h4 => ?_, h.2.2⟩, fun h => ⟨h.1 i (Nat.le_refl _) (by omega), fun j h3 h4 => h.1 j (by omega) h4, h.2⟩⟩⟩
   by_cases e : j = i
   ·subst e; exact h.1
   ·exact h.2.1 j (by omega) h4
 obtain ⟨x, h1, h2⟩ := key N 0 (by omega)
 exact ⟨x, h1, h2.trans ⟨fun h => ⟨fun j h3 => h.1 j (Nat.zero_le _) h3, h.2⟩, fun h => ⟨fun j _ h3 => h.1 j h3, h.2⟩⟩⟩
theorem better_lt {n : Int} {L : List Int} (h : relP n L) {i j : Nat} (hi : i < L.length) (hj : j < L.length) : impl_Order_better.f n L (i : Int) (j : Int) = some (lt L i j) :=
 better_f n L hi ⟨(h.row hi).1, (h.row hi).2.1⟩ (by have := h.1; have := h.2.1; omega)
def bad22 (L : List Int) (a b c d : Nat) : Prop := lt L a b = true ∧ lt L c d = true ∧ lt L c b = false ∧ lt L a d = false
theorem twoTwo_ev {n : Int} {L : List Int} (h : relP n L) : ∃ x, Ev (fun k => impl_Order_twoTwo.f k n L) x ∧ (x = [] ↔ (∀ a, a < L.length → ∀ b, b < L.length → ∀ c, c < L.length → ∀ d, d < L.length → ¬ bad22 L a b c d) ∧ True) := by
 have e1 := h.2.1
 have e3 := h.1
 unfold impl_Order_twoTwo.f
 refine loopN (fun x : List Int => x = []) L.length _ True (fun (a : Nat) k => impl_Order_twoTwo.l0 k n (a : Int) n L) ⟨[], ?_, by simp⟩ (fun a ha R hR => ?_)
 ·refine Ev.shift ?_
  simp only [impl_Order_twoTwo.l0]
  exact Ev.neg (by omega) (Ev.ret rfl)
 ·have := loopN (fun x : List Int => x = []) L.length R (fun (b : Nat) k => impl_Order_twoTwo.l1 k (a : Int) n (a : Int) n (b : Int) n L) (by
   obtain ⟨x, h1, h2⟩ := hR
   refine ⟨x, Ev.shift ?_, h2⟩
   simp only [impl_Order_twoTwo.l1]
   refine Ev.neg (by omega) ?_
   rw [wrap64_id (by omega) (by omega), cast1]
   exact h1) (good := fun b => ∀ c, c < L.length → ∀ d, d < L.length → ¬ bad22 L a b c d) (fun b hb R hR => ?_)
  ·obtain ⟨x, h1, h2⟩ := this
   refine ⟨x, Ev.shift ?_, h2⟩
   simp only [impl_Order_twoTwo.l0]
   exact Ev.pos (by omega) h1
  ·have := loopN (fun x : List Int => x = []) L.length R (fun (c : Nat) k => impl_Order_twoTwo.l2 k (a : Int) (b : Int) n (a : Int) n (b : Int) n (c : Int) n L) (by
    obtain ⟨x, h1, h2⟩ := hR
    refine ⟨x, Ev.shift ?_, h2⟩
    simp only [impl_Order_twoTwo.l2]
    refine Ev.neg (by omega) ?_
    rw [wrap64_id (by omega) (by omega), cast1]
    exact h1) (good := fun c => ∀ d, d < L.length → ¬ bad22 L a b c d) (fun c hc R hR => ?_)
   ·obtain ⟨x, h1, h2⟩ := this
    refine ⟨x, Ev.shift ?_, h2⟩
    simp only [impl_Order_twoTwo.l1]
    exact Ev.pos (by omega) h1
   ·have := loopN (fun x : List Int => x = []) L.length R (fun (d : Nat) k => impl_Order_twoTwo.l3 k (a : Int) (b : Int) (c : Int) n (a : Int) n (b : Int) n (c : Int) n (d : Int) n L) (by
     obtain ⟨x, h1, h2⟩ := hR
     refine ⟨x, Ev.shift ?_, h2⟩
     simp only [impl_Order_twoTwo.l3]
     refine Ev.neg (by omega) ?_
     rw [wrap64_id (by omega) (by omega), cast1]
     exact h1) (good := fun d => ¬ bad22 L a b c d) (fun d hd R hR => ?_)
    ·obtain ⟨x, h1, h2⟩ := this
     refine ⟨x, Ev.shift ?_, h2⟩
     simp only [impl_Order_twoTwo.l2]
     exact Ev.pos (by omega) h1
    ·obtain ⟨x, h1, h2⟩ := hR
     have w := wrap64_id (x := (d : Int) + 1) (by omega) (by omega)
     by_cases c1 : lt L a b = true
     ·by_cases c2 : lt L c d = true
      ·by_cases c3 : lt L c b = true
       ·refine ⟨x, Ev.shift ?_, h2.trans ⟨fun r => ⟨fun hb => (by rw [hb.2.2.1] at c3; cases c3), r⟩, fun r => r.2⟩⟩
        simp only [impl_Order_twoTwo.l3]
        rw [w, cast1]
        exact Ev.pos (by omega) (Ev.bindc (better_lt h ha hb) (Ev.pos c1 (Ev.bindc (better_lt h hc hd) (Ev.pos c2 (Ev.bindc (better_lt h hc hb) (Ev.pos c3 h1))))))
       ·by_cases c4 : lt L a d = true
        ·refine ⟨x, Ev.shift ?_, h2.trans ⟨fun r => ⟨fun hb => (by rw [hb.2.2.2] at c4; cases c4), r⟩, fun r => r.2⟩⟩
         simp only [impl_Order_twoTwo.l3]
         rw [w, cast1]
         exact Ev.pos (by omega) (Ev.bindc (better_lt h ha hb) (Ev.pos c1 (Ev.bindc (better_lt h hc hd) (Ev.pos c2 (Ev.bindc (better_lt h hc hb) (Ev.neg c3 (Ev.bindc (better_lt h ha hd) (Ev.pos c4 h1))))))))
        ·refine ⟨[(a : Int), (b : Int), (c : Int), (d : Int)], Ev.shift ?_, ⟨fun r => (by cases r), fun r => (r.1 ⟨c1, c2, by simpa using c3, by simpa using c4⟩).elim⟩⟩
         simp only [impl_Order_twoTwo.l3]
         exact Ev.pos (by omega) (Ev.bindc (better_lt h ha hb) (Ev.pos c1 (Ev.bindc (better_lt h hc hd) (Ev.pos c2 (Ev.bindc (better_lt h hc hb) (Ev.neg c3 (Ev.bindc (better_lt h ha hd) (Ev.neg c4 (Ev.ret rfl)))))))))
      ·refine ⟨x, Ev.shift ?_, h2.trans ⟨fun r => ⟨fun hb => c2 hb.2.1, r⟩, fun r => r.2⟩⟩
       simp only [impl_Order_twoTwo.l3]
       rw [w, cast1]
       exact Ev.pos (by omega) (Ev.bindc (better_lt h ha hb) (Ev.pos c1 (Ev.bindc (better_lt h hc hd) (Ev.neg c2 h1))))
     ·refine ⟨x, Ev.shift ?_, h2.trans ⟨fun r => ⟨fun hb => c1 hb.1, r⟩, fun r => r.2⟩⟩
      simp only [impl_Order_twoTwo.l3]
      rw [w, cast1]
      exact Ev.pos (by omega) (Ev.bindc (better_lt h ha hb) (Ev.neg c1 h1))
end Go.Proofs.YtlfjnllnddpgoaaDoor.Pure
namespace Go.Proofs.YtlfjnllnddpgoaaDoor.Pure
set_option linter.unusedVariables false
set_option linter.unusedSimpArgs false
-- plain
-- plain
structure Ord (n : Nat) (r : Nat → Nat → Bool) : Prop where
 irr : ∀ i, i < n → r i i = false
 trans : ∀ i j m, i < n → j < n → m < n → r i j = true → r j m = true → r i m = true
section
variable {n : Nat} {r : Nat → Nat → Bool}
theorem Ord.asym (h : Ord n r) {i j : Nat} (hi : i < n) (hj : j < n) (h1 : r i j = true) : r j i = false := by
 cases hb : r j i
 ·rfl
 ·have := h.trans i j i hi hj hi h1 hb; rw [h.irr i hi] at this; cases this
def No22 (n : Nat) (r : Nat → Nat → Bool) : Prop := ∀ a b c d, a < n → b < n → c < n → d < n → r a b = true → r c d = true → r c b = false → r a d = false → False
def No31 (n : Nat) (r : Nat → Nat → Bool) : Prop := ∀ a b c d, a < n → b < n → c < n → d < n → r a b = true → r b c = true → r a d = false → r d a = false → d ≠ a → r b d = false → r d b = false → d ≠ b → r c d = false → r d c = false → d ≠ c → False
def No21 (n : Nat) (r : Nat → Nat → Bool) : Prop := ∀ a b c, a < n → b < n → c < n → r a b = true → r a c = false → r c a = false → c ≠ a → r b c = false → r c b = false → c ≠ b → False
def trR (n : Nat) (r : Nat → Nat → Bool) (i j : Nat) : Prop := (∃ x, x < n ∧ r x j = true ∧ r x i = false) ∨ (∃ y, y < n ∧ r i y = true ∧ r j y = false)
def num (n : Nat) (r : Nat → Nat → Bool) (i : Nat) : Int := ((List.range n).countP (fun x => r x i) : Int) - ((List.range n).countP (fun y => r i y) : Int)
theorem below_nested (h22 : No22 n r) {i j x : Nat} (hi : i < n) (hj : j < n) (hx : x < n) (h1 : r x j = true) (h2 : r x i = false) : ∀ z, z < n → r z i = true → r z j = true := by
 intro z hz hzi
 cases hb : r z j
 ·exact (h22 x j z i hx hj hz hi h1 hzi hb h2).elim
 ·rfl
end
end Go.Proofs.YtlfjnllnddpgoaaDoor.Pure
namespace Go.Proofs.YtlfjnllnddpgoaaDoor.Pure
open Go.RowKit Go.Proofs.YtlfjnllnddpgoaaDoor.Q Go.Proofs.YtlfjnllnddpgoaaDoorW.PrintWords Go.Proofs.YtlfjnllnddpgoaaDoorW.PrintLast
set_option linter.unusedVariables false
set_option linter.unusedSimpArgs false
theorem ord_lt {n : Int} {L : List Int} (h : orderP n L) : Ord L.length (lt L) := ⟨fun i hi => h.irr hi, fun i j m hi hj hm h1 h2 => h.trans hi h1 h2⟩
def dn (L : List Int) (i : Nat) : Int := rowf (fun j => lt L j i) L.length
def dns (L : List Int) : List Int := rel (fun i j => lt L j i) L.length
theorem dns_length (L : List Int) : (dns L).length = L.length := rel_length _ _
theorem mem_dns {L : List Int} {x : Int} : x ∈ dns L ↔ ∃ i, i < L.length ∧ dn L i = x := by
 unfold dns rel dn
 simp only [List.mem_map, List.mem_range]
theorem dn_set {n : Int} {L : List Int} (h : relP n L) (i : Nat) : setP (dn L i) ∧ ∀ m, bit (dn L i) m = (decide (m < L.length) && lt L m i) := rowf_bits _ _ (by have := h.1; have := h.2.1; omega)
theorem dn_sub {n : Int} {L : List Int} (h : relP n L) (i j : Nat) : andN (dn L j) (dn L i) = 0 ↔ ∀ x, x < L.length → lt L x j = true → lt L x i = true := by
 have h10 : L.length ≤ 10 := by have := h.1; have := h.2.1; omega
 rw [andNot_zero (dn_set h j).1 (dn_set h i).1]
 constructor
 ·intro h2 x hx hb
  have := h2 x (by omega) (by rw [(dn_set h j).2]; simp [hx, hb])
  rw [(dn_set h i).2] at this
  simp at this; exact this.2
 ·intro h2 x hx hb
  rw [(dn_set h j).2] at hb
  simp at hb
  rw [(dn_set h i).2]; simp [hb.1, h2 x hb.1 hb.2]
theorem dn_eq {n : Int} {L : List Int} (h : relP n L) (i j : Nat) : dn L j = dn L i ↔ (∀ x, x < L.length → lt L x j = true → lt L x i = true) ∧ (∀ x, x < L.length → lt L x i = true → lt L x j = true) := by
 constructor
 ·intro e
  have e0 : andN (dn L i) (dn L i) = 0 := (dn_sub h i i).2 fun x _ hx => hx
  exact ⟨(dn_sub h i j).1 (by rw [e]; exact e0), (dn_sub h j i).1 (by rw [e]; exact e0)⟩
 ·rintro ⟨h1, h2⟩
  refine set_ext (dn_set h j).1 (dn_set h i).1 fun x hx => ?_
  rw [(dn_set h j).2, (dn_set h i).2]
  by_cases hxl : x < L.length
  ·have a := h1 x hxl; have b := h2 x hxl
   cases e1 : lt L x j <;> cases e2 : lt L x i <;> simp_all
  ·simp [hxl]
end Go.Proofs.YtlfjnllnddpgoaaDoor.Pure
