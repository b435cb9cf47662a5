import Derived.Test.YtdmheeenoklijaaDoorBFnSetsAlong16
import Derived.Test.YtdmheeenoklijaaDoorBFnSetsAlong30
namespace Go.Proofs.YtdmheeenoklijaaDoor.Pure
open Go.RowKit Go.Proofs.YtdmheeenoklijaaDoor.Q Go.Proofs.YtdmheeenoklijaaDoorW.PrintWords Go.Proofs.YtdmheeenoklijaaDoorW.PrintLast
set_option linter.unusedVariables false
set_option linter.unusedSimpArgs false
theorem Ev.up {α : Type} {g : Nat → Option α} {r : α} (h : Ev g r) : Ev (fun k => g (k + 1)) r := by
 obtain ⟨K, hK⟩ := h; exact ⟨K, fun k hk => hK (k + 1) (by omega)⟩
def orb (x : Int) (j : Nat) : Int := Go.bits .or .i64 x (shl .i64 1 (j : Int))
def rowf (p : Nat → Bool) (d : Nat) : Int := (List.range d).foldl (fun x j => if p j then orb x j else x) 0
theorem rowf_succ (p : Nat → Bool) (d : Nat) : rowf p (d + 1) = if p d then orb (rowf p d) d else rowf p d := by
 simp [rowf, List.range_succ, List.foldl_append]
def rel (p : Nat → Nat → Bool) (n : Nat) : List Int := (List.range n).map fun i => rowf (p i) n
theorem rel_length (p : Nat → Nat → Bool) (n : Nat) : (rel p n).length = n := by simp [rel]
theorem rel_get (p : Nat → Nat → Bool) (n i : Nat) (h : i < n) : rd (rel p n) (i : Int) = rowf (p i) n := by
 rw [rd_lt _ i (by rw [rel_length]; exact h)]; simp [rel]
def relUpto (p : Nat → Nat → Bool) (n i : Nat) : List Int := (rel p n).take i ++ List.replicate (n - i) 0
theorem relation_l1 (p : Nat → Nat → Bool) (n : Nat) (hn : n ≤ 1000) (i : Nat) (hi : i < n) (R : Int × List Int) (hR : ∀ g : Nat → Int → Int → Option Bool, (∀ i j : Nat, i < n → j < n → Ev (fun k => g k i j) (p i j)) → ∀ y : List Int, y.length = n → rd y (i : Int) = rowf (p i) n → (∀ m : Nat, m < n → m ≠ i → rd y (m : Int) = if m < i then rowf (p m) n else 0) → Ev (fun k => impl_relation.l0 k n (g k) n ((i + 1 : Nat) : Int) n y) R) (d : Nat) :
  ∀ (j : Nat) (y : List Int) (g : Nat → Int → Int → Option Bool), (∀ i j : Nat, i < n → j < n → Ev (fun k => g k i j) (p i j)) → j + d = n → y.length = n → rd y (i : Int) = rowf (p i) j → (∀ m : Nat, m < n → m ≠ i → rd y (m : Int) = if m < i then rowf (p m) n else 0) →
  Ev (fun k => impl_relation.l1 k n (g k) (i : Int) n (i : Int) n (j : Int) n y) R := by
 induction d with
 | zero =>
  intro j y g hg hj hy h1 h2
  obtain rfl : j = n := by omega
  refine Ev.shift ?_
  simp only [impl_relation.l1]
  refine Ev.neg (by omega) ?_
  rw [wrap64_id (x := (i : Int) + 1) (by omega) (by omega), cast1]
  exact hR (fun k => g (k + 1)) (fun a b ha hb => Ev.up (hg a b ha hb)) y hy h1 h2
 | succ d ih =>
  intro j y g hg hj hy h1 h2
  have hg' : ∀ i j : Nat, i < n → j < n → Ev (fun k => g (k + 1) i j) (p i j) := fun a b ha hb => Ev.up (hg a b ha hb)
  refine Ev.shift ?_
  simp only [impl_relation.l1]
  refine Ev.pos (by omega) (Ev.bind (hg' i j hi (by omega)) ?_)
  rw [wrap64_id (x := (j : Int) + 1) (by omega) (by omega), cast1]
  by_cases hp : p i j = true
  ·refine Ev.pos hp (Ev.pos (by omega) (Ev.pos (by omega) (Ev.pos (by omega) ?_)))
   rw [Int.toNat_natCast]
   refine ih (j + 1) _ (fun k => g (k + 1)) hg' (by omega) (by simp; omega) ?_ ?_
   ·rw [rd_lt _ i (by simp; omega), List.getElem_set_self, rowf_succ, if_pos hp, h1]; rfl
   ·intro m hm hmi
    rw [rd_lt _ m (by simp; omega), List.getElem_set_ne (Ne.symm hmi), ← rd_lt y m (by omega)]
    exact h2 m hm hmi
  ·refine Ev.neg hp (ih (j + 1) y (fun k => g (k + 1)) hg' (by omega) hy ?_ h2)
   rw [rowf_succ, if_neg hp]; exact h1
theorem relation_l0 (p : Nat → Nat → Bool) (n : Nat) (hn : n ≤ 1000) (d : Nat) : ∀ (i : Nat) (y : List Int) (g : Nat → Int → Int → Option Bool), (∀ i j : Nat, i < n → j < n → Ev (fun k => g k i j) (p i j)) → i + d = n → y.length = n → (∀ m : Nat, m < n → rd y (m : Int) = if m < i then rowf (p m) n else 0) →
  Ev (fun k => impl_relation.l0 k n (g k) n (i : Int) n y) ((n : Int), rel p n) := by
 induction d with
 | zero =>
  intro i y g hg hi hy h1
  refine Ev.shift ?_
  simp only [impl_relation.l0]
  refine Ev.neg (by omega) (Ev.ret ?_)
  congr 1
  apply List.ext_getElem (by rw [rel_length]; exact hy)
  intro m hm1 hm2
  have := h1 m (by omega)
  rw [if_pos (by omega), rd_lt y m hm1, ← rel_get p n m (by omega), rd_lt _ m hm2] at this
  exact this
 | succ d ih =>
  intro i y g hg hi hy h1
  refine Ev.shift ?_
  simp only [impl_relation.l0]
  refine Ev.pos (by omega) ?_
  refine relation_l1 p n hn i (by omega) _ (fun g' hg' y' hy' h1' h2' => ih (i + 1) y' g' hg' (by omega) hy' (fun m hm => ?_)) n 0 y (fun k => g (k + 1)) (fun a b ha hb => Ev.up (hg a b ha hb)) (by omega) hy ?_ ?_
  ·by_cases e : m = i
   ·subst e; rw [h1', if_pos (by omega)]
   ·rw [h2' m hm e]
    by_cases hlt : m < i
    ·rw [if_pos hlt, if_pos (by omega)]
    ·rw [if_neg hlt, if_neg (by omega)]
  ·rw [h1 i (by omega), if_neg (by omega)]; rfl
  ·intro m hm e; exact h1 m hm
theorem relation_ev (p : Nat → Nat → Bool) (n : Nat) (hn : n ≤ 1000) (g : Nat → Int → Int → Option Bool) (hg : ∀ i j : Nat, i < n → j < n → Ev (fun k => g k i j) (p i j)) : Ev (fun k => impl_relation.f k n (g k)) ((n : Int), rel p n) := by
 unfold impl_relation.f
 refine Ev.pos (by omega) (Ev.pos (by omega) ?_)
 rw [Int.toNat_natCast]
 exact relation_l0 p n hn n 0 _ g hg (by omega) (by simp) (fun m hm => by rw [rd_lt _ m (by simp; omega), List.getElem_replicate, if_neg (by omega)])
def ivLt (l : List S39) (i j : Nat) : Bool := decide ((rd_T39 l (i : Int)).f1 < (rd_T39 l (j : Int)).f0)
theorem ivOrder_l1 (l : List S39) (hl : l.length ≤ 1000) (i : Nat) (hi : i < l.length) (y : List Int) (hy : y.length = i) (R : Int × List Int) (hR : Ev (fun k => spec_ivOrder.l0 k l l (l.length : Int) ((i + 1 : Nat) : Int) (l.length : Int) (y ++ [rowf (ivLt l i) l.length])) R) (d : Nat) :
  ∀ j : Nat, j + d = l.length → Ev (fun k => spec_ivOrder.l1 k l (rowf (ivLt l i) j) l (l.length : Int) (i : Int) l (l.length : Int) (j : Int) (l.length : Int) y (rd_T39 l (i : Int)).f0 (rd_T39 l (i : Int)).f1) R := by
 induction d with
 | zero =>
  intro j hj
  obtain rfl : j = l.length := by omega
  refine Ev.shift ?_
  simp only [spec_ivOrder.l1]
  refine Ev.neg (by omega) (Ev.pos (by omega) ?_)
  rw [wrap64_id (x := (i : Int) + 1) (by omega) (by omega), cast1]
  exact hR
 | succ d ih =>
  intro j hj
  have := ih (j + 1) (by omega)
  rw [rowf_succ] at this
  refine Ev.shift ?_
  simp only [spec_ivOrder.l1]
  refine Ev.pos (by omega) (Ev.pos (by omega) (Ev.pos (by omega) ?_))
  rw [wrap64_id (x := (j : Int) + 1) (by omega) (by omega), cast1]
  by_cases hc : (rd_T39 l (i : Int)).f1 < (rd_T39 l (j : Int)).f0
  ·rw [if_pos (by simpa [ivLt] using hc)] at this
   exact Ev.pos hc this
  ·rw [if_neg (by simpa [ivLt] using hc)] at this
   exact Ev.neg hc this
theorem ivOrder_l0 (l : List S39) (hl : l.length ≤ 1000) (d : Nat) : ∀ i : Nat, i + d = l.length → Ev (fun k => spec_ivOrder.l0 k l l (l.length : Int) (i : Int) (l.length : Int) ((rel (ivLt l) l.length).take i)) ((l.length : Int), rel (ivLt l) l.length) := by
 induction d with
 | zero =>
  intro i hi
  refine Ev.shift ?_
  simp only [spec_ivOrder.l0]
  exact Ev.neg (by omega) (Ev.ret (by rw [List.take_of_length_le (by rw [rel_length]; omega)]))
 | succ d ih =>
  intro i hi
  have := ih (i + 1) (by omega)
  rw [List.take_succ_eq_append_getElem (by rw [rel_length]; omega), ← rd_lt _ i (by rw [rel_length]; omega), rel_get _ _ i (by omega)] at this
  refine Ev.shift ?_
  simp only [spec_ivOrder.l0]
  refine Ev.pos (by omega) (Ev.pos (by omega) (Ev.pos (by omega) ?_))
  exact ivOrder_l1 l hl i (by omega) _ (by rw [List.length_take, rel_length]; omega) _ this l.length 0 (by omega)
theorem ivOrder_ev (l : List S39) (hl : l.length ≤ 1000) : Ev (fun k => spec_ivOrder.f k l) ((l.length : Int), rel (ivLt l) l.length) := by
 unfold spec_ivOrder.f
 exact ivOrder_l0 l hl l.length 0 (by omega)
theorem intervals_l1 {c : List Int} (hc : bytesP c) (d : Nat) : ∀ (l : List S39) (a s : Int), l.length + d = 11 → 0 ≤ a → a + 2 * d ≤ 100000 → ∃ m a' s', Ev (fun k => spec_l1Cur_intervals.l1 k l c a s) (m, a', s') ∧ m.length ≤ 11 ∧ a ≤ a' ∧ a' ≤ a + (2 * d + 2) := by
 induction d with
 | zero =>
  intro l a s hl h0 h1
  obtain ⟨x, a1, s1, e1, hx, h2, h3⟩ := pick_d hc s 2 h0 (by omega) (by omega)
  refine ⟨l, a1, s1, Ev.shift ?_, by omega, by omega, by omega⟩
  simp only [spec_l1Cur_intervals.l1]
  refine Ev.bindc e1 ?_
  dsimp only
  rw [wrap64_id (x := 10 + x) (by omega) (by omega)]
  exact Ev.neg (by omega) (Ev.ret rfl)
 | succ d ih =>
  intro l a s hl h0 h1
  obtain ⟨x, a1, s1, e1, hx, h2, h3⟩ := pick_d hc s 2 h0 (by omega) (by omega)
  by_cases hb : (l.length : Int) < 10 + x
  ·obtain ⟨m, a2, s2, e2, hm, h4, h5⟩ := ih (l ++ [⟨wrap64 ((l.length : Int) / 2), 3⟩]) a1 s1 (by simp; omega) (by omega) (by omega)
   refine ⟨m, a2, s2, Ev.shift ?_, hm, by omega, by omega⟩
   simp only [spec_l1Cur_intervals.l1]
   refine Ev.bindc e1 ?_
   dsimp only
   rw [wrap64_id (x := 10 + x) (by omega) (by omega)]
   exact Ev.pos hb (Ev.pos (by omega) e2)
  ·refine ⟨l, a1, s1, Ev.shift ?_, by omega, by omega, by omega⟩
   simp only [spec_l1Cur_intervals.l1]
   refine Ev.bindc e1 ?_
   dsimp only
   rw [wrap64_id (x := 10 + x) (by omega) (by omega)]
   exact Ev.neg hb (Ev.ret rfl)
theorem intervals_l0 {c : List Int} (hc : bytesP c) (d : Nat) : ∀ (l : List S39) (a s : Int), l.length + d ≤ 10 → 0 ≤ a → a + 4 * d ≤ 10000 → ∃ m a' s', Ev (fun k => spec_l1Cur_intervals.l0 k l (d : Int) c a s) (m, a', s') ∧ m.length ≤ 11 ∧ a ≤ a' ∧ a' ≤ a + (4 * d + 40) := by
 induction d with
 | zero =>
  intro l a s hl h0 h1
  obtain ⟨x, a1, s1, e1, hx, h2, h3⟩ := pick_d hc s 14 h0 (by omega) (by omega)
  by_cases hx0 : x = 0
  ·obtain ⟨y, a2, s2, e2, _, h4, h5⟩ := among_d hc (a := a1) s1 [(-1001), (-1000), 1, 1000] (by omega) (by omega) (by simp)
   obtain ⟨z, a3, s3, e3, _, h6, h7⟩ := among_d hc (a := a2) s2 [0, 1000, 1001] (by omega) (by omega) (by simp)
   refine ⟨l ++ [⟨y, z⟩], a3, s3, Ev.shift ?_, by simp; omega, by omega, by omega⟩
   simp only [spec_l1Cur_intervals.l0]
   exact Ev.neg (by omega) (Ev.bindc e1 (Ev.pos hx0 (Ev.bindc e2 (Ev.bindc e3 (Ev.pos (by omega) (Ev.ret rfl))))))
  ·by_cases hx1 : x = 1
   ·obtain ⟨m, a2, s2, e2, hm, h4, h5⟩ := intervals_l1 hc 11 [] a1 s1 (by simp) (by omega) (by omega)
    refine ⟨m, a2, s2, Ev.shift ?_, hm, by omega, by omega⟩
    simp only [spec_l1Cur_intervals.l0]
    exact Ev.neg (by omega) (Ev.bindc e1 (Ev.neg hx0 (Ev.pos hx1 e2)))
   ·refine ⟨l, a1, s1, Ev.shift ?_, by omega, by omega, by omega⟩
    simp only [spec_l1Cur_intervals.l0]
    exact Ev.neg (by omega) (Ev.bindc e1 (Ev.neg hx0 (Ev.neg hx1 (Ev.ret rfl))))
 | succ d ih =>
  intro l a s hl h0 h1
  obtain ⟨x, a1, s1, e1, hx, h2, h3⟩ := pick_d hc s 8 h0 (by omega) (by omega)
  obtain ⟨y, a2, s2, e2, hy, h4, h5⟩ := pick_d hc (a := a1) s1 4 (by omega) (by omega) (by omega)
  obtain ⟨m, a3, s3, e3, hm, h6, h7⟩ := ih (l ++ [⟨wrap64 (x - 1), wrap64 (wrap64 (x - 1) + y)⟩]) a2 s2 (by simp; omega) (by omega) (by omega)
  refine ⟨m, a3, s3, Ev.shift ?_, hm, by omega, by omega⟩
  simp only [spec_l1Cur_intervals.l0]
  refine Ev.pos (by omega) (Ev.bindc e1 (Ev.bindc e2 (Ev.pos (by omega) ?_)))
  rw [wrap64_id (x := ((d + 1 : Nat) : Int) - 1) (by omega) (by omega), show ((d + 1 : Nat) : Int) - 1 = (d : Int) by omega]
  exact e3
theorem intervals_d {c : List Int} (hc : bytesP c) {a : Int} (s m : Int) (hm : 0 ≤ m ∧ m ≤ 9) (h0 : 0 ≤ a) (h1 : a ≤ 1000) : ∃ l a' s', Ev (fun k => spec_l1Cur_intervals.f k c a s m) (l, a', s') ∧ l.length ≤ 11 ∧ a ≤ a' ∧ a' ≤ a + 100 := by
 unfold spec_l1Cur_intervals.f
 rw [wrap64_id (x := m + 1) (by omega) (by omega)]
 obtain ⟨x, a1, s1, e1, hx, h2, h3⟩ := pick_d hc s (m + 1) h0 (by omega) (by omega)
 obtain ⟨d, rfl⟩ : ∃ d : Nat, x = d := ⟨x.toNat, by omega⟩
 obtain ⟨l, a2, s2, e2, hl, h4, h5⟩ := intervals_l0 hc d [] a1 s1 (by simp; omega) (by omega) (by omega)
 exact ⟨l, a2, s2, Ev.bindc e1 e2, hl, by omega, by omega⟩
theorem ended_d {c : List Int} (hc : bytesP c) {a : Int} (s m : Int) (hm : 0 ≤ m ∧ m ≤ 9) (h0 : 0 ≤ a) (h1 : a ≤ 1000) : ∃ n L a' s', Ev (fun k => spec_l1Cur_ended.f k c a s m) (n, L, a', s') ∧ L.length ≤ 10 := by
 unfold spec_l1Cur_ended.f
 obtain ⟨l, a1, s1, e1, hl, h2, h3⟩ := intervals_d hc s m hm h0 h1
 obtain ⟨b, b1, b2⟩ := ivGood_ev l (by omega)
 by_cases hb : b = true
 ·have h10 : l.length ≤ 10 := (b2.1 hb).2
  obtain ⟨y, a2, s2, e2, _, h4, h5⟩ := one_d hc (a := a1) s1 4 (by omega) (by omega) (by omega)
  by_cases hy : y = true
  ·obtain ⟨n, L, a3, s3, e3, hn, h6, h7⟩ := anyOrder_d hc (a := a2) s2 m (by omega) (by omega) ⟨by omega, by omega⟩
   refine ⟨n, L, a3, s3, Ev.bind e1 (Ev.bind b1 (Ev.pos hb (Ev.bindc e2 (Ev.shift ?_)))), hn.2.1⟩
   simp only [spec_l1Cur_ended.j0]
   exact Ev.neg (by simp [hy]) (Ev.bind e3 (Ev.ret rfl))
  ·refine ⟨(l.length : Int), rel (ivLt l) l.length, a2, s2, Ev.bind e1 (Ev.bind b1 (Ev.pos hb (Ev.bindc e2 (Ev.shift ?_)))), (show (rel (ivLt l) l.length).length ≤ 10 by rw [rel_length]; exact h10)⟩
   simp only [spec_l1Cur_ended.j0]
   exact Ev.pos (by simp [hy]) (Ev.bind (ivOrder_ev l (by omega)) (Ev.ret rfl))
 ·obtain ⟨n, L, a3, s3, e3, hn, h6, h7⟩ := anyOrder_d hc (a := a1) s1 m (by omega) (by omega) ⟨by omega, by omega⟩
  refine ⟨n, L, a3, s3, Ev.bind e1 (Ev.bind b1 (Ev.neg hb (Ev.shift ?_))), hn.2.1⟩
  simp only [spec_l1Cur_ended.j0]
  exact Ev.neg (by simp) (Ev.bind e3 (Ev.ret rfl))
end Go.Proofs.YtdmheeenoklijaaDoor.Pure
namespace Go.Proofs.YtdmheeenoklijaaDoor.Q
open Go.RowKit Go.Proofs.YtdmheeenoklijaaDoorW.PrintWords Go.Proofs.YtdmheeenoklijaaDoorW.PrintLast Go.Proofs.YtdmheeenoklijaaDoorW.PrintMore
attribute [local go_sem] max2_int min2_int max_two min_two max_three min_three max_four min_four neB_f
set_option linter.unusedVariables false
set_option maxHeartbeats 8000000
set_option maxRecDepth 100000
set_option linter.unusedSimpArgs false
def slices_Equal_int_int.l0 : Nat → List Int → List Int → Int → Int → Option (Bool)
 | 0, _, _, _, _ => none
 | k + 1, x0, x1, x12, x13 => if x13 < x12 then (if 0 ≤ x13 then (if x13 < (x0.length : Int) then (if x13 < (x1.length : Int) then (if (rd x0 x13) = (rd x1 x13) then (slices_Equal_int_int.l0 k x0 x1 x12 (wrap64 (x13 + 1))) else (some false)) else (none)) else (none)) else (none)) else (some true)
def slices_Equal_int_int.f (k : Nat) (l0 : List Int) (l1 : List Int) : Option (Bool) := if (l0.length : Int) = (l1.length : Int) then (slices_Equal_int_int.l0 k l0 l1 (l0.length : Int) 0) else (some false)
theorem slices_Equal_int_int.mono_l : ∀ k, (∀ y0 y1 y2 y3, LeO (slices_Equal_int_int.l0 k y0 y1 y2 y3) (slices_Equal_int_int.l0 (k + 1) y0 y1 y2 y3))
 | 0 => fun _ _ _ _ r h => by simp [slices_Equal_int_int.l0] at h
 | k + 1 => by
  have ih0 := slices_Equal_int_int.mono_l k
  ·intro y0 y1 y2 y3
   unfold slices_Equal_int_int.l0
   repeat' (with_reducible first|apply ih0|apply LeO.refl|apply LeO.none|apply LeO.ite|apply LeO.bind|intro)
theorem slices_Equal_int_int.mono : ∀ a0 a1 k, LeO (slices_Equal_int_int.f k a0 a1) (slices_Equal_int_int.f (k + 1) a0 a1) := by
 intro a0 a1 k
 have ih0 := slices_Equal_int_int.mono_l k
 unfold slices_Equal_int_int.f
 repeat' (with_reducible first|apply ih0|apply LeO.refl|apply LeO.none|apply LeO.ite|apply LeO.bind|intro)
theorem slices_Equal_int_int.calls (k : Nat) (A0 : Option Addr) (c0 : Nat) (l0 : List Int) (A1 : Option Addr) (c1 : Nat) (l1 : List Int) (r : Bool) (w : World) (hr0 : Kd.C (Kd.int .i64) w A0 l0.length l0) (hc0 : l0.length ≤ c0) (hr1 : Kd.C (Kd.int .i64) w A1 l1.length l1) (hc1 : l1.length ≤ c1) (h : slices_Equal_int_int.f k l0 l1 = some r) :
  Calls Tryd.prog 68 #[.slice A0 l0.length c0, .slice A1 l1.length c1] w fun e w' => e = .returned (.bool r) ∧ Drawn0 w w' := by
 have HR0 := mkA hr0
 have HC0 := mkA hc0
 clear hr0 hc0
 have HR1 := mkA hr1
 have HC1 := mkA hc1
 clear hr1 hc1
 have H := h
 clear h
 unfold slices_Equal_int_int.f at H
 rcases iteP H with ⟨c3, H⟩ | ⟨c3, H⟩
 ·have c3b0 := beq_iff_eq.mpr c3
  have c3b1 := bne_eq_false_iff_eq.mpr c3
  have c3b2 : (l0.length == l1.length) = true := by first | simpa using c3 | (simp at c3 ⊢; omega)
  clear c3
  have H' := mkA H
  clear H
  go_enter Tryd.func68, Tryd.ntmps68
  go_wp2
  repeat (go_quiet (fail); try go_wp2)
  go_loopg [13] k (fun kq v13 w' => ∃ (x13_1 : Int), v13 = .int .i64 x13_1 ∧ Fc (slices_Equal_int_int.l0 kq l0 l1 (l0.length : Int) x13_1 = some r) ∧ Fc (kq ≤ k) ∧ Drawn0 w w')
  case atStart => exact ⟨(0), eqS, H', ⟨Nat.le_refl _⟩, by repeat (first | exact Drawn0.refl _ | apply Drawn0.step)⟩
  case round =>
   clear H'
   try clear c1
   try clear c3
   try clear c3b0
   try clear c3b1
   try clear c3b2
   obtain ⟨x13_1, rfl, HA, HK1, ⟨m1, rfl⟩⟩ := hrel
   cases gk with
   | zero => exact absurd HA.out (by simp [slices_Equal_int_int.l0])
   | succ k1 =>
    have H := HA.out
    clear HA
    simp only [slices_Equal_int_int.l0] at H
    rcases iteE H with ⟨c4b0, H⟩ | ⟨c4b0, H⟩
    ·obtain ⟨c5b0, H⟩ := itND H
     obtain ⟨c6b0, H⟩ := itND H
     obtain ⟨c7b0, H⟩ := itND H
     rcases iteP H with ⟨c8, H⟩ | ⟨c8, H⟩
     ·have c8b0 := beq_iff_eq.mpr c8
      have c8b1 := bne_eq_false_iff_eq.mpr c8
      clear c8
      have H' := mkA H
      clear H
      obtain ⟨p691, q691, ad691, e691, hx691_0⟩ := atI HR0.out x13_1
      cases e691
      obtain ⟨p692, q692, ad692, e692, hx692_0⟩ := atI HR1.out x13_1
      cases e692
      go_wp2
      repeat (go_quiet (fail); try go_wp2)
      go_roundg k1
      case measure => have := HK1.out; omega
      case rel => exact ⟨(wrap64 (x13_1 + 1)), eqS, H', ⟨by have := HK1.out; omega⟩, by repeat (first | exact Drawn0.refl _ | apply Drawn0.step)⟩
     ·have c8b0 := beq_eq_false_iff_ne.mpr c8
      have c8b1 := bne_iff_ne.mpr c8
      obtain rfl := Option.some.inj H
      obtain ⟨p691, q691, ad691, e691, hx691_0⟩ := atI HR0.out x13_1
      cases e691
      obtain ⟨p692, q692, ad692, e692, hx692_0⟩ := atI HR1.out x13_1
      cases e692
      go_wp2
      repeat (go_quiet (fail); try go_wp2)
      go_ret
      exact ⟨eqS, drE⟩
    ·obtain rfl := Option.some.inj H
     go_wp2
     repeat (go_quiet (fail); try go_wp2)
     go_ret
     exact ⟨eqS, drE⟩
 ·have c3b0 := beq_eq_false_iff_ne.mpr c3
  have c3b1 := bne_iff_ne.mpr c3
  have c3b2 : (l0.length == l1.length) = false := by first | simpa using c3 | (simp at c3 ⊢; omega)
  obtain rfl := Option.some.inj H
  go_enter Tryd.func68, Tryd.ntmps68
  go_wp2
  repeat (go_quiet (fail); try go_wp2)
  go_ret
  exact ⟨eqS, drE⟩
def impl_Order_same.f (k : Nat) (a0_0 : Int) (l0_1 : List Int) (a1_0 : Int) (l1_1 : List Int) : Option (Bool) := if a0_0 = a1_0 then ((slices_Equal_int_int.f k l0_1 l1_1).bind fun t695 => (some t695)) else (some false)
theorem impl_Order_same.mono : ∀ a0 a1 a2 a3 k, LeO (impl_Order_same.f k a0 a1 a2 a3) (impl_Order_same.f (k + 1) a0 a1 a2 a3) := by
 intro a0 a1 a2 a3 k
 unfold impl_Order_same.f
 repeat' (with_reducible first|apply slices_Equal_int_int.mono|apply LeO.refl|apply LeO.none|apply LeO.ite|apply LeO.bind|intro)
theorem impl_Order_same.calls (k : Nat) (a0_0 : Int) (A0_1 : Option Addr) (c0_1 : Nat) (l0_1 : List Int) (a1_0 : Int) (A1_1 : Option Addr) (c1_1 : Nat) (l1_1 : List Int) (r : Bool) (w : World) (hr0_1 : Kd.C (Kd.int .i64) w A0_1 l0_1.length l0_1) (hc0_1 : l0_1.length ≤ c0_1) (hr1_1 : Kd.C (Kd.int .i64) w A1_1 l1_1.length l1_1) (hc1_1 : l1_1.length ≤ c1_1) (h : impl_Order_same.f k a0_0 l0_1 a1_0 l1_1 = some r) :
  Calls Tryd.prog 41 #[.agg #[.int .i64 a0_0, .slice A0_1 l0_1.length c0_1], .agg #[.int .i64 a1_0, .slice A1_1 l1_1.length c1_1]] w fun e w' => e = .returned (.bool r) ∧ Below w.heap.size w w' := by
 have hu26 := Tryd.underlying26
 have HR0_1 := mkA hr0_1
 have HC0_1 := mkA hc0_1
 clear hr0_1 hc0_1
 have HR1_1 := mkA hr1_1
 have HC1_1 := mkA hc1_1
 clear hr1_1 hc1_1
 have HB := mkA (Below.refl w.heap.size w)
 have H := h
 clear h
 unfold impl_Order_same.f at H
 rcases iteP H with ⟨c3, H⟩ | ⟨c3, H⟩
 ·have c3b0 := beq_iff_eq.mpr c3
  have c3b1 := bne_eq_false_iff_eq.mpr c3
  clear c3
  obtain ⟨t695, A4, H⟩ := obE H
  obtain rfl := Option.some.inj H
  go_enter Tryd.func41, Tryd.ntmps41
  go_wp2_with (first | ((with_reducible refine gate_dst (N := 2) rfl ?_); refine boxG HB #[.int .i64 a0_0, .slice A0_1 l0_1.length c0_1] 26 ?_; intro gb693 hg w5 BK693 GE693 hb; replace HB := bst HB hb; clear hb hg) | ((with_reducible refine gate_dst (N := 3) rfl ?_); refine boxG HB #[.int .i64 a1_0, .slice A1_1 l1_1.length c1_1] 26 ?_; intro gb694 hg w6 BK694 GE694 hb; have NB693_694 := neL7 BK693 hg; have NB694_693 := neR7 BK693 hg; replace BK693 := blkB BK693 hb; replace HB := bst HB hb; clear hb hg; obtain ⟨_, _, _, _⟩ := blk2 BK693; obtain ⟨_, _, _, _⟩ := blk2 BK694) | (go_at_call 68; (with_reducible refine (slices_Equal_int_int.calls k _ _ l0_1 _ _ l1_1 t695 _ ?_ ?_ ?_ ?_ A4.out).mono ?_); exact C_g HR0_1 HB; exact HC0_1.out; exact C_g HR1_1 HB; exact HC1_1.out; rintro e w' ⟨rfl, ⟨nd, rfl⟩⟩))
  go_ret
  exact ⟨eqE, bel_g HB.out⟩
 ·have c3b0 := beq_eq_false_iff_ne.mpr c3
  have c3b1 := bne_iff_ne.mpr c3
  obtain rfl := Option.some.inj H
  go_enter Tryd.func41, Tryd.ntmps41
  go_wp2_with (first | ((with_reducible refine gate_dst (N := 2) rfl ?_); refine boxG HB #[.int .i64 a0_0, .slice A0_1 l0_1.length c0_1] 26 ?_; intro gb693 hg w10 BK693 GE693 hb; replace HB := bst HB hb; clear hb hg) | ((with_reducible refine gate_dst (N := 3) rfl ?_); refine boxG HB #[.int .i64 a1_0, .slice A1_1 l1_1.length c1_1] 26 ?_; intro gb694 hg w11 BK694 GE694 hb; have NB693_694 := neL7 BK693 hg; have NB694_693 := neR7 BK693 hg; replace BK693 := blkB BK693 hb; replace HB := bst HB hb; clear hb hg; obtain ⟨_, _, _, _⟩ := blk2 BK693; obtain ⟨_, _, _, _⟩ := blk2 BK694))
  go_ret
  exact ⟨eqE, bel_g HB.out⟩
end Go.Proofs.YtdmheeenoklijaaDoor.Q
