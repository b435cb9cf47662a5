import Derived.Test.YtdmheeenoklijaaDoorBFnEndsAreLeast25
namespace Go.Proofs.YtdmheeenoklijaaDoor.Pure
open Go.RowKit Go.Proofs.YtdmheeenoklijaaDoor.Q Go.Proofs.YtdmheeenoklijaaDoorW.PrintWords Go.Proofs.YtdmheeenoklijaaDoorW.PrintLast
set_option linter.unusedVariables false
set_option linter.unusedSimpArgs false
def ivsP (l : List S39) : Prop := (∀ i : Nat, i < l.length → -1000 ≤ (rd_T39 l (i : Int)).f0 ∧ (rd_T39 l (i : Int)).f0 ≤ (rd_T39 l (i : Int)).f1 ∧ (rd_T39 l (i : Int)).f1 ≤ 1000) ∧ l.length ≤ 10
theorem areIv_l (l : List S39) (hl : l.length ≤ 1000) (d : Nat) : ∀ i : Nat, i + d = l.length → ∃ b, Ev (fun k => impl_AreIntervals.l0 k l l (l.length : Int) (i : Int)) b ∧ (b = true ↔ (∀ m : Nat, i ≤ m → m < l.length → -1000 ≤ (rd_T39 l (m : Int)).f0 ∧ (rd_T39 l (m : Int)).f0 ≤ (rd_T39 l (m : Int)).f1 ∧ (rd_T39 l (m : Int)).f1 ≤ 1000) ∧ l.length ≤ 10) := by
 induction d with
 | zero =>
  intro i hi
  refine ⟨decide ((l.length : Int) ≤ 10), Ev.shift ?_, ?_⟩
  ·simp only [impl_AreIntervals.l0]; exact Ev.neg (by omega) (Ev.ret rfl)
  ·rw [decide_eq_true_iff]
   exact ⟨fun g => ⟨fun m h1 h2 => by omega, by omega⟩, fun g => by omega⟩
 | succ d ih =>
  intro i hi
  obtain ⟨b, b1, b2⟩ := ih (i + 1) (by omega)
  by_cases hc : -1000 ≤ (rd_T39 l (i : Int)).f0 ∧ (rd_T39 l (i : Int)).f0 ≤ 1000 ∧ (rd_T39 l (i : Int)).f0 ≤ (rd_T39 l (i : Int)).f1 ∧ (rd_T39 l (i : Int)).f1 ≤ 1000
  ·refine ⟨b, Ev.shift ?_, b2.trans ⟨fun g => ⟨fun m h1 h2 => ?_, g.2⟩, fun g => ⟨fun m h1 h2 => g.1 m (by omega) h2, g.2⟩⟩⟩
   ·simp only [impl_AreIntervals.l0]
    refine Ev.pos (by omega) (Ev.pos (by omega) (Ev.pos (by omega) (Ev.bindc (impl_in _ _ _) (Ev.pos (by simp; omega) (Ev.bindc (impl_in _ _ _) (Ev.pos (by simp; omega) ?_))))))
    rw [wrap64_id (by omega) (by omega), cast1]
    exact b1
   ·by_cases e : m = i
    ·subst e; omega
    ·exact g.1 m (by omega) h2
  ·refine ⟨false, Ev.shift ?_, ⟨fun g => (by cases g), fun g => (hc (by have := g.1 i (Nat.le_refl _) (by omega); omega)).elim⟩⟩
   simp only [impl_AreIntervals.l0]
   refine Ev.pos (by omega) (Ev.pos (by omega) (Ev.pos (by omega) (Ev.bindc (impl_in _ _ _) ?_)))
   by_cases h1 : -1000 ≤ (rd_T39 l (i : Int)).f0 ∧ (rd_T39 l (i : Int)).f0 ≤ 1000
   ·exact Ev.pos (by simp; omega) (Ev.bindc (impl_in _ _ _) (Ev.neg (by simp; omega) (Ev.ret rfl)))
   ·exact Ev.neg (by simp; omega) (Ev.ret rfl)
theorem areIv_ev (l : List S39) (hl : l.length ≤ 1000) : ∃ b, Ev (fun k => impl_AreIntervals.f k l) b ∧ (b = true ↔ ivsP l) := by
 unfold impl_AreIntervals.f ivsP
 obtain ⟨b, b1, b2⟩ := areIv_l l hl l.length 0 (by omega)
 exact ⟨b, by simpa using b1, b2.trans ⟨fun g => ⟨fun i hi => g.1 i (Nat.zero_le _) hi, g.2⟩, fun g => ⟨fun m _ hm => g.1 m hm, g.2⟩⟩⟩
theorem ivGood_l (l : List S39) (hl : l.length ≤ 1000) (d : Nat) : ∀ i : Nat, i + d = l.length → ∃ b, Ev (fun k => spec_ivGood.l0 k l l (l.length : Int) (i : Int)) b ∧ (b = true ↔ (∀ m : Nat, i ≤ m → m < l.length → -1000 ≤ (rd_T39 l (m : Int)).f0 ∧ (rd_T39 l (m : Int)).f0 ≤ (rd_T39 l (m : Int)).f1 ∧ (rd_T39 l (m : Int)).f1 ≤ 1000) ∧ l.length ≤ 10) := by
 induction d with
 | zero =>
  intro i hi
  refine ⟨decide ((l.length : Int) ≤ 10), Ev.shift ?_, ?_⟩
  ·simp only [spec_ivGood.l0]; exact Ev.neg (by omega) (Ev.ret rfl)
  ·rw [decide_eq_true_iff]
   exact ⟨fun g => ⟨fun m h1 h2 => by omega, by omega⟩, fun g => by omega⟩
 | succ d ih =>
  intro i hi
  obtain ⟨b, b1, b2⟩ := ih (i + 1) (by omega)
  by_cases hc : -1000 ≤ (rd_T39 l (i : Int)).f0 ∧ (rd_T39 l (i : Int)).f0 ≤ (rd_T39 l (i : Int)).f1 ∧ (rd_T39 l (i : Int)).f1 ≤ 1000
  ·refine ⟨b, Ev.shift ?_, b2.trans ⟨fun g => ⟨fun m h1 h2 => ?_, g.2⟩, fun g => ⟨fun m h1 h2 => g.1 m (by omega) h2, g.2⟩⟩⟩
   ·simp only [spec_ivGood.l0]
    refine Ev.pos (by omega) (Ev.pos (by omega) (Ev.pos (by omega) (Ev.bindc (spec_in _ _ _) (Ev.pos (by simp; omega) (Ev.neg (by omega) ?_)))))
    rw [wrap64_id (by omega) (by omega), cast1]
    exact b1
   ·by_cases e : m = i
    ·subst e; omega
    ·exact g.1 m (by omega) h2
  ·refine ⟨false, Ev.shift ?_, ⟨fun g => (by cases g), fun g => (hc (by have := g.1 i (Nat.le_refl _) (by omega); omega)).elim⟩⟩
   simp only [spec_ivGood.l0]
   refine Ev.pos (by omega) (Ev.pos (by omega) (Ev.pos (by omega) (Ev.bindc (spec_in _ _ _) ?_)))
   by_cases h1 : -1000 ≤ (rd_T39 l (i : Int)).f0 ∧ (rd_T39 l (i : Int)).f0 ≤ (rd_T39 l (i : Int)).f1
   ·exact Ev.pos (by simp; omega) (Ev.pos (by omega) (Ev.ret rfl))
   ·exact Ev.neg (by simp; omega) (Ev.ret rfl)
theorem ivGood_ev (l : List S39) (hl : l.length ≤ 1000) : ∃ b, Ev (fun k => spec_ivGood.f k l) b ∧ (b = true ↔ ivsP l) := by
 unfold spec_ivGood.f ivsP
 obtain ⟨b, b1, b2⟩ := ivGood_l l hl l.length 0 (by omega)
 exact ⟨b, by simpa using b1, b2.trans ⟨fun g => ⟨fun i hi => g.1 i (Nat.zero_le _) hi, g.2⟩, fun g => ⟨fun m _ hm => g.1 m hm, g.2⟩⟩⟩
theorem Ev.up {α : Type} {g : Nat → Option α} {r : α} (h : Ev g r) : Ev (fun k => g (k + 1)) r := by
 obtain ⟨K, hK⟩ := h; exact ⟨K, fun k hk => hK (k + 1) (by omega)⟩
def orb (x : Int) (j : Nat) : Int := Go.bits .or .i64 x (shl .i64 1 (j : Int))
def rowf (p : Nat → Bool) (d : Nat) : Int := (List.range d).foldl (fun x j => if p j then orb x j else x) 0
theorem rowf_succ (p : Nat → Bool) (d : Nat) : rowf p (d + 1) = if p d then orb (rowf p d) d else rowf p d := by
 simp [rowf, List.range_succ, List.foldl_append]
def rel (p : Nat → Nat → Bool) (n : Nat) : List Int := (List.range n).map fun i => rowf (p i) n
theorem rel_length (p : Nat → Nat → Bool) (n : Nat) : (rel p n).length = n := by simp [rel]
theorem rel_get (p : Nat → Nat → Bool) (n i : Nat) (h : i < n) : rd (rel p n) (i : Int) = rowf (p i) n := by
 rw [rd_lt _ i (by rw [rel_length]; exact h)]; simp [rel]
def relUpto (p : Nat → Nat → Bool) (n i : Nat) : List Int := (rel p n).take i ++ List.replicate (n - i) 0
theorem relation_l1 (p : Nat → Nat → Bool) (n : Nat) (hn : n ≤ 1000) (i : Nat) (hi : i < n) (R : Int × List Int) (hR : ∀ g : Nat → Int → Int → Option Bool, (∀ i j : Nat, i < n → j < n → Ev (fun k => g k i j) (p i j)) → ∀ y : List Int, y.length = n → rd y (i : Int) = rowf (p i) n → (∀ m : Nat, m < n → m ≠ i → rd y (m : Int) = if m < i then rowf (p m) n else 0) → Ev (fun k => impl_relation.l0 k n (g k) n ((i + 1 : Nat) : Int) n y) R) (d : Nat) :
  ∀ (j : Nat) (y : List Int) (g : Nat → Int → Int → Option Bool), (∀ i j : Nat, i < n → j < n → Ev (fun k => g k i j) (p i j)) → j + d = n → y.length = n → rd y (i : Int) = rowf (p i) j → (∀ m : Nat, m < n → m ≠ i → rd y (m : Int) = if m < i then rowf (p m) n else 0) →
  Ev (fun k => impl_relation.l1 k n (g k) (i : Int) n (i : Int) n (j : Int) n y) R := by
 induction d with
 | zero =>
  intro j y g hg hj hy h1 h2
  obtain rfl : j = n := by omega
  refine Ev.shift ?_
  simp only [impl_relation.l1]
  refine Ev.neg (by omega) ?_
  rw [wrap64_id (x := (i : Int) + 1) (by omega) (by omega), cast1]
  exact hR (fun k => g (k + 1)) (fun a b ha hb => Ev.up (hg a b ha hb)) y hy h1 h2
 | succ d ih =>
  intro j y g hg hj hy h1 h2
  have hg' : ∀ i j : Nat, i < n → j < n → Ev (fun k => g (k + 1) i j) (p i j) := fun a b ha hb => Ev.up (hg a b ha hb)
  refine Ev.shift ?_
  simp only [impl_relation.l1]
  refine Ev.pos (by omega) (Ev.bind (hg' i j hi (by omega)) ?_)
  rw [wrap64_id (x := (j : Int) + 1) (by omega) (by omega), cast1]
  by_cases hp : p i j = true
  ·refine Ev.pos hp (Ev.pos (by omega) (Ev.pos (by omega) (Ev.pos (by omega) ?_)))
   rw [Int.toNat_natCast]
   refine ih (j + 1) _ (fun k => g (k + 1)) hg' (by omega) (by simp; omega) ?_ ?_
   ·rw [rd_lt _ i (by simp; omega), List.getElem_set_self, rowf_succ, if_pos hp, h1]; rfl
   ·intro m hm hmi
    rw [rd_lt _ m (by simp; omega), List.getElem_set_ne (Ne.symm hmi), ← rd_lt y m (by omega)]
    exact h2 m hm hmi
  ·refine Ev.neg hp (ih (j + 1) y (fun k => g (k + 1)) hg' (by omega) hy ?_ h2)
   rw [rowf_succ, if_neg hp]; exact h1
theorem relation_l0 (p : Nat → Nat → Bool) (n : Nat) (hn : n ≤ 1000) (d : Nat) : ∀ (i : Nat) (y : List Int) (g : Nat → Int → Int → Option Bool), (∀ i j : Nat, i < n → j < n → Ev (fun k => g k i j) (p i j)) → i + d = n → y.length = n → (∀ m : Nat, m < n → rd y (m : Int) = if m < i then rowf (p m) n else 0) →
  Ev (fun k => impl_relation.l0 k n (g k) n (i : Int) n y) ((n : Int), rel p n) := by
 induction d with
 | zero =>
  intro i y g hg hi hy h1
  refine Ev.shift ?_
  simp only [impl_relation.l0]
  refine Ev.neg (by omega) (Ev.ret ?_)
  congr 1
  apply List.ext_getElem (by rw [rel_length]; exact hy)
  intro m hm1 hm2
  have := h1 m (by omega)
  rw [if_pos (by omega), rd_lt y m hm1, ← rel_get p n m (by omega), rd_lt _ m hm2] at this
  exact this
 | succ d ih =>
  intro i y g hg hi hy h1
  refine Ev.shift ?_
  simp only [impl_relation.l0]
  refine Ev.pos (by omega) ?_
  refine relation_l1 p n hn i (by omega) _ (fun g' hg' y' hy' h1' h2' => ih (i + 1) y' g' hg' (by omega) hy' (fun m hm => ?_)) n 0 y (fun k => g (k + 1)) (fun a b ha hb => Ev.up (hg a b ha hb)) (by omega) hy ?_ ?_
  ·by_cases e : m = i
   ·subst e; rw [h1', if_pos (by omega)]
   ·rw [h2' m hm e]
    by_cases hlt : m < i
    ·rw [if_pos hlt, if_pos (by omega)]
    ·rw [if_neg hlt, if_neg (by omega)]
  ·rw [h1 i (by omega), if_neg (by omega)]; rfl
  ·intro m hm e; exact h1 m hm
theorem relation_ev (p : Nat → Nat → Bool) (n : Nat) (hn : n ≤ 1000) (g : Nat → Int → Int → Option Bool) (hg : ∀ i j : Nat, i < n → j < n → Ev (fun k => g k i j) (p i j)) : Ev (fun k => impl_relation.f k n (g k)) ((n : Int), rel p n) := by
 unfold impl_relation.f
 refine Ev.pos (by omega) (Ev.pos (by omega) ?_)
 rw [Int.toNat_natCast]
 exact relation_l0 p n hn n 0 _ g hg (by omega) (by simp) (fun m hm => by rw [rd_lt _ m (by simp; omega), List.getElem_replicate, if_neg (by omega)])
def ivLt (l : List S39) (i j : Nat) : Bool := decide ((rd_T39 l (i : Int)).f1 < (rd_T39 l (j : Int)).f0)
theorem orderOf_ev (l : List S39) (hl : l.length ≤ 1000) : Ev (fun k => impl_orderOf.f k l) ((l.length : Int), rel (ivLt l) l.length) := by
 unfold impl_orderOf.f
 refine Ev.bind (relation_ev (ivLt l) l.length hl (fun _ u0_ u1_ => impl_orderOf_1.f u0_ u1_ l) (fun i j hi hj => ?_)) (Ev.ret rfl)
 refine Ev.const ?_
 unfold impl_orderOf_1.f
 rw [if_pos (by omega), if_pos (by omega), if_pos (by omega), if_pos (by omega)]
 rfl
theorem ivOrder_l1 (l : List S39) (hl : l.length ≤ 1000) (i : Nat) (hi : i < l.length) (y : List Int) (hy : y.length = i) (R : Int × List Int) (hR : Ev (fun k => spec_ivOrder.l0 k l l (l.length : Int) ((i + 1 : Nat) : Int) (l.length : Int) (y ++ [rowf (ivLt l i) l.length])) R) (d : Nat) :
  ∀ j : Nat, j + d = l.length → Ev (fun k => spec_ivOrder.l1 k l (rowf (ivLt l i) j) l (l.length : Int) (i : Int) l (l.length : Int) (j : Int) (l.length : Int) y (rd_T39 l (i : Int)).f0 (rd_T39 l (i : Int)).f1) R := by
 induction d with
 | zero =>
  intro j hj
  obtain rfl : j = l.length := by omega
  refine Ev.shift ?_
  simp only [spec_ivOrder.l1]
  refine Ev.neg (by omega) (Ev.pos (by omega) ?_)
  rw [wrap64_id (x := (i : Int) + 1) (by omega) (by omega), cast1]
  exact hR
 | succ d ih =>
  intro j hj
  have := ih (j + 1) (by omega)
  rw [rowf_succ] at this
  refine Ev.shift ?_
  simp only [spec_ivOrder.l1]
  refine Ev.pos (by omega) (Ev.pos (by omega) (Ev.pos (by omega) ?_))
  rw [wrap64_id (x := (j : Int) + 1) (by omega) (by omega), cast1]
  by_cases hc : (rd_T39 l (i : Int)).f1 < (rd_T39 l (j : Int)).f0
  ·rw [if_pos (by simpa [ivLt] using hc)] at this
   exact Ev.pos hc this
  ·rw [if_neg (by simpa [ivLt] using hc)] at this
   exact Ev.neg hc this
theorem ivOrder_l0 (l : List S39) (hl : l.length ≤ 1000) (d : Nat) : ∀ i : Nat, i + d = l.length → Ev (fun k => spec_ivOrder.l0 k l l (l.length : Int) (i : Int) (l.length : Int) ((rel (ivLt l) l.length).take i)) ((l.length : Int), rel (ivLt l) l.length) := by
 induction d with
 | zero =>
  intro i hi
  refine Ev.shift ?_
  simp only [spec_ivOrder.l0]
  exact Ev.neg (by omega) (Ev.ret (by rw [List.take_of_length_le (by rw [rel_length]; omega)]))
 | succ d ih =>
  intro i hi
  have := ih (i + 1) (by omega)
  rw [List.take_succ_eq_append_getElem (by rw [rel_length]; omega), ← rd_lt _ i (by rw [rel_length]; omega), rel_get _ _ i (by omega)] at this
  refine Ev.shift ?_
  simp only [spec_ivOrder.l0]
  refine Ev.pos (by omega) (Ev.pos (by omega) (Ev.pos (by omega) ?_))
  exact ivOrder_l1 l hl i (by omega) _ (by rw [List.length_take, rel_length]; omega) _ this l.length 0 (by omega)
theorem ivOrder_ev (l : List S39) (hl : l.length ≤ 1000) : Ev (fun k => spec_ivOrder.f k l) ((l.length : Int), rel (ivLt l) l.length) := by
 unfold spec_ivOrder.f
 exact ivOrder_l0 l hl l.length 0 (by omega)
theorem intervals_l1 {c : List Int} (hc : bytesP c) (d : Nat) : ∀ (l : List S39) (a s : Int), l.length + d = 11 → 0 ≤ a → a + 2 * d ≤ 100000 → ∃ m a' s', Ev (fun k => spec_l1Cur_intervals.l1 k l c a s) (m, a', s') ∧ m.length ≤ 11 ∧ a ≤ a' ∧ a' ≤ a + (2 * d + 2) := by
 induction d with
 | zero =>
  intro l a s hl h0 h1
  obtain ⟨x, a1, s1, e1, hx, h2, h3⟩ := pick_d hc s 2 h0 (by omega) (by omega)
  refine ⟨l, a1, s1, Ev.shift ?_, by omega, by omega, by omega⟩
  simp only [spec_l1Cur_intervals.l1]
  refine Ev.bindc e1 ?_
  dsimp only
  rw [wrap64_id (x := 10 + x) (by omega) (by omega)]
  exact Ev.neg (by omega) (Ev.ret rfl)
 | succ d ih =>
  intro l a s hl h0 h1
  obtain ⟨x, a1, s1, e1, hx, h2, h3⟩ := pick_d hc s 2 h0 (by omega) (by omega)
  by_cases hb : (l.length : Int) < 10 + x
  ·obtain ⟨m, a2, s2, e2, hm, h4, h5⟩ := ih (l ++ [⟨wrap64 ((l.length : Int) / 2), 3⟩]) a1 s1 (by simp; omega) (by omega) (by omega)
   refine ⟨m, a2, s2, Ev.shift ?_, hm, by omega, by omega⟩
   simp only [spec_l1Cur_intervals.l1]
   refine Ev.bindc e1 ?_
   dsimp only
   rw [wrap64_id (x := 10 + x) (by omega) (by omega)]
   exact Ev.pos hb (Ev.pos (by omega) e2)
  ·refine ⟨l, a1, s1, Ev.shift ?_, by omega, by omega, by omega⟩
   simp only [spec_l1Cur_intervals.l1]
   refine Ev.bindc e1 ?_
   dsimp only
   rw [wrap64_id (x := 10 + x) (by omega) (by omega)]
   exact Ev.neg hb (Ev.ret rfl)
theorem intervals_l0 {c : List Int} (hc : bytesP c) (d : Nat) : ∀ (l : List S39) (a s : Int), l.length + d ≤ 10 → 0 ≤ a → a + 4 * d ≤ 10000 → ∃ m a' s', Ev (fun k => spec_l1Cur_intervals.l0 k l (d : Int) c a s) (m, a', s') ∧ m.length ≤ 11 ∧ a ≤ a' ∧ a' ≤ a + (4 * d + 40) := by
 induction d with
 | zero =>
  intro l a s hl h0 h1
  obtain ⟨x, a1, s1, e1, hx, h2, h3⟩ := pick_d hc s 14 h0 (by omega) (by omega)
  by_cases hx0 : x = 0
  ·obtain ⟨y, a2, s2, e2, _, h4, h5⟩ := among_d hc (a := a1) s1 [(-1001), (-1000), 1, 1000] (by omega) (by omega) (by simp)
   obtain ⟨z, a3, s3, e3, _, h6, h7⟩ := among_d hc (a := a2) s2 [0, 1000, 1001] (by omega) (by omega) (by simp)
   refine ⟨l ++ [⟨y, z⟩], a3, s3, Ev.shift ?_, by simp; omega, by omega, by omega⟩
   simp only [spec_l1Cur_intervals.l0]
   exact Ev.neg (by omega) (Ev.bindc e1 (Ev.pos hx0 (Ev.bindc e2 (Ev.bindc e3 (Ev.pos (by omega) (Ev.ret rfl))))))
  ·by_cases hx1 : x = 1
   ·obtain ⟨m, a2, s2, e2, hm, h4, h5⟩ := intervals_l1 hc 11 [] a1 s1 (by simp) (by omega) (by omega)
    refine ⟨m, a2, s2, Ev.shift ?_, hm, by omega, by omega⟩
    simp only [spec_l1Cur_intervals.l0]
    exact Ev.neg (by omega) (Ev.bindc e1 (Ev.neg hx0 (Ev.pos hx1 e2)))
   ·refine ⟨l, a1, s1, Ev.shift ?_, by omega, by omega, by omega⟩
    simp only [spec_l1Cur_intervals.l0]
    exact Ev.neg (by omega) (Ev.bindc e1 (Ev.neg hx0 (Ev.neg hx1 (Ev.ret rfl))))
 | succ d ih =>
  intro l a s hl h0 h1
  obtain ⟨x, a1, s1, e1, hx, h2, h3⟩ := pick_d hc s 8 h0 (by omega) (by omega)
  obtain ⟨y, a2, s2, e2, hy, h4, h5⟩ := pick_d hc (a := a1) s1 4 (by omega) (by omega) (by omega)
  obtain ⟨m, a3, s3, e3, hm, h6, h7⟩ := ih (l ++ [⟨wrap64 (x - 1), wrap64 (wrap64 (x - 1) + y)⟩]) a2 s2 (by simp; omega) (by omega) (by omega)
  refine ⟨m, a3, s3, Ev.shift ?_, hm, by omega, by omega⟩
  simp only [spec_l1Cur_intervals.l0]
  refine Ev.pos (by omega) (Ev.bindc e1 (Ev.bindc e2 (Ev.pos (by omega) ?_)))
  rw [wrap64_id (x := ((d + 1 : Nat) : Int) - 1) (by omega) (by omega), show ((d + 1 : Nat) : Int) - 1 = (d : Int) by omega]
  exact e3
theorem intervals_d {c : List Int} (hc : bytesP c) {a : Int} (s m : Int) (hm : 0 ≤ m ∧ m ≤ 9) (h0 : 0 ≤ a) (h1 : a ≤ 1000) : ∃ l a' s', Ev (fun k => spec_l1Cur_intervals.f k c a s m) (l, a', s') ∧ l.length ≤ 11 ∧ a ≤ a' ∧ a' ≤ a + 100 := by
 unfold spec_l1Cur_intervals.f
 rw [wrap64_id (x := m + 1) (by omega) (by omega)]
 obtain ⟨x, a1, s1, e1, hx, h2, h3⟩ := pick_d hc s (m + 1) h0 (by omega) (by omega)
 obtain ⟨d, rfl⟩ : ∃ d : Nat, x = d := ⟨x.toNat, by omega⟩
 obtain ⟨l, a2, s2, e2, hl, h4, h5⟩ := intervals_l0 hc d [] a1 s1 (by simp; omega) (by omega) (by omega)
 exact ⟨l, a2, s2, Ev.bindc e1 e2, hl, by omega, by omega⟩
end Go.Proofs.YtdmheeenoklijaaDoor.Pure
namespace Go.Proofs.YtdmheeenoklijaaDoor.Q
open Go.RowKit Go.Proofs.YtdmheeenoklijaaDoorW.PrintWords Go.Proofs.YtdmheeenoklijaaDoorW.PrintLast Go.Proofs.YtdmheeenoklijaaDoorW.PrintMore
attribute [local go_sem] max2_int min2_int max_two min_two max_three min_three max_four min_four neB_f
set_option linter.unusedVariables false
set_option maxHeartbeats 8000000
set_option maxRecDepth 100000
set_option linter.unusedSimpArgs false
def impl_Order_magnitude.f (k : Nat) (a0_0 : Int) (l0_1 : List Int) : Option (Int) := (impl_Order_levels.f k a0_0 l0_1).bind fun t655 => ((impl_different.f t655).bind fun t658 => (some (t658.length : Int)))
theorem impl_Order_magnitude.mono : ∀ a0 a1 k, LeO (impl_Order_magnitude.f k a0 a1) (impl_Order_magnitude.f (k + 1) a0 a1) := by
 intro a0 a1 k
 unfold impl_Order_magnitude.f
 repeat' (with_reducible first|apply impl_Order_levels.mono|apply LeO.refl|apply LeO.none|apply LeO.ite|apply LeO.bind|intro)
theorem impl_Order_magnitude.calls (k : Nat) (a0_0 : Int) (A0_1 : Option Addr) (c0_1 : Nat) (l0_1 : List Int) (r : Int) (w : World) (hr0_1 : Kd.C (Kd.int .i64) w A0_1 l0_1.length l0_1) (hc0_1 : l0_1.length ≤ c0_1) (h : impl_Order_magnitude.f k a0_0 l0_1 = some r) :
  Calls Tryd.prog 37 #[.agg #[.int .i64 a0_0, .slice A0_1 l0_1.length c0_1]] w fun e w' => e = .returned (.int .i64 r) ∧ Below w.heap.size w w' := by
 have hu26 := Tryd.underlying26
 have HR0_1 := mkA hr0_1
 have HC0_1 := mkA hc0_1
 clear hr0_1 hc0_1
 have HB := mkA (Below.refl w.heap.size w)
 have H := h
 clear h
 unfold impl_Order_magnitude.f at H
 obtain ⟨t655, A2, H⟩ := obE H
 obtain ⟨t658, A3, H⟩ := obE H
 obtain rfl := Option.some.inj H
 go_enter Tryd.func37, Tryd.ntmps37
 go_wp2_with (first | ((with_reducible refine gate_dst (N := 1) rfl ?_); refine boxG HB #[.int .i64 a0_0, .slice A0_1 l0_1.length c0_1] 26 ?_; intro gb654 hg w4 BK654 GE654 hb; replace HB := bst HB hb; clear hb hg; obtain ⟨_, _, _, _⟩ := blk2 BK654) | ((with_reducible refine gate_callee (f := 38) rfl ?_); refine goesQ (some 4) Tryd.func38 #[.agg #[.int .i64 a0_0, .slice A0_1 l0_1.length c0_1]] ?_; (with_reducible refine (impl_Order_levels.calls k a0_0 _ _ l0_1 t655 _ ?_ ?_ A2.out).mono ?_); exact C_g HR0_1 HB; exact HC0_1.out; rintro e w6 ⟨v656, rfl, ho0, hb⟩; refine ⟨_, rfl, ?_⟩; have HO657 := rLo ho0 HB; replace BK654 := blkB BK654 hb; replace HB := bst HB hb; clear hb ho0; obtain ⟨Ao7, co7, rfl⟩ := Kd.R_slice HO657.out) | ((with_reducible refine gate_callee (f := 65) rfl ?_); refine goesQ (some 5) Tryd.func65 #[.slice Ao7 t655.length co7] ?_; (with_reducible refine (impl_different.calls _ _ t655 t658 _ ?_ ?_ A3.out).mono ?_); exact rC HO657; exact rL HO657; rintro e w8 ⟨v659, rfl, ho0, hb⟩; refine ⟨_, rfl, ?_⟩; have HO660 := rLo (rN ho0 HO657) HB; replace HO657 := rE HO657 ho0 hb; replace BK654 := blkB BK654 hb; replace HB := bst HB hb; clear hb ho0; obtain ⟨Ao9, co9, rfl⟩ := Kd.R_slice HO660.out))
 go_ret
 exact ⟨eqE, bel_g HB.out⟩
def impl_MagnitudeOf.f (k : Nat) (a0_0 : Int) (l0_1 : List Int) : Option (Int × Bool) := (impl_isInterval.f k a0_0 l0_1).bind fun t662 => (if t662 = true then ((impl_Order_magnitude.f k a0_0 l0_1).bind fun t663 => (some (t663, true))) else (some (0, false)))
theorem impl_MagnitudeOf.mono : ∀ a0 a1 k, LeO (impl_MagnitudeOf.f k a0 a1) (impl_MagnitudeOf.f (k + 1) a0 a1) := by
 intro a0 a1 k
 unfold impl_MagnitudeOf.f
 repeat' (with_reducible first|apply impl_Order_magnitude.mono|apply impl_isInterval.mono|apply LeO.refl|apply LeO.none|apply LeO.ite|apply LeO.bind|intro)
theorem impl_MagnitudeOf.calls (k : Nat) (a0_0 : Int) (A0_1 : Option Addr) (c0_1 : Nat) (l0_1 : List Int) (r1 : Int) (r2 : Bool) (w : World) (hr0_1 : Kd.C (Kd.int .i64) w A0_1 l0_1.length l0_1) (hc0_1 : l0_1.length ≤ c0_1) (hTAB : Tab w) (h : impl_MagnitudeOf.f k a0_0 l0_1 = some (r1, r2)) :
  Calls Tryd.prog 12 #[.agg #[.int .i64 a0_0, .slice A0_1 l0_1.length c0_1]] w fun e w' => e = .returned (.tuple #[.int .i64 r1, .bool r2]) ∧ Below w.heap.size w w' := by
 have HTAB := mkA hTAB
 clear hTAB
 have hu26 := Tryd.underlying26
 have HR0_1 := mkA hr0_1
 have HC0_1 := mkA hc0_1
 clear hr0_1 hc0_1
 have HB := mkA (Below.refl w.heap.size w)
 have H := h
 clear h
 unfold impl_MagnitudeOf.f at H
 obtain ⟨t662, A2, H⟩ := obE H
 by_cases c3 : t662 = true
 ·subst c3
  replace H := ifT H
  obtain ⟨t663, A4, H⟩ := obE H
  simp only [Option.some.injEq, Prod.mk.injEq] at H
  obtain ⟨rfl, rfl⟩ := H
  go_enter Tryd.func12, Tryd.ntmps12
  go_wp2_with (first | ((with_reducible refine gate_dst (N := 1) rfl ?_); refine boxG HB #[.int .i64 a0_0, .slice A0_1 l0_1.length c0_1] 26 ?_; intro gb661 hg w5 BK661 GE661 hb; replace HB := bst HB hb; clear hb hg; obtain ⟨_, _, _, _⟩ := blk2 BK661) | ((with_reducible refine gate_callee (f := 31) rfl ?_); refine goesQ (some 5) Tryd.func31 #[.agg #[.int .i64 a0_0, .slice A0_1 l0_1.length c0_1]] ?_; (with_reducible refine (impl_isInterval.calls k a0_0 _ _ l0_1 true _ ?_ ?_ ?_ A2.out).mono ?_); exact C_g HR0_1 HB; exact HC0_1.out; exact Tab.below HTAB.out (bel_g HB.out); rintro e w7 ⟨rfl, hb⟩; refine ⟨_, rfl, ?_⟩; replace BK661 := blkB BK661 hb; replace HB := bst HB hb; clear hb; obtain ⟨_, _, _, _⟩ := blk2 BK661) | ((with_reducible refine gate_callee (f := 37) rfl ?_); refine goesQ (some 8) Tryd.func37 #[.agg #[.int .i64 a0_0, .slice A0_1 l0_1.length c0_1]] ?_; (with_reducible refine (impl_Order_magnitude.calls k a0_0 _ _ l0_1 t663 _ ?_ ?_ A4.out).mono ?_); exact C_g HR0_1 HB; exact HC0_1.out; rintro e w9 ⟨rfl, hb⟩; refine ⟨_, rfl, ?_⟩; replace BK661 := blkB BK661 hb; replace HB := bst HB hb; clear hb))
  go_ret2
  exact ⟨eqE, bel_g HB.out⟩
 ·replace c3 := Bool.eq_false_iff.mpr c3
  subst c3
  replace H := ifF H
  simp only [Option.some.injEq, Prod.mk.injEq] at H
  obtain ⟨rfl, rfl⟩ := H
  go_enter Tryd.func12, Tryd.ntmps12
  go_wp2_with (first | ((with_reducible refine gate_dst (N := 1) rfl ?_); refine boxG HB #[.int .i64 a0_0, .slice A0_1 l0_1.length c0_1] 26 ?_; intro gb661 hg w10 BK661 GE661 hb; replace HB := bst HB hb; clear hb hg; obtain ⟨_, _, _, _⟩ := blk2 BK661) | ((with_reducible refine gate_callee (f := 31) rfl ?_); refine goesQ (some 5) Tryd.func31 #[.agg #[.int .i64 a0_0, .slice A0_1 l0_1.length c0_1]] ?_; (with_reducible refine (impl_isInterval.calls k a0_0 _ _ l0_1 false _ ?_ ?_ ?_ A2.out).mono ?_); exact C_g HR0_1 HB; exact HC0_1.out; exact Tab.below HTAB.out (bel_g HB.out); rintro e w12 ⟨rfl, hb⟩; refine ⟨_, rfl, ?_⟩; replace BK661 := blkB BK661 hb; replace HB := bst HB hb; clear hb))
  go_ret2
  exact ⟨eqE, bel_g HB.out⟩
def impl_Order_all.f (a0_0 : Int) (l0_1 : List Int) : Option (Int) := if 0 ≤ a0_0 then (some (wrap64 ((shl .i64 1 a0_0) - 1))) else (none)
theorem impl_Order_all.calls (a0_0 : Int) (A0_1 : Option Addr) (c0_1 : Nat) (l0_1 : List Int) (r : Int) (w : World) (hr0_1 : Kd.C (Kd.int .i64) w A0_1 l0_1.length l0_1) (hc0_1 : l0_1.length ≤ c0_1) (h : impl_Order_all.f a0_0 l0_1 = some r) :
  Calls Tryd.prog 74 #[.agg #[.int .i64 a0_0, .slice A0_1 l0_1.length c0_1]] w fun e w' => e = .returned (.int .i64 r) ∧ Below w.heap.size w w' := by
 have hu26 := Tryd.underlying26
 have HR0_1 := mkA hr0_1
 have HC0_1 := mkA hc0_1
 clear hr0_1 hc0_1
 have HB := mkA (Below.refl w.heap.size w)
 have H := h
 clear h
 unfold impl_Order_all.f at H
 obtain ⟨c2b0, c2b1, H⟩ := itNQ H
 obtain ⟨ji3, hji3⟩ : ∃ j_ : Int, (shl .i64 1 a0_0) = j_ := ⟨_, rfl⟩
 first | rw [hji3] at H | simp only [hji3] at H
 have hji3_ : (IntKind.i64.wrap (1 * 2 ^ min a0_0.toNat 64)) = ji3 := hji3
 have hji3z : a0_0 ≤ 64 → (IntKind.i64.wrap (1 * 2 ^ a0_0.toNat)) = ji3 := shl_small hji3
 have hji3u : (IntKind.i64.wrap (2 ^ min a0_0.toNat 64)) = ji3 := by have h_ := hji3_; rw [Int.one_mul] at h_; exact h_
 have hji3v : a0_0 ≤ 64 → (IntKind.i64.wrap (2 ^ a0_0.toNat)) = ji3 := fun hle_ => by have h_ := hji3z hle_; rw [Int.one_mul] at h_; exact h_
 have hji3y : (wrap64 (1 * 2 ^ min a0_0.toNat 64)) = ji3 := (i64_w _).symm.trans hji3_
 have hji3x : a0_0 ≤ 64 → (wrap64 (1 * 2 ^ a0_0.toNat)) = ji3 := fun h_ => (i64_w _).symm.trans (hji3z h_)
 obtain rfl := Option.some.inj H
 go_enter Tryd.func74, Tryd.ntmps74
 go_wp2_with (first | ((with_reducible refine gate_dst (N := 1) rfl ?_); refine boxG HB #[.int .i64 a0_0, .slice A0_1 l0_1.length c0_1] 26 ?_; intro gb866 hg w4 BK866 GE866 hb; replace HB := bst HB hb; clear hb hg; obtain ⟨_, _, _, _⟩ := blk2 BK866))
 go_ret
 exact ⟨by first | rfl | (simp [errW_none, errW_some] <;> rfl) | (simp only [← hji3]; first | rfl | (simp [errW_none, errW_some] <;> rfl)) | (simp [*, errW_none, errW_some] <;> rfl), bel_g HB.out⟩
end Go.Proofs.YtdmheeenoklijaaDoor.Q
