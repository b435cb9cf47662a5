import Derived.Test.YtfpicdkanmgdoaaDoorBFnLevelRanks18
namespace Go.Proofs.YtfpicdkanmgdoaaDoor.Pure
open Go.RowKit Go.Proofs.YtfpicdkanmgdoaaDoor.Q Go.Proofs.YtfpicdkanmgdoaaDoorW.PrintWords Go.Proofs.YtfpicdkanmgdoaaDoorW.PrintLast
set_option linter.unusedVariables false
set_option linter.unusedSimpArgs false
theorem all_l (a b : Int) (l : List Int) (hl : l.length ≤ 1048576) (d : Nat) : ∀ i : Nat, i + d = l.length → Ev (fun k => spec_l1All.l0 k a b l (l.length : Int) i) (decide (∀ x ∈ l.drop i, a ≤ x ∧ x ≤ b)) := by
 induction d with
 | zero =>
  intro i hi
  refine Ev.shift ?_
  simp only [spec_l1All.l0]
  refine Ev.neg (by omega) (Ev.ret ?_)
  rw [List.drop_of_length_le (by omega)]; simp
 | succ d ih =>
  intro i hi
  refine Ev.shift ?_
  simp only [spec_l1All.l0]
  refine Ev.pos (by omega) (Ev.pos (by omega) (Ev.pos (by omega) (Ev.bindc (spec_in _ _ _) ?_)))
  rw [wrap64_id (by omega) (by omega), cast1, drop_rd l i (by omega)]
  by_cases hc : a ≤ rd l (i : Int) ∧ rd l (i : Int) ≤ b
  ·exact Ev.pos (by simpa using hc) (Ev.eq (ih (i + 1) (by omega)) (by simp [hc]))
  ·refine Ev.neg (by simpa using hc) (Ev.ret ?_)
   symm; rw [decide_eq_false_iff_not]; intro h; exact hc (h _ (by simp))
theorem all_spec (a b : Int) (l : List Int) (hl : l.length ≤ 1048576) : Ev (fun k => spec_l1All.f k l a b) (decide (∀ x ∈ l, a ≤ x ∧ x ≤ b)) := by
 unfold spec_l1All.f
 simpa using all_l a b l hl l.length 0 (by omega)
theorem has_l (a : Int) (l : List Int) (hl : l.length ≤ 1048576) (d : Nat) : ∀ i : Nat, i + d = l.length → Ev (fun k => spec_l1Has.l0 k a l (l.length : Int) i) (decide (a ∈ l.drop i)) := by
 induction d with
 | zero =>
  intro i hi
  refine Ev.shift ?_
  simp only [spec_l1Has.l0]
  refine Ev.neg (by omega) (Ev.ret ?_)
  rw [List.drop_of_length_le (by omega)]; simp
 | succ d ih =>
  intro i hi
  refine Ev.shift ?_
  simp only [spec_l1Has.l0]
  refine Ev.pos (by omega) (Ev.pos (by omega) (Ev.pos (by omega) ?_))
  rw [wrap64_id (by omega) (by omega), cast1, drop_rd l i (by omega)]
  by_cases hc : rd l (i : Int) = a
  ·exact Ev.pos hc (Ev.ret (by simp [hc]))
  ·exact Ev.neg hc (Ev.eq (ih (i + 1) (by omega)) (by simp [Ne.symm hc]))
theorem has_spec (a : Int) (l : List Int) (hl : l.length ≤ 1048576) : Ev (fun k => spec_l1Has.f k l a) (decide (a ∈ l)) := by
 unfold spec_l1Has.f
 simpa using has_l a l hl l.length 0 (by omega)
def lvlP (l : List Int) : Prop := l.length ≤ 10 ∧ (∀ x ∈ l, 0 ≤ x ∧ x ≤ 10) ∧ ∀ x ∈ l, 0 < x → x - 1 ∈ l
instance (l : List Int) : Decidable (lvlP l) := by unfold lvlP; infer_instance
theorem weLevels_l (l : List Int) (hl : l.length ≤ 10) (hr : ∀ x ∈ l, 0 ≤ x ∧ x ≤ 10) (d : Nat) : ∀ i : Nat, i + d = l.length → Ev (fun k => spec_weLevels.l0 k l l (l.length : Int) i) (decide (∀ x ∈ l.drop i, 0 < x → x - 1 ∈ l)) := by
 induction d with
 | zero =>
  intro i hi
  refine Ev.shift ?_
  simp only [spec_weLevels.l0]
  refine Ev.neg (by omega) (Ev.ret ?_)
  rw [List.drop_of_length_le (by omega)]; simp
 | succ d ih =>
  intro i hi
  have hx := hr (rd l (i : Int)) (by rw [rd_lt l i (by omega)]; exact List.getElem_mem _)
  refine Ev.shift ?_
  simp only [spec_weLevels.l0]
  refine Ev.pos (by omega) (Ev.pos (by omega) (Ev.pos (by omega) ?_))
  rw [wrap64_id (x := (i : Int) + 1) (by omega) (by omega), wrap64_id (x := rd l (i : Int) - 1) (by omega) (by omega), cast1, drop_rd l i (by omega)]
  by_cases h0 : rd l (i : Int) > 0
  ·refine Ev.pos h0 (Ev.bind (has_spec _ l (by omega)) ?_)
   by_cases hm : rd l (i : Int) - 1 ∈ l
   ·exact Ev.pos (by simpa using hm) (Ev.eq (ih (i + 1) (by omega)) (by simp [hm]))
   ·refine Ev.neg (by simpa using hm) (Ev.ret ?_)
    symm; rw [decide_eq_false_iff_not]; intro h; exact hm (h _ (by simp) h0)
  ·exact Ev.neg h0 (Ev.eq (ih (i + 1) (by omega)) (by
    congr 1
    rw [eq_iff_iff]
    constructor
    ·intro h x hx hp
     rcases List.mem_cons.1 hx with rfl | hx
     ·omega
     ·exact h x hx hp
    ·intro h x hx hp; exact h x (List.mem_cons_of_mem _ hx) hp))
theorem levels_spec (l : List Int) (hl : l.length ≤ 1048576) : Ev (fun k => spec_weLevels.f k l) (decide (lvlP l)) := by
 unfold spec_weLevels.f
 by_cases h : (l.length : Int) > 10
 ·refine Ev.pos h (Ev.shift ?_)
  simp only [spec_weLevels.j0]
  refine Ev.pos (by simp) (Ev.ret ?_)
  symm; rw [decide_eq_false_iff_not]; intro h'; have := h'.1; omega
 ·refine Ev.neg h (Ev.bind (all_spec 0 10 l hl) (Ev.shift ?_))
  simp only [spec_weLevels.j0]
  by_cases hr : ∀ x ∈ l, 0 ≤ x ∧ x ≤ 10
  ·rw [decide_eq_true hr]
   refine Ev.neg (by simp) (Ev.eq (weLevels_l l (by omega) hr l.length 0 (by omega)) ?_)
   rw [Bool.eq_iff_iff, decide_eq_true_iff, decide_eq_true_iff]
   exact ⟨fun h' => ⟨by omega, hr, by simpa using h'⟩, fun h' => by simpa using h'.2.2⟩
  ·rw [decide_eq_false hr]
   refine Ev.pos (by simp) (Ev.ret ?_)
   symm; rw [decide_eq_false_iff_not]; exact fun h' => hr h'.2.1
theorem lvl_fill {l : List Int} (h : lvlP l) : ∃ n : Nat, n ≤ 10 ∧ ∀ x, x ∈ l ↔ 0 ≤ x ∧ x < n := by
 obtain ⟨h1, h2, h3⟩ := h
 have down : ∀ (d : Nat) (x : Int), x ∈ l → ∀ y, 0 ≤ y → y + d = x → y ∈ l := by
  intro d
  induction d with
  | zero => intro x hx y hy e; rw [show y = x by omega]; exact hx
  | succ d ih =>
   intro x hx y hy e
   exact ih (x - 1) (h3 x hx (by omega)) y hy (by omega)
 have hmax : ∀ m : Nat, (∀ x ∈ l, x < m) → ∃ n : Nat, n ≤ m ∧ ∀ x, x ∈ l ↔ 0 ≤ x ∧ x < n := by
  intro m
  induction m with
  | zero => intro hx; exact ⟨0, by omega, fun x => ⟨fun h => by have := hx x h; have := h2 x h; omega, fun h => by omega⟩⟩
  | succ m ih =>
   intro hx
   by_cases hm : (m : Int) ∈ l
   ·refine ⟨m + 1, by omega, fun x => ⟨fun h => ⟨(h2 x h).1, hx x h⟩, fun h => ?_⟩⟩
    exact down (m - x).toNat m hm x h.1 (by omega)
   ·obtain ⟨n, hn, h⟩ := ih (fun x hx' => by
     have := hx x hx'
     have : x ≠ m := fun e => hm (e ▸ hx')
     omega)
    exact ⟨n, by omega, h⟩
 obtain ⟨n, hn, h⟩ := hmax 11 (fun x hx => by have := h2 x hx; omega)
 refine ⟨n, ?_, h⟩
 have e := dif_iota h
 have := dif_length l
 rw [e, iota_length] at this
 omega
theorem lvl_iff (l : List Int) : lvlP l ↔ (∀ m : Nat, m < (dif l).length → rd (dif l) (m : Int) = m) ∧ l.length ≤ 10 := by
 constructor
 ·intro h
  obtain ⟨n, hn, hx⟩ := lvl_fill h
  refine ⟨fun m hm => ?_, h.1⟩
  rw [rd_lt _ m hm]
  simp [dif_iota hx, iota]
 ·rintro ⟨h1, h2⟩
  have hd := dif_length l
  have key : ∀ x, x ∈ l ↔ 0 ≤ x ∧ x < (dif l).length := by
   intro x
   rw [← mem_dif, List.mem_iff_getElem]
   constructor
   ·rintro ⟨m, hm, rfl⟩
    have := h1 m hm
    rw [rd_lt _ m hm] at this
    omega
   ·intro h
    refine ⟨x.toNat, by omega, ?_⟩
    have := h1 x.toNat (by omega)
    rw [rd_lt _ _ (by omega)] at this
    omega
  exact ⟨h2, fun x hx => by have := (key x).1 hx; omega, fun x hx h0 => (key (x - 1)).2 (by have := (key x).1 hx; omega)⟩
theorem areLevels_l (l D : List Int) (hD : D.length ≤ 1048576) (d : Nat) : ∀ i : Nat, i + d = D.length → ∃ r, Ev (fun k => impl_AreLevels.l0 k l D (D.length : Int) i) r ∧ (r = true ↔ (∀ m : Nat, i ≤ m → m < D.length → rd D (m : Int) = m) ∧ l.length ≤ 10) := by
 induction d with
 | zero =>
  intro i hi
  refine ⟨decide ((l.length : Int) ≤ 10), Ev.shift ?_, ?_⟩
  ·simp only [impl_AreLevels.l0]
   exact Ev.neg (by omega) (Ev.ret rfl)
  ·rw [decide_eq_true_iff]
   exact ⟨fun h => ⟨fun m h1 h2 => by omega, by omega⟩, fun h => by omega⟩
 | succ d ih =>
  intro i hi
  obtain ⟨r, hr, hq⟩ := ih (i + 1) (by omega)
  by_cases hc : rd D (i : Int) = i
  ·refine ⟨r, Ev.shift ?_, hq.trans ⟨fun h => ⟨fun m h1 h2 => ?_, h.2⟩, fun h => ⟨fun m h1 h2 => h.1 m (by omega) h2, h.2⟩⟩⟩
   ·simp only [impl_AreLevels.l0]
    refine Ev.pos (by omega) (Ev.pos (by omega) (Ev.pos (by omega) ?_))
    rw [wrap64_id (by omega) (by omega), cast1]
    exact Ev.pos hc hr
   ·by_cases e : m = i
    ·subst e; exact hc
    ·exact h.1 m (by omega) h2
  ·refine ⟨false, Ev.shift ?_, ?_⟩
   ·simp only [impl_AreLevels.l0]
    exact Ev.pos (by omega) (Ev.pos (by omega) (Ev.pos (by omega) (Ev.neg hc (Ev.ret rfl))))
   ·simp only [Bool.false_eq_true, false_iff]
    intro h; exact hc (h.1 i (Nat.le_refl _) (by omega))
theorem levels_impl (l : List Int) (hl : l.length ≤ 1048576) : Ev (fun k => impl_AreLevels.f k l) (decide (lvlP l)) := by
 unfold impl_AreLevels.f
 obtain ⟨r, hr, hq⟩ := areLevels_l l (dif l) (by have := dif_length l; omega) (dif l).length 0 (by omega)
 refine Ev.bindc (different_f l hl) (Ev.eq hr ?_)
 rw [Bool.eq_iff_iff, decide_eq_true_iff, lvl_iff, hq]
 exact ⟨fun h => ⟨fun m hm => h.1 m (Nat.zero_le _) hm, h.2⟩, fun h => ⟨fun m _ hm => h.1 m hm, h.2⟩⟩
theorem count_take (l : List Int) (v : Int) (i : Nat) (h : i < l.length) : List.count v (l.take (i + 1)) = List.count v (l.take i) + if rd l (i : Int) = v then 1 else 0 := by
 rw [List.take_succ_eq_append_getElem h, List.count_append, rd_lt l i h]
 by_cases e : l[i] = v <;> simp [e]
theorem linear_spec1 (l : List Int) (hl : l.length ≤ 10) (i : Nat) (hi : i < l.length) (x4 : Int) (r : Int × Bool) (hr : Ev (fun k => spec_CountLinear.l0 k l (wrap64 (x4 * (1 + (List.count (rd l (i : Int)) (l.take i) : Int)))) l (l.length : Int) ((i + 1 : Nat) : Int)) r) (d : Nat) :
  ∀ j : Nat, j + d = i → Ev (fun k => spec_CountLinear.l1 k l x4 (rd l (i : Int)) (1 + (List.count (rd l (i : Int)) (l.take j) : Int)) l (l.length : Int) (i : Int) (l.take i) ((l.take i).length : Int) (j : Int)) r := by
 have ht : (l.take i).length = i := by simp; omega
 induction d with
 | zero =>
  intro j hj
  obtain rfl : j = i := by omega
  refine Ev.shift ?_
  simp only [spec_CountLinear.l1]
  refine Ev.neg (by omega) ?_
  rw [wrap64_id (x := (j : Int) + 1) (by omega) (by omega), cast1]
  exact hr
 | succ d ih =>
  intro j hj
  have e : rd (l.take i) (j : Int) = rd l (j : Int) := by
   rw [rd_lt _ j (by omega), rd_lt l j (by omega)]; simp
  have hc : List.count (rd l (i : Int)) (l.take j) ≤ 10 := by
   have := List.count_le_length (a := rd l (i : Int)) (l := l.take j)
   simp at this; omega
  have := ih (j + 1) (by omega)
  rw [count_take l _ j (by omega)] at this
  refine Ev.shift ?_
  simp only [spec_CountLinear.l1]
  refine Ev.pos (by omega) (Ev.pos (by omega) (Ev.pos (by omega) ?_))
  rw [wrap64_id (x := (j : Int) + 1) (by omega) (by omega), wrap64_id (x := 1 + (List.count (rd l (i : Int)) (l.take j) : Int) + 1) (by omega) (by omega), e, cast1]
  by_cases h : rd l (i : Int) = rd l (j : Int)
  ·rw [if_pos h.symm] at this
   refine Ev.pos h ?_
   rw [Int.add_assoc, cast1]
   exact this
  ·rw [if_neg (Ne.symm h)] at this
   exact Ev.neg h this
theorem linear_both (l : List Int) (hl : l.length ≤ 10) (hb : ∀ x ∈ l, 0 ≤ x ∧ x < 10) (d : Nat) : ∀ (i : Nat) (x4 : Int) (y : List Int), i + d = l.length → y.length = 10 → (∀ v : Nat, v < 10 → rd y (v : Int) = (List.count (v : Int) (l.take i) : Int)) →
  ∃ r, Ev (fun k => impl_CountLinear.l0 k x4 y l (l.length : Int) (i : Int)) r ∧ Ev (fun k => spec_CountLinear.l0 k l x4 l (l.length : Int) (i : Int)) r := by
 induction d with
 | zero =>
  intro i x4 y hi hy hv
  refine ⟨(x4, true), Ev.shift ?_, Ev.shift ?_⟩
  ·simp only [impl_CountLinear.l0]
   exact Ev.neg (by omega) (Ev.ret rfl)
  ·simp only [spec_CountLinear.l0]
   exact Ev.neg (by omega) (Ev.ret rfl)
 | succ d ih =>
  intro i x4 y hi hy hv
  have hx := hb (rd l (i : Int)) (by rw [rd_lt l i (by omega)]; exact List.getElem_mem _)
  obtain ⟨v, hvx⟩ : ∃ v : Nat, rd l (i : Int) = v := ⟨(rd l (i : Int)).toNat, by omega⟩
  have hc : List.count (rd l (i : Int)) (l.take i) ≤ 10 := by
   have := List.count_le_length (a := rd l (i : Int)) (l := l.take i)
   simp at this; omega
  have hyv := hv v (by omega)
  have hs : rd (y.set v (wrap64 (rd y (v : Int) + 1))) (v : Int) = 1 + (List.count (v : Int) (l.take i) : Int) := by
   rw [rd_lt _ v (by simp; omega), List.getElem_set_self, hyv, wrap64_id (by rw [hvx] at hc; omega) (by rw [hvx] at hc; omega)]; omega
  obtain ⟨r, h1, h2⟩ := ih (i + 1) (wrap64 (x4 * (1 + (List.count (v : Int) (l.take i) : Int)))) (y.set v (wrap64 (rd y (v : Int) + 1))) (by omega) (by simp; omega) (fun u hu => by
   rw [count_take l _ i (by omega), hvx]
   by_cases e : v = u
   ·subst e; rw [hs]; simp; omega
   ·rw [rd_lt _ u (by simp; omega), List.getElem_set_ne e, ← rd_lt y u (by omega), hv u hu, if_neg (by omega)]; simp)
  refine ⟨r, Ev.shift ?_, Ev.shift ?_⟩
  ·simp only [impl_CountLinear.l0]
   refine Ev.pos (by omega) (Ev.pos (by omega) (Ev.pos (by omega) (Ev.pos (by omega) (Ev.pos (by omega) (Ev.bindc rfl ?_)))))
   rw [wrap64_id (x := (i : Int) + 1) (by omega) (by omega), hvx, cast1, Int.toNat_natCast, hs]
   exact h1
  ·have := linear_spec1 l hl i (by omega) x4 r (by rw [hvx]; exact h2) i 0 (by omega)
   simp only [spec_CountLinear.l0]
   refine Ev.pos (by omega) (Ev.pos (by omega) (Ev.pos (by omega) (Ev.pos (by omega) ?_)))
   rw [Int.toNat_natCast]
   simpa using this
theorem CountLinear_both (l : List Int) (hl : l.length ≤ 1048576) : ∃ r, Ev (fun k => impl_CountLinear.f k l) r ∧ Ev (fun k => spec_CountLinear.f k l) r := by
 unfold impl_CountLinear.f spec_CountLinear.f
 by_cases h : lvlP l
 ·obtain ⟨n, hn, hx⟩ := lvl_fill h
  obtain ⟨r, h1, h2⟩ := linear_both l h.1 (fun x hm => by have := (hx x).1 hm; omega) l.length 0 1 (List.replicate 10 0) (by omega) (by simp) (fun v hv => by rw [rd_lt _ v (by rw [List.length_replicate]; omega), List.getElem_replicate]; simp)
  exact ⟨r, Ev.bind (levels_impl l hl) (Ev.pos (by simpa using h) (Ev.pos (by omega) h1)), Ev.bind (levels_spec l hl) (Ev.pos (by simpa using h) h2)⟩
 ·exact ⟨(0, false), Ev.bind (levels_impl l hl) (Ev.neg (by simpa using h) (Ev.ret rfl)), Ev.bind (levels_spec l hl) (Ev.neg (by simpa using h) (Ev.ret rfl))⟩
end Go.Proofs.YtfpicdkanmgdoaaDoor.Pure
namespace Go.Proofs.YtfpicdkanmgdoaaDoor.Pure
set_option linter.unusedVariables false
set_option linter.unusedSimpArgs false
-- plain
def sumR : Nat → (Nat → Nat) → Nat
 | 0, _ => 0
 | n + 1, f => sumR n f + f n
theorem sumR_congr {n : Nat} {f g : Nat → Nat} (h : ∀ i, i < n → f i = g i) : sumR n f = sumR n g := by
 induction n with
 | zero => rfl
 | succ n ih => rw [sumR, sumR, ih (fun i hi => h i (by omega)), h n (by omega)]
theorem sumR_zero {n : Nat} {f : Nat → Nat} (h : ∀ i, i < n → f i = 0) : sumR n f = 0 := by
 induction n with
 | zero => rfl
 | succ n ih => rw [sumR, ih (fun i hi => h i (by omega)), h n (by omega)]
theorem sumR_mul (c : Nat) (n : Nat) (f : Nat → Nat) : sumR n (fun i => c * f i) = c * sumR n f := by
 induction n with
 | zero => rfl
 | succ n ih => rw [sumR, sumR, ih, Nat.mul_add]
theorem sumR_at {n : Nat} {f g : Nat → Nat} {i d : Nat} (hi : i < n) (h : g i = f i + d) (ho : ∀ j, j < n → j ≠ i → g j = f j) : sumR n g = sumR n f + d := by
 induction n with
 | zero => omega
 | succ n ih =>
  rw [sumR, sumR]
  by_cases e : i = n
  ·subst e
   rw [sumR_congr (fun j hj => ho j (by omega) (by omega)), h]; omega
  ·rw [ih (by omega) (fun j hj hne => ho j (by omega) hne), ho n (by omega) (by omega)]; omega
theorem sumR_le {n : Nat} {f : Nat → Nat} {b : Nat} (h : ∀ i, i < n → f i ≤ b) : sumR n f ≤ n * b := by
 induction n with
 | zero => simp [sumR]
 | succ n ih =>
  have h1 := ih (fun i hi => h i (by omega))
  have h2 := h n (by omega)
  rw [sumR, Nat.succ_mul]; omega
def pc (N s : Nat) : Nat := sumR N fun j => if s.testBit j then 1 else 0
def flip (s j : Nat) : Nat := s ^^^ 2 ^ j
theorem bit_flip (s j k : Nat) : (flip s j).testBit k = (s.testBit k ^^ decide (j = k)) := by
 unfold flip; rw [Nat.testBit_xor, Nat.testBit_two_pow]
theorem pc_flip {N s j : Nat} (hj : j < N) (hb : s.testBit j = true) : pc N s = pc N (flip s j) + 1 := by
 unfold pc
 refine sumR_at hj ?_ (fun k _ hk => ?_)
 ·rw [bit_flip, hb]; simp
 ·rw [bit_flip]; simp [Ne.symm hk]
theorem pc_zero {N s : Nat} (h : pc N s = 0) {j : Nat} (hj : j < N) : s.testBit j = false := by
 cases hb : s.testBit j
 ·rfl
 ·have := pc_flip hj hb; omega
theorem pc_le (N s : Nat) : pc N s ≤ N := by
 have := sumR_le (n := N) (f := fun j => if s.testBit j then 1 else 0) (b := 1) (fun i _ => by split <;> omega)
 unfold pc; omega
def wF (N : Nat) (c : Nat → Nat → Bool) : Nat → Nat → Nat
 | 0, _ => 1
 | f + 1, s => sumR N fun i => if s.testBit i && c (flip s i) i then wF N c f (flip s i) else 0
def wS (N : Nat) (c : Nat → Nat → Bool) (s : Nat) : Nat := wF N c (pc N s) s
theorem wS_zero {N : Nat} {c : Nat → Nat → Bool} {s : Nat} (h : pc N s = 0) : wS N c s = 1 := by unfold wS; rw [h]; rfl
theorem wS_step {N : Nat} {c : Nat → Nat → Bool} {s : Nat} (h : 0 < pc N s) : wS N c s = sumR N fun i => if s.testBit i && c (flip s i) i then wS N c (flip s i) else 0 := by
 obtain ⟨f, hf⟩ : ∃ f, pc N s = f + 1 := ⟨pc N s - 1, by omega⟩
 unfold wS
 rw [hf, wF]
 refine sumR_congr fun i hi => ?_
 by_cases hb : s.testBit i = true
 ·have := pc_flip hi hb
  have e : pc N (flip s i) = f := by omega
  rw [e]
 ·simp [hb]
theorem wS_le {N : Nat} {c : Nat → Nat → Bool} (hN : N ≤ 10) : ∀ f s, pc N s = f → wS N c s ≤ 10 ^ f := by
 intro f
 induction f with
 | zero => intro s h; rw [wS_zero h]; exact Nat.le_refl _
 | succ f ih =>
  intro s h
  rw [wS_step (by omega)]
  have := sumR_le (n := N) (f := fun i => if s.testBit i && c (flip s i) i then wS N c (flip s i) else 0) (b := 10 ^ f) (fun i hi => by
   by_cases hb : s.testBit i = true
   ·have h2 := pc_flip hi hb
    split
    ·exact ih _ (by omega)
    ·exact Nat.zero_le _
   ·simp [hb])
  refine Nat.le_trans this ?_
  rw [Nat.pow_succ, Nat.mul_comm]
  exact Nat.mul_le_mul_left _ hN
def ch : Nat → Nat → Nat
 | 0, _ => 1
 | a + 1, b => sumR (b + 1) (ch a)
end Go.Proofs.YtfpicdkanmgdoaaDoor.Pure
namespace Go.Proofs.YtfpicdkanmgdoaaDoor.Pure
open Go.RowKit Go.Proofs.YtfpicdkanmgdoaaDoor.Q Go.Proofs.YtfpicdkanmgdoaaDoorW.PrintWords Go.Proofs.YtfpicdkanmgdoaaDoorW.PrintLast
set_option linter.unusedVariables false
set_option linter.unusedSimpArgs false
def prodR : Nat → (Nat → Nat) → Nat
 | 0, _ => 1
 | n + 1, f => prodR n f * f n
theorem prodR_congr {n : Nat} {f g : Nat → Nat} (h : ∀ i, i < n → f i = g i) : prodR n f = prodR n g := by
 induction n with
 | zero => rfl
 | succ n ih => rw [prodR, prodR, ih (fun i hi => h i (by omega)), h n (by omega)]
theorem prodR_at {n : Nat} {f g : Nat → Nat} {v d : Nat} (hv : v < n) (h : g v = f v * d) (ho : ∀ u, u < n → u ≠ v → g u = f u) : prodR n g = prodR n f * d := by
 induction n with
 | zero => omega
 | succ n ih =>
  rw [prodR, prodR]
  by_cases e : v = n
  ·subst e
   rw [h, prodR_congr (f := g) (g := f) (fun i hi => ho i (by omega) (by omega)), Nat.mul_assoc]
  ·rw [ih (by omega) (fun u hu hne => ho u (by omega) hne), ho n (by omega) (by omega), Nat.mul_assoc, Nat.mul_assoc, Nat.mul_comm d]
def fac : Nat → Nat
 | 0 => 1
 | n + 1 => (n + 1) * fac n
def atL (N : Nat) (v : Nat → Nat) (T u : Nat) : Nat := sumR N fun i => if T.testBit i && decide (v i = u) then 1 else 0
theorem atL_flip {N : Nat} {v : Nat → Nat} {T i : Nat} (hi : i < N) (hb : T.testBit i = true) : atL N v T (v i) = atL N v (flip T i) (v i) + 1 := by
 unfold atL
 refine sumR_at hi ?_ (fun j hj hne => ?_)
 ·simp [bit_flip, hb]
 ·rw [bit_flip]; simp [Ne.symm hne]
theorem atL_other {N : Nat} {v : Nat → Nat} {T i u : Nat} (hu : u ≠ v i) : atL N v (flip T i) u = atL N v T u := by
 unfold atL
 refine sumR_congr fun j hj => ?_
 rw [bit_flip]
 by_cases e : i = j
 ·subst e; simp [Ne.symm hu]
 ·simp [e]
def closedT (N : Nat) (v : Nat → Nat) (T : Nat) : Prop := ∀ i, i < N → T.testBit i = true → ∀ j, j < N → v j < v i → T.testBit j = true
def cV (N : Nat) (v : Nat → Nat) (T i : Nat) : Bool := decide (∀ j, j < N → v j < v i → T.testBit j = true)
theorem wS_open {N : Nat} {v : Nat → Nat} : ∀ f T, pc N T = f → ¬ closedT N v T → wS N (cV N v) T = 0
 | 0, T, hf, hc => by
  exfalso; apply hc
  intro i hi hb
  rw [pc_zero hf hi] at hb; cases hb
 | f + 1, T, hf, hc => by
  rw [wS_step (by omega)]
  refine sumR_zero fun i hi => ?_
  by_cases hb : (T.testBit i && cV N v (flip T i) i) = true
  ·rw [if_pos hb]
   rw [Bool.and_eq_true] at hb
   refine wS_open f (flip T i) (by have := pc_flip hi hb.1; omega) (fun hc2 => hc ?_)
   have hl := of_decide_eq_true hb.2
   intro x hx hxb y hy hlt
   by_cases e : x = i
   ·subst e
    have := hl y hy hlt
    rw [bit_flip] at this
    by_cases e2 : x = y
    ·subst e2; omega
    ·simpa [e2] using this
   ·have := hc2 x hx (by rw [bit_flip, hxb]; simp [Ne.symm e]) y hy hlt
    rw [bit_flip] at this
    by_cases e2 : i = y
    ·subst e2; exact hb.1
    ·simpa [e2] using this
  ·rw [if_neg hb]
theorem top_of {N : Nat} {v : Nat → Nat} {T : Nat} : ∀ (n : Nat), (∃ i, i < n ∧ T.testBit i = true) → ∃ i, i < n ∧ T.testBit i = true ∧ ∀ j, j < n → T.testBit j = true → v j ≤ v i := by
 intro n
 induction n with
 | zero => rintro ⟨i, hi, _⟩; omega
 | succ n ih =>
  intro h
  by_cases h1 : ∃ i, i < n ∧ T.testBit i = true
  ·obtain ⟨i, hi, hb, hm⟩ := ih h1
   by_cases h2 : T.testBit n = true ∧ v i < v n
   ·obtain ⟨h3, h4⟩ := h2
    refine ⟨n, by omega, h3, fun j hj hjb => ?_⟩
    rcases Nat.lt_or_ge j n with e | e
    ·exact Nat.le_trans (hm j e hjb) (Nat.le_of_lt h4)
    ·rw [show j = n by omega]; exact Nat.le_refl _
   ·refine ⟨i, by omega, hb, fun j hj hjb => ?_⟩
    rcases Nat.lt_or_ge j n with e | e
    ·exact hm j e hjb
    ·have e2 : j = n := by omega
     rw [e2] at hjb ⊢
     exact Nat.le_of_not_lt (fun e3 => h2 ⟨hjb, e3⟩)
  ·obtain ⟨i, hi, hb⟩ := h
   have key : ∀ j, j < n + 1 → T.testBit j = true → j = n := fun j hj hjb => by
    rcases Nat.lt_or_ge j n with h3 | h3
    ·exact absurd ⟨j, h3, hjb⟩ h1
    ·omega
   refine ⟨i, hi, hb, fun j hj hjb => ?_⟩
   rw [key i hi hb, key j hj hjb]
   exact Nat.le_refl _
theorem wS_closed {N M : Nat} {v : Nat → Nat} (hv : ∀ i, i < N → v i < M) : ∀ f T, pc N T = f → closedT N v T → wS N (cV N v) T = prodR M fun u => fac (atL N v T u)
 | 0, T, hf, hc => by
  rw [wS_zero hf]
  have h0 : ∀ u, atL N v T u = 0 := fun u => sumR_zero fun i hi => by simp [pc_zero hf hi]
  simp only [h0]
  clear hv
  induction M with
  | zero => rfl
  | succ M ih => rw [prodR, ← ih]; rfl
 | f + 1, T, hf, hc => by
  have hne : ∃ i, i < N ∧ T.testBit i = true := by
   refine Classical.byContradiction fun h => ?_
   have : pc N T = 0 := sumR_zero fun i hi => by
    have : ¬ T.testBit i = true := fun e => h ⟨i, hi, e⟩
    simp [this]
   omega
  obtain ⟨t, ht, htb, htop⟩ := top_of (N := N) (v := v) N hne
  rw [wS_step (by omega)]
  have hterm : ∀ i, i < N → (if (T.testBit i && cV N v (flip T i) i) = true then wS N (cV N v) (flip T i) else 0) = (prodR M fun u => fac (if u = v t then atL N v T u - 1 else atL N v T u)) * (if T.testBit i && decide (v i = v t) then 1 else 0) := by
   intro i hi
   by_cases hb : T.testBit i = true
   ·have hleg : cV N v (flip T i) i = true := decide_eq_true fun j hj hlt => by
     rw [bit_flip, hc i hi hb j hj hlt]
     have : i ≠ j := fun e => by subst e; omega
     simp [this]
    rw [hleg, hb]
    simp only [Bool.and_self, if_true, Bool.true_and, decide_eq_true_eq]
    by_cases e : v i = v t
    ·rw [if_pos e, Nat.mul_one, wS_closed hv f (flip T i) (by have := pc_flip hi hb; omega) (fun x hx hxb y hy hlt => ?_)]
     ·refine prodR_congr fun u hu => ?_
      by_cases e2 : u = v t
      ·rw [if_pos e2, e2, ← e, atL_flip hi hb]; rfl
      ·rw [if_neg e2, atL_other (by rw [e]; exact e2)]
     ·rw [bit_flip] at hxb ⊢
      by_cases e3 : i = x
      ·subst e3; rw [hb] at hxb; simp at hxb
      ·have hxT : T.testBit x = true := by simpa [e3] using hxb
       have h1 := hc x hx hxT y hy hlt
       have h2 := htop x hx hxT
       have e4 : i ≠ y := fun e4 => by subst e4; omega
       simp [h1, e4]
    ·rw [if_neg e, Nat.mul_zero]
     refine wS_open f (flip T i) (by have := pc_flip hi hb; omega) (fun hc2 => ?_)
     have h1 := htop i hi hb
     have e4 : i ≠ t := fun e4 => by subst e4; exact e rfl
     have := hc2 t ht (by rw [bit_flip, htb]; simp [e4]) i hi (by omega)
     rw [bit_flip, hb] at this
     simp at this
   ·simp [hb]
  rw [sumR_congr hterm, sumR_mul]
  show _ * atL N v T (v t) = _
  refine (prodR_at (hv t ht) ?_ (fun u hu hne => ?_)).symm
  ·show fac (atL N v T (v t)) = fac (if v t = v t then atL N v T (v t) - 1 else _) * _
   rw [if_pos rfl]
   have := atL_flip (v := v) ht htb
   rw [this, Nat.add_sub_cancel, fac, Nat.mul_comm]
  ·show fac (atL N v T u) = fac (if u = v t then _ else atL N v T u)
   rw [if_neg hne]
def linP (v : Nat → Nat) : Nat → Nat
 | 0 => 1
 | n + 1 => linP v n * (1 + sumR n fun i => if v i = v n then 1 else 0)
theorem linP_fac {M : Nat} {v : Nat → Nat} : ∀ N, (∀ i, i < N → v i < M) → linP v N = prodR M fun u => fac (sumR N fun i => if v i = u then 1 else 0)
 | 0, _ => by
  show 1 = prodR M fun u => fac 0
  induction M with
  | zero => rfl
  | succ M ih => rw [prodR, ← ih (fun i hi => by omega)]; rfl
 | N + 1, h => by
  rw [linP, linP_fac N (fun i hi => h i (by omega))]
  refine (prodR_at (h N (by omega)) ?_ (fun u hu hne => ?_)).symm
  ·show fac (sumR (N + 1) fun i => if v i = v N then 1 else 0) = fac (sumR N fun i => if v i = v N then 1 else 0) * _
   rw [sumR, if_pos rfl, fac, Nat.mul_comm, Nat.add_comm 1]
  ·show fac (sumR (N + 1) fun i => if v i = u then 1 else 0) = _
   rw [sumR, if_neg (fun e => hne e.symm), Nat.add_zero]
theorem wS_weak {N M : Nat} {v : Nat → Nat} (hv : ∀ i, i < N → v i < M) : wS N (cV N v) (2 ^ N - 1) = linP v N := by
 have hb : ∀ i, i < N → (2 ^ N - 1).testBit i = true := fun i hi => by rw [Nat.testBit_two_pow_sub_one]; exact decide_eq_true hi
 rw [wS_closed hv _ _ rfl (fun _ _ _ j hj _ => hb j hj), linP_fac N hv]
 refine prodR_congr fun u _ => ?_
 congr 1
 refine sumR_congr fun i hi => ?_
 rw [hb i hi]
 simp
end Go.Proofs.YtfpicdkanmgdoaaDoor.Pure
