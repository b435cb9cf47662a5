import Derived.Test.YtgbdjchdfcodcaaDoorBFnRefinements26
import Derived.Test.YtgbdjchdfcodcaaDoorBFnRefinements31
namespace Go.Proofs.YtgbdjchdfcodcaaDoor.Pure
open Go.RowKit Go.Proofs.YtgbdjchdfcodcaaDoor.Q Go.Proofs.YtgbdjchdfcodcaaDoorW.PrintWords Go.Proofs.YtgbdjchdfcodcaaDoorW.PrintLast
set_option linter.unusedVariables false
set_option linter.unusedSimpArgs false
theorem notNaN (x : Int) : slices_isNaN_int.f x = some false := by simp [slices_isNaN_int.f]
theorem less_f (x y : Int) : cmp_Less_int.f x y = some (decide (x < y)) := by simp [cmp_Less_int.f, cmp_isNaN_int.f]
theorem search_l (D : List Int) (x : Int) (h : D.Pairwise (· < ·)) (hD : D.length ≤ 1048576) (d : Nat) : ∀ (i j : Nat), j - i ≤ d → i ≤ j → j ≤ D.length → (∀ m : Nat, m < i → rd D (m : Int) < x) → (∀ m : Nat, j ≤ m → m < D.length → x ≤ rd D (m : Int)) →
  ∃ b, Ev (fun k => slices_BinarySearch_int_int.l0 k D x (D.length : Int) i j) (low D x, b) := by
 have fin : ∀ i : Nat, i ≤ D.length → (∀ m : Nat, m < i → rd D (m : Int) < x) → (∀ m : Nat, i ≤ m → m < D.length → x ≤ rd D (m : Int)) → ∃ b, Ev (fun k => slices_BinarySearch_int_int.l0 k D x (D.length : Int) i i) (low D x, b) := by
  intro i hi h1 h2
  have hl := low_split i hi h1 h2
  by_cases hc : i < D.length
  ·by_cases he : rd D (i : Int) = x
   ·refine ⟨true, Ev.shift ?_⟩
    simp only [slices_BinarySearch_int_int.l0]
    exact Ev.neg (by omega) (Ev.pos (by omega) (Ev.pos (by omega) (Ev.pos (by omega) (Ev.pos he (Ev.ret (by rw [hl]))))))
   ·refine ⟨false, Ev.shift ?_⟩
    simp only [slices_BinarySearch_int_int.l0]
    exact Ev.neg (by omega) (Ev.pos (by omega) (Ev.pos (by omega) (Ev.pos (by omega) (Ev.neg he (Ev.bindc (notNaN _) (Ev.neg (by simp) (Ev.ret (by rw [hl]))))))))
  ·refine ⟨false, Ev.shift ?_⟩
   simp only [slices_BinarySearch_int_int.l0]
   exact Ev.neg (by omega) (Ev.neg (by omega) (Ev.ret (by rw [hl])))
 induction d with
 | zero =>
  intro i j hd hij hj h1 h2
  obtain rfl : i = j := by omega
  exact fin i hj h1 h2
 | succ d ih =>
  intro i j hd hij hj h1 h2
  by_cases hc : i < j
  ·have em : wrap64 ((IntKind.u64.wrap (wrap64 ((i : Int) + (j : Int)))) / 2) = (((i + j) / 2 : Nat) : Int) := by
    rw [wrap64_id (x := (i : Int) + (j : Int)) (by omega) (by omega)]
    have e : IntKind.u64.wrap ((i : Int) + (j : Int)) = (i : Int) + (j : Int) := by
     simp [IntKind.wrap, IntKind.signed, IntKind.bits]; omega
    rw [e, wrap64_id (by omega) (by omega)]; omega
   have hm : (i + j) / 2 < j := by omega
   by_cases hlt : rd D (((i + j) / 2 : Nat) : Int) < x
   ·obtain ⟨b, hb⟩ := ih ((i + j) / 2 + 1) j (by omega) (by omega) hj (fun m hm' => by
     by_cases e : m = (i + j) / 2
     ·subst e; exact hlt
     ·have := rising_rd h (show m < (i + j) / 2 by omega) (by omega); omega) h2
    refine ⟨b, Ev.shift ?_⟩
    simp only [slices_BinarySearch_int_int.l0]
    rw [em]
    refine Ev.pos (by omega) (Ev.pos (by omega) (Ev.pos (by omega) (Ev.bindc (less_f _ _) (Ev.pos (by simpa using hlt) ?_))))
    rw [wrap64_id (by omega) (by omega), cast1]
    exact hb
   ·obtain ⟨b, hb⟩ := ih i ((i + j) / 2) (by omega) (by omega) (by omega) h1 (fun m hm1 hm2 => by
     by_cases e : (i + j) / 2 = m
     ·subst e; omega
     ·have := rising_rd h (show (i + j) / 2 < m by omega) hm2; omega)
    refine ⟨b, Ev.shift ?_⟩
    simp only [slices_BinarySearch_int_int.l0]
    rw [em]
    exact Ev.pos (by omega) (Ev.pos (by omega) (Ev.pos (by omega) (Ev.bindc (less_f _ _) (Ev.neg (by simpa using hlt) hb))))
  ·obtain rfl : i = j := by omega
   exact fin i hj h1 h2
theorem search_ev (D : List Int) (x : Int) (h : D.Pairwise (· < ·)) (hD : D.length ≤ 1048576) : ∃ b, Ev (fun k => slices_BinarySearch_int_int.f k D x) (low D x, b) := by
 unfold slices_BinarySearch_int_int.f
 exact search_l D x h hD D.length 0 D.length (by omega) (by omega) (by omega) (fun m hm => by omega) (fun m h1 h2 => by omega)
theorem leveled_l (l D : List Int) (h : D.Pairwise (· < ·)) (hD : D.length ≤ 1048576) (hl : l.length ≤ 1048576) (d : Nat) : ∀ (i : Nat), i + d = l.length → Ev (fun k => impl_leveled.l0 k ((l.take i).map (low D)) D l (l.length : Int) i) (l.map (low D)) := by
 induction d with
 | zero =>
  intro i hi
  refine Ev.shift ?_
  simp only [impl_leveled.l0]
  exact Ev.neg (by omega) (Ev.ret (by rw [List.take_of_length_le (by omega)]))
 | succ d ih =>
  intro i hi
  obtain ⟨b, hb⟩ := search_ev D (rd l (i : Int)) h hD
  refine Ev.shift ?_
  simp only [impl_leveled.l0]
  refine Ev.pos (by omega) (Ev.pos (by omega) (Ev.pos (by omega) (Ev.bind hb (Ev.pos (by simp; omega) ?_))))
  rw [wrap64_id (by omega) (by omega), cast1]
  have := ih (i + 1) (by omega)
  rw [List.take_succ_eq_append_getElem (by omega), List.map_append, ← rd_lt l i (by omega)] at this
  exact this
theorem leveled_ev (l : List Int) (hl : l.length ≤ 1048576) : Ev (fun k => impl_leveled.f k l) (lev l) := by
 unfold impl_leveled.f
 have hd := dif_length l
 exact Ev.bindc (different_f l hl) (leveled_l l (dif l) (dif_sorted l) (by omega) hl l.length 0 (by omega))
theorem refine_zip (c : Int) (l m : List Int) (he : l.length = m.length) (i : Nat) (h : i < l.length) : (List.zipWith (fun x y => c * x + y) (l.take (i + 1)) (m.take (i + 1))) = List.zipWith (fun x y => c * x + y) (l.take i) (m.take i) ++ [c * rd l (i : Int) + rd m (i : Int)] := by
 rw [List.take_succ_eq_append_getElem h, List.take_succ_eq_append_getElem (by omega), List.zipWith_append (by simp; omega), rd_lt l i h, rd_lt m i (by omega)]
 rfl
theorem refine_spec (l m : List Int) (hl : l.length ≤ 10) (he : l.length = m.length) (hb : ∀ x ∈ l, 0 ≤ x ∧ x ≤ 10) (hc : ∀ x ∈ m, 0 ≤ x ∧ x ≤ 10) (d : Nat) : ∀ i : Nat, i + d = l.length → Ev (fun k => spec_RefineLevels.l0 k m (List.zipWith (fun x y => 100 * x + y) (l.take i) (m.take i)) l (l.length : Int) i) (lev (List.zipWith (fun x y => 100 * x + y) l m), true) := by
 induction d with
 | zero =>
  intro i hi
  refine Ev.shift ?_
  simp only [spec_RefineLevels.l0]
  exact Ev.neg (by omega) (Ev.bind (ofNumbers_ev _ (by simp; omega)) (Ev.ret (by rw [List.take_of_length_le (by omega), List.take_of_length_le (by omega)])))
 | succ d ih =>
  intro i hi
  have hx := hb (rd l (i : Int)) (by rw [rd_lt l i (by omega)]; exact List.getElem_mem _)
  have hy := hc (rd m (i : Int)) (by rw [rd_lt m i (by omega)]; exact List.getElem_mem _)
  refine Ev.shift ?_
  simp only [spec_RefineLevels.l0]
  refine Ev.pos (by omega) (Ev.pos (by omega) (Ev.pos (by omega) (Ev.pos (by omega) (Ev.pos (by simp; omega) ?_))))
  rw [wrap64_id (x := (i : Int) + 1) (by omega) (by omega), wrap64_id (x := 100 * rd l (i : Int)) (by omega) (by omega), wrap64_id (x := 100 * rd l (i : Int) + rd m (i : Int)) (by omega) (by omega), cast1]
  have := ih (i + 1) (by omega)
  rw [refine_zip 100 l m he i (by omega)] at this
  exact this
theorem refine_impl (l m : List Int) (hl : l.length ≤ 10) (he : l.length = m.length) (hb : ∀ x ∈ l, 0 ≤ x ∧ x ≤ 10) (hc : ∀ x ∈ m, 0 ≤ x ∧ x ≤ 10) (d : Nat) : ∀ i : Nat, i + d = l.length → Ev (fun k => impl_RefineLevels.l0 k m (List.zipWith (fun x y => 11 * x + y) (l.take i) (m.take i)) l (l.length : Int) i) (lev (List.zipWith (fun x y => 11 * x + y) l m), true) := by
 induction d with
 | zero =>
  intro i hi
  refine Ev.shift ?_
  simp only [impl_RefineLevels.l0]
  exact Ev.neg (by omega) (Ev.bind (leveled_ev _ (by simp; omega)) (Ev.ret (by rw [List.take_of_length_le (by omega), List.take_of_length_le (by omega)])))
 | succ d ih =>
  intro i hi
  have hx := hb (rd l (i : Int)) (by rw [rd_lt l i (by omega)]; exact List.getElem_mem _)
  have hy := hc (rd m (i : Int)) (by rw [rd_lt m i (by omega)]; exact List.getElem_mem _)
  refine Ev.shift ?_
  simp only [impl_RefineLevels.l0]
  refine Ev.pos (by omega) (Ev.pos (by omega) (Ev.pos (by omega) (Ev.pos (by omega) (Ev.pos (by simp; omega) ?_))))
  rw [Int.mul_comm, wrap64_id (x := (i : Int) + 1) (by omega) (by omega), wrap64_id (x := 11 * rd l (i : Int)) (by omega) (by omega), wrap64_id (x := 11 * rd l (i : Int) + rd m (i : Int)) (by omega) (by omega), cast1]
  have := ih (i + 1) (by omega)
  rw [refine_zip 11 l m he i (by omega)] at this
  exact this
theorem zip_mem {l m : List Int} {f : Int → Int → Int} {v : Int} (h : v ∈ List.zipWith f l m) : ∃ x ∈ l, ∃ y ∈ m, v = f x y := by
 obtain ⟨i, hi, rfl⟩ := List.mem_iff_getElem.1 h
 rw [List.length_zipWith] at hi
 exact ⟨l[i], List.getElem_mem _, m[i], List.getElem_mem _, by simp⟩
theorem zip_lev (l m : List Int) (hb : ∀ x ∈ l, 0 ≤ x ∧ x ≤ 10) (hc : ∀ x ∈ m, 0 ≤ x ∧ x ≤ 10) : lev (List.zipWith (fun x y => 100 * x + y) l m) = lev (List.zipWith (fun x y => 11 * x + y) l m) := by
 rw [← lev_map (List.zipWith (fun x y => 11 * x + y) l m) (fun v => 100 * (v / 11) + v % 11) (by
  intro x _ y _ h; omega), List.map_zipWith]
 congr 1
 apply List.ext_getElem (by simp)
 intro i h1 h2
 rw [List.getElem_zipWith, List.getElem_zipWith]
 rw [List.length_zipWith] at h1
 have := hb l[i] (List.getElem_mem _)
 have := hc m[i] (List.getElem_mem _)
 omega
theorem RefineLevels_both (l m : List Int) (hl : l.length ≤ 1048576) (hm : m.length ≤ 1048576) : ∃ r, Ev (fun k => impl_RefineLevels.f k l m) r ∧ Ev (fun k => spec_RefineLevels.f k l m) r ∧ r.1.length ≤ 1000 := by
 have hno : Ev (fun k => impl_RefineLevels.j0 k l m true) ([], false) ∧ Ev (fun k => spec_RefineLevels.j0 k l m true) ([], false) := by
  constructor
  ·refine Ev.shift ?_
   simp only [impl_RefineLevels.j0]
   exact Ev.pos trivial (Ev.ret rfl)
  ·refine Ev.shift ?_
   simp only [spec_RefineLevels.j0]
   exact Ev.pos trivial (Ev.ret rfl)
 unfold impl_RefineLevels.f spec_RefineLevels.f
 by_cases h : lvlP l
 ·by_cases h' : lvlP m
  ·by_cases he : l.length = m.length
   ·refine ⟨(lev (List.zipWith (fun x y => 11 * x + y) l m), true), ?_, ?_, by simp [lev]; have := h.1; omega⟩
    ·refine Ev.bind (levels_impl l hl) (Ev.pos (by simpa using h) (Ev.bind (levels_impl m hm) (Ev.pos (by simpa using h') (Ev.shift ?_))))
     simp only [impl_RefineLevels.j0]
     exact Ev.neg (by simp [he]) (refine_impl l m h.1 he h.2.1 h'.2.1 l.length 0 (by omega))
    ·refine Ev.bind (levels_spec l hl) (Ev.pos (by simpa using h) (Ev.bind (levels_spec m hm) (Ev.pos (by simpa using h') (Ev.shift ?_))))
     simp only [spec_RefineLevels.j0]
     exact Ev.neg (by simp [he]) (Ev.eq (refine_spec l m h.1 he h.2.1 h'.2.1 l.length 0 (by omega)) (by rw [zip_lev l m h.2.1 h'.2.1]))
   ·refine ⟨([], false), ?_, ?_, by simp⟩
    ·refine Ev.bind (levels_impl l hl) (Ev.pos (by simpa using h) (Ev.bind (levels_impl m hm) (Ev.pos (by simpa using h') (Ev.shift ?_))))
     simp only [impl_RefineLevels.j0]
     exact Ev.pos (by simp; omega) (Ev.ret rfl)
    ·refine Ev.bind (levels_spec l hl) (Ev.pos (by simpa using h) (Ev.bind (levels_spec m hm) (Ev.pos (by simpa using h') (Ev.shift ?_))))
     simp only [spec_RefineLevels.j0]
     exact Ev.pos (by simp; omega) (Ev.ret rfl)
  ·refine ⟨([], false), ?_, ?_, by simp⟩
   ·exact Ev.bind (levels_impl l hl) (Ev.pos (by simpa using h) (Ev.bind (levels_impl m hm) (Ev.neg (by simpa using h') hno.1)))
   ·exact Ev.bind (levels_spec l hl) (Ev.pos (by simpa using h) (Ev.bind (levels_spec m hm) (Ev.neg (by simpa using h') hno.2)))
 ·refine ⟨([], false), ?_, ?_, by simp⟩
  ·exact Ev.bind (levels_impl l hl) (Ev.neg (by simpa using h) hno.1)
  ·exact Ev.bind (levels_spec l hl) (Ev.neg (by simpa using h) hno.2)
-- the statements' own comparisons
theorem vSame_l (l m : List Int) (hlm : l.length = m.length) (hl : l.length ≤ 1048576) (d : Nat) : ∀ i : Nat, i + d = l.length → Ev (fun k => laws_vSame.l0 k l m (l.length : Int) (i : Int)) (l.drop i == m.drop i) := by
 induction d with
 | zero =>
  intro i hi
  refine Ev.shift ?_
  simp only [laws_vSame.l0]
  refine Ev.neg (by omega) (Ev.ret ?_)
  rw [List.drop_of_length_le (by omega), List.drop_of_length_le (by omega)]; rfl
 | succ d ih =>
  intro i hi
  have e := ih (i + 1) (by omega)
  have f1 : (i : Int) < l.length := by omega
  have f2 : (i : Int) < m.length := by omega
  refine Ev.shift ?_
  simp only [laws_vSame.l0]
  refine Ev.pos f1 (Ev.pos (by omega) (Ev.pos f1 (Ev.pos f2 ?_)))
  rw [wrap64_id (by omega) (by omega), cast1, drop_rd l i (by omega), drop_rd m i (by omega)]
  by_cases hc : rd l (i : Int) = rd m (i : Int)
  ·refine Ev.pos hc (Ev.eq e ?_)
   rw [hc]; simp
  ·refine Ev.neg hc (Ev.ret ?_)
   symm; rw [beq_eq_false_iff_ne]; intro h; exact hc (List.cons.inj h).1
theorem vSame_ev (l m : List Int) (hl : l.length ≤ 1048576) : Ev (fun k => laws_vSame.f k l m) (l == m) := by
 unfold laws_vSame.f
 by_cases h : (l.length : Int) = m.length
 ·refine Ev.pos h ?_
  simpa using vSame_l l m (by omega) hl l.length 0 (by omega)
 ·refine Ev.neg h (Ev.ret ?_)
  symm; rw [beq_eq_false_iff_ne]; intro e; exact h (by rw [e])
theorem vOrder_ev (n : Int) (l : List Int) (n' : Int) (m : List Int) (hl : l.length ≤ 1048576) : Ev (fun k => laws_vOrder.f k n l n' m) (decide (n = n') && (l == m)) := by
 unfold laws_vOrder.f
 by_cases h : n = n'
 ·exact Ev.pos h (Ev.bind (vSame_ev l m hl) (Ev.ret (by simp [h])))
 ·exact Ev.neg h (Ev.ret (by simp [h]))
theorem vOrder_self (n : Int) (l : List Int) (hl : l.length ≤ 1048576) : Ev (fun k => laws_vOrder.f k n l n l) true := Ev.eq (vOrder_ev n l n l hl) (by simp)
end Go.Proofs.YtgbdjchdfcodcaaDoor.Pure
/- Levels refined by others refine them, a meet is refined by both, and an order refines another one exactly if their meet is the other one, for every two strings of bytes. Condition: the listed variables, tied to the program's text by the card. -/
namespace Go.Proofs.YtgbdjchdfcodcaaDoor.Pure
open Go.RowKit Go.Proofs.YtgbdjchdfcodcaaDoor.Q Go.Proofs.YtgbdjchdfcodcaaDoorW.PrintWords Go.Proofs.YtgbdjchdfcodcaaDoorW.PrintLast
set_option linter.unusedVariables false
set_option linter.unusedSimpArgs false
/-- levels that numbers tell are levels, and rise where the numbers do -/
theorem lev_lvl (l : List Int) (hl : l.length ≤ 10) : lvlP (lev l) := by
 have hd : (dif l).length ≤ 10 := by have := dif_length l; omega
 refine ⟨by rw [lev_length]; exact hl, fun x hx => ?_, fun x hx hp => ?_⟩
 ·obtain ⟨y, hy, rfl⟩ := List.mem_map.1 hx
  have := low_range (dif l) y
  omega
 ·obtain ⟨y, hy, rfl⟩ := List.mem_map.1 hx
  have hr := low_range (dif l) y
  obtain ⟨p, hp2⟩ : ∃ p : Nat, low (dif l) y = p + 1 := ⟨(low (dif l) y - 1).toNat, by omega⟩
  have hpl : p < (dif l).length := by omega
  refine List.mem_map.2 ⟨rd (dif l) (p : Int), ?_, ?_⟩
  ·rw [← mem_dif, rd_lt _ p hpl]; exact List.getElem_mem _
  ·rw [low_get (dif_sorted l) p hpl, hp2]; omega
theorem low_mono {D : List Int} (hD : D.Pairwise (· < ·)) {x y : Int} (hx : x ∈ D) (hxy : x < y) : low D x < low D y := by
 obtain ⟨p, hp, rfl⟩ := List.mem_iff_getElem.1 hx
 have e := low_get hD p hp
 rw [rd_lt D p hp] at e
 rw [e]
 refine Classical.byContradiction fun hno => ?_
 -- all of the first p + 1 elements are below y
 have : ((p + 1 : Nat) : Int) ≤ low D y := by
  unfold low
  have hs : (D.take (p + 1)).Sublist D := List.take_sublist _ _
  have h2 : (D.take (p + 1)).filter (fun z => decide (z < y)) = D.take (p + 1) := by
   rw [List.filter_eq_self]
   intro z hz
   obtain ⟨q, hq, rfl⟩ := List.mem_iff_getElem.1 hz
   rw [List.length_take] at hq
   rw [List.getElem_take]
   by_cases e : q = p
   ·subst e; simpa using hxy
   ·have := List.pairwise_iff_getElem.1 hD q p (by omega) hp (by omega)
    simp; omega
  have h3 := (hs.filter (fun z => decide (z < y))).length_le
  rw [h2, List.length_take] at h3
  omega
 omega
theorem iOrderOfLevels_yes {l : List Int} (h : lvlP l) : Ev (fun k => impl_OrderOfLevels.f k l) ((l.length : Int), rel (lvlLt l) l.length, true) := by
 have := h.1
 unfold impl_OrderOfLevels.f
 exact Ev.bind (levels_impl l (by omega)) (Ev.pos (by simpa using h) (Ev.bind (ofLevels_ev l (by omega)) (Ev.ret rfl)))
theorem lvl_order {l : List Int} (h : l.length ≤ 10) : orderP (l.length : Int) (rel (lvlLt l) l.length) := by
 have hr := rel_relP (n := (l.length : Int)) rfl h (lvlLt l)
 have hlt : ∀ {i j : Nat}, i < l.length → j < l.length → lt (rel (lvlLt l) l.length) i j = lvlLt l i j := fun {i j} hi hj => by rw [rel_lt h hi]; simp [hj]
 refine orderP_of hr (fun i hi => ?_) (fun i j q hi hj a b => ?_)
 ·rw [rel_length] at hi
  rw [hlt hi hi]; unfold lvlLt; simp
 ·have hq := hr.lt_len hj b
  rw [rel_length] at hi hj hq
  rw [hlt hi hj] at a
  rw [hlt hj hq] at b
  rw [hlt hi hq]
  unfold lvlLt at a b ⊢
  simp at a b ⊢; omega
theorem zip_rd {l m : List Int} (he : l.length = m.length) {i : Nat} (hi : i < l.length) : rd (List.zipWith (fun x y => 11 * x + y) l m) (i : Int) = 11 * rd l (i : Int) + rd m (i : Int) := by
 rw [rd_lt _ i (by simp; omega), rd_lt l i hi, rd_lt m i (by omega)]; simp
theorem refine_fine {l m : List Int} (h1 : lvlP l) (h2 : lvlP m) (he : l.length = m.length) : refP (rel (lvlLt (lev (List.zipWith (fun x y => 11 * x + y) l m))) l.length) (rel (lvlLt l) l.length) 0 := by
 have h10 := h1.1
 generalize hz : List.zipWith (fun x y => 11 * x + y) l m = z
 have hzl : z.length = l.length := by rw [← hz]; simp; omega
 have hlev : (lev z).length = l.length := by rw [lev_length, hzl]
 have r1 := rel_relP (n := (l.length : Int)) rfl h10 (lvlLt (lev z))
 have r2 := rel_relP (n := (l.length : Int)) rfl h10 (lvlLt l)
 refine (refP_iff r1 r2).2 fun i j hi hj hb => ?_
 rw [rel_length] at hi hj
 rw [rel_lt h10 hi] at hb ⊢
 simp only [hj, decide_true, Bool.true_and] at hb ⊢
 unfold lvlLt at hb ⊢
 simp only [decide_eq_true_eq] at hb ⊢
 have ei : ∀ q : Nat, q < l.length → rd (lev z) (q : Int) = low (dif z) (rd z (q : Int)) := fun q hq => by
  rw [rd_lt _ q (by omega), rd_lt z q (by omega)]; simp [lev]
 rw [ei i hi, ei j hj]
 refine low_mono (dif_sorted z) (mem_dif.2 (by rw [rd_lt z i (by omega)]; exact List.getElem_mem _)) ?_
 rw [← hz, zip_rd he hi, zip_rd he hj]
 have b1 := h2.2.1 (rd m (i : Int)) (by rw [rd_lt m i (by omega)]; exact List.getElem_mem _)
 have b2 := h2.2.1 (rd m (j : Int)) (by rw [rd_lt m j (by omega)]; exact List.getElem_mem _)
 omega
theorem iRefineLevels_yes {l m : List Int} (h : lvlP l) (h' : lvlP m) (he : l.length = m.length) : Ev (fun k => impl_RefineLevels.f k l m) (lev (List.zipWith (fun x y => 11 * x + y) l m), true) := by
 have := h.1; have := h'.1
 unfold impl_RefineLevels.f
 refine Ev.bind (levels_impl l (by omega)) (Ev.pos (by simpa using h) (Ev.bind (levels_impl m (by omega)) (Ev.pos (by simpa using h') (Ev.shift ?_))))
 simp only [impl_RefineLevels.j0]
 exact Ev.neg (by simp [he]) (refine_impl l m h.1 he h.2.1 h'.2.1 l.length 0 (by omega))
theorem iRefineLevels_no {l m : List Int} (hl : l.length ≤ 1048576) (hm : m.length ≤ 1048576) (h : ¬ (lvlP l ∧ lvlP m ∧ l.length = m.length)) : Ev (fun k => impl_RefineLevels.f k l m) ([], false) := by
 have hno : Ev (fun k => impl_RefineLevels.j0 k l m true) ([], false) := by
  refine Ev.shift ?_
  simp only [impl_RefineLevels.j0]
  exact Ev.pos trivial (Ev.ret rfl)
 unfold impl_RefineLevels.f
 by_cases h1 : lvlP l
 ·refine Ev.bind (levels_impl l hl) (Ev.pos (by simpa using h1) (Ev.bind (levels_impl m hm) ?_))
  by_cases h2 : lvlP m
  ·refine Ev.pos (by simpa using h2) ?_
   have hne : ¬ (l.length : Int) = (m.length : Int) := fun e => h ⟨h1, h2, by omega⟩
   rw [show ((l.length : Int) != (m.length : Int)) = true by simpa using hne]
   exact hno
  ·exact Ev.neg (by simpa using h2) hno
 ·exact Ev.bind (levels_impl l hl) (Ev.neg (by simpa using h1) hno)
theorem refTail (l1 : List Int) (hb : bytesP l1) : Ev (fun k => laws_FnRefinements.j1 k l1) true := by
 obtain ⟨x, y, hd, hx, hy⟩ := drawRefine hb
 obtain ⟨r, hi, hs, hr⟩ := RefineLevels_both x y (by omega) (by omega)
 refine Ev.shift ?_
 simp only [laws_FnRefinements.j1]
 refine Ev.bind hd (Ev.bind hi (Ev.bind hs (Ev.neg (by simp) (Ev.bind (vSame_ev r.1 r.1 (by omega)) (Ev.shift ?_)))))
 simp only [laws_FnRefinements.j2]
 refine Ev.neg (by simp) ?_
 by_cases h : lvlP x ∧ lvlP y ∧ x.length = y.length
 ·obtain ⟨h1, h2, he⟩ := h
  have e := Ev.uniq hi (iRefineLevels_yes h1 h2 he)
  subst e
  have hzl : (List.zipWith (fun x y => 11 * x + y) x y).length = x.length := by simp; omega
  have hll : (lev (List.zipWith (fun x y => 11 * x + y) x y)).length = x.length := by rw [lev_length, hzl]
  have hlv := lev_lvl (List.zipWith (fun x y => 11 * x + y) x y) (by rw [hzl]; exact h1.1)
  have ho := iOrderOfLevels_yes hlv
  rw [hll] at ho
  have o1 := lvl_order (l := lev (List.zipWith (fun x y => 11 * x + y) x y)) (by rw [hll]; exact h1.1)
  rw [hll] at o1
  have hrf := iRefine_yes o1 (lvl_order h1.1)
  rw [decide_eq_true (refine_fine h1 h2 he)] at hrf
  exact Ev.pos rfl (Ev.bind ho (Ev.bind (iOrderOfLevels_yes h1) (Ev.bind hrf (Ev.pos rfl (Ev.pos rfl (Ev.pos rfl (Ev.ret rfl)))))))
 ·have e := Ev.uniq hi (iRefineLevels_no (by omega) (by omega) h)
  subst e
  exact Ev.neg (by simp) (Ev.ret rfl)
theorem FnRefinements (l0 : List Int) (hm0 : l0.length ≤ maxLen) (hw0 : ∀ x ∈ l0, (Lit.int .u8 x).wf = true) (l1 : List Int) (hm1 : l1.length ≤ maxLen) (hw1 : ∀ x ∈ l1, (Lit.int .u8 x).wf = true) : ∃ k, laws_FnRefinements.f k l0 l1 = some true := by
 refine Ev.at1 ?_
 unfold laws_FnRefinements.f
 obtain ⟨b, hb⟩ := big_f l0 l1 hm0
 refine Ev.bindc hb ?_
 by_cases hbt : b = true
 ·exact Ev.pos hbt (Ev.ret rfl)
 refine Ev.neg hbt ?_
 obtain ⟨n, L, m, M, a, s, he, hL, hM⟩ := both_d (bytesP.of hw0)
 have hd : Ev (fun k => spec_DrawMeetOrders.f k l0) (n, L, m, M) := by
  have : Ev (fun k => spec_DrawDoesRefine.f k l0) (n, L, m, M) := by
   unfold spec_DrawDoesRefine.f
   exact Ev.bind he (Ev.ret rfl)
  unfold spec_DrawMeetOrders.f
  exact Ev.bind this (Ev.ret rfl)
 have ht := refTail l1 (bytesP.of hw1)
 refine Ev.bind hd ?_
 by_cases h : orderP n L ∧ orderP m M ∧ n = m
 ·obtain ⟨h1, h2, rfl⟩ := h
  have hmo := mt_order h1 h2
  have hml : (mt L M).length ≤ 1048576 := by rw [mt_length]; omega
  have ra : refP L (mt L M) 0 := (refP_iff h1.1 hmo.1).2 fun i j hi hj hb => by
   rw [mt_length] at hi hj
   rw [mt_lt h1.1 hi hj, Bool.and_eq_true] at hb; exact hb.1
  have rb : refP M (mt L M) 0 := (refP_iff h2.1 hmo.1).2 fun i j hi hj hb => by
   rw [mt_length] at hi hj
   rw [mt_lt h1.1 hi hj, Bool.and_eq_true] at hb; exact hb.2
  have ia := iRefine_yes h1 hmo
  have ib := iRefine_yes h2 hmo
  rw [decide_eq_true ra] at ia
  rw [decide_eq_true rb] at ib
  refine Ev.bind (iMeet_yes h1 h2) (Ev.bind (sMeet_yes h1 h2) (Ev.bind (iRefine_yes h1 h2) (Ev.bind (sRefine_yes h1 h2) (Ev.neg (by simp) (Ev.bind (vOrder_self n (mt L M) hml) (Ev.pos rfl (Ev.neg (by simp) (Ev.neg (by simp) (Ev.shift ?_)))))))))
  simp only [laws_FnRefinements.j0]
  refine Ev.neg (by simp) (Ev.pos (by simp) (Ev.bind ia (Ev.bind ib (Ev.bind (isOrder_ev n (mt L M) hml) (Ev.pos (by simpa using hmo) (Ev.pos rfl (Ev.pos rfl (Ev.pos rfl (Ev.pos rfl (Ev.bind (vOrder_ev n (mt L M) n M hml) (Ev.neg ?_ ht)))))))))))
  have e : decide (refP L M 0) = (decide (n = n) && (mt L M == M)) := by
   rw [Bool.eq_iff_iff, decide_eq_true_iff, mt_eq h1.1 h2.1]; simp
  rw [e]; simp
 ·refine Ev.bind (iMeet_no (show L.length ≤ 1048576 by omega) (show M.length ≤ 1048576 by omega) h) (Ev.bind (sMeet_no (show L.length ≤ 1048576 by omega) (show M.length ≤ 1048576 by omega) h) (Ev.bind (iRefine_no (show L.length ≤ 1048576 by omega) (show M.length ≤ 1048576 by omega) h) (Ev.bind (sRefine_no (show L.length ≤ 1048576 by omega) (show M.length ≤ 1048576 by omega) h) (Ev.neg (by simp) (Ev.bind (vOrder_self 0 [] (by simp)) (Ev.pos rfl (Ev.neg (by simp) (Ev.neg (by simp) (Ev.shift ?_)))))))))
  simp only [laws_FnRefinements.j0]
  exact Ev.neg (by simp) (Ev.neg (by simp) ht)
end Go.Proofs.YtgbdjchdfcodcaaDoor.Pure
