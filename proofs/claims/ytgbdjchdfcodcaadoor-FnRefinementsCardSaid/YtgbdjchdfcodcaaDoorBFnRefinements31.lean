import Derived.Test.YtgbdjchdfcodcaaDoorBFnRefinements18
import Derived.Test.YtgbdjchdfcodcaaDoorBFnRefinements19
import Derived.Test.YtgbdjchdfcodcaaDoorBFnRefinements25
import Derived.Test.YtgbdjchdfcodcaaDoorBFnRefinements30
namespace Go.Proofs.YtgbdjchdfcodcaaDoor.Pure
open Go.RowKit Go.Proofs.YtgbdjchdfcodcaaDoor.Q Go.Proofs.YtgbdjchdfcodcaaDoorW.PrintWords Go.Proofs.YtgbdjchdfcodcaaDoorW.PrintLast
set_option linter.unusedVariables false
set_option linter.unusedSimpArgs false
/-- below in the order of levels: at a greater level -/
def lvlLt (l : List Int) (i j : Nat) : Bool := decide (rd l (j : Int) > rd l (i : Int))
theorem ofLevels_ev (l : List Int) (hl : l.length ≤ 1000) : Ev (fun k => impl_ofLevels.f k l) ((l.length : Int), rel (lvlLt l) l.length) := by
 unfold impl_ofLevels.f
 refine Ev.bind (relation_ev (lvlLt l) l.length hl (fun _ u0_ u1_ => impl_ofLevels_1.f u0_ u1_ l) (fun i j hi hj => ?_)) (Ev.ret rfl)
 refine Ev.const ?_
 unfold impl_ofLevels_1.f
 rw [if_pos (by omega), if_pos (by omega), if_pos (by omega), if_pos (by omega)]
 rfl
theorem weOrder_l1 (l : List Int) (hl : l.length ≤ 1000) (i : Nat) (hi : i < l.length) (y : List Int) (hy : y.length = i) (R : Int × List Int) (hR : Ev (fun k => spec_weOrder.l0 k l l (l.length : Int) ((i + 1 : Nat) : Int) (l.length : Int) (y ++ [rowf (lvlLt l i) l.length])) R) (d : Nat) :
  ∀ j : Nat, j + d = l.length → Ev (fun k => spec_weOrder.l1 k l (rd l (i : Int)) (rowf (lvlLt l i) j) l (l.length : Int) (i : Int) l (l.length : Int) (j : Int) (l.length : Int) y) R := by
 induction d with
 | zero =>
  intro j hj
  obtain rfl : j = l.length := by omega
  refine Ev.shift ?_
  simp only [spec_weOrder.l1]
  refine Ev.neg (by omega) (Ev.pos (by omega) ?_)
  rw [wrap64_id (x := (i : Int) + 1) (by omega) (by omega), cast1]
  exact hR
 | succ d ih =>
  intro j hj
  have := ih (j + 1) (by omega)
  rw [rowf_succ] at this
  refine Ev.shift ?_
  simp only [spec_weOrder.l1]
  refine Ev.pos (by omega) (Ev.pos (by omega) (Ev.pos (by omega) ?_))
  rw [wrap64_id (x := (j : Int) + 1) (by omega) (by omega), cast1]
  by_cases hc : rd l (j : Int) > rd l (i : Int)
  ·rw [if_pos (by simpa [lvlLt] using hc)] at this
   exact Ev.pos hc this
  ·rw [if_neg (by simpa [lvlLt] using hc)] at this
   exact Ev.neg hc this
theorem weOrder_l0 (l : List Int) (hl : l.length ≤ 1000) (d : Nat) : ∀ i : Nat, i + d = l.length → Ev (fun k => spec_weOrder.l0 k l l (l.length : Int) (i : Int) (l.length : Int) ((rel (lvlLt l) l.length).take i)) ((l.length : Int), rel (lvlLt l) l.length) := by
 induction d with
 | zero =>
  intro i hi
  refine Ev.shift ?_
  simp only [spec_weOrder.l0]
  exact Ev.neg (by omega) (Ev.ret (by rw [List.take_of_length_le (by rw [rel_length]; omega)]))
 | succ d ih =>
  intro i hi
  have := ih (i + 1) (by omega)
  rw [List.take_succ_eq_append_getElem (by rw [rel_length]; omega), ← rd_lt _ i (by rw [rel_length]; omega), rel_get _ _ i (by omega)] at this
  refine Ev.shift ?_
  simp only [spec_weOrder.l0]
  refine Ev.pos (by omega) (Ev.pos (by omega) (Ev.pos (by omega) ?_))
  exact weOrder_l1 l hl i (by omega) _ (by rw [List.length_take, rel_length]; omega) _ this l.length 0 (by omega)
theorem weOrder_ev (l : List Int) (hl : l.length ≤ 1000) : Ev (fun k => spec_weOrder.f k l) ((l.length : Int), rel (lvlLt l) l.length) := by
 unfold spec_weOrder.f
 exact weOrder_l0 l hl l.length 0 (by omega)
-- two drawn orders, one often near the other
def shortW (x : Int × List Int × Int × List Int) : Prop := x.2.1.length ≤ 12 ∧ x.2.2.2.length ≤ 12
def DrB (g : Nat → Option (Int × List Int × Int × List Int × Int × Int)) : Prop := ∃ n L m M a s, Ev g (n, L, m, M, a, s) ∧ L.length ≤ 12 ∧ M.length ≤ 12
theorem both_j1 {c : List Int} (hc : bytesP c) {n : Int} {L : List Int} (h : relP n L) (m : Int) (M : List Int) (hM : M.length = L.length) (a s : Int) (h0 : 0 ≤ a) (h1 : a ≤ 10000) : DrB (fun k => spec_l1Cur_both.j1 k c a s n L m M) := by
 have p1 := h.1; have p2 := h.2.1
 by_cases hg : orderP m M
 ·obtain ⟨b, a1, s1, e1, _, _, _⟩ := one_d hc (a := a) s 2 h0 (by omega) (by omega)
  by_cases hb : b = true
  ·refine ⟨m, M, n, L, a1, s1, Ev.shift ?_, by omega, by omega⟩
   simp only [spec_l1Cur_both.j1]
   exact Ev.bind (orGood_ev m M (by omega)) (Ev.pos (by simpa using hg) (Ev.bindc e1 (Ev.pos hb (Ev.ret rfl))))
  ·refine ⟨n, L, m, M, a1, s1, Ev.shift ?_, by omega, by omega⟩
   simp only [spec_l1Cur_both.j1]
   exact Ev.bind (orGood_ev m M (by omega)) (Ev.pos (by simpa using hg) (Ev.bindc e1 (Ev.neg hb (Ev.ret rfl))))
 ·refine ⟨n, L, n, mir L, a, s, Ev.shift ?_, by omega, by rw [mir_length]; omega⟩
  simp only [spec_l1Cur_both.j1]
  exact Ev.bind (orGood_ev m M (by omega)) (Ev.neg (by simpa using hg) (Ev.bind (orMirror_ev h) (Ev.ret rfl)))
theorem both_j0 {c : List Int} (hc : bytesP c) {n : Int} {L : List Int} (hL : L.length ≤ 12) (b : Bool) (hb : b = false → orderP n L) (a s : Int) (h0 : 0 ≤ a) (h1 : a ≤ 5000) : DrB (fun k => spec_l1Cur_both.j0 k b c a s n L) := by
 cases b with
 | true =>
  obtain ⟨m, M, a1, s1, e1, hm, _, _⟩ := anyOrder_d hc (a := a) s 6 h0 (by omega) ⟨by omega, by omega⟩
  have hM : M.length ≤ 10 := hm.2.1
  refine ⟨n, L, m, M, a1, s1, Ev.shift ?_, hL, by omega⟩
  simp only [spec_l1Cur_both.j0]
  exact Ev.pos (by simp) (Ev.bind e1 (Ev.ret rfl))
 | false =>
  have h := (hb rfl).1
  have p1 := h.1; have p2 := h.2.1
  obtain ⟨w, a1, s1, e1, hw, h2, h3⟩ := pick_d hc (a := a) s 3 h0 (by omega) (by omega)
  by_cases w0 : w = 0
  ·obtain ⟨l, a2, s2, e2, hl, _, _⟩ := levels_d hc (a := a1) s1 n ⟨by omega, by omega⟩ (by omega) (by omega)
   refine ⟨n, L, ((lev l).length : Int), rel (lvlLt (lev l)) (lev l).length, a2, s2, Ev.shift ?_, hL, by rw [rel_length, lev_length]; omega⟩
   simp only [spec_l1Cur_both.j0]
   exact Ev.neg (by simp) (Ev.bindc e1 (Ev.pos w0 (Ev.bind e2 (Ev.bind (ofNumbers_ev l (by omega)) (Ev.bind (weOrder_ev (lev l) (by rw [lev_length]; omega)) (Ev.ret rfl))))))
  by_cases w1 : w = 1
  ·by_cases hn : n > 0
   ·obtain ⟨i, a2, s2, e2, hi, h4, h5⟩ := pick_d hc (a := a1) s1 n (by omega) (by omega) (by omega)
    obtain ⟨q, Q, m, M, a3, s3, e3, g1, g2⟩ := both_j1 hc h n (L.set i.toNat 0) (by simp) a2 s2 (by omega) (by omega)
    refine ⟨q, Q, m, M, a3, s3, Ev.shift ?_, g1, g2⟩
    simp only [spec_l1Cur_both.j0]
    exact Ev.neg (by simp) (Ev.bindc e1 (Ev.neg w0 (Ev.pos w1 (Ev.bindc (l1Own_f L (by omega)) (Ev.pos hn (Ev.bindc e2 (Ev.pos hi.1 (Ev.pos (by have := hi.2; dsimp only; omega) e3))))))))
   ·obtain ⟨q, Q, m, M, a3, s3, e3, g1, g2⟩ := both_j1 hc h n L rfl a1 s1 (by omega) (by omega)
    refine ⟨q, Q, m, M, a3, s3, Ev.shift ?_, g1, g2⟩
    simp only [spec_l1Cur_both.j0]
    exact Ev.neg (by simp) (Ev.bindc e1 (Ev.neg w0 (Ev.pos w1 (Ev.bindc (l1Own_f L (by omega)) (Ev.neg hn e3)))))
  ·refine ⟨n, L, n, mir L, a1, s1, Ev.shift ?_, hL, by rw [mir_length]; omega⟩
   simp only [spec_l1Cur_both.j0]
   exact Ev.neg (by simp) (Ev.bindc e1 (Ev.neg w0 (Ev.neg w1 (Ev.bind (orMirror_ev h) (Ev.ret rfl)))))
theorem both_d {c : List Int} (hc : bytesP c) : DrB (fun k => spec_l1Cur_both.f k c 0 0) := by
 obtain ⟨n, L, a1, s1, e1, hn, h2, h3⟩ := anyOrder_d hc (a := 0) 0 6 (by omega) (by omega) ⟨by omega, by omega⟩
 have hL : L.length ≤ 10 := hn.2.1
 by_cases h : orderP n L
 ·obtain ⟨b, a2, s2, e2, _, h4, h5⟩ := one_d hc (a := a1) s1 8 (by omega) (by omega) (by omega)
  obtain ⟨q, Q, m, M, a3, s3, e3, g1, g2⟩ := both_j0 hc (n := n) (L := L) (by omega) b (fun _ => h) a2 s2 (by omega) (by omega)
  refine ⟨q, Q, m, M, a3, s3, ?_, g1, g2⟩
  unfold spec_l1Cur_both.f
  exact Ev.bind e1 (Ev.bind (orGood_ev n L (by omega)) (Ev.pos (by simpa using h) (Ev.bindc e2 e3)))
 ·obtain ⟨q, Q, m, M, a3, s3, e3, g1, g2⟩ := both_j0 hc (n := n) (L := L) (by omega) true (fun h => by cases h) a1 s1 (by omega) (by omega)
  refine ⟨q, Q, m, M, a3, s3, ?_, g1, g2⟩
  unfold spec_l1Cur_both.f
  exact Ev.bind e1 (Ev.bind (orGood_ev n L (show L.length ≤ 1048576 by omega)) (Ev.neg (by simpa using h) e3))
theorem meet_spec (n m : Int) (L M : List Int) (hl : L.length ≤ 10) (he : M.length = L.length) (d : Nat) : ∀ (i : Nat) (y : List Int), i + d = L.length → y = (List.range i).map (fun (j : Nat) => Go.bits .and .i64 (rd L (j : Int)) (rd M (j : Int))) → Ev (fun k => spec_MeetOrders.l0 k L (L.length : Int) (i : Int) m M n y) (n, (List.range L.length).map (fun (j : Nat) => Go.bits .and .i64 (rd L (j : Int)) (rd M (j : Int))), true) := by
 induction d with
 | zero =>
  intro i y hi hy
  refine Ev.shift ?_
  simp only [spec_MeetOrders.l0]
  exact Ev.neg (by omega) (Ev.ret (by rw [hy, show i = L.length by omega]))
 | succ d ih =>
  intro i y hi hy
  refine Ev.shift ?_
  simp only [spec_MeetOrders.l0]
  refine Ev.pos (by omega) (Ev.pos (by omega) (Ev.pos (by omega) (Ev.pos (by omega) (Ev.pos (by rw [hy]; simp; omega) ?_))))
  rw [wrap64_id (by omega) (by omega), cast1]
  exact ih (i + 1) _ (by omega) (by rw [hy, List.range_succ, List.map_append]; rfl)
theorem MeetOrders_both (n : Int) (L : List Int) (m : Int) (M : List Int) (hL : L.length ≤ 1048576) (hM : M.length ≤ 1048576) : ∃ q x b, Ev (fun k => impl_MeetOrders.f k n L m M) (q, x, b) ∧ Ev (fun k => spec_MeetOrders.f k n L m M) (q, x, b) ∧ x.length ≤ 1000 := by
 have hno : Ev (fun k => spec_MeetOrders.j0 k true n L m M) (0, [], false) := by
  refine Ev.shift ?_
  simp only [spec_MeetOrders.j0]
  exact Ev.pos trivial (Ev.ret rfl)
 unfold impl_MeetOrders.f spec_MeetOrders.f impl_areOrders.f
 by_cases h1 : orderP n L
 ·by_cases h2 : orderP m M
  ·by_cases he : n = m
   ·have e1 := h1.1.2.1
    have e2 := h2.1.2.1
    have e3 := h1.1.1
    have e4 : M.length = L.length := by omega
    refine ⟨n, rel (fun i j => lt L i j && lt M i j) L.length, true, ?_, ?_, by rw [rel_length]; omega⟩
    ·refine Ev.bind (Ev.bind (isOrder_ev n L hL) (Ev.pos (by simpa using h1) (Ev.bind (isOrder_ev m M hM) (Ev.pos (by simpa using h2) (Ev.ret rfl))))) (Ev.pos (by simpa using he) ?_)
     have hrel := relation_ev (fun i j => lt L i j && lt M i j) L.length (by omega) (fun _ u0_ u1_ => impl_MeetOrders_1.f u0_ u1_ n L m M) (fun i j hi hj => Ev.const (by
      unfold impl_MeetOrders_1.f
      rw [better_f n L hi (h1.1.set hi) (by omega), Option.bind_some]
      show (if lt L i j = true then _ else _) = _
      cases hb : lt L i j
      ·rfl
      ·rw [if_pos rfl, better_f m M (by omega) (h2.1.set (by omega)) (by omega), Option.bind_some]; rfl))
     rw [e1] at hrel
     exact Ev.bind hrel (Ev.ret rfl)
    ·refine Ev.bind (orGood_ev n L hL) (Ev.pos (by simpa using h1) (Ev.bind (orGood_ev m M hM) (Ev.pos (by simpa using h2) (Ev.shift ?_))))
     simp only [spec_MeetOrders.j0]
     refine Ev.neg (by simp [he]) (Ev.eq (meet_spec n m L M (by omega) e4 L.length 0 [] (by omega) (by simp)) ?_)
     congr 2
     have hget : ∀ i : Nat, i < L.length → rd ((List.range L.length).map (fun j : Nat => Go.bits .and .i64 (rd L (j : Int)) (rd M (j : Int)))) (i : Int) = Go.bits .and .i64 (rd L (i : Int)) (rd M (i : Int)) := by
      intro i hi; rw [rd_lt _ i (by simpa using hi)]; simp
     refine rel_ext (by simp [rel_length]) (fun i hi => ?_) (fun i hi => ?_) (fun i j hi hj => ?_)
     ·rw [List.length_map, List.length_range] at hi
      rw [hget i hi]; exact (set_and (h1.1.set hi) (h2.1.set (by omega))).1
     ·rw [rel_length] at hi; exact rel_set (by omega) hi
     ·rw [List.length_map, List.length_range] at hi
      rw [rel_lt (by omega) hi]
      unfold lt
      rw [hget i hi, (set_and (h1.1.set hi) (h2.1.set (by omega))).2]
      cases hb : bit (rd L (i : Int)) j
      ·simp
      ·have : j < L.length := h1.1.lt_len hi hb
       simp [this]
   ·refine ⟨0, [], false, ?_, ?_, by simp⟩
    ·exact Ev.bind (Ev.bind (isOrder_ev n L hL) (Ev.pos (by simpa using h1) (Ev.bind (isOrder_ev m M hM) (Ev.pos (by simpa using h2) (Ev.ret rfl))))) (Ev.neg (by simpa using he) (Ev.ret rfl))
    ·refine Ev.bind (orGood_ev n L hL) (Ev.pos (by simpa using h1) (Ev.bind (orGood_ev m M hM) (Ev.pos (by simpa using h2) (Ev.shift ?_))))
     simp only [spec_MeetOrders.j0]
     exact Ev.pos (by simp [he]) (Ev.ret rfl)
  ·refine ⟨0, [], false, ?_, ?_, by simp⟩
   ·exact Ev.bind (Ev.bind (isOrder_ev n L hL) (Ev.pos (by simpa using h1) (Ev.bind (isOrder_ev m M hM) (Ev.neg (by simpa using h2) (Ev.ret rfl))))) (Ev.neg (by simp) (Ev.ret rfl))
   ·exact Ev.bind (orGood_ev n L hL) (Ev.pos (by simpa using h1) (Ev.bind (orGood_ev m M hM) (Ev.neg (by simpa using h2) hno)))
 ·refine ⟨0, [], false, ?_, ?_, by simp⟩
  ·exact Ev.bind (Ev.bind (isOrder_ev n L hL) (Ev.neg (by simpa using h1) (Ev.ret rfl))) (Ev.neg (by simp) (Ev.ret rfl))
  ·exact Ev.bind (orGood_ev n L hL) (Ev.neg (by simpa using h1) hno)
def refP (L M : List Int) (i : Nat) : Prop := ∀ m : Nat, m < M.length → i ≤ m → andN (rd M (m : Int)) (rd L (m : Int)) = 0
instance (L M : List Int) (i : Nat) : Decidable (refP L M i) := by unfold refP; infer_instance
theorem refP_split {L M : List Int} {i : Nat} (hi : i < M.length) : refP L M i ↔ andN (rd M (i : Int)) (rd L (i : Int)) = 0 ∧ refP L M (i + 1) := by
 unfold refP
 constructor
 ·intro h; exact ⟨h i hi (Nat.le_refl _), fun m h1 h2 => h m h1 (by omega)⟩
 ·rintro ⟨h1, h2⟩ m h3 h4
  by_cases e : m = i
  ·subst e; exact h1
  ·exact h2 m h3 (by omega)
theorem refine_l (n : Int) (L M : List Int) (hl : L.length ≤ 10) (he : M.length = L.length) (d : Nat) : ∀ i : Nat, i + d = M.length → Ev (fun k => impl_DoesRefine.l0 k M (M.length : Int) (i : Int) n L) (decide (refP L M i), true) := by
 induction d with
 | zero =>
  intro i hi
  refine Ev.shift ?_
  simp only [impl_DoesRefine.l0]
  refine Ev.neg (by omega) (Ev.ret ?_)
  rw [decide_eq_true (show refP L M i from fun m h1 h2 => by omega)]
 | succ d ih =>
  intro i hi
  refine Ev.shift ?_
  simp only [impl_DoesRefine.l0]
  refine Ev.pos (by omega) (Ev.pos (by omega) (Ev.pos (by omega) (Ev.pos (by omega) ?_)))
  rw [wrap64_id (by omega) (by omega), cast1]
  by_cases hc : Go.bits .andNot .i64 (rd M (i : Int)) (rd L (i : Int)) = 0
  ·refine Ev.pos hc (Ev.eq (ih (i + 1) (by omega)) ?_)
   congr 1
   rw [Bool.eq_iff_iff, decide_eq_true_iff, decide_eq_true_iff, refP_split (i := i) (by omega)]
   exact ⟨fun h => ⟨hc, h⟩, fun h => h.2⟩
  ·refine Ev.neg hc (Ev.ret ?_)
   rw [decide_eq_false (fun h => hc ((refP_split (by omega)).1 h).1)]
theorem refineS_l (n : Int) (L M : List Int) (hl : L.length ≤ 10) (he : M.length = L.length) (d : Nat) : ∀ i : Nat, i + d = M.length → Ev (fun k => spec_DoesRefine.l0 k M (M.length : Int) (i : Int) n L) (decide (refP L M i), true) := by
 induction d with
 | zero =>
  intro i hi
  refine Ev.shift ?_
  simp only [spec_DoesRefine.l0]
  refine Ev.neg (by omega) (Ev.ret ?_)
  rw [decide_eq_true (show refP L M i from fun m h1 h2 => by omega)]
 | succ d ih =>
  intro i hi
  refine Ev.shift ?_
  simp only [spec_DoesRefine.l0]
  refine Ev.pos (by omega) (Ev.pos (by omega) (Ev.pos (by omega) (Ev.pos (by omega) ?_)))
  rw [wrap64_id (by omega) (by omega), cast1]
  by_cases hc : Go.bits .andNot .i64 (rd M (i : Int)) (rd L (i : Int)) = 0
  ·refine Ev.pos hc (Ev.eq (ih (i + 1) (by omega)) ?_)
   congr 1
   rw [Bool.eq_iff_iff, decide_eq_true_iff, decide_eq_true_iff, refP_split (i := i) (by omega)]
   exact ⟨fun h => ⟨hc, h⟩, fun h => h.2⟩
  ·refine Ev.neg hc (Ev.ret ?_)
   rw [decide_eq_false (fun h => hc ((refP_split (by omega)).1 h).1)]
theorem DoesRefine_both (n : Int) (L : List Int) (m : Int) (M : List Int) (hL : L.length ≤ 1048576) (hM : M.length ≤ 1048576) : ∃ r, Ev (fun k => impl_DoesRefine.f k n L m M) r ∧ Ev (fun k => spec_DoesRefine.f k n L m M) r := by
 have hno : Ev (fun k => spec_DoesRefine.j0 k true n L m M) (false, false) := by
  refine Ev.shift ?_
  simp only [spec_DoesRefine.j0]
  exact Ev.pos trivial (Ev.ret rfl)
 unfold impl_DoesRefine.f spec_DoesRefine.f impl_areOrders.f
 by_cases h1 : orderP n L
 ·by_cases h2 : orderP m M
  ·by_cases he : n = m
   ·have e1 := h1.1.2.1
    have e2 := h2.1.2.1
    have e3 := h1.1.1
    refine ⟨(decide (refP L M 0), true), ?_, ?_⟩
    ·exact Ev.bind (Ev.bind (isOrder_ev n L hL) (Ev.pos (by simpa using h1) (Ev.bind (isOrder_ev m M hM) (Ev.pos (by simpa using h2) (Ev.ret rfl))))) (Ev.pos (by simpa using he) (refine_l n L M (by omega) (by omega) M.length 0 (by omega)))
    ·refine Ev.bind (orGood_ev n L hL) (Ev.pos (by simpa using h1) (Ev.bind (orGood_ev m M hM) (Ev.pos (by simpa using h2) (Ev.shift ?_))))
     simp only [spec_DoesRefine.j0]
     exact Ev.neg (by simp [he]) (refineS_l n L M (by omega) (by omega) M.length 0 (by omega))
   ·refine ⟨(false, false), ?_, ?_⟩
    ·exact Ev.bind (Ev.bind (isOrder_ev n L hL) (Ev.pos (by simpa using h1) (Ev.bind (isOrder_ev m M hM) (Ev.pos (by simpa using h2) (Ev.ret rfl))))) (Ev.neg (by simpa using he) (Ev.ret rfl))
    ·refine Ev.bind (orGood_ev n L hL) (Ev.pos (by simpa using h1) (Ev.bind (orGood_ev m M hM) (Ev.pos (by simpa using h2) (Ev.shift ?_))))
     simp only [spec_DoesRefine.j0]
     exact Ev.pos (by simp [he]) (Ev.ret rfl)
  ·refine ⟨(false, false), ?_, ?_⟩
   ·exact Ev.bind (Ev.bind (isOrder_ev n L hL) (Ev.pos (by simpa using h1) (Ev.bind (isOrder_ev m M hM) (Ev.neg (by simpa using h2) (Ev.ret rfl))))) (Ev.neg (by simp) (Ev.ret rfl))
   ·exact Ev.bind (orGood_ev n L hL) (Ev.pos (by simpa using h1) (Ev.bind (orGood_ev m M hM) (Ev.neg (by simpa using h2) hno)))
 ·refine ⟨(false, false), ?_, ?_⟩
  ·exact Ev.bind (Ev.bind (isOrder_ev n L hL) (Ev.neg (by simpa using h1) (Ev.ret rfl))) (Ev.neg (by simp) (Ev.ret rfl))
  ·exact Ev.bind (orGood_ev n L hL) (Ev.neg (by simpa using h1) hno)
-- the meet and the refinement, told
def mt (L M : List Int) : List Int := rel (fun i j => lt L i j && lt M i j) L.length
theorem areOrders_yes {n m : Int} {L M : List Int} (h1 : orderP n L) (h2 : orderP m M) : Ev (fun k => impl_areOrders.f k n L m M) (n == m) := by
 have e1 := h1.1.1; have e2 := h1.1.2.1; have e3 := h2.1.1; have e4 := h2.1.2.1
 unfold impl_areOrders.f
 exact Ev.bind (isOrder_ev n L (by omega)) (Ev.pos (by simpa using h1) (Ev.bind (isOrder_ev m M (by omega)) (Ev.pos (by simpa using h2) (Ev.ret rfl))))
theorem areOrders_no {n m : Int} {L M : List Int} (hL : L.length ≤ 1048576) (hM : M.length ≤ 1048576) (h : ¬ (orderP n L ∧ orderP m M ∧ n = m)) : Ev (fun k => impl_areOrders.f k n L m M) false := by
 unfold impl_areOrders.f
 by_cases h1 : orderP n L
 ·by_cases h2 : orderP m M
  ·refine Ev.bind (isOrder_ev n L hL) (Ev.pos (by simpa using h1) (Ev.bind (isOrder_ev m M hM) (Ev.pos (by simpa using h2) (Ev.ret ?_))))
   rw [beq_eq_false_iff_ne]; exact fun e => h ⟨h1, h2, e⟩
  ·exact Ev.bind (isOrder_ev n L hL) (Ev.pos (by simpa using h1) (Ev.bind (isOrder_ev m M hM) (Ev.neg (by simpa using h2) (Ev.ret rfl))))
 ·exact Ev.bind (isOrder_ev n L hL) (Ev.neg (by simpa using h1) (Ev.ret rfl))
theorem mt_length (L M : List Int) : (mt L M).length = L.length := rel_length _ _
theorem mt_relP {n : Int} {L : List Int} (M : List Int) (h : relP n L) : relP n (mt L M) := rel_relP h.2.1.symm (by have := h.1; have := h.2.1; omega) _
theorem mt_lt {n : Int} {L M : List Int} (h : relP n L) {i j : Nat} (hi : i < L.length) (hj : j < L.length) : lt (mt L M) i j = (lt L i j && lt M i j) := by
 have h1 := h.1; have h2 := h.2.1
 unfold mt; rw [rel_lt (by omega) hi]; simp [hj]
theorem mt_order {n : Int} {L M : List Int} (h1 : orderP n L) (h2 : orderP n M) : orderP n (mt L M) := by
 have e1 := h1.1.2.1; have e2 := h2.1.2.1
 refine orderP_of (mt_relP M h1.1) (fun i hi => ?_) (fun i j q hi hj a b => ?_)
 ·rw [mt_length] at hi
  rw [mt_lt h1.1 hi hi, h1.irr hi]; rfl
 ·have hq := (mt_relP M h1.1).lt_len hj b
  rw [mt_length] at hi hj hq
  rw [mt_lt h1.1 hi hj, Bool.and_eq_true] at a
  rw [mt_lt h1.1 hj hq, Bool.and_eq_true] at b
  rw [mt_lt h1.1 hi hq, Bool.and_eq_true]
  exact ⟨h1.trans hi a.1 b.1, h2.trans (by omega) a.2 b.2⟩
theorem iMeet_yes {n : Int} {L M : List Int} (h1 : orderP n L) (h2 : orderP n M) : Ev (fun k => impl_MeetOrders.f k n L n M) (n, mt L M, true) := by
 have e1 := h1.1.2.1; have e2 := h2.1.2.1; have e3 := h1.1.1
 have hrel := relation_ev (fun i j => lt L i j && lt M i j) L.length (by omega) (fun _ u0_ u1_ => impl_MeetOrders_1.f u0_ u1_ n L n M) (fun i j hi hj => Ev.const (by
  unfold impl_MeetOrders_1.f
  rw [better_f n L hi (h1.1.set hi) (by omega), Option.bind_some]
  show (if lt L i j = true then _ else _) = _
  cases hb : lt L i j
  ·rfl
  ·rw [if_pos rfl, better_f n M (by omega) (h2.1.set (by omega)) (by omega), Option.bind_some]; rfl))
 rw [e1] at hrel
 unfold impl_MeetOrders.f
 exact Ev.bind (areOrders_yes h1 h2) (Ev.pos (by simp) (Ev.bind hrel (Ev.ret rfl)))
theorem sMeet_yes {n : Int} {L M : List Int} (h1 : orderP n L) (h2 : orderP n M) : Ev (fun k => spec_MeetOrders.f k n L n M) (n, mt L M, true) := by
 obtain ⟨q, x, b, hi, hs, _⟩ := MeetOrders_both n L n M (by have := h1.1.1; have := h1.1.2.1; omega) (by have := h2.1.1; have := h2.1.2.1; omega)
 have := Ev.uniq hi (iMeet_yes h1 h2)
 rw [this] at hs; exact hs
theorem iMeet_no {n m : Int} {L M : List Int} (hL : L.length ≤ 1048576) (hM : M.length ≤ 1048576) (h : ¬ (orderP n L ∧ orderP m M ∧ n = m)) : Ev (fun k => impl_MeetOrders.f k n L m M) (0, [], false) := by
 unfold impl_MeetOrders.f
 exact Ev.bind (areOrders_no hL hM h) (Ev.neg (by simp) (Ev.ret rfl))
theorem sMeet_no {n m : Int} {L M : List Int} (hL : L.length ≤ 1048576) (hM : M.length ≤ 1048576) (h : ¬ (orderP n L ∧ orderP m M ∧ n = m)) : Ev (fun k => spec_MeetOrders.f k n L m M) (0, [], false) := by
 obtain ⟨q, x, b, hi, hs, _⟩ := MeetOrders_both n L m M hL hM
 have := Ev.uniq hi (iMeet_no hL hM h)
 rw [this] at hs; exact hs
theorem iRefine_yes {n : Int} {L M : List Int} (h1 : orderP n L) (h2 : orderP n M) : Ev (fun k => impl_DoesRefine.f k n L n M) (decide (refP L M 0), true) := by
 have e1 := h1.1.2.1; have e2 := h2.1.2.1; have e3 := h1.1.1
 unfold impl_DoesRefine.f
 exact Ev.bind (areOrders_yes h1 h2) (Ev.pos (by simp) (refine_l n L M (by omega) (by omega) M.length 0 (by omega)))
theorem sRefine_yes {n : Int} {L M : List Int} (h1 : orderP n L) (h2 : orderP n M) : Ev (fun k => spec_DoesRefine.f k n L n M) (decide (refP L M 0), true) := by
 obtain ⟨r, hi, hs⟩ := DoesRefine_both n L n M (by have := h1.1.1; have := h1.1.2.1; omega) (by have := h2.1.1; have := h2.1.2.1; omega)
 have := Ev.uniq hi (iRefine_yes h1 h2)
 rw [this] at hs; exact hs
theorem iRefine_no {n m : Int} {L M : List Int} (hL : L.length ≤ 1048576) (hM : M.length ≤ 1048576) (h : ¬ (orderP n L ∧ orderP m M ∧ n = m)) : Ev (fun k => impl_DoesRefine.f k n L m M) (false, false) := by
 unfold impl_DoesRefine.f
 exact Ev.bind (areOrders_no hL hM h) (Ev.neg (by simp) (Ev.ret rfl))
theorem sRefine_no {n m : Int} {L M : List Int} (hL : L.length ≤ 1048576) (hM : M.length ≤ 1048576) (h : ¬ (orderP n L ∧ orderP m M ∧ n = m)) : Ev (fun k => spec_DoesRefine.f k n L m M) (false, false) := by
 obtain ⟨r, hi, hs⟩ := DoesRefine_both n L m M hL hM
 have := Ev.uniq hi (iRefine_no hL hM h)
 rw [this] at hs; exact hs
theorem refP_iff {n : Int} {L M : List Int} (h1 : relP n L) (h2 : relP n M) : refP L M 0 ↔ ∀ i j, i < M.length → j < M.length → lt M i j = true → lt L i j = true := by
 have e1 := h1.2.1; have e2 := h2.2.1; have p := h1.1
 unfold refP
 constructor
 ·intro h i j hi hj hb
  exact (andNot_zero (h2.set hi) (h1.set (by omega))).1 (h i hi (Nat.zero_le _)) j (by omega) hb
 ·intro h i hi _
  refine (andNot_zero (h2.set hi) (h1.set (by omega))).2 fun j hj hb => h i j hi (h2.lt_len hi hb) hb
theorem mt_eq {n : Int} {L M : List Int} (h1 : relP n L) (h2 : relP n M) : refP L M 0 ↔ mt L M = M := by
 have e1 := h1.2.1; have e2 := h2.2.1; have p := h1.1
 rw [refP_iff h1 h2]
 constructor
 ·intro h
  have hmr := mt_relP M h1
  refine rel_ext (by rw [mt_length]; omega) (fun i hi => hmr.set hi) (fun i hi => h2.set hi) (fun i j hi hj => ?_)
  rw [mt_length] at hi
  by_cases hjl : j < L.length
  ·rw [mt_lt h1 hi hjl]
   cases hb : lt M i j
   ·simp
   ·simp [h i j (by omega) (by omega) hb]
  ·have a : lt (mt L M) i j = false := by
    cases hb : lt (mt L M) i j
    ·rfl
    ·have := hmr.lt_len (by rw [mt_length]; exact hi) hb; rw [mt_length] at this; omega
   have b : lt M i j = false := by
    cases hb : lt M i j
    ·rfl
    ·have := h2.lt_len (by omega) hb; omega
   rw [a, b]
 ·intro h i j hi hj hb
  have := mt_lt (M := M) h1 (i := i) (j := j) (by omega) (by omega)
  rw [h, hb] at this
  simpa using this.symm
end Go.Proofs.YtgbdjchdfcodcaaDoor.Pure
