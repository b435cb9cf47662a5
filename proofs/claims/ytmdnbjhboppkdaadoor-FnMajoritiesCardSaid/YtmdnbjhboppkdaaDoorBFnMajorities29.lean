import Derived.Test.YtmdnbjhboppkdaaDoorBFnMajorities5
import Derived.Test.YtmdnbjhboppkdaaDoorBFnMajorities28
namespace Go.Proofs.YtmdnbjhboppkdaaDoor.Pure
open Go.RowKit Go.Proofs.YtmdnbjhboppkdaaDoor.Q Go.Proofs.YtmdnbjhboppkdaaDoorW.PrintWords Go.Proofs.YtmdnbjhboppkdaaDoorW.PrintLast
set_option linter.unusedVariables false
set_option linter.unusedSimpArgs false
def iota (n : Nat) : List Int := (List.range n).map fun (i : Nat) => (i : Int)
theorem mem_iota {n : Nat} {x : Int} : x ∈ iota n ↔ 0 ≤ x ∧ x < n := by
 simp only [iota, List.mem_map, List.mem_range]
 constructor
 ·rintro ⟨i, h, rfl⟩; omega
 ·intro h; exact ⟨x.toNat, by omega, by omega⟩
theorem iota_length (n : Nat) : (iota n).length = n := by simp [iota]
theorem iota_rising (n : Nat) : (iota n).Pairwise (· < ·) := by
 unfold iota
 rw [List.pairwise_map]
 exact List.pairwise_lt_range.imp (by intro a b h; omega)
theorem dif_iota {l : List Int} {n : Nat} (h : ∀ x, x ∈ l ↔ 0 ≤ x ∧ x < n) : dif l = iota n :=
 rising_ext (dif_sorted l) (iota_rising n) fun x => by rw [mem_dif, mem_iota]; exact h x
theorem all_l (a b : Int) (l : List Int) (hl : l.length ≤ 1048576) (d : Nat) : ∀ i : Nat, i + d = l.length → Ev (fun k => spec_l1All.l0 k a b l (l.length : Int) i) (decide (∀ x ∈ l.drop i, a ≤ x ∧ x ≤ b)) := by
 induction d with
 | zero =>
  intro i hi
  refine Ev.shift ?_
  simp only [spec_l1All.l0]
  refine Ev.neg (by omega) (Ev.ret ?_)
  rw [List.drop_of_length_le (by omega)]; simp
 | succ d ih =>
  intro i hi
  refine Ev.shift ?_
  simp only [spec_l1All.l0]
  refine Ev.pos (by omega) (Ev.pos (by omega) (Ev.pos (by omega) (Ev.bindc (spec_in _ _ _) ?_)))
  rw [wrap64_id (by omega) (by omega), cast1, drop_rd l i (by omega)]
  by_cases hc : a ≤ rd l (i : Int) ∧ rd l (i : Int) ≤ b
  ·exact Ev.pos (by simpa using hc) (Ev.eq (ih (i + 1) (by omega)) (by simp [hc]))
  ·refine Ev.neg (by simpa using hc) (Ev.ret ?_)
   symm; rw [decide_eq_false_iff_not]; intro h; exact hc (h _ (by simp))
theorem all_spec (a b : Int) (l : List Int) (hl : l.length ≤ 1048576) : Ev (fun k => spec_l1All.f k l a b) (decide (∀ x ∈ l, a ≤ x ∧ x ≤ b)) := by
 unfold spec_l1All.f
 simpa using all_l a b l hl l.length 0 (by omega)
theorem has_l (a : Int) (l : List Int) (hl : l.length ≤ 1048576) (d : Nat) : ∀ i : Nat, i + d = l.length → Ev (fun k => spec_l1Has.l0 k a l (l.length : Int) i) (decide (a ∈ l.drop i)) := by
 induction d with
 | zero =>
  intro i hi
  refine Ev.shift ?_
  simp only [spec_l1Has.l0]
  refine Ev.neg (by omega) (Ev.ret ?_)
  rw [List.drop_of_length_le (by omega)]; simp
 | succ d ih =>
  intro i hi
  refine Ev.shift ?_
  simp only [spec_l1Has.l0]
  refine Ev.pos (by omega) (Ev.pos (by omega) (Ev.pos (by omega) ?_))
  rw [wrap64_id (by omega) (by omega), cast1, drop_rd l i (by omega)]
  by_cases hc : rd l (i : Int) = a
  ·exact Ev.pos hc (Ev.ret (by simp [hc]))
  ·exact Ev.neg hc (Ev.eq (ih (i + 1) (by omega)) (by simp [Ne.symm hc]))
theorem has_spec (a : Int) (l : List Int) (hl : l.length ≤ 1048576) : Ev (fun k => spec_l1Has.f k l a) (decide (a ∈ l)) := by
 unfold spec_l1Has.f
 simpa using has_l a l hl l.length 0 (by omega)
def lvlP (l : List Int) : Prop := l.length ≤ 10 ∧ (∀ x ∈ l, 0 ≤ x ∧ x ≤ 10) ∧ ∀ x ∈ l, 0 < x → x - 1 ∈ l
instance (l : List Int) : Decidable (lvlP l) := by unfold lvlP; infer_instance
theorem weLevels_l (l : List Int) (hl : l.length ≤ 10) (hr : ∀ x ∈ l, 0 ≤ x ∧ x ≤ 10) (d : Nat) : ∀ i : Nat, i + d = l.length → Ev (fun k => spec_weLevels.l0 k l l (l.length : Int) i) (decide (∀ x ∈ l.drop i, 0 < x → x - 1 ∈ l)) := by
 induction d with
 | zero =>
  intro i hi
  refine Ev.shift ?_
  simp only [spec_weLevels.l0]
  refine Ev.neg (by omega) (Ev.ret ?_)
  rw [List.drop_of_length_le (by omega)]; simp
 | succ d ih =>
  intro i hi
  have hx := hr (rd l (i : Int)) (by rw [rd_lt l i (by omega)]; exact List.getElem_mem _)
  refine Ev.shift ?_
  simp only [spec_weLevels.l0]
  refine Ev.pos (by omega) (Ev.pos (by omega) (Ev.pos (by omega) ?_))
  rw [wrap64_id (x := (i : Int) + 1) (by omega) (by omega), wrap64_id (x := rd l (i : Int) - 1) (by omega) (by omega), cast1, drop_rd l i (by omega)]
  by_cases h0 : rd l (i : Int) > 0
  ·refine Ev.pos h0 (Ev.bind (has_spec _ l (by omega)) ?_)
   by_cases hm : rd l (i : Int) - 1 ∈ l
   ·exact Ev.pos (by simpa using hm) (Ev.eq (ih (i + 1) (by omega)) (by simp [hm]))
   ·refine Ev.neg (by simpa using hm) (Ev.ret ?_)
    symm; rw [decide_eq_false_iff_not]; intro h; exact hm (h _ (by simp) h0)
  ·exact Ev.neg h0 (Ev.eq (ih (i + 1) (by omega)) (by
    congr 1
    rw [eq_iff_iff]
    constructor
    ·intro h x hx hp
     rcases List.mem_cons.1 hx with rfl | hx
     ·omega
     ·exact h x hx hp
    ·intro h x hx hp; exact h x (List.mem_cons_of_mem _ hx) hp))
theorem levels_spec (l : List Int) (hl : l.length ≤ 1048576) : Ev (fun k => spec_weLevels.f k l) (decide (lvlP l)) := by
 unfold spec_weLevels.f
 by_cases h : (l.length : Int) > 10
 ·refine Ev.pos h (Ev.shift ?_)
  simp only [spec_weLevels.j0]
  refine Ev.pos (by simp) (Ev.ret ?_)
  symm; rw [decide_eq_false_iff_not]; intro h'; have := h'.1; omega
 ·refine Ev.neg h (Ev.bind (all_spec 0 10 l hl) (Ev.shift ?_))
  simp only [spec_weLevels.j0]
  by_cases hr : ∀ x ∈ l, 0 ≤ x ∧ x ≤ 10
  ·rw [decide_eq_true hr]
   refine Ev.neg (by simp) (Ev.eq (weLevels_l l (by omega) hr l.length 0 (by omega)) ?_)
   rw [Bool.eq_iff_iff, decide_eq_true_iff, decide_eq_true_iff]
   exact ⟨fun h' => ⟨by omega, hr, by simpa using h'⟩, fun h' => by simpa using h'.2.2⟩
  ·rw [decide_eq_false hr]
   refine Ev.pos (by simp) (Ev.ret ?_)
   symm; rw [decide_eq_false_iff_not]; exact fun h' => hr h'.2.1
theorem lvl_fill {l : List Int} (h : lvlP l) : ∃ n : Nat, n ≤ 10 ∧ ∀ x, x ∈ l ↔ 0 ≤ x ∧ x < n := by
 obtain ⟨h1, h2, h3⟩ := h
 have down : ∀ (d : Nat) (x : Int), x ∈ l → ∀ y, 0 ≤ y → y + d = x → y ∈ l := by
  intro d
  induction d with
  | zero => intro x hx y hy e; rw [show y = x by omega]; exact hx
  | succ d ih =>
   intro x hx y hy e
   exact ih (x - 1) (h3 x hx (by omega)) y hy (by omega)
 have hmax : ∀ m : Nat, (∀ x ∈ l, x < m) → ∃ n : Nat, n ≤ m ∧ ∀ x, x ∈ l ↔ 0 ≤ x ∧ x < n := by
  intro m
  induction m with
  | zero => intro hx; exact ⟨0, by omega, fun x => ⟨fun h => by have := hx x h; have := h2 x h; omega, fun h => by omega⟩⟩
  | succ m ih =>
   intro hx
   by_cases hm : (m : Int) ∈ l
   ·refine ⟨m + 1, by omega, fun x => ⟨fun h => ⟨(h2 x h).1, hx x h⟩, fun h => ?_⟩⟩
    exact down (m - x).toNat m hm x h.1 (by omega)
   ·obtain ⟨n, hn, h⟩ := ih (fun x hx' => by
     have := hx x hx'
     have : x ≠ m := fun e => hm (e ▸ hx')
     omega)
    exact ⟨n, by omega, h⟩
 obtain ⟨n, hn, h⟩ := hmax 11 (fun x hx => by have := h2 x hx; omega)
 refine ⟨n, ?_, h⟩
 have e := dif_iota h
 have := dif_length l
 rw [e, iota_length] at this
 omega
theorem lvl_iff (l : List Int) : lvlP l ↔ (∀ m : Nat, m < (dif l).length → rd (dif l) (m : Int) = m) ∧ l.length ≤ 10 := by
 constructor
 ·intro h
  obtain ⟨n, hn, hx⟩ := lvl_fill h
  refine ⟨fun m hm => ?_, h.1⟩
  rw [rd_lt _ m hm]
  simp [dif_iota hx, iota]
 ·rintro ⟨h1, h2⟩
  have hd := dif_length l
  have key : ∀ x, x ∈ l ↔ 0 ≤ x ∧ x < (dif l).length := by
   intro x
   rw [← mem_dif, List.mem_iff_getElem]
   constructor
   ·rintro ⟨m, hm, rfl⟩
    have := h1 m hm
    rw [rd_lt _ m hm] at this
    omega
   ·intro h
    refine ⟨x.toNat, by omega, ?_⟩
    have := h1 x.toNat (by omega)
    rw [rd_lt _ _ (by omega)] at this
    omega
  exact ⟨h2, fun x hx => by have := (key x).1 hx; omega, fun x hx h0 => (key (x - 1)).2 (by have := (key x).1 hx; omega)⟩
theorem areLevels_l (l D : List Int) (hD : D.length ≤ 1048576) (d : Nat) : ∀ i : Nat, i + d = D.length → ∃ r, Ev (fun k => impl_AreLevels.l0 k l D (D.length : Int) i) r ∧ (r = true ↔ (∀ m : Nat, i ≤ m → m < D.length → rd D (m : Int) = m) ∧ l.length ≤ 10) := by
 induction d with
 | zero =>
  intro i hi
  refine ⟨decide ((l.length : Int) ≤ 10), Ev.shift ?_, ?_⟩
  ·simp only [impl_AreLevels.l0]
   exact Ev.neg (by omega) (Ev.ret rfl)
  ·rw [decide_eq_true_iff]
   exact ⟨fun h => ⟨fun m h1 h2 => by omega, by omega⟩, fun h => by omega⟩
 | succ d ih =>
  intro i hi
  obtain ⟨r, hr, hq⟩ := ih (i + 1) (by omega)
  by_cases hc : rd D (i : Int) = i
  ·refine ⟨r, Ev.shift ?_, hq.trans ⟨fun h => ⟨fun m h1 h2 => ?_, h.2⟩, fun h => ⟨fun m h1 h2 => h.1 m (by omega) h2, h.2⟩⟩⟩
   ·simp only [impl_AreLevels.l0]
    refine Ev.pos (by omega) (Ev.pos (by omega) (Ev.pos (by omega) ?_))
    rw [wrap64_id (by omega) (by omega), cast1]
    exact Ev.pos hc hr
   ·by_cases e : m = i
    ·subst e; exact hc
    ·exact h.1 m (by omega) h2
  ·refine ⟨false, Ev.shift ?_, ?_⟩
   ·simp only [impl_AreLevels.l0]
    exact Ev.pos (by omega) (Ev.pos (by omega) (Ev.pos (by omega) (Ev.neg hc (Ev.ret rfl))))
   ·simp only [Bool.false_eq_true, false_iff]
    intro h; exact hc (h.1 i (Nat.le_refl _) (by omega))
theorem levels_impl (l : List Int) (hl : l.length ≤ 1048576) : Ev (fun k => impl_AreLevels.f k l) (decide (lvlP l)) := by
 unfold impl_AreLevels.f
 obtain ⟨r, hr, hq⟩ := areLevels_l l (dif l) (by have := dif_length l; omega) (dif l).length 0 (by omega)
 refine Ev.bindc (different_f l hl) (Ev.eq hr ?_)
 rw [Bool.eq_iff_iff, decide_eq_true_iff, lvl_iff, hq]
 exact ⟨fun h => ⟨fun m hm => h.1 m (Nat.zero_le _) hm, h.2⟩, fun h => ⟨fun m _ hm => h.1 m hm, h.2⟩⟩
def lvlLt (l : List Int) (i j : Nat) : Bool := decide (rd l (j : Int) > rd l (i : Int))
theorem weOrder_l1 (l : List Int) (hl : l.length ≤ 1000) (i : Nat) (hi : i < l.length) (y : List Int) (hy : y.length = i) (R : Int × List Int) (hR : Ev (fun k => spec_weOrder.l0 k l l (l.length : Int) ((i + 1 : Nat) : Int) (l.length : Int) (y ++ [rowf (lvlLt l i) l.length])) R) (d : Nat) :
  ∀ j : Nat, j + d = l.length → Ev (fun k => spec_weOrder.l1 k l (rd l (i : Int)) (rowf (lvlLt l i) j) l (l.length : Int) (i : Int) l (l.length : Int) (j : Int) (l.length : Int) y) R := by
 induction d with
 | zero =>
  intro j hj
  obtain rfl : j = l.length := by omega
  refine Ev.shift ?_
  simp only [spec_weOrder.l1]
  refine Ev.neg (by omega) (Ev.pos (by omega) ?_)
  rw [wrap64_id (x := (i : Int) + 1) (by omega) (by omega), cast1]
  exact hR
 | succ d ih =>
  intro j hj
  have := ih (j + 1) (by omega)
  rw [rowf_succ] at this
  refine Ev.shift ?_
  simp only [spec_weOrder.l1]
  refine Ev.pos (by omega) (Ev.pos (by omega) (Ev.pos (by omega) ?_))
  rw [wrap64_id (x := (j : Int) + 1) (by omega) (by omega), cast1]
  by_cases hc : rd l (j : Int) > rd l (i : Int)
  ·rw [if_pos (by simpa [lvlLt] using hc)] at this
   exact Ev.pos hc this
  ·rw [if_neg (by simpa [lvlLt] using hc)] at this
   exact Ev.neg hc this
theorem weOrder_l0 (l : List Int) (hl : l.length ≤ 1000) (d : Nat) : ∀ i : Nat, i + d = l.length → Ev (fun k => spec_weOrder.l0 k l l (l.length : Int) (i : Int) (l.length : Int) ((rel (lvlLt l) l.length).take i)) ((l.length : Int), rel (lvlLt l) l.length) := by
 induction d with
 | zero =>
  intro i hi
  refine Ev.shift ?_
  simp only [spec_weOrder.l0]
  exact Ev.neg (by omega) (Ev.ret (by rw [List.take_of_length_le (by rw [rel_length]; omega)]))
 | succ d ih =>
  intro i hi
  have := ih (i + 1) (by omega)
  rw [List.take_succ_eq_append_getElem (by rw [rel_length]; omega), ← rd_lt _ i (by rw [rel_length]; omega), rel_get _ _ i (by omega)] at this
  refine Ev.shift ?_
  simp only [spec_weOrder.l0]
  refine Ev.pos (by omega) (Ev.pos (by omega) (Ev.pos (by omega) ?_))
  exact weOrder_l1 l hl i (by omega) _ (by rw [List.length_take, rel_length]; omega) _ this l.length 0 (by omega)
theorem weOrder_ev (l : List Int) (hl : l.length ≤ 1000) : Ev (fun k => spec_weOrder.f k l) ((l.length : Int), rel (lvlLt l) l.length) := by
 unfold spec_weOrder.f
 exact weOrder_l0 l hl l.length 0 (by omega)
-- two drawn orders, one often near the other
def shortW (x : Int × List Int × Int × List Int) : Prop := x.2.1.length ≤ 12 ∧ x.2.2.2.length ≤ 12
def DrB (g : Nat → Option (Int × List Int × Int × List Int × Int × Int)) : Prop := ∃ n L m M a s, Ev g (n, L, m, M, a, s) ∧ L.length ≤ 12 ∧ M.length ≤ 12
theorem both_j1 {c : List Int} (hc : bytesP c) {n : Int} {L : List Int} (h : relP n L) (m : Int) (M : List Int) (hM : M.length = L.length) (a s : Int) (h0 : 0 ≤ a) (h1 : a ≤ 10000) : DrB (fun k => spec_l1Cur_both.j1 k c a s n L m M) := by
 have p1 := h.1; have p2 := h.2.1
 by_cases hg : orderP m M
 ·obtain ⟨b, a1, s1, e1, _, _, _⟩ := one_d hc (a := a) s 2 h0 (by omega) (by omega)
  by_cases hb : b = true
  ·refine ⟨m, M, n, L, a1, s1, Ev.shift ?_, by omega, by omega⟩
   simp only [spec_l1Cur_both.j1]
   exact Ev.bind (orGood_ev m M (by omega)) (Ev.pos (by simpa using hg) (Ev.bindc e1 (Ev.pos hb (Ev.ret rfl))))
  ·refine ⟨n, L, m, M, a1, s1, Ev.shift ?_, by omega, by omega⟩
   simp only [spec_l1Cur_both.j1]
   exact Ev.bind (orGood_ev m M (by omega)) (Ev.pos (by simpa using hg) (Ev.bindc e1 (Ev.neg hb (Ev.ret rfl))))
 ·refine ⟨n, L, n, mir L, a, s, Ev.shift ?_, by omega, by rw [mir_length]; omega⟩
  simp only [spec_l1Cur_both.j1]
  exact Ev.bind (orGood_ev m M (by omega)) (Ev.neg (by simpa using hg) (Ev.bind (orMirror_ev h) (Ev.ret rfl)))
theorem both_j0 {c : List Int} (hc : bytesP c) {n : Int} {L : List Int} (hL : L.length ≤ 12) (b : Bool) (hb : b = false → orderP n L) (a s : Int) (h0 : 0 ≤ a) (h1 : a ≤ 5000) : DrB (fun k => spec_l1Cur_both.j0 k b c a s n L) := by
 cases b with
 | true =>
  obtain ⟨m, M, a1, s1, e1, hm, _, _⟩ := anyOrder_d hc (a := a) s 6 h0 (by omega) ⟨by omega, by omega⟩
  have hM : M.length ≤ 10 := hm.2.1
  refine ⟨n, L, m, M, a1, s1, Ev.shift ?_, hL, by omega⟩
  simp only [spec_l1Cur_both.j0]
  exact Ev.pos (by simp) (Ev.bind e1 (Ev.ret rfl))
 | false =>
  have h := (hb rfl).1
  have p1 := h.1; have p2 := h.2.1
  obtain ⟨w, a1, s1, e1, hw, h2, h3⟩ := pick_d hc (a := a) s 3 h0 (by omega) (by omega)
  by_cases w0 : w = 0
  ·obtain ⟨l, a2, s2, e2, hl, _, _⟩ := levels_d hc (a := a1) s1 n ⟨by omega, by omega⟩ (by omega) (by omega)
   refine ⟨n, L, ((lev l).length : Int), rel (lvlLt (lev l)) (lev l).length, a2, s2, Ev.shift ?_, hL, by rw [rel_length, lev_length]; omega⟩
   simp only [spec_l1Cur_both.j0]
   exact Ev.neg (by simp) (Ev.bindc e1 (Ev.pos w0 (Ev.bind e2 (Ev.bind (ofNumbers_ev l (by omega)) (Ev.bind (weOrder_ev (lev l) (by rw [lev_length]; omega)) (Ev.ret rfl))))))
  by_cases w1 : w = 1
  ·by_cases hn : n > 0
   ·obtain ⟨i, a2, s2, e2, hi, h4, h5⟩ := pick_d hc (a := a1) s1 n (by omega) (by omega) (by omega)
    obtain ⟨q, Q, m, M, a3, s3, e3, g1, g2⟩ := both_j1 hc h n (L.set i.toNat 0) (by simp) a2 s2 (by omega) (by omega)
    refine ⟨q, Q, m, M, a3, s3, Ev.shift ?_, g1, g2⟩
    simp only [spec_l1Cur_both.j0]
    exact Ev.neg (by simp) (Ev.bindc e1 (Ev.neg w0 (Ev.pos w1 (Ev.bindc (l1Own_f L (by omega)) (Ev.pos hn (Ev.bindc e2 (Ev.pos hi.1 (Ev.pos (by have := hi.2; dsimp only; omega) e3))))))))
   ·obtain ⟨q, Q, m, M, a3, s3, e3, g1, g2⟩ := both_j1 hc h n L rfl a1 s1 (by omega) (by omega)
    refine ⟨q, Q, m, M, a3, s3, Ev.shift ?_, g1, g2⟩
    simp only [spec_l1Cur_both.j0]
    exact Ev.neg (by simp) (Ev.bindc e1 (Ev.neg w0 (Ev.pos w1 (Ev.bindc (l1Own_f L (by omega)) (Ev.neg hn e3)))))
  ·refine ⟨n, L, n, mir L, a1, s1, Ev.shift ?_, hL, by rw [mir_length]; omega⟩
   simp only [spec_l1Cur_both.j0]
   exact Ev.neg (by simp) (Ev.bindc e1 (Ev.neg w0 (Ev.neg w1 (Ev.bind (orMirror_ev h) (Ev.ret rfl)))))
theorem both_d {c : List Int} (hc : bytesP c) : DrB (fun k => spec_l1Cur_both.f k c 0 0) := by
 obtain ⟨n, L, a1, s1, e1, hn, h2, h3⟩ := anyOrder_d hc (a := 0) 0 6 (by omega) (by omega) ⟨by omega, by omega⟩
 have hL : L.length ≤ 10 := hn.2.1
 by_cases h : orderP n L
 ·obtain ⟨b, a2, s2, e2, _, h4, h5⟩ := one_d hc (a := a1) s1 8 (by omega) (by omega) (by omega)
  obtain ⟨q, Q, m, M, a3, s3, e3, g1, g2⟩ := both_j0 hc (n := n) (L := L) (by omega) b (fun _ => h) a2 s2 (by omega) (by omega)
  refine ⟨q, Q, m, M, a3, s3, ?_, g1, g2⟩
  unfold spec_l1Cur_both.f
  exact Ev.bind e1 (Ev.bind (orGood_ev n L (by omega)) (Ev.pos (by simpa using h) (Ev.bindc e2 e3)))
 ·obtain ⟨q, Q, m, M, a3, s3, e3, g1, g2⟩ := both_j0 hc (n := n) (L := L) (by omega) true (fun h => by cases h) a1 s1 (by omega) (by omega)
  refine ⟨q, Q, m, M, a3, s3, ?_, g1, g2⟩
  unfold spec_l1Cur_both.f
  exact Ev.bind e1 (Ev.bind (orGood_ev n L (show L.length ≤ 1048576 by omega)) (Ev.neg (by simpa using h) e3))
theorem rdL_lt (L : List (List Int)) (i : Nat) (h : i < L.length) : rd_L2 L (i : Int) = L[i] := by simp [rd_L2, h]
theorem dropL (L : List (List Int)) (i : Nat) (h : i < L.length) : L.drop i = rd_L2 L (i : Int) :: L.drop (i + 1) := by
 rw [rdL_lt L i h]; exact List.drop_eq_getElem_cons h
def rowsP (L : List (List Int)) : Prop := L.length ≤ 1048576 ∧ ∀ r ∈ L, r.length ≤ 1048576
theorem rowsP.at {L : List (List Int)} (h : rowsP L) {i : Nat} (hi : i < L.length) : (rd_L2 L (i : Int)).length ≤ 1048576 := by
 rw [rdL_lt L i hi]; exact h.2 _ (List.getElem_mem _)
theorem voters_j1 {c : List Int} (hc : bytesP c) (L : List (List Int)) (hL : rowsP L) (b : Bool) (hb : b = true → 0 < L.length) {a : Int} (s : Int) (h0 : 0 ≤ a) (h1 : a ≤ 5000) : ∃ M a' s', Ev (fun k => spec_l1Cur_voters.j1 k L b c a s) (M, a', s') ∧ rowsP M := by
 cases b with
 | false =>
  refine ⟨L, a, s, Ev.shift ?_, hL⟩
  simp only [spec_l1Cur_voters.j1]
  exact Ev.neg (by simp) (Ev.ret rfl)
 | true =>
  have hp := hb rfl
  have hl := hL.1
  obtain ⟨x, a1, s1, e1, hx, h2, h3⟩ := pick_d hc (a := a) s (L.length : Int) h0 (by omega) (by omega)
  obtain ⟨m, a2, s2, e2, hm, h4, h5⟩ := elements_d hc (a := a1) s1 (by omega) (by omega)
  obtain ⟨r, a3, s3, e3, hr, h6, h7⟩ := levels_d hc (a := a2) s2 m ⟨by omega, by omega⟩ (by omega) (by omega)
  refine ⟨L.set x.toNat r, a3, s3, Ev.shift ?_, by rw [List.length_set]; exact hl, fun q hq => ?_⟩
  ·simp only [spec_l1Cur_voters.j1]
   exact Ev.pos (by simp) (Ev.bindc e1 (Ev.bindc e2 (Ev.bind e3 (Ev.pos hx.1 (Ev.pos hx.2 (Ev.ret rfl))))))
  ·rcases List.mem_or_eq_of_mem_set hq with g | g
   ·exact hL.2 q g
   ·subst g; omega
theorem voters_l0 {c : List Int} (hc : bytesP c) (n : Int) (hn : 0 ≤ n ∧ n ≤ 11) (d : Nat) : ∀ (L : List (List Int)) (a s : Int), rowsP L → L.length + d ≤ 16 → 0 ≤ a → a + 60 * d ≤ 4000 → ∃ M a' s', Ev (fun k => spec_l1Cur_voters.l0 k n L (d : Int) c a s) (M, a', s') ∧ rowsP M := by
 induction d with
 | zero =>
  intro L a s hL hl h0 h1
  by_cases hp : 0 < L.length
  ·obtain ⟨b, a1, s1, e1, _, h2, h3⟩ := one_d hc (a := a) s 15 h0 (by omega) (by omega)
   obtain ⟨M, a2, s2, e2, hM⟩ := voters_j1 hc L hL b (fun _ => hp) (a := a1) s1 (by omega) (by omega)
   refine ⟨M, a2, s2, Ev.shift ?_, hM⟩
   simp only [spec_l1Cur_voters.l0]
   exact Ev.neg (by omega) (Ev.pos (by omega) (Ev.bindc e1 e2))
  ·obtain ⟨M, a2, s2, e2, hM⟩ := voters_j1 hc L hL false (fun h => by cases h) (a := a) s (by omega) (by omega)
   refine ⟨M, a2, s2, Ev.shift ?_, hM⟩
   simp only [spec_l1Cur_voters.l0]
   exact Ev.neg (by omega) (Ev.neg (by omega) e2)
 | succ d ih =>
  intro L a s hL hl h0 h1
  obtain ⟨r, a1, s1, e1, hr, h2, h3⟩ := levels_d hc (a := a) s n ⟨by omega, by omega⟩ h0 (by omega)
  obtain ⟨M, a2, s2, e2, hM⟩ := ih (L ++ [r]) a1 s1 ⟨by rw [List.length_append]; simp; omega, fun q hq => by
   rcases List.mem_append.1 hq with g | g
   ·exact hL.2 q g
   ·simp at g; subst g; omega⟩ (by rw [List.length_append]; simp; omega) (by omega) (by omega)
  refine ⟨M, a2, s2, Ev.shift ?_, hM⟩
  simp only [spec_l1Cur_voters.l0]
  refine Ev.pos (by omega) (Ev.bind e1 (Ev.pos (by omega) ?_))
  rw [show wrap64 ((d + 1 : Nat) - 1 : Int) = (d : Int) by rw [wrap64_id (by omega) (by omega)]; omega]
  exact e2
theorem drawVoters {c : List Int} (hc : bytesP c) : ∃ L, Ev (fun k => spec_DrawMajorityOf.f k c) L ∧ rowsP L := by
 unfold spec_DrawMajorityOf.f spec_l1Cur_voters.f
 obtain ⟨n, a1, s1, e1, hn, h2, h3⟩ := elements_d hc (a := 0) 0 (by omega) (by omega)
 obtain ⟨x, a2, s2, e2, hx, h4, h5⟩ := among_d hc (a := a1) s1 [1, 2, 3, 3, 5, 15, 16, 0] (by omega) (by omega) (by simp)
 have hx2 : 0 ≤ x ∧ x ≤ 16 := by simp at hx; omega
 obtain ⟨d, rfl⟩ : ∃ d : Nat, x = d := ⟨x.toNat, by omega⟩
 obtain ⟨M, a3, s3, e3, hM⟩ := voters_l0 hc n hn d [] a2 s2 (by simp [rowsP]) (by simp; omega) (by omega) (by omega)
 exact ⟨M, Ev.bind (Ev.bindc e1 (Ev.bindc e2 e3)) (Ev.ret rfl), hM⟩
end Go.Proofs.YtmdnbjhboppkdaaDoor.Pure
