import Derived.Test.YtgbdjchdfcodcaaGreatDoorBFnWeakOrders25
import Derived.Test.YtgbdjchdfcodcaaGreatDoorBFnWeakOrders33
namespace Go.Proofs.YtgbdjchdfcodcaaGreatDoor.Pure
open Go.RowKit Go.Proofs.YtgbdjchdfcodcaaGreatDoor.Q Go.Proofs.YtgbdjchdfcodcaaGreatDoorW.PrintWords Go.Proofs.YtgbdjchdfcodcaaGreatDoorW.PrintLast
set_option linter.unusedVariables false
set_option linter.unusedSimpArgs false
theorem twoOne_none {n : Int} {L : List Int} (h : relP n L) (hn : ∀ a : Nat, a < L.length → ∀ b ∈ bitsOf (rd L (a : Int)), nearZ L a b) (d : Nat) : ∀ i : Nat, i + d = L.length → Ev (fun k => impl_Order_twoOne.l0 k (rel (freeP L) L.length) n (i : Int) n L) [] := by
 have e1 := h.2.1
 have e3 := h.1
 induction d with
 | zero =>
  intro i hi
  refine Ev.shift ?_
  simp only [impl_Order_twoOne.l0]
  exact Ev.neg (by omega) (Ev.ret rfl)
 | succ d ih =>
  intro i hi
  have hs := h.set (i := i) (by omega)
  have inner : ∀ (c q : Nat), q + c = (bitsOf (rd L (i : Int))).length → Ev (fun k => impl_Order_twoOne.l1 k (rel (freeP L) L.length) (i : Int) n (i : Int) (bitsOf (rd L (i : Int))) ((bitsOf (rd L (i : Int))).length : Int) (q : Int) n L) [] := by
   intro c
   have hbl := bitsOf_len (rd L (i : Int))
   induction c with
   | zero =>
    intro q hq
    refine Ev.shift ?_
    simp only [impl_Order_twoOne.l1]
    refine Ev.neg (by omega) ?_
    rw [wrap64_id (by omega) (by omega), cast1]
    exact ih (i + 1) (by omega)
   | succ c ihc =>
    intro q hq
    have hmem : rd (bitsOf (rd L (i : Int))) (q : Int) ∈ bitsOf (rd L (i : Int)) := by rw [rd_lt _ q (by omega)]; exact List.getElem_mem _
    obtain ⟨b, hb, hbl2, _⟩ := h.bits (i := i) (by omega) hmem
    have hz := hn i (by omega) _ hmem
    unfold nearZ at hz
    rw [hb] at hz
    refine Ev.shift ?_
    simp only [impl_Order_twoOne.l1]
    rw [hb]
    refine Ev.pos (by omega) (Ev.pos (by omega) (Ev.pos (by omega) (Ev.pos (by omega) (Ev.pos (by rw [rel_length]; omega) (Ev.pos (by omega) (Ev.pos (by rw [rel_length]; omega) (Ev.pos hz ?_)))))))
    rw [wrap64_id (by omega) (by omega), cast1]
    exact ihc (q + 1) (by omega)
  refine Ev.shift ?_
  simp only [impl_Order_twoOne.l0]
  exact Ev.pos (by omega) (Ev.pos (by omega) (Ev.pos (by omega) (Ev.bind (members_ev hs.1 hs.2) (inner _ 0 (Nat.zero_add _)))))
theorem near_of21 {n : Int} {L : List Int} (h : orderP n L) (h21 : No21 L.length (lt L)) : ∀ a : Nat, a < L.length → ∀ b ∈ bitsOf (rd L (a : Int)), nearZ L a b := by
 have h10 : L.length ≤ 10 := by have := h.1.1; have := h.1.2.1; omega
 intro a ha b hb
 obtain ⟨b, _, hab, rfl⟩ := mem_bitsOf.1 hb
 have hbl := h.1.lt_len ha hab
 unfold nearZ
 have fa := rel_set (p := freeP L) (n := L.length) (i := a) h10 ha
 have fb := rel_set (p := freeP L) (n := L.length) (i := b) h10 hbl
 have hab2 := set_and fa fb
 refine (set_eq_zero hab2.1).2 fun c hc => ?_
 rw [hab2.2]
 have e1 := rel_lt (p := freeP L) h10 ha c
 have e2 := rel_lt (p := freeP L) h10 hbl c
 unfold lt at e1 e2
 rw [e1, e2]
 cases e : (decide (c < L.length) && freeP L a c && (decide (c < L.length) && freeP L b c))
 ·rfl
 ·simp only [Bool.and_eq_true, decide_eq_true_iff] at e
  obtain ⟨⟨g1, g2⟩, _, g3⟩ := e
  unfold freeP at g2 g3
  simp at g2 g3
  exact (h21 a b c ha hbl g1 hab (by simp_all) (by simp_all) (by simp_all) (by simp_all) (by simp_all) (by simp_all)).elim
theorem twoOne_empty {n : Int} {L : List Int} (h : orderP n L) (h21 : No21 L.length (lt L)) : Ev (fun k => impl_Order_twoOne.f k n L) [] := by
 unfold impl_Order_twoOne.f
 exact Ev.bind (near_ev h.1) (twoOne_none h.1 (near_of21 h h21) L.length 0 (by omega))
theorem most_f (a b : Int) : spec_l1Most.f a b = some (max a b) := by
 unfold spec_l1Most.f
 by_cases h : a > b
 ·rw [if_pos h]; congr 1; omega
 ·rw [if_neg h]; congr 1; omega
theorem height_ev {n : Int} {L : List Int} (h : orderP n L) (h21 : No21 L.length (lt L)) (c : Nat) : ∀ i : Nat, i < L.length → lvc L i = c → Ev (fun k => spec_weHeight.f k n L (i : Int)) (lvc L i : Int) := by
 have h10 : L.length ≤ 10 := by have := h.1.1; have := h.1.2.1; omega
 induction c using Nat.strongRecOn with
 | ind c ih =>
  intro i hi e
  have hs := (dn_set h.1 i).1
  have hb := (dn_set h.1 i).2
  have hbl := bitsOf_len (dn L i)
  have loop : ∀ (cc q : Nat) (m : Int), q + cc = (bitsOf (dn L i)).length → Ev (fun k => spec_weHeight.l0 k m (bitsOf (dn L i)) ((bitsOf (dn L i)).length : Int) (q : Int) n L) (((bitsOf (dn L i)).drop q).foldl (fun m x => max m (1 + (lvc L x.toNat : Int))) m) := by
   intro cc
   induction cc with
   | zero =>
    intro q m hq
    refine Ev.shift ?_
    simp only [spec_weHeight.l0]
    exact Ev.neg (by omega) (Ev.ret (by rw [List.drop_of_length_le (by omega)]; rfl))
   | succ cc ihc =>
    intro q m hq
    obtain ⟨j, hj, hbj, ej⟩ := mem_bitsOf.1 (show rd (bitsOf (dn L i)) (q : Int) ∈ bitsOf (dn L i) by rw [rd_lt _ q (by omega)]; exact List.getElem_mem _)
    rw [hb] at hbj; simp at hbj
    have hl := lvc_less h hi hbj.1 hbj.2
    have hll := lvc_le L j
    refine Ev.shift ?_
    simp only [spec_weHeight.l0]
    rw [drop_rd _ q (by omega), List.foldl_cons, ej, Int.toNat_natCast]
    refine Ev.pos (by omega) (Ev.pos (by omega) (Ev.pos (by omega) (Ev.bind (ih (lvc L j) (by omega) j hbj.1 rfl) ?_)))
    rw [wrap64_id (x := 1 + (lvc L j : Int)) (by omega) (by omega), wrap64_id (x := (q : Int) + 1) (by omega) (by omega), cast1]
    exact Ev.bindc (most_f _ _) (ihc (q + 1) _ (by omega))
  refine Ev.shift ?_
  simp only [spec_weHeight.f]
  refine Ev.bind (below_ev h.1 hi : Ev _ (dn L i)) (Ev.bind (orList_ev hs.1 hs.2) (Ev.eq (loop _ 0 0 (Nat.zero_add _)) ?_))
  rw [List.drop_zero]
  exact height_fold h h21 hi
theorem spec_levels_l {n : Int} {L : List Int} (h : orderP n L) (h21 : No21 L.length (lt L)) (d : Nat) : ∀ i : Nat, i + d = L.length → Ev (fun k => spec_WeakLevels.l0 k ((List.range i).map fun j => (lvc L j : Int)) (i : Int) n L) (lvs L, true) := by
 have h10 : L.length ≤ 10 := by have := h.1.1; have := h.1.2.1; omega
 have e1 := h.1.2.1
 induction d with
 | zero =>
  intro i hi
  refine Ev.shift ?_
  simp only [spec_WeakLevels.l0]
  exact Ev.neg (by omega) (Ev.ret (by rw [lvs_eq, show i = L.length by omega]))
 | succ d ih =>
  intro i hi
  refine Ev.shift ?_
  simp only [spec_WeakLevels.l0]
  refine Ev.pos (by omega) (Ev.bind (height_ev h h21 _ i (by omega) rfl) (Ev.pos (by simp; omega) ?_))
  rw [wrap64_id (by omega) (by omega), cast1]
  have := ih (i + 1) (by omega)
  rw [List.range_succ, List.map_append, List.map_singleton] at this
  exact this
theorem WeakLevels_both (n : Int) (L : List Int) (hL : L.length ≤ 1048576) : ∃ r, Ev (fun k => impl_WeakLevels.f k n L) r ∧ Ev (fun k => spec_WeakLevels.f k n L) r ∧ r.1.length ≤ 1000 := by
 unfold impl_WeakLevels.f spec_WeakLevels.f spec_weGood.f
 by_cases h : orderP n L
 ·have h10 : L.length ≤ 10 := by have := h.1.1; have := h.1.2.1; omega
  obtain ⟨x, h1, h2, h3, h4⟩ := twoOne_more h
  by_cases hx : x = []
  ·subst hx
   have h21 := no21_of h (h4 rfl)
   refine ⟨(lvs L, true), ?_, ?_, by show (lvs L).length ≤ 1000; rw [lvs_length]; omega⟩
   ·exact Ev.bind (isOrder_ev n L hL) (Ev.pos (by simpa using h) (Ev.bind h1 (Ev.pos rfl (Ev.bind (olevels_ev h.1) (Ev.ret rfl)))))
   ·refine Ev.bind (Ev.bind h2 (Ev.bind (orGood_ev n L hL) (Ev.pos (by simpa using h) (Ev.ret rfl)))) (Ev.pos rfl ?_)
    have := spec_levels_l h h21 L.length 0 (by omega)
    simpa using this
  ·refine ⟨([], false), ?_, ?_, by simp⟩
   ·exact Ev.bind (isOrder_ev n L hL) (Ev.pos (by simpa using h) (Ev.bind h1 (Ev.neg hx (Ev.ret rfl))))
   ·exact Ev.bind (Ev.bind h2 (Ev.bind (orGood_ev n L hL) (Ev.pos (by simpa using h) (Ev.ret rfl)))) (Ev.neg (by simpa using hx) (Ev.ret rfl))
 ·have h2 : Ev (fun k => spec_TwoOneOf.f k n L) ([], false) := by
   unfold spec_TwoOneOf.f
   exact Ev.bind (orGood_ev n L hL) (Ev.neg (by simpa using h) (Ev.ret rfl))
  refine ⟨([], false), ?_, ?_, by simp⟩
  ·exact Ev.bind (isOrder_ev n L hL) (Ev.neg (by simpa using h) (Ev.ret rfl))
  ·exact Ev.bind (Ev.bind h2 (Ev.bind (orGood_ev n L hL) (Ev.neg (by simpa using h) (Ev.ret rfl)))) (Ev.neg (by simp) (Ev.ret rfl))
theorem TwoOneOf_both (n : Int) (L : List Int) (hL : L.length ≤ 1048576) : ∃ r, Ev (fun k => impl_TwoOneOf.f k n L) r ∧ Ev (fun k => spec_TwoOneOf.f k n L) r ∧ r.1.length ≤ 1000 := by
 by_cases h : orderP n L
 ·obtain ⟨x, h1, h2, h3⟩ := twoOne_both h
  refine ⟨(x, x != []), ?_, h2, by show x.length ≤ 1000; omega⟩
  unfold impl_TwoOneOf.f
  exact Ev.bind (isOrder_ev n L hL) (Ev.pos (by simpa using h) (Ev.bind h1 (Ev.ret rfl)))
 ·refine ⟨([], false), ?_, ?_, by simp⟩
  ·unfold impl_TwoOneOf.f
   exact Ev.bind (isOrder_ev n L hL) (Ev.neg (by simpa using h) (Ev.ret rfl))
  ·unfold spec_TwoOneOf.f
   exact Ev.bind (orGood_ev n L hL) (Ev.neg (by simpa using h) (Ev.ret rfl))
theorem all_l (a b : Int) (l : List Int) (hl : l.length ≤ 1048576) (d : Nat) : ∀ i : Nat, i + d = l.length → Ev (fun k => spec_l1All.l0 k a b l (l.length : Int) i) (decide (∀ x ∈ l.drop i, a ≤ x ∧ x ≤ b)) := by
 induction d with
 | zero =>
  intro i hi
  refine Ev.shift ?_
  simp only [spec_l1All.l0]
  refine Ev.neg (by omega) (Ev.ret ?_)
  rw [List.drop_of_length_le (by omega)]; simp
 | succ d ih =>
  intro i hi
  refine Ev.shift ?_
  simp only [spec_l1All.l0]
  refine Ev.pos (by omega) (Ev.pos (by omega) (Ev.pos (by omega) (Ev.bindc (spec_in _ _ _) ?_)))
  rw [wrap64_id (by omega) (by omega), cast1, drop_rd l i (by omega)]
  by_cases hc : a ≤ rd l (i : Int) ∧ rd l (i : Int) ≤ b
  ·exact Ev.pos (by simpa using hc) (Ev.eq (ih (i + 1) (by omega)) (by simp [hc]))
  ·refine Ev.neg (by simpa using hc) (Ev.ret ?_)
   symm; rw [decide_eq_false_iff_not]; intro h; exact hc (h _ (by simp))
theorem all_spec (a b : Int) (l : List Int) (hl : l.length ≤ 1048576) : Ev (fun k => spec_l1All.f k l a b) (decide (∀ x ∈ l, a ≤ x ∧ x ≤ b)) := by
 unfold spec_l1All.f
 simpa using all_l a b l hl l.length 0 (by omega)
theorem has_l (a : Int) (l : List Int) (hl : l.length ≤ 1048576) (d : Nat) : ∀ i : Nat, i + d = l.length → Ev (fun k => spec_l1Has.l0 k a l (l.length : Int) i) (decide (a ∈ l.drop i)) := by
 induction d with
 | zero =>
  intro i hi
  refine Ev.shift ?_
  simp only [spec_l1Has.l0]
  refine Ev.neg (by omega) (Ev.ret ?_)
  rw [List.drop_of_length_le (by omega)]; simp
 | succ d ih =>
  intro i hi
  refine Ev.shift ?_
  simp only [spec_l1Has.l0]
  refine Ev.pos (by omega) (Ev.pos (by omega) (Ev.pos (by omega) ?_))
  rw [wrap64_id (by omega) (by omega), cast1, drop_rd l i (by omega)]
  by_cases hc : rd l (i : Int) = a
  ·exact Ev.pos hc (Ev.ret (by simp [hc]))
  ·exact Ev.neg hc (Ev.eq (ih (i + 1) (by omega)) (by simp [Ne.symm hc]))
theorem has_spec (a : Int) (l : List Int) (hl : l.length ≤ 1048576) : Ev (fun k => spec_l1Has.f k l a) (decide (a ∈ l)) := by
 unfold spec_l1Has.f
 simpa using has_l a l hl l.length 0 (by omega)
def lvlP (l : List Int) : Prop := l.length ≤ 10 ∧ (∀ x ∈ l, 0 ≤ x ∧ x ≤ 10) ∧ ∀ x ∈ l, 0 < x → x - 1 ∈ l
instance (l : List Int) : Decidable (lvlP l) := by unfold lvlP; infer_instance
theorem weLevels_l (l : List Int) (hl : l.length ≤ 10) (hr : ∀ x ∈ l, 0 ≤ x ∧ x ≤ 10) (d : Nat) : ∀ i : Nat, i + d = l.length → Ev (fun k => spec_weLevels.l0 k l l (l.length : Int) i) (decide (∀ x ∈ l.drop i, 0 < x → x - 1 ∈ l)) := by
 induction d with
 | zero =>
  intro i hi
  refine Ev.shift ?_
  simp only [spec_weLevels.l0]
  refine Ev.neg (by omega) (Ev.ret ?_)
  rw [List.drop_of_length_le (by omega)]; simp
 | succ d ih =>
  intro i hi
  have hx := hr (rd l (i : Int)) (by rw [rd_lt l i (by omega)]; exact List.getElem_mem _)
  refine Ev.shift ?_
  simp only [spec_weLevels.l0]
  refine Ev.pos (by omega) (Ev.pos (by omega) (Ev.pos (by omega) ?_))
  rw [wrap64_id (x := (i : Int) + 1) (by omega) (by omega), wrap64_id (x := rd l (i : Int) - 1) (by omega) (by omega), cast1, drop_rd l i (by omega)]
  by_cases h0 : rd l (i : Int) > 0
  ·refine Ev.pos h0 (Ev.bind (has_spec _ l (by omega)) ?_)
   by_cases hm : rd l (i : Int) - 1 ∈ l
   ·exact Ev.pos (by simpa using hm) (Ev.eq (ih (i + 1) (by omega)) (by simp [hm]))
   ·refine Ev.neg (by simpa using hm) (Ev.ret ?_)
    symm; rw [decide_eq_false_iff_not]; intro h; exact hm (h _ (by simp) h0)
  ·exact Ev.neg h0 (Ev.eq (ih (i + 1) (by omega)) (by
    congr 1
    rw [eq_iff_iff]
    constructor
    ·intro h x hx hp
     rcases List.mem_cons.1 hx with rfl | hx
     ·omega
     ·exact h x hx hp
    ·intro h x hx hp; exact h x (List.mem_cons_of_mem _ hx) hp))
theorem levels_spec (l : List Int) (hl : l.length ≤ 1048576) : Ev (fun k => spec_weLevels.f k l) (decide (lvlP l)) := by
 unfold spec_weLevels.f
 by_cases h : (l.length : Int) > 10
 ·refine Ev.pos h (Ev.shift ?_)
  simp only [spec_weLevels.j0]
  refine Ev.pos (by simp) (Ev.ret ?_)
  symm; rw [decide_eq_false_iff_not]; intro h'; have := h'.1; omega
 ·refine Ev.neg h (Ev.bind (all_spec 0 10 l hl) (Ev.shift ?_))
  simp only [spec_weLevels.j0]
  by_cases hr : ∀ x ∈ l, 0 ≤ x ∧ x ≤ 10
  ·rw [decide_eq_true hr]
   refine Ev.neg (by simp) (Ev.eq (weLevels_l l (by omega) hr l.length 0 (by omega)) ?_)
   rw [Bool.eq_iff_iff, decide_eq_true_iff, decide_eq_true_iff]
   exact ⟨fun h' => ⟨by omega, hr, by simpa using h'⟩, fun h' => by simpa using h'.2.2⟩
  ·rw [decide_eq_false hr]
   refine Ev.pos (by simp) (Ev.ret ?_)
   symm; rw [decide_eq_false_iff_not]; exact fun h' => hr h'.2.1
def iota (n : Nat) : List Int := (List.range n).map fun (i : Nat) => (i : Int)
theorem mem_iota {n : Nat} {x : Int} : x ∈ iota n ↔ 0 ≤ x ∧ x < n := by
 simp only [iota, List.mem_map, List.mem_range]
 constructor
 ·rintro ⟨i, h, rfl⟩; omega
 ·intro h; exact ⟨x.toNat, by omega, by omega⟩
theorem iota_length (n : Nat) : (iota n).length = n := by simp [iota]
theorem iota_rising (n : Nat) : (iota n).Pairwise (· < ·) := by
 unfold iota
 rw [List.pairwise_map]
 exact List.pairwise_lt_range.imp (by intro a b h; omega)
theorem dif_iota {l : List Int} {n : Nat} (h : ∀ x, x ∈ l ↔ 0 ≤ x ∧ x < n) : dif l = iota n :=
 rising_ext (dif_sorted l) (iota_rising n) fun x => by rw [mem_dif, mem_iota]; exact h x
theorem lvl_fill {l : List Int} (h : lvlP l) : ∃ n : Nat, n ≤ 10 ∧ ∀ x, x ∈ l ↔ 0 ≤ x ∧ x < n := by
 obtain ⟨h1, h2, h3⟩ := h
 have down : ∀ (d : Nat) (x : Int), x ∈ l → ∀ y, 0 ≤ y → y + d = x → y ∈ l := by
  intro d
  induction d with
  | zero => intro x hx y hy e; rw [show y = x by omega]; exact hx
  | succ d ih =>
   intro x hx y hy e
   exact ih (x - 1) (h3 x hx (by omega)) y hy (by omega)
 have hmax : ∀ m : Nat, (∀ x ∈ l, x < m) → ∃ n : Nat, n ≤ m ∧ ∀ x, x ∈ l ↔ 0 ≤ x ∧ x < n := by
  intro m
  induction m with
  | zero => intro hx; exact ⟨0, by omega, fun x => ⟨fun h => by have := hx x h; have := h2 x h; omega, fun h => by omega⟩⟩
  | succ m ih =>
   intro hx
   by_cases hm : (m : Int) ∈ l
   ·refine ⟨m + 1, by omega, fun x => ⟨fun h => ⟨(h2 x h).1, hx x h⟩, fun h => ?_⟩⟩
    exact down (m - x).toNat m hm x h.1 (by omega)
   ·obtain ⟨n, hn, h⟩ := ih (fun x hx' => by
     have := hx x hx'
     have : x ≠ m := fun e => hm (e ▸ hx')
     omega)
    exact ⟨n, by omega, h⟩
 obtain ⟨n, hn, h⟩ := hmax 11 (fun x hx => by have := h2 x hx; omega)
 refine ⟨n, ?_, h⟩
 have e := dif_iota h
 have := dif_length l
 rw [e, iota_length] at this
 omega
theorem lvl_iff (l : List Int) : lvlP l ↔ (∀ m : Nat, m < (dif l).length → rd (dif l) (m : Int) = m) ∧ l.length ≤ 10 := by
 constructor
 ·intro h
  obtain ⟨n, hn, hx⟩ := lvl_fill h
  refine ⟨fun m hm => ?_, h.1⟩
  rw [rd_lt _ m hm]
  simp [dif_iota hx, iota]
 ·rintro ⟨h1, h2⟩
  have hd := dif_length l
  have key : ∀ x, x ∈ l ↔ 0 ≤ x ∧ x < (dif l).length := by
   intro x
   rw [← mem_dif, List.mem_iff_getElem]
   constructor
   ·rintro ⟨m, hm, rfl⟩
    have := h1 m hm
    rw [rd_lt _ m hm] at this
    omega
   ·intro h
    refine ⟨x.toNat, by omega, ?_⟩
    have := h1 x.toNat (by omega)
    rw [rd_lt _ _ (by omega)] at this
    omega
  exact ⟨h2, fun x hx => by have := (key x).1 hx; omega, fun x hx h0 => (key (x - 1)).2 (by have := (key x).1 hx; omega)⟩
theorem areLevels_l (l D : List Int) (hD : D.length ≤ 1048576) (d : Nat) : ∀ i : Nat, i + d = D.length → ∃ r, Ev (fun k => impl_AreLevels.l0 k l D (D.length : Int) i) r ∧ (r = true ↔ (∀ m : Nat, i ≤ m → m < D.length → rd D (m : Int) = m) ∧ l.length ≤ 10) := by
 induction d with
 | zero =>
  intro i hi
  refine ⟨decide ((l.length : Int) ≤ 10), Ev.shift ?_, ?_⟩
  ·simp only [impl_AreLevels.l0]
   exact Ev.neg (by omega) (Ev.ret rfl)
  ·rw [decide_eq_true_iff]
   exact ⟨fun h => ⟨fun m h1 h2 => by omega, by omega⟩, fun h => by omega⟩
 | succ d ih =>
  intro i hi
  obtain ⟨r, hr, hq⟩ := ih (i + 1) (by omega)
  by_cases hc : rd D (i : Int) = i
  ·refine ⟨r, Ev.shift ?_, hq.trans ⟨fun h => ⟨fun m h1 h2 => ?_, h.2⟩, fun h => ⟨fun m h1 h2 => h.1 m (by omega) h2, h.2⟩⟩⟩
   ·simp only [impl_AreLevels.l0]
    refine Ev.pos (by omega) (Ev.pos (by omega) (Ev.pos (by omega) ?_))
    rw [wrap64_id (by omega) (by omega), cast1]
    exact Ev.pos hc hr
   ·by_cases e : m = i
    ·subst e; exact hc
    ·exact h.1 m (by omega) h2
  ·refine ⟨false, Ev.shift ?_, ?_⟩
   ·simp only [impl_AreLevels.l0]
    exact Ev.pos (by omega) (Ev.pos (by omega) (Ev.pos (by omega) (Ev.neg hc (Ev.ret rfl))))
   ·simp only [Bool.false_eq_true, false_iff]
    intro h; exact hc (h.1 i (Nat.le_refl _) (by omega))
theorem levels_impl (l : List Int) (hl : l.length ≤ 1048576) : Ev (fun k => impl_AreLevels.f k l) (decide (lvlP l)) := by
 unfold impl_AreLevels.f
 obtain ⟨r, hr, hq⟩ := areLevels_l l (dif l) (by have := dif_length l; omega) (dif l).length 0 (by omega)
 refine Ev.bindc (different_f l hl) (Ev.eq hr ?_)
 rw [Bool.eq_iff_iff, decide_eq_true_iff, lvl_iff, hq]
 exact ⟨fun h => ⟨fun m hm => h.1 m (Nat.zero_le _) hm, h.2⟩, fun h => ⟨fun m _ hm => h.1 m hm, h.2⟩⟩
def lvlLt (l : List Int) (i j : Nat) : Bool := decide (rd l (j : Int) > rd l (i : Int))
theorem ofLevels_ev (l : List Int) (hl : l.length ≤ 1000) : Ev (fun k => impl_ofLevels.f k l) ((l.length : Int), rel (lvlLt l) l.length) := by
 unfold impl_ofLevels.f
 refine Ev.bind (relation_ev (lvlLt l) l.length hl (fun _ u0_ u1_ => impl_ofLevels_1.f u0_ u1_ l) (fun i j hi hj => ?_)) (Ev.ret rfl)
 refine Ev.const ?_
 unfold impl_ofLevels_1.f
 rw [if_pos (by omega), if_pos (by omega), if_pos (by omega), if_pos (by omega)]
 rfl
theorem weOrder_l1 (l : List Int) (hl : l.length ≤ 1000) (i : Nat) (hi : i < l.length) (y : List Int) (hy : y.length = i) (R : Int × List Int) (hR : Ev (fun k => spec_weOrder.l0 k l l (l.length : Int) ((i + 1 : Nat) : Int) (l.length : Int) (y ++ [rowf (lvlLt l i) l.length])) R) (d : Nat) :
  ∀ j : Nat, j + d = l.length → Ev (fun k => spec_weOrder.l1 k l (rd l (i : Int)) (rowf (lvlLt l i) j) l (l.length : Int) (i : Int) l (l.length : Int) (j : Int) (l.length : Int) y) R := by
 induction d with
 | zero =>
  intro j hj
  obtain rfl : j = l.length := by omega
  refine Ev.shift ?_
  simp only [spec_weOrder.l1]
  refine Ev.neg (by omega) (Ev.pos (by omega) ?_)
  rw [wrap64_id (x := (i : Int) + 1) (by omega) (by omega), cast1]
  exact hR
 | succ d ih =>
  intro j hj
  have := ih (j + 1) (by omega)
  rw [rowf_succ] at this
  refine Ev.shift ?_
  simp only [spec_weOrder.l1]
  refine Ev.pos (by omega) (Ev.pos (by omega) (Ev.pos (by omega) ?_))
  rw [wrap64_id (x := (j : Int) + 1) (by omega) (by omega), cast1]
  by_cases hc : rd l (j : Int) > rd l (i : Int)
  ·rw [if_pos (by simpa [lvlLt] using hc)] at this
   exact Ev.pos hc this
  ·rw [if_neg (by simpa [lvlLt] using hc)] at this
   exact Ev.neg hc this
theorem weOrder_l0 (l : List Int) (hl : l.length ≤ 1000) (d : Nat) : ∀ i : Nat, i + d = l.length → Ev (fun k => spec_weOrder.l0 k l l (l.length : Int) (i : Int) (l.length : Int) ((rel (lvlLt l) l.length).take i)) ((l.length : Int), rel (lvlLt l) l.length) := by
 induction d with
 | zero =>
  intro i hi
  refine Ev.shift ?_
  simp only [spec_weOrder.l0]
  exact Ev.neg (by omega) (Ev.ret (by rw [List.take_of_length_le (by rw [rel_length]; omega)]))
 | succ d ih =>
  intro i hi
  have := ih (i + 1) (by omega)
  rw [List.take_succ_eq_append_getElem (by rw [rel_length]; omega), ← rd_lt _ i (by rw [rel_length]; omega), rel_get _ _ i (by omega)] at this
  refine Ev.shift ?_
  simp only [spec_weOrder.l0]
  refine Ev.pos (by omega) (Ev.pos (by omega) (Ev.pos (by omega) ?_))
  exact weOrder_l1 l hl i (by omega) _ (by rw [List.length_take, rel_length]; omega) _ this l.length 0 (by omega)
theorem weOrder_ev (l : List Int) (hl : l.length ≤ 1000) : Ev (fun k => spec_weOrder.f k l) ((l.length : Int), rel (lvlLt l) l.length) := by
 unfold spec_weOrder.f
 exact weOrder_l0 l hl l.length 0 (by omega)
theorem lev_lvl (l : List Int) (hl : l.length ≤ 10) : lvlP (lev l) := by
 have hd : (dif l).length ≤ 10 := by have := dif_length l; omega
 refine ⟨by rw [lev_length]; exact hl, fun x hx => ?_, fun x hx hp => ?_⟩
 ·obtain ⟨y, hy, rfl⟩ := List.mem_map.1 hx
  have := low_range (dif l) y
  omega
 ·obtain ⟨y, hy, rfl⟩ := List.mem_map.1 hx
  have hr := low_range (dif l) y
  obtain ⟨p, hp2⟩ : ∃ p : Nat, low (dif l) y = p + 1 := ⟨(low (dif l) y - 1).toNat, by omega⟩
  have hpl : p < (dif l).length := by omega
  refine List.mem_map.2 ⟨rd (dif l) (p : Int), ?_, ?_⟩
  ·rw [← mem_dif, rd_lt _ p hpl]; exact List.getElem_mem _
  ·rw [low_get (dif_sorted l) p hpl, hp2]; omega
theorem iOrderOfLevels_yes {l : List Int} (h : lvlP l) : Ev (fun k => impl_OrderOfLevels.f k l) ((l.length : Int), rel (lvlLt l) l.length, true) := by
 have := h.1
 unfold impl_OrderOfLevels.f
 exact Ev.bind (levels_impl l (by omega)) (Ev.pos (by simpa using h) (Ev.bind (ofLevels_ev l (by omega)) (Ev.ret rfl)))
theorem lvl_order {l : List Int} (h : l.length ≤ 10) : orderP (l.length : Int) (rel (lvlLt l) l.length) := by
 have hr := rel_relP (n := (l.length : Int)) rfl h (lvlLt l)
 have hlt : ∀ {i j : Nat}, i < l.length → j < l.length → lt (rel (lvlLt l) l.length) i j = lvlLt l i j := fun {i j} hi hj => by rw [rel_lt h hi]; simp [hj]
 refine orderP_of hr (fun i hi => ?_) (fun i j q hi hj a b => ?_)
 ·rw [rel_length] at hi
  rw [hlt hi hi]; unfold lvlLt; simp
 ·have hq := hr.lt_len hj b
  rw [rel_length] at hi hj hq
  rw [hlt hi hj] at a
  rw [hlt hj hq] at b
  rw [hlt hi hq]
  unfold lvlLt at a b ⊢
  simp at a b ⊢; omega
theorem notNaN (x : Int) : slices_isNaN_int.f x = some false := by simp [slices_isNaN_int.f]
theorem less_f (x y : Int) : cmp_Less_int.f x y = some (decide (x < y)) := by simp [cmp_Less_int.f, cmp_isNaN_int.f]
theorem search_l (D : List Int) (x : Int) (h : D.Pairwise (· < ·)) (hD : D.length ≤ 1048576) (d : Nat) : ∀ (i j : Nat), j - i ≤ d → i ≤ j → j ≤ D.length → (∀ m : Nat, m < i → rd D (m : Int) < x) → (∀ m : Nat, j ≤ m → m < D.length → x ≤ rd D (m : Int)) →
  ∃ b, Ev (fun k => slices_BinarySearch_int_int.l0 k D x (D.length : Int) i j) (low D x, b) := by
 have fin : ∀ i : Nat, i ≤ D.length → (∀ m : Nat, m < i → rd D (m : Int) < x) → (∀ m : Nat, i ≤ m → m < D.length → x ≤ rd D (m : Int)) → ∃ b, Ev (fun k => slices_BinarySearch_int_int.l0 k D x (D.length : Int) i i) (low D x, b) := by
  intro i hi h1 h2
  have hl := low_split i hi h1 h2
  by_cases hc : i < D.length
  ·by_cases he : rd D (i : Int) = x
   ·refine ⟨true, Ev.shift ?_⟩
    simp only [slices_BinarySearch_int_int.l0]
    exact Ev.neg (by omega) (Ev.pos (by omega) (Ev.pos (by omega) (Ev.pos (by omega) (Ev.pos he (Ev.ret (by rw [hl]))))))
   ·refine ⟨false, Ev.shift ?_⟩
    simp only [slices_BinarySearch_int_int.l0]
    exact Ev.neg (by omega) (Ev.pos (by omega) (Ev.pos (by omega) (Ev.pos (by omega) (Ev.neg he (Ev.bindc (notNaN _) (Ev.neg (by simp) (Ev.ret (by rw [hl]))))))))
  ·refine ⟨false, Ev.shift ?_⟩
   simp only [slices_BinarySearch_int_int.l0]
   exact Ev.neg (by omega) (Ev.neg (by omega) (Ev.ret (by rw [hl])))
 induction d with
 | zero =>
  intro i j hd hij hj h1 h2
  obtain rfl : i = j := by omega
  exact fin i hj h1 h2
 | succ d ih =>
  intro i j hd hij hj h1 h2
  by_cases hc : i < j
  ·have em : wrap64 ((IntKind.u64.wrap (wrap64 ((i : Int) + (j : Int)))) / 2) = (((i + j) / 2 : Nat) : Int) := by
    rw [wrap64_id (x := (i : Int) + (j : Int)) (by omega) (by omega)]
    have e : IntKind.u64.wrap ((i : Int) + (j : Int)) = (i : Int) + (j : Int) := by
     simp [IntKind.wrap, IntKind.signed, IntKind.bits]; omega
    rw [e, wrap64_id (by omega) (by omega)]; omega
   have hm : (i + j) / 2 < j := by omega
   by_cases hlt : rd D (((i + j) / 2 : Nat) : Int) < x
   ·obtain ⟨b, hb⟩ := ih ((i + j) / 2 + 1) j (by omega) (by omega) hj (fun m hm' => by
     by_cases e : m = (i + j) / 2
     ·subst e; exact hlt
     ·have := rising_rd h (show m < (i + j) / 2 by omega) (by omega); omega) h2
    refine ⟨b, Ev.shift ?_⟩
    simp only [slices_BinarySearch_int_int.l0]
    rw [em]
    refine Ev.pos (by omega) (Ev.pos (by omega) (Ev.pos (by omega) (Ev.bindc (less_f _ _) (Ev.pos (by simpa using hlt) ?_))))
    rw [wrap64_id (by omega) (by omega), cast1]
    exact hb
   ·obtain ⟨b, hb⟩ := ih i ((i + j) / 2) (by omega) (by omega) (by omega) h1 (fun m hm1 hm2 => by
     by_cases e : (i + j) / 2 = m
     ·subst e; omega
     ·have := rising_rd h (show (i + j) / 2 < m by omega) hm2; omega)
    refine ⟨b, Ev.shift ?_⟩
    simp only [slices_BinarySearch_int_int.l0]
    rw [em]
    exact Ev.pos (by omega) (Ev.pos (by omega) (Ev.pos (by omega) (Ev.bindc (less_f _ _) (Ev.neg (by simpa using hlt) hb))))
  ·obtain rfl : i = j := by omega
   exact fin i hj h1 h2
theorem search_ev (D : List Int) (x : Int) (h : D.Pairwise (· < ·)) (hD : D.length ≤ 1048576) : ∃ b, Ev (fun k => slices_BinarySearch_int_int.f k D x) (low D x, b) := by
 unfold slices_BinarySearch_int_int.f
 exact search_l D x h hD D.length 0 D.length (by omega) (by omega) (by omega) (fun m hm => by omega) (fun m h1 h2 => by omega)
theorem leveled_l (l D : List Int) (h : D.Pairwise (· < ·)) (hD : D.length ≤ 1048576) (hl : l.length ≤ 1048576) (d : Nat) : ∀ (i : Nat), i + d = l.length → Ev (fun k => impl_leveled.l0 k ((l.take i).map (low D)) D l (l.length : Int) i) (l.map (low D)) := by
 induction d with
 | zero =>
  intro i hi
  refine Ev.shift ?_
  simp only [impl_leveled.l0]
  exact Ev.neg (by omega) (Ev.ret (by rw [List.take_of_length_le (by omega)]))
 | succ d ih =>
  intro i hi
  obtain ⟨b, hb⟩ := search_ev D (rd l (i : Int)) h hD
  refine Ev.shift ?_
  simp only [impl_leveled.l0]
  refine Ev.pos (by omega) (Ev.pos (by omega) (Ev.pos (by omega) (Ev.bind hb (Ev.pos (by simp; omega) ?_))))
  rw [wrap64_id (by omega) (by omega), cast1]
  have := ih (i + 1) (by omega)
  rw [List.take_succ_eq_append_getElem (by omega), List.map_append, ← rd_lt l i (by omega)] at this
  exact this
theorem leveled_ev (l : List Int) (hl : l.length ≤ 1048576) : Ev (fun k => impl_leveled.f k l) (lev l) := by
 unfold impl_leveled.f
 have hd := dif_length l
 exact Ev.bindc (different_f l hl) (leveled_l l (dif l) (dif_sorted l) (by omega) hl l.length 0 (by omega))
theorem lev_fix {l : List Int} {n : Nat} (h : ∀ x, x ∈ l ↔ 0 ≤ x ∧ x < n) : lev l = l := by
 unfold lev
 rw [dif_iota h]
 have : ∀ x ∈ l, low (iota n) x = x := by
  intro x hx
  have hx := (h x).1 hx
  obtain ⟨i, rfl⟩ : ∃ i : Nat, x = i := ⟨x.toNat, by omega⟩
  have := low_get (iota_rising n) i (by rw [iota_length]; omega)
  rw [rd_lt _ i (by rw [iota_length]; omega)] at this
  simpa [iota] using this
 conv => rhs; rw [← List.map_id l]
 exact List.map_congr_left fun x hx => this x hx
end Go.Proofs.YtgbdjchdfcodcaaGreatDoor.Pure
