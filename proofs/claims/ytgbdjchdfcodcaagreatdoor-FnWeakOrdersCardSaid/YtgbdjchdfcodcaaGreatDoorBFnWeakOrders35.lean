import Derived.Test.YtgbdjchdfcodcaaGreatDoorBFnWeakOrders27
import Derived.Test.YtgbdjchdfcodcaaGreatDoorBFnWeakOrders34
namespace Go.Proofs.YtgbdjchdfcodcaaGreatDoor.Pure
open Go.RowKit Go.Proofs.YtgbdjchdfcodcaaGreatDoor.Q Go.Proofs.YtgbdjchdfcodcaaGreatDoorW.PrintWords Go.Proofs.YtgbdjchdfcodcaaGreatDoorW.PrintLast
set_option linter.unusedVariables false
set_option linter.unusedSimpArgs false
theorem mirror_impl (l : List Int) (hl : l.length ≤ 10) (hb : ∀ x ∈ l, 0 ≤ x ∧ x ≤ 10) (d : Nat) : ∀ i : Nat, i + d = l.length → Ev (fun k => impl_MirrorLevels.l0 k ((l.take i).map (- ·)) l (l.length : Int) i) (lev (l.map (- ·)), true) := by
 induction d with
 | zero =>
  intro i hi
  refine Ev.shift ?_
  simp only [impl_MirrorLevels.l0]
  exact Ev.neg (by omega) (Ev.bind (leveled_ev _ (by simp; omega)) (Ev.ret (by rw [List.take_of_length_le (by omega)])))
 | succ d ih =>
  intro i hi
  have hx := hb (rd l (i : Int)) (by rw [rd_lt l i (by omega)]; exact List.getElem_mem _)
  refine Ev.shift ?_
  simp only [impl_MirrorLevels.l0]
  refine Ev.pos (by omega) (Ev.pos (by omega) (Ev.pos (by omega) (Ev.pos (by simp; omega) ?_)))
  rw [wrap64_id (x := (i : Int) + 1) (by omega) (by omega), wrap64_id (x := - rd l (i : Int)) (by omega) (by omega), cast1]
  have := ih (i + 1) (by omega)
  rw [List.take_succ_eq_append_getElem (by omega), List.map_append, ← rd_lt l i (by omega)] at this
  exact this
end Go.Proofs.YtgbdjchdfcodcaaGreatDoor.Pure
/- An order has levels or three elements that refuse them, and orders of levels have these levels, for every two strings of bytes. Condition: the listed variables, tied to the program's text by the card. -/
namespace Go.Proofs.YtgbdjchdfcodcaaGreatDoor.Pure
open Go.RowKit Go.Proofs.YtgbdjchdfcodcaaGreatDoor.Q Go.Proofs.YtgbdjchdfcodcaaGreatDoorW.PrintWords Go.Proofs.YtgbdjchdfcodcaaGreatDoorW.PrintLast
set_option linter.unusedVariables false
set_option linter.unusedSimpArgs false
theorem drawWeak {c : List Int} (hc : bytesP c) : ∃ n L, Ev (fun k => spec_DrawWeakLevels.f k c) (n, L) ∧ L.length ≤ 12 := by
 unfold spec_DrawWeakLevels.f spec_DrawIsWeak.f
 obtain ⟨b, a1, s1, e1, _, h2, h3⟩ := one_d hc (a := 0) 0 2 (by omega) (by omega) (by omega)
 by_cases hb : b = true
 ·obtain ⟨n, L, a2, s2, e2, hn, h4, h5⟩ := anyOrder_d hc (a := a1) s1 6 (by omega) (by omega) ⟨by omega, by omega⟩
  have hL : L.length ≤ 10 := hn.2.1
  exact ⟨n, L, Ev.bind (Ev.bindc e1 (Ev.pos hb (Ev.bind e2 (Ev.ret rfl)))) (Ev.ret rfl), by omega⟩
 ·obtain ⟨p, a2, s2, e2, hp, h4, h5⟩ := pick_d hc (a := a1) s1 8 (by omega) (by omega) (by omega)
  obtain ⟨x, a3, s3, e3, hx, _, _⟩ := levels_d hc (a := a2) s2 p ⟨by omega, by omega⟩ (by omega) (by omega)
  exact ⟨_, _, Ev.bind (Ev.bindc e1 (Ev.neg hb (Ev.bindc e2 (Ev.bind e3 (Ev.bind (weOrder_ev x (by omega)) (Ev.ret rfl)))))) (Ev.ret rfl), by rw [rel_length]; omega⟩
theorem drawOol {c : List Int} (hc : bytesP c) : ∃ x, Ev (fun k => spec_DrawOrderOfLevels.f k c) x ∧ x.length ≤ 12 := by
 unfold spec_DrawOrderOfLevels.f spec_DrawAreLevels.f
 obtain ⟨n, a1, s1, e1, hn, h2, h3⟩ := elements_d hc (a := 0) 0 (by omega) (by omega)
 obtain ⟨x, a3, s3, e3, hx, _, _⟩ := levels_d hc (a := a1) s1 n ⟨by omega, by omega⟩ (by omega) (by omega)
 exact ⟨x, Ev.bind (Ev.bindc e1 (Ev.bind e3 (Ev.ret rfl))) (Ev.ret rfl), by omega⟩
variable {n : Int} {L : List Int}
theorem iSemi_weak (h : orderP n L) (h21 : No21 L.length (lt L)) (hL : L.length ≤ 1048576) : Ev (fun k => impl_isSemi.f k n L) true := by
 obtain ⟨x, x1, x2⟩ := twoTwo_ev h.1
 obtain ⟨z, z1, z2⟩ := threeOne_ev h.1
 have h22 := weak_22 (ord_lt h) h21
 have h31 := weak_31 h21
 have hx : x = [] := x2.2 ⟨fun a ha b hb c hc d hd g => h22 a b c d ha hb hc hd g.1 g.2.1 g.2.2.1 g.2.2.2, trivial⟩
 have hz : z = [] := z2.2 (by
  intro a ha q hq b eb p hp c ec
  obtain ⟨b', eb', hb, hab⟩ := row_el h.1 ha hq
  obtain rfl : b = b' := by omega
  obtain ⟨c', ec', hc, hbc⟩ := row_el h.1 hb hp
  obtain rfl : c = c' := by omega
  have h3 := and3_set h.1 ha hb hc
  refine (set_eq_zero h3.1).2 fun d hd => ?_
  rw [h3.2]
  cases e : (decide (d < L.length) && freeP L a d && freeP L b d && freeP L c d)
  ·rfl
  ·simp only [Bool.and_eq_true, decide_eq_true_iff] at e
   obtain ⟨⟨⟨g1, g2⟩, g3⟩, g4⟩ := e
   have f1 := freeP_iff.1 g2; have f2 := freeP_iff.1 g3; have f3 := freeP_iff.1 g4
   exact (h31 a b c d ha hb hc g1 hab hbc f1.1 f1.2.1 f1.2.2 f2.1 f2.2.1 f2.2.2 f3.1 f3.2.1 f3.2.2).elim)
 subst hx hz
 unfold impl_isSemi.f impl_isInterval.f
 exact Ev.bind (Ev.bind (isOrder_ev n L hL) (Ev.pos (by simpa using h) (Ev.bind x1 (Ev.ret rfl)))) (Ev.pos rfl (Ev.bind z1 (Ev.ret rfl)))
theorem iIsSemi_weak (h : orderP n L) (h21 : No21 L.length (lt L)) (hL : L.length ≤ 1048576) : Ev (fun k => impl_IsSemiorder.f k n L) (true, true) := by
 unfold impl_IsSemiorder.f
 exact Ev.bind (isOrder_ev n L hL) (Ev.pos (by simpa using h) (Ev.bind (iSemi_weak h h21 hL) (Ev.ret rfl)))
theorem iTrace_weak (h : orderP n L) (h21 : No21 L.length (lt L)) (hL : L.length ≤ 1048576) : Ev (fun k => impl_TraceOf.f k n L) (lvs L, true) := by
 have h10 : L.length ≤ 10 := by have := h.1.1; have := h.1.2.1; omega
 have e1 := h.1.2.1
 have hrel := relation_ev (trB L) L.length (by omega) (fun _ u0_ u1_ => impl_TraceOf_1.f u0_ u1_ n (dns L) n L) (fun i j hi hj => Ev.const (tr_f n L hi hj))
 rw [e1] at hrel
 unfold impl_TraceOf.f
 refine Ev.bind (iSemi_weak h h21 hL) (Ev.pos rfl (Ev.bind (mirror_ev h.1 : Ev _ (n, dns L)) (Ev.bind hrel (Ev.bind (olevels_ev (rel_rel e1 h10 (trB L))) (Ev.ret ?_)))))
 rw [weak_self h h21]
theorem lvl_21 {l : List Int} (h : l.length ≤ 10) : No21 (rel (lvlLt l) l.length).length (lt (rel (lvlLt l) l.length)) := by
 intro a b c ha hb hc h1 h2 h3 h4 h5 h6 h7
 rw [rel_length] at ha hb hc
 rw [rel_lt h ha] at h1 h2
 rw [rel_lt h hb] at h5
 rw [rel_lt h hc] at h3 h6
 unfold lvlLt at h1 h2 h3 h5 h6
 simp [ha, hb, hc] at h1 h2 h3 h5 h6
 omega
theorem lvl_lev {l : List Int} (h : lvlP l) : lev l = l := by
 obtain ⟨n, hn, hx⟩ := lvl_fill h
 exact lev_fix (n := n) hx
theorem lvl_lvs {l : List Int} (h : lvlP l) : lvs (rel (lvlLt l) l.length) = l := by
 have h10 := h.1
 have ho := lvl_order h10
 have h21 := lvl_21 h10
 rw [weak_lvs ho h21]
 have : lev (nums (rel (lvlLt l) l.length)) = lev l := by
  refine lev_congr (by rw [nums_length, rel_length]) fun i j hi hj => ?_
  have hi' := hi; have hj' := hj
  rw [nums_length] at hi' hj'
  rw [rd_nums _ hi', rd_nums _ hj', ← weak_num (ord_lt ho) h21 hi' hj']
  rw [rel_length] at hi' hj'
  rw [rel_lt h10 hi']
  unfold lvlLt; simp [hj']
 rw [this, lvl_lev h]
theorem weak_lvl (h : orderP n L) (h21 : No21 L.length (lt L)) : lvlP (lvs L) ∧ rel (lvlLt (lvs L)) (lvs L).length = L := by
 have h10 : L.length ≤ 10 := by have := h.1.1; have := h.1.2.1; omega
 refine ⟨by rw [weak_lvs h h21]; exact lev_lvl _ (by rw [nums_length]; exact h10), ?_⟩
 rw [lvs_length]
 refine rel_self h.1 fun i j hi hj => ?_
 rw [Bool.eq_iff_iff, weak_rises h h21 hi hj]
 unfold lvlLt; simp
theorem iWeak_yes (h : orderP n L) (h21 : No21 L.length (lt L)) (hx : Ev (fun k => impl_Order_twoOne.f k n L) []) (hL : L.length ≤ 1048576) : Ev (fun k => impl_WeakLevels.f k n L) (lvs L, true) := by
 unfold impl_WeakLevels.f
 exact Ev.bind (isOrder_ev n L hL) (Ev.pos (by simpa using h) (Ev.bind hx (Ev.pos rfl (Ev.bind (olevels_ev h.1) (Ev.ret rfl)))))
theorem iWeak_no (h : orderP n L) {x : List Int} (hx : Ev (fun k => impl_Order_twoOne.f k n L) x) (hne : x ≠ []) (hL : L.length ≤ 1048576) : Ev (fun k => impl_WeakLevels.f k n L) ([], false) := by
 unfold impl_WeakLevels.f
 exact Ev.bind (isOrder_ev n L hL) (Ev.pos (by simpa using h) (Ev.bind hx (Ev.neg hne (Ev.ret rfl))))
theorem iTwoOne (h : orderP n L) {x : List Int} (hx : Ev (fun k => impl_Order_twoOne.f k n L) x) (hL : L.length ≤ 1048576) : Ev (fun k => impl_TwoOneOf.f k n L) (x, x != []) := by
 unfold impl_TwoOneOf.f
 exact Ev.bind (isOrder_ev n L hL) (Ev.pos (by simpa using h) (Ev.bind hx (Ev.ret rfl)))
theorem iIsWeak (h : orderP n L) {x : List Int} (hx : Ev (fun k => impl_Order_twoOne.f k n L) x) (hL : L.length ≤ 1048576) : Ev (fun k => impl_IsWeak.f k n L) (x == [], true) := by
 unfold impl_IsWeak.f
 exact Ev.bind (isOrder_ev n L hL) (Ev.pos (by simpa using h) (Ev.bind hx (Ev.ret rfl)))
theorem mir_levels {l : List Int} (h : lvlP l) : rel (lvlLt (lev (l.map (- ·)))) (lev (l.map (- ·))).length = mir (rel (lvlLt l) l.length) := by
 have h10 := h.1
 have ho := lvl_order h10
 have hm := mir_relP ho.1
 rw [lev_length, List.length_map]
 have := rel_self hm (p := lvlLt (lev (l.map (- ·)))) (fun i j hi hj => ?_)
 ·rw [mir_length, rel_length] at this; exact this
 ·rw [mir_length, rel_length] at hi hj
  rw [mir_lt ho.1 (by rw [rel_length]; exact hi) (by rw [rel_length]; exact hj), rel_lt h10 hj, Bool.eq_iff_iff]
  have hl := lev_lt (l.map (- ·)) (i := i) (j := j) (by simpa using hi) (by simpa using hj)
  rw [rd_lt (l.map (- ·)) i (by simpa using hi), rd_lt (l.map (- ·)) j (by simpa using hj)] at hl
  unfold lvlLt
  simp only [hi, decide_true, Bool.true_and, decide_eq_true_iff]
  show rd (lev (l.map (- ·))) (i : Int) < rd (lev (l.map (- ·))) (j : Int) ↔ _
  rw [hl, rd_lt l i hi, rd_lt l j hj]
  simp
theorem weakTail (l1 : List Int) (hb : bytesP l1) : Ev (fun k => laws_FnWeakOrders.j1 k l1) true := by
 obtain ⟨x, hd, hx⟩ := drawOol hb
 refine Ev.shift ?_
 simp only [laws_FnWeakOrders.j1]
 refine Ev.bind hd ?_
 by_cases h : lvlP x
 ·have h10 := h.1
  have io := iOrderOfLevels_yes h
  have so : Ev (fun k => spec_OrderOfLevels.f k x) ((x.length : Int), rel (lvlLt x) x.length, true) := by
   unfold spec_OrderOfLevels.f
   exact Ev.bind (levels_spec x (by omega)) (Ev.pos (by simpa using h) (Ev.bind (weOrder_ev x (by omega)) (Ev.ret rfl)))
  have hpl : (rel (lvlLt x) x.length).length ≤ 1048576 := by rw [rel_length]; omega
  refine Ev.bind io (Ev.bind so (Ev.neg (by simp) (Ev.bind (vOrder_self (x.length : Int) (rel (lvlLt x) x.length) hpl) (Ev.pos rfl (Ev.bind (levels_impl x (by omega)) (Ev.shift ?_))))))
  simp only [laws_FnWeakOrders.j2]
  have ho := lvl_order h10
  have h21 := lvl_21 h10
  have iw : Ev (fun k => impl_WeakLevels.f k (x.length : Int) (rel (lvlLt x) x.length)) (x, true) := by
   have := iWeak_yes ho h21 (twoOne_empty ho h21) hpl
   rwa [lvl_lvs h] at this
  have im : Ev (fun k => impl_MirrorLevels.f k x) (lev (x.map (- ·)), true) := by
   unfold impl_MirrorLevels.f
   refine Ev.bind (levels_impl x (by omega)) (Ev.pos (by simpa using h) ?_)
   have := mirror_impl x h10 h.2.1 x.length 0 (by omega)
   simpa using this
  have io2 := iOrderOfLevels_yes (lev_lvl (x.map (- ·)) (by simpa using h10))
  have mo : Ev (fun k => impl_MirrorOf.f k (x.length : Int) (rel (lvlLt x) x.length)) ((x.length : Int), mir (rel (lvlLt x) x.length), true) := by
   unfold impl_MirrorOf.f
   exact Ev.bind (isRelation_ev _ _ hpl) (Ev.pos (by simpa using ho.1) (Ev.bind (mirror_ev ho.1) (Ev.ret rfl)))
  rw [mir_levels h, lev_length, List.length_map] at io2
  refine Ev.neg (by simp [h]) (Ev.pos ⟨⟩ (Ev.bind iw (Ev.bind im (Ev.bind io2 (Ev.bind mo (Ev.pos rfl (Ev.bind (vSame_ev x x (by omega)) (Ev.pos (by simp) (Ev.pos rfl (Ev.pos rfl (Ev.pos rfl (Ev.bind (vOrder_self _ _ (by rw [mir_length, rel_length]; omega)) (Ev.ret rfl)))))))))))))
 ·have io : Ev (fun k => impl_OrderOfLevels.f k x) (0, [], false) := by
   unfold impl_OrderOfLevels.f
   exact Ev.bind (levels_impl x (by omega)) (Ev.neg (by simpa using h) (Ev.ret rfl))
  have so : Ev (fun k => spec_OrderOfLevels.f k x) (0, [], false) := by
   unfold spec_OrderOfLevels.f
   exact Ev.bind (levels_spec x (by omega)) (Ev.neg (by simpa using h) (Ev.ret rfl))
  refine Ev.bind io (Ev.bind so (Ev.neg (by simp) (Ev.bind (vOrder_self 0 [] (by simp)) (Ev.pos rfl (Ev.bind (levels_impl x (by omega)) (Ev.shift ?_))))))
  simp only [laws_FnWeakOrders.j2]
  exact Ev.neg (by simp [h]) (Ev.neg (by simp) (Ev.ret rfl))
theorem FnWeakOrders (l0 : List Int) (hm0 : l0.length ≤ maxLen) (hw0 : ∀ x ∈ l0, (Lit.int .u8 x).wf = true) (l1 : List Int) (hm1 : l1.length ≤ maxLen) (hw1 : ∀ x ∈ l1, (Lit.int .u8 x).wf = true) : ∃ k, laws_FnWeakOrders.f k l0 l1 = some true := by
 refine Ev.at1 ?_
 unfold laws_FnWeakOrders.f
 obtain ⟨b, hb⟩ := big_f l0 l1 hm0
 refine Ev.bindc hb ?_
 by_cases hbt : b = true
 ·exact Ev.pos hbt (Ev.ret rfl)
 refine Ev.neg hbt ?_
 obtain ⟨n, L, hd, hL⟩ := drawWeak (bytesP.of hw0)
 have hl : L.length ≤ 1048576 := by omega
 have ht := weakTail l1 (bytesP.of hw1)
 obtain ⟨r, r1, r2, r3⟩ := WeakLevels_both n L hl
 obtain ⟨q, q1, q2, q3⟩ := TwoOneOf_both n L hl
 refine Ev.bind hd (Ev.bind r1 (Ev.bind r2 (Ev.bind q1 (Ev.bind q2 ?_))))
 by_cases h : orderP n L
 ·obtain ⟨x, h1, h2, h3, h4⟩ := twoOne_more h
  have ei := iIsWeak h h1 hl
  have eq_ := Ev.uniq q1 (iTwoOne h h1 hl)
  subst eq_
  by_cases hx : x = []
  ·subst hx
   have h21 := no21_of h (h4 rfl)
   have er := Ev.uniq r1 (iWeak_yes h h21 h1 hl)
   subst er
   obtain ⟨g1, g2⟩ := weak_lvl h h21
   have e1 := h.1.2.1
   have io := iOrderOfLevels_yes g1
   rw [g2, lvs_length, e1] at io
   refine Ev.bind ei (Ev.neg (by simp) (Ev.bind (vSame_ev _ _ (by rw [lvs_length]; omega)) (Ev.pos (by simp) (Ev.neg (by simp) (Ev.bind (vSame_ev _ _ (by simp)) (Ev.pos (by simp) (Ev.pos rfl (Ev.neg (by simp) (Ev.bind (isOrder_ev n L hl) (Ev.neg (by simp [h]) (Ev.neg (by simp) (Ev.pos rfl (Ev.pos (by simp) (Ev.shift ?_))))))))))))))
   simp only [laws_FnWeakOrders.j0]
   exact Ev.neg (by simp) (Ev.pos ⟨⟩ (Ev.bind io (Ev.bind (iIsSemi_weak h h21 hl) (Ev.bind (iTrace_weak h h21 hl) (Ev.pos rfl (Ev.bind (vOrder_self n L hl) (Ev.pos rfl (Ev.pos rfl (Ev.pos rfl (Ev.pos rfl (Ev.bind (vSame_ev _ _ (by rw [lvs_length]; omega)) (Ev.pos (by simp) ht))))))))))))
  ·have er := Ev.uniq r1 (iWeak_no h h1 hx hl)
   subst er
   refine Ev.bind ei (Ev.neg (by simp) (Ev.bind (vSame_ev _ _ (by simp)) (Ev.pos (by simp) (Ev.neg (by simp) (Ev.bind (vSame_ev _ _ (by omega)) (Ev.pos (by simp) (Ev.neg (by simp) (Ev.bind (isOrder_ev n L hl) (Ev.neg (by simp [h]) (Ev.neg (by simp [hx]) (Ev.pos rfl (Ev.neg (by simp [hx]) (Ev.shift ?_)))))))))))))
   simp only [laws_FnWeakOrders.j0]
   exact Ev.neg (by simp [hx]) (Ev.neg (by simp) ht)
 ·have ei : Ev (fun k => impl_IsWeak.f k n L) (false, false) := by
   unfold impl_IsWeak.f
   exact Ev.bind (isOrder_ev n L hl) (Ev.neg (by simpa using h) (Ev.ret rfl))
  have er : Ev (fun k => impl_WeakLevels.f k n L) ([], false) := by
   unfold impl_WeakLevels.f
   exact Ev.bind (isOrder_ev n L hl) (Ev.neg (by simpa using h) (Ev.ret rfl))
  have eq_ : Ev (fun k => impl_TwoOneOf.f k n L) ([], false) := by
   unfold impl_TwoOneOf.f
   exact Ev.bind (isOrder_ev n L hl) (Ev.neg (by simpa using h) (Ev.ret rfl))
  have a1 := Ev.uniq r1 er
  have a2 := Ev.uniq q1 eq_
  subst a1 a2
  refine Ev.bind ei (Ev.neg (by simp) (Ev.bind (vSame_ev _ _ (by simp)) (Ev.pos (by simp) (Ev.neg (by simp) (Ev.bind (vSame_ev _ _ (by simp)) (Ev.pos (by simp) (Ev.neg (by simp) (Ev.bind (isOrder_ev n L hl) (Ev.neg (by simp [h]) (Ev.neg (by simp) (Ev.neg (by simp) (Ev.shift ?_))))))))))))
  simp only [laws_FnWeakOrders.j0]
  exact Ev.neg (by simp) (Ev.neg (by simp) ht)
end Go.Proofs.YtgbdjchdfcodcaaGreatDoor.Pure
