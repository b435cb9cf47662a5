import Derived.Test.YtgbdjchdfcodcaaGreatDoorBFnWeakOrders23
import Derived.Test.YtgbdjchdfcodcaaGreatDoorBFnWeakOrders25
import Derived.Test.YtgbdjchdfcodcaaGreatDoorBFnWeakOrders26
namespace Go.Proofs.YtgbdjchdfcodcaaGreatDoor.Q
open Go.RowKit Go.Proofs.YtgbdjchdfcodcaaGreatDoorW.PrintWords Go.Proofs.YtgbdjchdfcodcaaGreatDoorW.PrintLast Go.Proofs.YtgbdjchdfcodcaaGreatDoorW.PrintMore
attribute [local go_sem] max2_int min2_int max_two min_two max_three min_three max_four min_four neB_f
set_option linter.unusedVariables false
set_option maxHeartbeats 8000000
set_option maxRecDepth 100000
set_option linter.unusedSimpArgs false
mutual
def laws_FnWeakOrders.j0 : Nat → List Int → List Int → Bool → Bool → Int → List Int → Option (Bool)
 | 0, _, _, _, _, _, _ => none
 | k + 1, x1, x6, x7, x112, x810000, x810001 => if x112 = true then (some false) else (if x7 = true then ((impl_OrderOfLevels.f k x6).bind fun bt832 => ((impl_IsSemiorder.f k x810000 x810001).bind fun bt838 => ((impl_TraceOf.f k x810000 x810001).bind fun bt840 => (if bt832.2.2 = true then ((laws_vOrder.f k bt832.1 bt832.2.1 x810000 x810001).bind fun t844 => (if t844 = true then (if bt838.2 = true then (if bt838.1 = true then (if bt840.2 = true then ((laws_vSame.f k bt840.1 x6).bind fun t845 => (if t845 = true then (laws_FnWeakOrders.j1 k x1) else (some false))) else (some false)) else (some false)) else (some false)) else (some false))) else (some false))))) else (laws_FnWeakOrders.j1 k x1))
def laws_FnWeakOrders.j1 : Nat → List Int → Option (Bool)
 | 0, _ => none
 | k + 1, x1 => (spec_DrawOrderOfLevels.f k x1).bind fun t846 => ((impl_OrderOfLevels.f k t846).bind fun bt849 => ((spec_OrderOfLevels.f k t846).bind fun bt855 => (if (bt849.2.2 != bt855.2.2) = true then (laws_FnWeakOrders.j2 k t846 bt849.2.2 true bt849.1 bt849.2.1) else ((laws_vOrder.f k bt849.1 bt849.2.1 bt855.1 bt855.2.1).bind fun t861 => (if t861 = true then ((impl_AreLevels.f k t846).bind fun t862 => (laws_FnWeakOrders.j2 k t846 bt849.2.2 (bt849.2.2 != t862) bt849.1 bt849.2.1)) else (laws_FnWeakOrders.j2 k t846 bt849.2.2 true bt849.1 bt849.2.1))))))
def laws_FnWeakOrders.j2 : Nat → List Int → Bool → Bool → Int → List Int → Option (Bool)
 | 0, _, _, _, _, _ => none
 | k + 1, x22, x24, x181, x855000, x855001 => if x181 = true then (some false) else (if x24 = true then ((impl_WeakLevels.f k x855000 x855001).bind fun bt863 => ((impl_MirrorLevels.f k x22).bind fun bt867 => ((impl_OrderOfLevels.f k bt867.1).bind fun bt871 => ((impl_MirrorOf.f k x855000 x855001).bind fun bt877 => (if bt863.2 = true then ((laws_vSame.f k bt863.1 x22).bind fun t883 => (if t883 = true then (if bt867.2 = true then (if bt871.2.2 = true then (if bt877.2.2 = true then ((laws_vOrder.f k bt871.1 bt871.2.1 bt877.1 bt877.2.1).bind fun t884 => (some t884)) else (some false)) else (some false)) else (some false)) else (some false))) else (some false)))))) else (some true))
end
def laws_FnWeakOrders.f (k : Nat) (l0 : List Int) (l1 : List Int) : Option (Bool) := (laws_big.f l0 l1).bind fun t804 => (if t804 = true then (some true) else ((spec_DrawWeakLevels.f k l0).bind fun bt805 => ((impl_WeakLevels.f k bt805.1 bt805.2).bind fun bt810 => ((spec_WeakLevels.f k bt805.1 bt805.2).bind fun bt814 => ((impl_TwoOneOf.f k bt805.1 bt805.2).bind fun bt818 => ((spec_TwoOneOf.f k bt805.1 bt805.2).bind fun bt822 => ((impl_IsWeak.f k bt805.1 bt805.2).bind fun bt826 => (if (bt810.2 != bt814.2) = true then (laws_FnWeakOrders.j0 k l1 bt810.1 bt810.2 true bt805.1 bt805.2) else ((laws_vSame.f k bt810.1 bt814.1).bind fun t828 => (if t828 = true then (if (bt818.2 != bt822.2) = true then (laws_FnWeakOrders.j0 k l1 bt810.1 bt810.2 true bt805.1 bt805.2) else ((laws_vSame.f k bt818.1 bt822.1).bind fun t829 => (if t829 = true then (if bt810.2 = true then (if bt818.2 = true then (laws_FnWeakOrders.j0 k l1 bt810.1 bt810.2 true bt805.1 bt805.2) else ((impl_IsOrder.f k bt805.1 bt805.2).bind fun t830 => (if (bt826.2 != t830) = true then (laws_FnWeakOrders.j0 k l1 bt810.1 bt810.2 true bt805.1 bt805.2) else (if (bt826.1 != bt810.2) = true then (laws_FnWeakOrders.j0 k l1 bt810.1 bt810.2 true bt805.1 bt805.2) else (if bt826.2 = true then (if bt826.1 = true then (laws_FnWeakOrders.j0 k l1 bt810.1 bt810.2 false bt805.1 bt805.2) else (laws_FnWeakOrders.j0 k l1 bt810.1 bt810.2 (!bt818.2) bt805.1 bt805.2)) else (laws_FnWeakOrders.j0 k l1 bt810.1 bt810.2 false bt805.1 bt805.2)))))) else ((impl_IsOrder.f k bt805.1 bt805.2).bind fun t831 => (if (bt826.2 != t831) = true then (laws_FnWeakOrders.j0 k l1 bt810.1 bt810.2 true bt805.1 bt805.2) else (if (bt826.1 != bt810.2) = true then (laws_FnWeakOrders.j0 k l1 bt810.1 bt810.2 true bt805.1 bt805.2) else (if bt826.2 = true then (if bt826.1 = true then (laws_FnWeakOrders.j0 k l1 bt810.1 bt810.2 false bt805.1 bt805.2) else (laws_FnWeakOrders.j0 k l1 bt810.1 bt810.2 (!bt818.2) bt805.1 bt805.2)) else (laws_FnWeakOrders.j0 k l1 bt810.1 bt810.2 false bt805.1 bt805.2)))))) else (laws_FnWeakOrders.j0 k l1 bt810.1 bt810.2 true bt805.1 bt805.2)))) else (laws_FnWeakOrders.j0 k l1 bt810.1 bt810.2 true bt805.1 bt805.2)))))))))))
theorem laws_FnWeakOrders.mono_l : ∀ k, (∀ y0 y1 y2 y3 y4 y5, LeO (laws_FnWeakOrders.j0 k y0 y1 y2 y3 y4 y5) (laws_FnWeakOrders.j0 (k + 1) y0 y1 y2 y3 y4 y5)) ∧ (∀ y0, LeO (laws_FnWeakOrders.j1 k y0) (laws_FnWeakOrders.j1 (k + 1) y0)) ∧ (∀ y0 y1 y2 y3 y4, LeO (laws_FnWeakOrders.j2 k y0 y1 y2 y3 y4) (laws_FnWeakOrders.j2 (k + 1) y0 y1 y2 y3 y4))
 | 0 => ⟨fun _ _ _ _ _ _ r h => by simp [laws_FnWeakOrders.j0] at h, fun _ r h => by simp [laws_FnWeakOrders.j1] at h, fun _ _ _ _ _ r h => by simp [laws_FnWeakOrders.j2] at h⟩
 | k + 1 => by
  obtain ⟨ih0, ih1, ih2⟩ := laws_FnWeakOrders.mono_l k
  refine ⟨?_, ?_, ?_⟩ <;> intros
  unfold laws_FnWeakOrders.j0
  rotate_left
  unfold laws_FnWeakOrders.j1
  rotate_left
  unfold laws_FnWeakOrders.j2
  rotate_left
  all_goals repeat' (with_reducible first|apply ih0|apply ih1|apply ih2|apply impl_AreLevels.mono|apply impl_IsOrder.mono|apply impl_IsSemiorder.mono|apply impl_IsWeak.mono|apply impl_MirrorLevels.mono|apply impl_MirrorOf.mono|apply impl_OrderOfLevels.mono|apply impl_TraceOf.mono|apply impl_TwoOneOf.mono|apply impl_WeakLevels.mono|apply laws_vOrder.mono|apply laws_vSame.mono|apply spec_DrawOrderOfLevels.mono|apply spec_DrawWeakLevels.mono|apply spec_OrderOfLevels.mono|apply spec_TwoOneOf.mono|apply spec_WeakLevels.mono|apply LeO.refl|apply LeO.none|apply LeO.ite|apply LeO.bind|intro)
theorem laws_FnWeakOrders.mono : ∀ a0 a1 k, LeO (laws_FnWeakOrders.f k a0 a1) (laws_FnWeakOrders.f (k + 1) a0 a1) := by
 intro a0 a1 k
 obtain ⟨ih0, ih1, ih2⟩ := laws_FnWeakOrders.mono_l k
 unfold laws_FnWeakOrders.f
 repeat' (with_reducible first|apply ih0|apply ih1|apply ih2|apply impl_AreLevels.mono|apply impl_IsOrder.mono|apply impl_IsSemiorder.mono|apply impl_IsWeak.mono|apply impl_MirrorLevels.mono|apply impl_MirrorOf.mono|apply impl_OrderOfLevels.mono|apply impl_TraceOf.mono|apply impl_TwoOneOf.mono|apply impl_WeakLevels.mono|apply laws_vOrder.mono|apply laws_vSame.mono|apply spec_DrawOrderOfLevels.mono|apply spec_DrawWeakLevels.mono|apply spec_OrderOfLevels.mono|apply spec_TwoOneOf.mono|apply spec_WeakLevels.mono|apply LeO.refl|apply LeO.none|apply LeO.ite|apply LeO.bind|intro)
theorem laws_FnWeakOrders.calls (k : Nat) (A0 : Option Addr) (c0 : Nat) (l0 : List Int) (A1 : Option Addr) (c1 : Nat) (l1 : List Int) (r : Bool) (w : World) (hr0 : Kd.C (Kd.int .u8) w A0 l0.length l0) (hc0 : l0.length ≤ c0) (hr1 : Kd.C (Kd.int .u8) w A1 l1.length l1) (hc1 : l1.length ≤ c1) (hTAB : Tab w) (h : laws_FnWeakOrders.f k l0 l1 = some r) :
  Calls Tryz.prog 3 #[.slice A0 l0.length c0, .slice A1 l1.length c1] w fun e w' => e = .returned (.bool r) ∧ Below w.heap.size w w' := by
 have HTAB := mkA hTAB
 clear hTAB
 have hu26 := Tryz.underlying26
 have HR0 := mkA hr0
 have HC0 := mkA hc0
 clear hr0 hc0
 have HR1 := mkA hr1
 have HC1 := mkA hc1
 clear hr1 hc1
 have HB := mkA (Below.refl w.heap.size w)
 have H := h
 clear h
 unfold laws_FnWeakOrders.f at H
 obtain ⟨t804, A3, H⟩ := obE H
 by_cases c4 : t804 = true
 ·subst c4
  replace H := ifT H
  obtain rfl := Option.some.inj H
  go_enter Tryz.func3, Tryz.ntmps3
  go_wp2_with (first | ((with_reducible refine gate_callee (f := 4) rfl ?_); refine goesQ (some 37) Tryz.func4 #[.slice A0 l0.length c0, .slice A1 l1.length c1] ?_; (with_reducible refine (laws_big.calls _ _ l0 _ _ l1 true _ ?s1 ?s2 ?s3 ?s4 A3.out).mono ?_); (case s1 => repeat (first | exact HR0.out | (with_reducible refine Kd.C_alloc ?_ _) | (with_reducible refine Kd.C_drewN ?_ _) | (with_reducible refine Kd.C_drew ?_))); (case s2 => exact HC0.out); (case s3 => repeat (first | exact HR1.out | (with_reducible refine Kd.C_alloc ?_ _) | (with_reducible refine Kd.C_drewN ?_ _) | (with_reducible refine Kd.C_drew ?_))); (case s4 => exact HC1.out); rintro e w' ⟨rfl, ⟨nd, rfl⟩⟩; refine ⟨_, rfl, ?_⟩))
  go_ret
  exact ⟨eqE, bel_g HB.out⟩
 ·replace c4 := Bool.eq_false_iff.mpr c4
  subst c4
  replace H := ifF H
  obtain ⟨⟨t805, t806⟩, A5, H⟩ := obE H
  dsimp only at H
  obtain ⟨⟨t810, t813⟩, A6, H⟩ := obE H
  dsimp only at H
  obtain ⟨⟨t814, t817⟩, A7, H⟩ := obE H
  dsimp only at H
  obtain ⟨⟨t818, t821⟩, A8, H⟩ := obE H
  dsimp only at H
  obtain ⟨⟨t822, t825⟩, A9, H⟩ := obE H
  dsimp only at H
  obtain ⟨⟨t826, t827⟩, A10, H⟩ := obE H
  dsimp only at H
  have HC11 := mkA H
  clear H
  go_enter Tryz.func3, Tryz.ntmps3
  go_upto_region 9 with (first | ((with_reducible refine gate_callee (f := 4) rfl ?_); refine goesQ (some 37) Tryz.func4 #[.slice A0 l0.length c0, .slice A1 l1.length c1] ?_; (with_reducible refine (laws_big.calls _ _ l0 _ _ l1 false _ ?s1 ?s2 ?s3 ?s4 A3.out).mono ?_); (case s1 => repeat (first | exact HR0.out | (with_reducible refine Kd.C_alloc ?_ _) | (with_reducible refine Kd.C_drewN ?_ _) | (with_reducible refine Kd.C_drew ?_))); (case s2 => exact HC0.out); (case s3 => repeat (first | exact HR1.out | (with_reducible refine Kd.C_alloc ?_ _) | (with_reducible refine Kd.C_drewN ?_ _) | (with_reducible refine Kd.C_drew ?_))); (case s4 => exact HC1.out); rintro e w' ⟨rfl, ⟨nd, rfl⟩⟩; refine ⟨_, rfl, ?_⟩) | ((with_reducible refine gate_callee (f := 5) rfl ?_); refine goesQ (some 39) Tryz.func5 #[.slice A0 l0.length c0] ?_; (with_reducible refine (spec_DrawWeakLevels.calls k _ _ l0 t805 t806 _ ?s1 ?s2 A5.out).mono ?_); (case s1 => repeat (first | exact HR0.out | (with_reducible refine Kd.C_alloc ?_ _) | (with_reducible refine Kd.C_drewN ?_ _) | (with_reducible refine Kd.C_drew ?_))); (case s2 => exact HC0.out); rintro e w12 ⟨v807, rfl, ho0, hb⟩; refine ⟨_, rfl, ?_⟩; have HO808 := rLo ho0 HB; replace HB := bst HB hb; clear hb ho0) | ((with_reducible refine gate_dst (N := 5) rfl ?_); refine boxG HB #[.int .i64 0, .slice none 0 0] 26 ?_; intro gb809 hg w13 BK809 GE809 hb; replace HO808 := rB HO808 hb; replace HB := bst HB hb; clear hb hg; obtain ⟨_, _, _, _⟩ := blk2 BK809; obtain ⟨Ao15, co15, rfl⟩ := Kd.R_slice HO808.out) | ((with_reducible refine gate_callee (f := 6) rfl ?_); refine goesQ (some 42) Tryz.func6 #[.agg #[.int .i64 t805, .slice Ao15 t806.length co15]] ?_; (with_reducible refine (impl_WeakLevels.calls k t805 _ _ t806 t810 t813 _ ?_ ?_ ?_ A6.out).mono ?_); exact rCF HO808 BK809; exact rL HO808; exact Tab.below HTAB.out (bel_g HB.out); rintro e w16 ⟨v811, rfl, ho0, hb⟩; refine ⟨_, rfl, ?_⟩; have HO812 := rLo (rNF ho0 HO808 BK809) HB; replace HO808 := rEF HO808 BK809 ho0 hb; replace BK809 := blkS BK809 hb; replace HB := bst HB hb; clear hb ho0; obtain ⟨_, _, _, _⟩ := blk2 BK809) | ((with_reducible refine gate_callee (f := 7) rfl ?_); refine goesQ (some 47) Tryz.func7 #[.agg #[.int .i64 t805, .slice Ao15 t806.length co15]] ?_; (with_reducible refine (spec_WeakLevels.calls k t805 _ _ t806 t814 t817 _ ?_ ?_ A7.out).mono ?_); exact rC HO808; exact rL HO808; rintro e w18 ⟨v815, rfl, ho0, hb⟩; refine ⟨_, rfl, ?_⟩; have HO816 := rLo (rN (rN ho0 HO808) HO812) HB; replace HO808 := rE HO808 ho0 hb; replace HO812 := rE HO812 ho0 hb; replace BK809 := blkB BK809 hb; replace HB := bst HB hb; clear hb ho0; obtain ⟨_, _, _, _⟩ := blk2 BK809) | ((with_reducible refine gate_callee (f := 8) rfl ?_); refine goesQ (some 52) Tryz.func8 #[.agg #[.int .i64 t805, .slice Ao15 t806.length co15]] ?_; (with_reducible refine (impl_TwoOneOf.calls k t805 _ _ t806 t818 t821 _ ?_ ?_ ?_ A8.out).mono ?_); exact rC HO808; exact rL HO808; exact Tab.below HTAB.out (bel_g HB.out); rintro e w20 ⟨v819, rfl, ho0, hb⟩; refine ⟨_, rfl, ?_⟩; have HO820 := rLo (rN (rN (rN ho0 HO808) HO812) HO816) HB; replace HO808 := rE HO808 ho0 hb; replace HO812 := rE HO812 ho0 hb; replace HO816 := rE HO816 ho0 hb; replace BK809 := blkB BK809 hb; replace HB := bst HB hb; clear hb ho0; obtain ⟨_, _, _, _⟩ := blk2 BK809) | ((with_reducible refine gate_callee (f := 9) rfl ?_); refine goesQ (some 57) Tryz.func9 #[.agg #[.int .i64 t805, .slice Ao15 t806.length co15]] ?_; (with_reducible refine (spec_TwoOneOf.calls k t805 _ _ t806 t822 t825 _ ?_ ?_ A9.out).mono ?_); exact rC HO808; exact rL HO808; rintro e w22 ⟨v823, rfl, ho0, hb⟩; refine ⟨_, rfl, ?_⟩; have HO824 := rLo (rN (rN (rN (rN ho0 HO808) HO812) HO816) HO820) HB; replace HO808 := rE HO808 ho0 hb; replace HO812 := rE HO812 ho0 hb; replace HO816 := rE HO816 ho0 hb; replace HO820 := rE HO820 ho0 hb; replace BK809 := blkB BK809 hb; replace HB := bst HB hb; clear hb ho0; obtain ⟨_, _, _, _⟩ := blk2 BK809) | ((with_reducible refine gate_callee (f := 10) rfl ?_); refine goesQ (some 62) Tryz.func10 #[.agg #[.int .i64 t805, .slice Ao15 t806.length co15]] ?_; (with_reducible refine (impl_IsWeak.calls k t805 _ _ t806 t826 t827 _ ?_ ?_ ?_ A10.out).mono ?_); exact rC HO808; exact rL HO808; exact Tab.below HTAB.out (bel_g HB.out); rintro e w24 ⟨rfl, hb⟩; refine ⟨_, rfl, ?_⟩; replace HO808 := rB HO808 hb; replace HO812 := rB HO812 hb; replace HO816 := rB HO816 hb; replace HO820 := rB HO820 hb; replace HO824 := rB HO824 hb; replace BK809 := blkB BK809 hb; replace HB := bst HB hb; clear hb))
  (try simp only [Act.put, List.setIfInBounds_toArray, List.set_cons_zero, List.set_cons_succ])
  go_cut [112] (fun v112 wc => ∃ (kq : Nat) (x112_10 : Bool), v112 = .bool x112_10 ∧ Fc (laws_FnWeakOrders.j0 kq l1 t810 t813 x112_10 t805 t806 = some r) ∧ Fc (kq ≤ k) ∧ Fc (Kd.R (Kd.int .i64) 3 wc w.heap.size (fun k_ => some k_ ≠ ((.slice Ao15 t806.length co15) : Value).ownBlock) v811 t810) ∧ Fc (Kd.R (Kd.int .i64) 3 wc w.heap.size (fun k_ => some k_ ≠ (v811 : Value).ownBlock) (.slice Ao15 t806.length co15) t806) ∧ Fc (wc.heap[gb809]? = some (.cells #[.int .i64 t805, (.slice Ao15 t806.length co15)] 26 (0, 0))) ∧ Fc (Below w.heap.size w wc))
  case first =>
   have H := HC11.out
   clear HC11
   rcases iteP H with ⟨c25, H⟩ | ⟨c25, H⟩
   ·have c25b0 : (t813 != t817) = true := c25
    (try (have c25b1 : decide (t813 = t817) = false := by simpa using c25))
    (try (have c25b2 : (t813 == t817) = false := by simpa using c25))
    (try (have c25b3 : ¬ (t813 = t817) := by simpa using c25))
    clear c25
    (first | rw [c25b0] | (simp only [i64_w, i32_w]; rw [c25b0]) | skip)
    have H' := mkA H
    clear H
    as_aux_lemma =>
     go_wp2
     go_meet
     case rel => exact ⟨_, (true), eqS, H', ⟨by first | omega | exact Nat.le_refl _⟩, ⟨Kd.R_g (Kd.R_mono HO812.out (fun _ hk => hk.1.1.1.2))⟩, ⟨Kd.R_g (Kd.R_mono HO808.out (fun _ hk => hk.1.1.1.2))⟩, bg BK809, hbg HB⟩
   ·have c25b0 : (t813 != t817) = false := by simpa using c25
    (try (have c25b1 : decide (t813 = t817) = true := by simpa using c25))
    (try (have c25b2 : (t813 == t817) = true := by simpa using c25))
    clear c25
    (first | rw [c25b0] | (simp only [i64_w, i32_w]; rw [c25b0]) | skip)
    obtain ⟨t828, A26, H⟩ := obE H
    by_cases c27 : t828 = true
    ·subst c27
     replace H := ifT H
     rcases iteP H with ⟨c28, H⟩ | ⟨c28, H⟩
     ·have c28b0 : (t821 != t825) = true := c28
      (try (have c28b1 : decide (t821 = t825) = false := by simpa using c28))
      (try (have c28b2 : (t821 == t825) = false := by simpa using c28))
      (try (have c28b3 : ¬ (t821 = t825) := by simpa using c28))
      clear c28
      have H' := mkA H
      clear H
      obtain ⟨Ao29, co29, rfl⟩ := Kd.R_slice HO812.out
      obtain ⟨Ao30, co30, rfl⟩ := Kd.R_slice HO816.out
      as_aux_lemma =>
       go_wp2_with (first | (go_at_call 11; (with_reducible refine (laws_vSame.calls k _ _ t810 _ _ t814 true _ ?_ ?_ ?_ ?_ A26.out).mono ?_); exact rC HO812; exact rL HO812; exact rC HO816; exact rL HO816; rintro e w' ⟨rfl, ⟨nd, rfl⟩⟩))
       go_meet
       case rel => exact ⟨_, (true), eqS, H', ⟨by first | omega | exact Nat.le_refl _⟩, ⟨Kd.R_g (Kd.R_mono HO812.out (fun _ hk => hk.1.1.1.2))⟩, ⟨Kd.R_g (Kd.R_mono HO808.out (fun _ hk => hk.1.1.1.2))⟩, bg BK809, hbg HB⟩
     ·have c28b0 : (t821 != t825) = false := by simpa using c28
      (try (have c28b1 : decide (t821 = t825) = true := by simpa using c28))
      (try (have c28b2 : (t821 == t825) = true := by simpa using c28))
      clear c28
      obtain ⟨t829, A31, H⟩ := obE H
      by_cases c32 : t829 = true
      ·subst c32
       replace H := ifT H
       by_cases c33 : t813 = true
       ·subst c33
        replace H := ifT H
        by_cases c34 : t821 = true
        ·subst c34
         replace H := ifT H
         have H' := mkA H
         clear H
         obtain ⟨Ao35, co35, rfl⟩ := Kd.R_slice HO812.out
         obtain ⟨Ao36, co36, rfl⟩ := Kd.R_slice HO816.out
         as_aux_lemma =>
          go_wp2_with (first | (go_at_call 11; (with_reducible refine (laws_vSame.calls k _ _ t810 _ _ t814 true _ ?_ ?_ ?_ ?_ A26.out).mono ?_); exact rC HO812; exact rL HO812; exact rC HO816; exact rL HO816; rintro e w' ⟨rfl, ⟨nd, rfl⟩⟩; obtain ⟨Ao37, co37, rfl⟩ := Kd.R_slice HO820.out; obtain ⟨Ao38, co38, rfl⟩ := Kd.R_slice HO824.out) | (go_at_call 11; (with_reducible refine (laws_vSame.calls k _ _ t818 _ _ t822 true _ ?_ ?_ ?_ ?_ A31.out).mono ?_); exact rC HO820; exact rL HO820; exact rC HO824; exact rL HO824; rintro e w' ⟨rfl, ⟨nd, rfl⟩⟩))
          go_meet
          case rel => exact ⟨_, (true), eqS, H', ⟨by first | omega | exact Nat.le_refl _⟩, ⟨Kd.R_g (Kd.R_mono HO812.out (fun _ hk => hk.1.1.1.2))⟩, ⟨Kd.R_g (Kd.R_mono HO808.out (fun _ hk => hk.1.1.1.2))⟩, bg BK809, hbg HB⟩
        ·replace c34 := Bool.eq_false_iff.mpr c34
         subst c34
         replace H := ifF H
         obtain ⟨t830, A39, H⟩ := obE H
         rcases iteP H with ⟨c40, H⟩ | ⟨c40, H⟩
         ·have c40b0 : (t827 != t830) = true := c40
          (try (have c40b1 : decide (t827 = t830) = false := by simpa using c40))
          (try (have c40b2 : (t827 == t830) = false := by simpa using c40))
          (try (have c40b3 : ¬ (t827 = t830) := by simpa using c40))
          clear c40
          have H' := mkA H
          clear H
          obtain ⟨Ao41, co41, rfl⟩ := Kd.R_slice HO812.out
          obtain ⟨Ao42, co42, rfl⟩ := Kd.R_slice HO816.out
          as_aux_lemma =>
           go_wp2_with (first | (go_at_call 11; (with_reducible refine (laws_vSame.calls k _ _ t810 _ _ t814 true _ ?_ ?_ ?_ ?_ A26.out).mono ?_); exact rC HO812; exact rL HO812; exact rC HO816; exact rL HO816; rintro e w' ⟨rfl, ⟨nd, rfl⟩⟩; obtain ⟨Ao43, co43, rfl⟩ := Kd.R_slice HO820.out; obtain ⟨Ao44, co44, rfl⟩ := Kd.R_slice HO824.out) | (go_at_call 11; (with_reducible refine (laws_vSame.calls k _ _ t818 _ _ t822 true _ ?_ ?_ ?_ ?_ A31.out).mono ?_); exact rC HO820; exact rL HO820; exact rC HO824; exact rL HO824; rintro e w' ⟨rfl, ⟨nd, rfl⟩⟩; obtain ⟨_, _, _, _⟩ := blk2 BK809) | (go_at_call 12; (with_reducible refine (impl_IsOrder.calls k t805 _ _ t806 t830 _ ?_ ?_ ?_ A39.out).mono ?_); exact rC HO808; exact rL HO808; exact Tab.below HTAB.out (bel_g HB.out); rintro e w46 ⟨rfl, hb⟩; replace HO808 := rB HO808 hb; replace HO812 := rB HO812 hb; replace HO816 := rB HO816 hb; replace HO820 := rB HO820 hb; replace HO824 := rB HO824 hb; replace BK809 := blkB BK809 hb; replace HB := bst HB hb; clear hb))
           go_meet
           case rel => exact ⟨_, (true), eqS, H', ⟨by first | omega | exact Nat.le_refl _⟩, ⟨Kd.R_g (Kd.R_mono HO812.out (fun _ hk => hk.1.1.1.2))⟩, ⟨Kd.R_g (Kd.R_mono HO808.out (fun _ hk => hk.1.1.1.2))⟩, bg BK809, hbg HB⟩
         ·have c40b0 : (t827 != t830) = false := by simpa using c40
          (try (have c40b1 : decide (t827 = t830) = true := by simpa using c40))
          (try (have c40b2 : (t827 == t830) = true := by simpa using c40))
          clear c40
          rcases iteP H with ⟨c47, H⟩ | ⟨c47, H⟩
          ·have c47b0 : (t826 != true) = true := c47
           (try (have c47b1 : decide (t826 = true) = false := by simpa using c47))
           (try (have c47b2 : (t826 == true) = false := by simpa using c47))
           clear c47
           have H' := mkA H
           clear H
           obtain ⟨Ao48, co48, rfl⟩ := Kd.R_slice HO812.out
           obtain ⟨Ao49, co49, rfl⟩ := Kd.R_slice HO816.out
           as_aux_lemma =>
            go_wp2_with (first | (go_at_call 11; (with_reducible refine (laws_vSame.calls k _ _ t810 _ _ t814 true _ ?_ ?_ ?_ ?_ A26.out).mono ?_); exact rC HO812; exact rL HO812; exact rC HO816; exact rL HO816; rintro e w' ⟨rfl, ⟨nd, rfl⟩⟩; obtain ⟨Ao50, co50, rfl⟩ := Kd.R_slice HO820.out; obtain ⟨Ao51, co51, rfl⟩ := Kd.R_slice HO824.out) | (go_at_call 11; (with_reducible refine (laws_vSame.calls k _ _ t818 _ _ t822 true _ ?_ ?_ ?_ ?_ A31.out).mono ?_); exact rC HO820; exact rL HO820; exact rC HO824; exact rL HO824; rintro e w' ⟨rfl, ⟨nd, rfl⟩⟩; obtain ⟨_, _, _, _⟩ := blk2 BK809) | (go_at_call 12; (with_reducible refine (impl_IsOrder.calls k t805 _ _ t806 t830 _ ?_ ?_ ?_ A39.out).mono ?_); exact rC HO808; exact rL HO808; exact Tab.below HTAB.out (bel_g HB.out); rintro e w53 ⟨rfl, hb⟩; replace HO808 := rB HO808 hb; replace HO812 := rB HO812 hb; replace HO816 := rB HO816 hb; replace HO820 := rB HO820 hb; replace HO824 := rB HO824 hb; replace BK809 := blkB BK809 hb; replace HB := bst HB hb; clear hb))
            go_meet
            case rel => exact ⟨_, (true), eqS, H', ⟨by first | omega | exact Nat.le_refl _⟩, ⟨Kd.R_g (Kd.R_mono HO812.out (fun _ hk => hk.1.1.1.2))⟩, ⟨Kd.R_g (Kd.R_mono HO808.out (fun _ hk => hk.1.1.1.2))⟩, bg BK809, hbg HB⟩
          ·have c47b0 : (t826 != true) = false := by simpa using c47
           (try (have c47b1 : decide (t826 = true) = true := by simpa using c47))
           (try (have c47b2 : (t826 == true) = true := by simpa using c47))
           clear c47
           by_cases c54 : t827 = true
           ·subst c54
            replace H := ifT H
            by_cases c55 : t826 = true
            ·subst c55
             replace H := ifT H
             have H' := mkA H
             clear H
             obtain ⟨Ao56, co56, rfl⟩ := Kd.R_slice HO812.out
             obtain ⟨Ao57, co57, rfl⟩ := Kd.R_slice HO816.out
             as_aux_lemma =>
              go_wp2_with (first | (go_at_call 11; (with_reducible refine (laws_vSame.calls k _ _ t810 _ _ t814 true _ ?_ ?_ ?_ ?_ A26.out).mono ?_); exact rC HO812; exact rL HO812; exact rC HO816; exact rL HO816; rintro e w' ⟨rfl, ⟨nd, rfl⟩⟩; obtain ⟨Ao58, co58, rfl⟩ := Kd.R_slice HO820.out; obtain ⟨Ao59, co59, rfl⟩ := Kd.R_slice HO824.out) | (go_at_call 11; (with_reducible refine (laws_vSame.calls k _ _ t818 _ _ t822 true _ ?_ ?_ ?_ ?_ A31.out).mono ?_); exact rC HO820; exact rL HO820; exact rC HO824; exact rL HO824; rintro e w' ⟨rfl, ⟨nd, rfl⟩⟩; obtain ⟨_, _, _, _⟩ := blk2 BK809) | (go_at_call 12; (with_reducible refine (impl_IsOrder.calls k t805 _ _ t806 t830 _ ?_ ?_ ?_ A39.out).mono ?_); exact rC HO808; exact rL HO808; exact Tab.below HTAB.out (bel_g HB.out); rintro e w61 ⟨rfl, hb⟩; replace HO808 := rB HO808 hb; replace HO812 := rB HO812 hb; replace HO816 := rB HO816 hb; replace HO820 := rB HO820 hb; replace HO824 := rB HO824 hb; replace BK809 := blkB BK809 hb; replace HB := bst HB hb; clear hb))
              go_meet
              case rel => exact ⟨_, (false), eqS, H', ⟨by first | omega | exact Nat.le_refl _⟩, ⟨Kd.R_g (Kd.R_mono HO812.out (fun _ hk => hk.1.1.1.2))⟩, ⟨Kd.R_g (Kd.R_mono HO808.out (fun _ hk => hk.1.1.1.2))⟩, bg BK809, hbg HB⟩
            ·replace c55 := Bool.eq_false_iff.mpr c55
             subst c55
             replace H := ifF H
             have H' := mkA H
             clear H
             obtain ⟨Ao62, co62, rfl⟩ := Kd.R_slice HO812.out
             obtain ⟨Ao63, co63, rfl⟩ := Kd.R_slice HO816.out
             as_aux_lemma =>
              go_wp2_with (first | (go_at_call 11; (with_reducible refine (laws_vSame.calls k _ _ t810 _ _ t814 true _ ?_ ?_ ?_ ?_ A26.out).mono ?_); exact rC HO812; exact rL HO812; exact rC HO816; exact rL HO816; rintro e w' ⟨rfl, ⟨nd, rfl⟩⟩; obtain ⟨Ao64, co64, rfl⟩ := Kd.R_slice HO820.out; obtain ⟨Ao65, co65, rfl⟩ := Kd.R_slice HO824.out) | (go_at_call 11; (with_reducible refine (laws_vSame.calls k _ _ t818 _ _ t822 true _ ?_ ?_ ?_ ?_ A31.out).mono ?_); exact rC HO820; exact rL HO820; exact rC HO824; exact rL HO824; rintro e w' ⟨rfl, ⟨nd, rfl⟩⟩; obtain ⟨_, _, _, _⟩ := blk2 BK809) | (go_at_call 12; (with_reducible refine (impl_IsOrder.calls k t805 _ _ t806 t830 _ ?_ ?_ ?_ A39.out).mono ?_); exact rC HO808; exact rL HO808; exact Tab.below HTAB.out (bel_g HB.out); rintro e w67 ⟨rfl, hb⟩; replace HO808 := rB HO808 hb; replace HO812 := rB HO812 hb; replace HO816 := rB HO816 hb; replace HO820 := rB HO820 hb; replace HO824 := rB HO824 hb; replace BK809 := blkB BK809 hb; replace HB := bst HB hb; clear hb))
              go_meet
              case rel => exact ⟨_, (!false), eqS, H', ⟨by first | omega | exact Nat.le_refl _⟩, ⟨Kd.R_g (Kd.R_mono HO812.out (fun _ hk => hk.1.1.1.2))⟩, ⟨Kd.R_g (Kd.R_mono HO808.out (fun _ hk => hk.1.1.1.2))⟩, bg BK809, hbg HB⟩
           ·replace c54 := Bool.eq_false_iff.mpr c54
            subst c54
            replace H := ifF H
            have H' := mkA H
            clear H
            obtain ⟨Ao68, co68, rfl⟩ := Kd.R_slice HO812.out
            obtain ⟨Ao69, co69, rfl⟩ := Kd.R_slice HO816.out
            as_aux_lemma =>
             go_wp2_with (first | (go_at_call 11; (with_reducible refine (laws_vSame.calls k _ _ t810 _ _ t814 true _ ?_ ?_ ?_ ?_ A26.out).mono ?_); exact rC HO812; exact rL HO812; exact rC HO816; exact rL HO816; rintro e w' ⟨rfl, ⟨nd, rfl⟩⟩; obtain ⟨Ao70, co70, rfl⟩ := Kd.R_slice HO820.out; obtain ⟨Ao71, co71, rfl⟩ := Kd.R_slice HO824.out) | (go_at_call 11; (with_reducible refine (laws_vSame.calls k _ _ t818 _ _ t822 true _ ?_ ?_ ?_ ?_ A31.out).mono ?_); exact rC HO820; exact rL HO820; exact rC HO824; exact rL HO824; rintro e w' ⟨rfl, ⟨nd, rfl⟩⟩; obtain ⟨_, _, _, _⟩ := blk2 BK809) | (go_at_call 12; (with_reducible refine (impl_IsOrder.calls k t805 _ _ t806 t830 _ ?_ ?_ ?_ A39.out).mono ?_); exact rC HO808; exact rL HO808; exact Tab.below HTAB.out (bel_g HB.out); rintro e w73 ⟨rfl, hb⟩; replace HO808 := rB HO808 hb; replace HO812 := rB HO812 hb; replace HO816 := rB HO816 hb; replace HO820 := rB HO820 hb; replace HO824 := rB HO824 hb; replace BK809 := blkB BK809 hb; replace HB := bst HB hb; clear hb))
             go_meet
             case rel => exact ⟨_, (false), eqS, H', ⟨by first | omega | exact Nat.le_refl _⟩, ⟨Kd.R_g (Kd.R_mono HO812.out (fun _ hk => hk.1.1.1.2))⟩, ⟨Kd.R_g (Kd.R_mono HO808.out (fun _ hk => hk.1.1.1.2))⟩, bg BK809, hbg HB⟩
       ·replace c33 := Bool.eq_false_iff.mpr c33
        subst c33
        replace H := ifF H
        obtain ⟨t831, A74, H⟩ := obE H
        rcases iteP H with ⟨c75, H⟩ | ⟨c75, H⟩
        ·have c75b0 : (t827 != t831) = true := c75
         (try (have c75b1 : decide (t827 = t831) = false := by simpa using c75))
         (try (have c75b2 : (t827 == t831) = false := by simpa using c75))
         (try (have c75b3 : ¬ (t827 = t831) := by simpa using c75))
         clear c75
         have H' := mkA H
         clear H
         obtain ⟨Ao76, co76, rfl⟩ := Kd.R_slice HO812.out
         obtain ⟨Ao77, co77, rfl⟩ := Kd.R_slice HO816.out
         as_aux_lemma =>
          go_wp2_with (first | (go_at_call 11; (with_reducible refine (laws_vSame.calls k _ _ t810 _ _ t814 true _ ?_ ?_ ?_ ?_ A26.out).mono ?_); exact rC HO812; exact rL HO812; exact rC HO816; exact rL HO816; rintro e w' ⟨rfl, ⟨nd, rfl⟩⟩; obtain ⟨Ao78, co78, rfl⟩ := Kd.R_slice HO820.out; obtain ⟨Ao79, co79, rfl⟩ := Kd.R_slice HO824.out) | (go_at_call 11; (with_reducible refine (laws_vSame.calls k _ _ t818 _ _ t822 true _ ?_ ?_ ?_ ?_ A31.out).mono ?_); exact rC HO820; exact rL HO820; exact rC HO824; exact rL HO824; rintro e w' ⟨rfl, ⟨nd, rfl⟩⟩; obtain ⟨_, _, _, _⟩ := blk2 BK809) | (go_at_call 12; (with_reducible refine (impl_IsOrder.calls k t805 _ _ t806 t831 _ ?_ ?_ ?_ A74.out).mono ?_); exact rC HO808; exact rL HO808; exact Tab.below HTAB.out (bel_g HB.out); rintro e w81 ⟨rfl, hb⟩; replace HO808 := rB HO808 hb; replace HO812 := rB HO812 hb; replace HO816 := rB HO816 hb; replace HO820 := rB HO820 hb; replace HO824 := rB HO824 hb; replace BK809 := blkB BK809 hb; replace HB := bst HB hb; clear hb))
          go_meet
          case rel => exact ⟨_, (true), eqS, H', ⟨by first | omega | exact Nat.le_refl _⟩, ⟨Kd.R_g (Kd.R_mono HO812.out (fun _ hk => hk.1.1.1.2))⟩, ⟨Kd.R_g (Kd.R_mono HO808.out (fun _ hk => hk.1.1.1.2))⟩, bg BK809, hbg HB⟩
        ·have c75b0 : (t827 != t831) = false := by simpa using c75
         (try (have c75b1 : decide (t827 = t831) = true := by simpa using c75))
         (try (have c75b2 : (t827 == t831) = true := by simpa using c75))
         clear c75
         rcases iteP H with ⟨c82, H⟩ | ⟨c82, H⟩
         ·have c82b0 : (t826 != false) = true := c82
          (try (have c82b1 : decide (t826 = false) = false := by simpa using c82))
          (try (have c82b2 : (t826 == false) = false := by simpa using c82))
          clear c82
          have H' := mkA H
          clear H
          obtain ⟨Ao83, co83, rfl⟩ := Kd.R_slice HO812.out
          obtain ⟨Ao84, co84, rfl⟩ := Kd.R_slice HO816.out
          as_aux_lemma =>
           go_wp2_with (first | (go_at_call 11; (with_reducible refine (laws_vSame.calls k _ _ t810 _ _ t814 true _ ?_ ?_ ?_ ?_ A26.out).mono ?_); exact rC HO812; exact rL HO812; exact rC HO816; exact rL HO816; rintro e w' ⟨rfl, ⟨nd, rfl⟩⟩; obtain ⟨Ao85, co85, rfl⟩ := Kd.R_slice HO820.out; obtain ⟨Ao86, co86, rfl⟩ := Kd.R_slice HO824.out) | (go_at_call 11; (with_reducible refine (laws_vSame.calls k _ _ t818 _ _ t822 true _ ?_ ?_ ?_ ?_ A31.out).mono ?_); exact rC HO820; exact rL HO820; exact rC HO824; exact rL HO824; rintro e w' ⟨rfl, ⟨nd, rfl⟩⟩; obtain ⟨_, _, _, _⟩ := blk2 BK809) | (go_at_call 12; (with_reducible refine (impl_IsOrder.calls k t805 _ _ t806 t831 _ ?_ ?_ ?_ A74.out).mono ?_); exact rC HO808; exact rL HO808; exact Tab.below HTAB.out (bel_g HB.out); rintro e w88 ⟨rfl, hb⟩; replace HO808 := rB HO808 hb; replace HO812 := rB HO812 hb; replace HO816 := rB HO816 hb; replace HO820 := rB HO820 hb; replace HO824 := rB HO824 hb; replace BK809 := blkB BK809 hb; replace HB := bst HB hb; clear hb))
           go_meet
           case rel => exact ⟨_, (true), eqS, H', ⟨by first | omega | exact Nat.le_refl _⟩, ⟨Kd.R_g (Kd.R_mono HO812.out (fun _ hk => hk.1.1.1.2))⟩, ⟨Kd.R_g (Kd.R_mono HO808.out (fun _ hk => hk.1.1.1.2))⟩, bg BK809, hbg HB⟩
         ·have c82b0 : (t826 != false) = false := by simpa using c82
          (try (have c82b1 : decide (t826 = false) = true := by simpa using c82))
          (try (have c82b2 : (t826 == false) = true := by simpa using c82))
          clear c82
          by_cases c89 : t827 = true
          ·subst c89
           replace H := ifT H
           by_cases c90 : t826 = true
           ·subst c90
            replace H := ifT H
            have H' := mkA H
            clear H
            obtain ⟨Ao91, co91, rfl⟩ := Kd.R_slice HO812.out
            obtain ⟨Ao92, co92, rfl⟩ := Kd.R_slice HO816.out
            as_aux_lemma =>
             go_wp2_with (first | (go_at_call 11; (with_reducible refine (laws_vSame.calls k _ _ t810 _ _ t814 true _ ?_ ?_ ?_ ?_ A26.out).mono ?_); exact rC HO812; exact rL HO812; exact rC HO816; exact rL HO816; rintro e w' ⟨rfl, ⟨nd, rfl⟩⟩; obtain ⟨Ao93, co93, rfl⟩ := Kd.R_slice HO820.out; obtain ⟨Ao94, co94, rfl⟩ := Kd.R_slice HO824.out) | (go_at_call 11; (with_reducible refine (laws_vSame.calls k _ _ t818 _ _ t822 true _ ?_ ?_ ?_ ?_ A31.out).mono ?_); exact rC HO820; exact rL HO820; exact rC HO824; exact rL HO824; rintro e w' ⟨rfl, ⟨nd, rfl⟩⟩; obtain ⟨_, _, _, _⟩ := blk2 BK809) | (go_at_call 12; (with_reducible refine (impl_IsOrder.calls k t805 _ _ t806 t831 _ ?_ ?_ ?_ A74.out).mono ?_); exact rC HO808; exact rL HO808; exact Tab.below HTAB.out (bel_g HB.out); rintro e w96 ⟨rfl, hb⟩; replace HO808 := rB HO808 hb; replace HO812 := rB HO812 hb; replace HO816 := rB HO816 hb; replace HO820 := rB HO820 hb; replace HO824 := rB HO824 hb; replace BK809 := blkB BK809 hb; replace HB := bst HB hb; clear hb))
             go_meet
             case rel => exact ⟨_, (false), eqS, H', ⟨by first | omega | exact Nat.le_refl _⟩, ⟨Kd.R_g (Kd.R_mono HO812.out (fun _ hk => hk.1.1.1.2))⟩, ⟨Kd.R_g (Kd.R_mono HO808.out (fun _ hk => hk.1.1.1.2))⟩, bg BK809, hbg HB⟩
           ·replace c90 := Bool.eq_false_iff.mpr c90
            subst c90
            replace H := ifF H
            have H' := mkA H
            clear H
            obtain ⟨Ao97, co97, rfl⟩ := Kd.R_slice HO812.out
            obtain ⟨Ao98, co98, rfl⟩ := Kd.R_slice HO816.out
            as_aux_lemma =>
             go_wp2_with (first | (go_at_call 11; (with_reducible refine (laws_vSame.calls k _ _ t810 _ _ t814 true _ ?_ ?_ ?_ ?_ A26.out).mono ?_); exact rC HO812; exact rL HO812; exact rC HO816; exact rL HO816; rintro e w' ⟨rfl, ⟨nd, rfl⟩⟩; obtain ⟨Ao99, co99, rfl⟩ := Kd.R_slice HO820.out; obtain ⟨Ao100, co100, rfl⟩ := Kd.R_slice HO824.out) | (go_at_call 11; (with_reducible refine (laws_vSame.calls k _ _ t818 _ _ t822 true _ ?_ ?_ ?_ ?_ A31.out).mono ?_); exact rC HO820; exact rL HO820; exact rC HO824; exact rL HO824; rintro e w' ⟨rfl, ⟨nd, rfl⟩⟩; obtain ⟨_, _, _, _⟩ := blk2 BK809) | (go_at_call 12; (with_reducible refine (impl_IsOrder.calls k t805 _ _ t806 t831 _ ?_ ?_ ?_ A74.out).mono ?_); exact rC HO808; exact rL HO808; exact Tab.below HTAB.out (bel_g HB.out); rintro e w102 ⟨rfl, hb⟩; replace HO808 := rB HO808 hb; replace HO812 := rB HO812 hb; replace HO816 := rB HO816 hb; replace HO820 := rB HO820 hb; replace HO824 := rB HO824 hb; replace BK809 := blkB BK809 hb; replace HB := bst HB hb; clear hb))
             go_meet
             case rel => exact ⟨_, (!t821), eqS, H', ⟨by first | omega | exact Nat.le_refl _⟩, ⟨Kd.R_g (Kd.R_mono HO812.out (fun _ hk => hk.1.1.1.2))⟩, ⟨Kd.R_g (Kd.R_mono HO808.out (fun _ hk => hk.1.1.1.2))⟩, bg BK809, hbg HB⟩
          ·replace c89 := Bool.eq_false_iff.mpr c89
           subst c89
           replace H := ifF H
           have H' := mkA H
           clear H
           obtain ⟨Ao103, co103, rfl⟩ := Kd.R_slice HO812.out
           obtain ⟨Ao104, co104, rfl⟩ := Kd.R_slice HO816.out
           as_aux_lemma =>
            go_wp2_with (first | (go_at_call 11; (with_reducible refine (laws_vSame.calls k _ _ t810 _ _ t814 true _ ?_ ?_ ?_ ?_ A26.out).mono ?_); exact rC HO812; exact rL HO812; exact rC HO816; exact rL HO816; rintro e w' ⟨rfl, ⟨nd, rfl⟩⟩; obtain ⟨Ao105, co105, rfl⟩ := Kd.R_slice HO820.out; obtain ⟨Ao106, co106, rfl⟩ := Kd.R_slice HO824.out) | (go_at_call 11; (with_reducible refine (laws_vSame.calls k _ _ t818 _ _ t822 true _ ?_ ?_ ?_ ?_ A31.out).mono ?_); exact rC HO820; exact rL HO820; exact rC HO824; exact rL HO824; rintro e w' ⟨rfl, ⟨nd, rfl⟩⟩; obtain ⟨_, _, _, _⟩ := blk2 BK809) | (go_at_call 12; (with_reducible refine (impl_IsOrder.calls k t805 _ _ t806 t831 _ ?_ ?_ ?_ A74.out).mono ?_); exact rC HO808; exact rL HO808; exact Tab.below HTAB.out (bel_g HB.out); rintro e w108 ⟨rfl, hb⟩; replace HO808 := rB HO808 hb; replace HO812 := rB HO812 hb; replace HO816 := rB HO816 hb; replace HO820 := rB HO820 hb; replace HO824 := rB HO824 hb; replace BK809 := blkB BK809 hb; replace HB := bst HB hb; clear hb))
            go_meet
            case rel => exact ⟨_, (false), eqS, H', ⟨by first | omega | exact Nat.le_refl _⟩, ⟨Kd.R_g (Kd.R_mono HO812.out (fun _ hk => hk.1.1.1.2))⟩, ⟨Kd.R_g (Kd.R_mono HO808.out (fun _ hk => hk.1.1.1.2))⟩, bg BK809, hbg HB⟩
      ·replace c32 := Bool.eq_false_iff.mpr c32
       subst c32
       replace H := ifF H
       have H' := mkA H
       clear H
       obtain ⟨Ao109, co109, rfl⟩ := Kd.R_slice HO812.out
       obtain ⟨Ao110, co110, rfl⟩ := Kd.R_slice HO816.out
       as_aux_lemma =>
        go_wp2_with (first | (go_at_call 11; (with_reducible refine (laws_vSame.calls k _ _ t810 _ _ t814 true _ ?_ ?_ ?_ ?_ A26.out).mono ?_); exact rC HO812; exact rL HO812; exact rC HO816; exact rL HO816; rintro e w' ⟨rfl, ⟨nd, rfl⟩⟩; obtain ⟨Ao111, co111, rfl⟩ := Kd.R_slice HO820.out; obtain ⟨Ao112, co112, rfl⟩ := Kd.R_slice HO824.out) | (go_at_call 11; (with_reducible refine (laws_vSame.calls k _ _ t818 _ _ t822 false _ ?_ ?_ ?_ ?_ A31.out).mono ?_); exact rC HO820; exact rL HO820; exact rC HO824; exact rL HO824; rintro e w' ⟨rfl, ⟨nd, rfl⟩⟩))
        go_meet
        case rel => exact ⟨_, (true), eqS, H', ⟨by first | omega | exact Nat.le_refl _⟩, ⟨Kd.R_g (Kd.R_mono HO812.out (fun _ hk => hk.1.1.1.2))⟩, ⟨Kd.R_g (Kd.R_mono HO808.out (fun _ hk => hk.1.1.1.2))⟩, bg BK809, hbg HB⟩
    ·replace c27 := Bool.eq_false_iff.mpr c27
     subst c27
     replace H := ifF H
     have H' := mkA H
     clear H
     obtain ⟨Ao113, co113, rfl⟩ := Kd.R_slice HO812.out
     obtain ⟨Ao114, co114, rfl⟩ := Kd.R_slice HO816.out
     as_aux_lemma =>
      go_wp2_with (first | (go_at_call 11; (with_reducible refine (laws_vSame.calls k _ _ t810 _ _ t814 false _ ?_ ?_ ?_ ?_ A26.out).mono ?_); exact rC HO812; exact rL HO812; exact rC HO816; exact rL HO816; rintro e w' ⟨rfl, ⟨nd, rfl⟩⟩))
      go_meet
      case rel => exact ⟨_, (true), eqS, H', ⟨by first | omega | exact Nat.le_refl _⟩, ⟨Kd.R_g (Kd.R_mono HO812.out (fun _ hk => hk.1.1.1.2))⟩, ⟨Kd.R_g (Kd.R_mono HO808.out (fun _ hk => hk.1.1.1.2))⟩, bg BK809, hbg HB⟩
  case rest =>
   clear HC11
   try clear c1
   try clear c4
   try clear c25
   try clear c25b0
   try clear c25b1
   try clear c25b2
   try clear c27
   try clear c28
   try clear c28b0
   try clear c28b1
   try clear c28b2
   try clear c32
   try clear c33
   try clear c34
   try clear c40
   try clear c40b0
   try clear c40b1
   try clear c40b2
   try clear c47
   try clear c47b0
   try clear c47b1
   try clear c47b2
   try clear c54
   try clear c55
   try clear c75
   try clear c75b0
   try clear c75b1
   try clear c75b2
   try clear c82
   try clear c82b0
   try clear c82b1
   try clear c82b2
   try clear c89
   try clear c90
   obtain ⟨kq, x112_10, rfl, HA, HJ10, HO_6, HO_810001, BK809, HB⟩ := hcut
   cases kq with
   | zero => exact absurd HA.out (by simp [laws_FnWeakOrders.j0])
   | succ kj10 =>
    have H := HA.out
    clear HA
    simp only [laws_FnWeakOrders.j0] at H
    by_cases c115 : x112_10 = true
    ·subst c115
     replace H := ifT H
     obtain rfl := Option.some.inj H
     go_wp2
     go_ret
     exact ⟨eqE, bel_g HB.out⟩
    ·replace c115 := Bool.eq_false_iff.mpr c115
     subst c115
     replace H := ifF H
     have HC116 := mkA H
     clear H
     go_upto_if 113 with (fail)
     go_cut [] (fun wc => ∃ (kq : Nat), Fc (laws_FnWeakOrders.j1 kq l1 = some r) ∧ Fc (kq ≤ kj10) ∧ Fc (Below w.heap.size w wc))
     case first =>
      have H := HC116.out
      clear HC116
      by_cases c117 : t813 = true
      ·subst c117
       replace H := ifT H
       obtain ⟨⟨t832, t833, t836⟩, A118, H⟩ := obE H
       dsimp only at H
       obtain ⟨⟨t838, t839⟩, A119, H⟩ := obE H
       dsimp only at H
       obtain ⟨⟨t840, t843⟩, A120, H⟩ := obE H
       dsimp only at H
       by_cases c121 : t836 = true
       ·subst c121
        replace H := ifT H
        obtain ⟨t844, A122, H⟩ := obE H
        by_cases c123 : t844 = true
        ·subst c123
         replace H := ifT H
         by_cases c124 : t839 = true
         ·subst c124
          replace H := ifT H
          by_cases c125 : t838 = true
          ·subst c125
           replace H := ifT H
           by_cases c126 : t843 = true
           ·subst c126
            replace H := ifT H
            obtain ⟨t845, A127, H⟩ := obE H
            by_cases c128 : t845 = true
            ·subst c128
             replace H := ifT H
             have H' := mkA H
             clear H
             obtain ⟨Ao129, co129, rfl⟩ := Kd.R_slice HO_6.out
             as_aux_lemma =>
              go_wp2_with (first | ((with_reducible refine gate_callee (f := 13) rfl ?_); refine goesQ (some 116) Tryz.func13 #[.slice Ao129 t810.length co129] ?_; (with_reducible refine (impl_OrderOfLevels.calls kj10 _ _ t810 t832 t833 true _ ?_ ?_ A118.out).mono ?_); exact rC HO_6; exact rL HO_6; rintro e w130 ⟨v834, rfl, ho0, hb⟩; refine ⟨_, rfl, ?_⟩; have HO835 := rLo (rN (rN ho0 HO_6) HO_810001) HB; replace HO_6 := rE HO_6 ho0 hb; replace HO_810001 := rE HO_810001 ho0 hb; replace BK809 := blkB BK809 hb; replace HB := bst HB hb; clear hb ho0) | ((with_reducible refine gate_dst (N := 16) rfl ?_); refine boxG HB #[.int .i64 0, .slice none 0 0] 26 ?_; intro gb837 hg w131 BK837 GE837 hb; replace HO_6 := rB HO_6 hb; replace HO_810001 := rB HO_810001 hb; replace HO835 := rB HO835 hb; have NB809_837 := neL7 BK809 hg; have NB837_809 := neR7 BK809 hg; replace BK809 := blkB BK809 hb; replace HB := bst HB hb; clear hb hg; obtain ⟨_, _, _, _⟩ := blk2 BK837; obtain ⟨Ao134, co134, rfl⟩ := Kd.R_slice HO835.out; obtain ⟨_, _, _, _⟩ := blk2 BK809) | ((with_reducible refine gate_callee (f := 14) rfl ?_); refine goesQ (some 121) Tryz.func14 #[.agg #[.int .i64 t805, .slice Ao15 t806.length co15]] ?_; (with_reducible refine (impl_IsSemiorder.calls kj10 t805 _ _ t806 true true _ ?_ ?_ ?_ A119.out).mono ?_); exact rCF HO_810001 BK837; exact rL HO_810001; exact Tab.below HTAB.out (bel_g HB.out); rintro e w136 ⟨rfl, hb⟩; refine ⟨_, rfl, ?_⟩; replace HO_6 := mkA (Kd.R_below (rFg HO_6 BK837) hb); replace HO_810001 := mkA (Kd.R_below (rFg HO_810001 BK837) hb); replace HO835 := mkA (Kd.R_below (rFg HO835 BK837) hb); replace BK809 := blkS BK809 hb; replace BK837 := blkS BK837 hb; replace HB := bst HB hb; clear hb; obtain ⟨_, _, _, _⟩ := blk2 BK809) | ((with_reducible refine gate_callee (f := 15) rfl ?_); refine goesQ (some 126) Tryz.func15 #[.agg #[.int .i64 t805, .slice Ao15 t806.length co15]] ?_; (with_reducible refine (impl_TraceOf.calls kj10 t805 _ _ t806 t840 true _ ?_ ?_ ?_ A120.out).mono ?_); exact rC HO_810001; exact rL HO_810001; exact Tab.below HTAB.out (bel_g HB.out); rintro e w138 ⟨v841, rfl, ho0, hb⟩; refine ⟨_, rfl, ?_⟩; have HO842 := rLo (rN (rN (rN ho0 HO_6) HO_810001) HO835) HB; replace HO_6 := rE HO_6 ho0 hb; replace HO_810001 := rE HO_810001 ho0 hb; replace HO835 := rE HO835 ho0 hb; replace BK809 := blkB BK809 hb; replace BK837 := blkB BK837 hb; replace HB := bst HB hb; clear hb ho0; obtain ⟨_, _, _, _⟩ := blk2 BK837; obtain ⟨_, _, _, _⟩ := blk2 BK809) | (go_at_call 16; (with_reducible refine (laws_vOrder.calls kj10 t832 _ _ t833 t805 _ _ t806 true _ ?_ ?_ ?_ ?_ A122.out).mono ?_); exact rC HO835; exact rL HO835; exact rC HO_810001; exact rL HO_810001; rintro e w141 ⟨rfl, hb⟩; replace HO_6 := rB HO_6 hb; replace HO_810001 := rB HO_810001 hb; replace HO835 := rB HO835 hb; replace HO842 := rB HO842 hb; replace BK809 := blkB BK809 hb; replace BK837 := blkB BK837 hb; replace HB := bst HB hb; clear hb; obtain ⟨Ao142, co142, rfl⟩ := Kd.R_slice HO842.out) | (go_at_call 11; (with_reducible refine (laws_vSame.calls kj10 _ _ t840 _ _ t810 true _ ?_ ?_ ?_ ?_ A127.out).mono ?_); exact rC HO842; exact rL HO842; exact rC HO_6; exact rL HO_6; rintro e w' ⟨rfl, ⟨nd, rfl⟩⟩))
              go_meet
              case rel => exact ⟨_, H', ⟨by have := HJ10.out; first | omega | exact Nat.le_refl _⟩, hbg HB⟩
            ·replace c128 := Bool.eq_false_iff.mpr c128
             subst c128
             replace H := ifF H
             obtain rfl := Option.some.inj H
             obtain ⟨Ao143, co143, rfl⟩ := Kd.R_slice HO_6.out
             go_wp2_with (first | ((with_reducible refine gate_callee (f := 13) rfl ?_); refine goesQ (some 116) Tryz.func13 #[.slice Ao143 t810.length co143] ?_; (with_reducible refine (impl_OrderOfLevels.calls kj10 _ _ t810 t832 t833 true _ ?_ ?_ A118.out).mono ?_); exact rC HO_6; exact rL HO_6; rintro e w144 ⟨v834, rfl, ho0, hb⟩; refine ⟨_, rfl, ?_⟩; have HO835 := rLo (rN (rN ho0 HO_6) HO_810001) HB; replace HO_6 := rE HO_6 ho0 hb; replace HO_810001 := rE HO_810001 ho0 hb; replace BK809 := blkB BK809 hb; replace HB := bst HB hb; clear hb ho0) | ((with_reducible refine gate_dst (N := 16) rfl ?_); refine boxG HB #[.int .i64 0, .slice none 0 0] 26 ?_; intro gb837 hg w145 BK837 GE837 hb; replace HO_6 := rB HO_6 hb; replace HO_810001 := rB HO_810001 hb; replace HO835 := rB HO835 hb; have NB809_837 := neL7 BK809 hg; have NB837_809 := neR7 BK809 hg; replace BK809 := blkB BK809 hb; replace HB := bst HB hb; clear hb hg; obtain ⟨_, _, _, _⟩ := blk2 BK837; obtain ⟨Ao148, co148, rfl⟩ := Kd.R_slice HO835.out; obtain ⟨_, _, _, _⟩ := blk2 BK809) | ((with_reducible refine gate_callee (f := 14) rfl ?_); refine goesQ (some 121) Tryz.func14 #[.agg #[.int .i64 t805, .slice Ao15 t806.length co15]] ?_; (with_reducible refine (impl_IsSemiorder.calls kj10 t805 _ _ t806 true true _ ?_ ?_ ?_ A119.out).mono ?_); exact rCF HO_810001 BK837; exact rL HO_810001; exact Tab.below HTAB.out (bel_g HB.out); rintro e w150 ⟨rfl, hb⟩; refine ⟨_, rfl, ?_⟩; replace HO_6 := mkA (Kd.R_below (rFg HO_6 BK837) hb); replace HO_810001 := mkA (Kd.R_below (rFg HO_810001 BK837) hb); replace HO835 := mkA (Kd.R_below (rFg HO835 BK837) hb); replace BK809 := blkS BK809 hb; replace BK837 := blkS BK837 hb; replace HB := bst HB hb; clear hb; obtain ⟨_, _, _, _⟩ := blk2 BK809) | ((with_reducible refine gate_callee (f := 15) rfl ?_); refine goesQ (some 126) Tryz.func15 #[.agg #[.int .i64 t805, .slice Ao15 t806.length co15]] ?_; (with_reducible refine (impl_TraceOf.calls kj10 t805 _ _ t806 t840 true _ ?_ ?_ ?_ A120.out).mono ?_); exact rC HO_810001; exact rL HO_810001; exact Tab.below HTAB.out (bel_g HB.out); rintro e w152 ⟨v841, rfl, ho0, hb⟩; refine ⟨_, rfl, ?_⟩; have HO842 := rLo (rN (rN (rN ho0 HO_6) HO_810001) HO835) HB; replace HO_6 := rE HO_6 ho0 hb; replace HO_810001 := rE HO_810001 ho0 hb; replace HO835 := rE HO835 ho0 hb; replace BK809 := blkB BK809 hb; replace BK837 := blkB BK837 hb; replace HB := bst HB hb; clear hb ho0; obtain ⟨_, _, _, _⟩ := blk2 BK837; obtain ⟨_, _, _, _⟩ := blk2 BK809) | (go_at_call 16; (with_reducible refine (laws_vOrder.calls kj10 t832 _ _ t833 t805 _ _ t806 true _ ?_ ?_ ?_ ?_ A122.out).mono ?_); exact rC HO835; exact rL HO835; exact rC HO_810001; exact rL HO_810001; rintro e w155 ⟨rfl, hb⟩; replace HO_6 := rB HO_6 hb; replace HO_810001 := rB HO_810001 hb; replace HO835 := rB HO835 hb; replace HO842 := rB HO842 hb; replace BK809 := blkB BK809 hb; replace BK837 := blkB BK837 hb; replace HB := bst HB hb; clear hb; obtain ⟨Ao156, co156, rfl⟩ := Kd.R_slice HO842.out) | (go_at_call 11; (with_reducible refine (laws_vSame.calls kj10 _ _ t840 _ _ t810 false _ ?_ ?_ ?_ ?_ A127.out).mono ?_); exact rC HO842; exact rL HO842; exact rC HO_6; exact rL HO_6; rintro e w' ⟨rfl, ⟨nd, rfl⟩⟩))
             go_ret
             exact ⟨eqE, bel_g HB.out⟩
           ·replace c126 := Bool.eq_false_iff.mpr c126
            subst c126
            replace H := ifF H
            obtain rfl := Option.some.inj H
            obtain ⟨Ao157, co157, rfl⟩ := Kd.R_slice HO_6.out
            go_wp2_with (first | ((with_reducible refine gate_callee (f := 13) rfl ?_); refine goesQ (some 116) Tryz.func13 #[.slice Ao157 t810.length co157] ?_; (with_reducible refine (impl_OrderOfLevels.calls kj10 _ _ t810 t832 t833 true _ ?_ ?_ A118.out).mono ?_); exact rC HO_6; exact rL HO_6; rintro e w158 ⟨v834, rfl, ho0, hb⟩; refine ⟨_, rfl, ?_⟩; have HO835 := rLo (rN (rN ho0 HO_6) HO_810001) HB; replace HO_6 := rE HO_6 ho0 hb; replace HO_810001 := rE HO_810001 ho0 hb; replace BK809 := blkB BK809 hb; replace HB := bst HB hb; clear hb ho0) | ((with_reducible refine gate_dst (N := 16) rfl ?_); refine boxG HB #[.int .i64 0, .slice none 0 0] 26 ?_; intro gb837 hg w159 BK837 GE837 hb; replace HO_6 := rB HO_6 hb; replace HO_810001 := rB HO_810001 hb; replace HO835 := rB HO835 hb; have NB809_837 := neL7 BK809 hg; have NB837_809 := neR7 BK809 hg; replace BK809 := blkB BK809 hb; replace HB := bst HB hb; clear hb hg; obtain ⟨_, _, _, _⟩ := blk2 BK837; obtain ⟨Ao162, co162, rfl⟩ := Kd.R_slice HO835.out; obtain ⟨_, _, _, _⟩ := blk2 BK809) | ((with_reducible refine gate_callee (f := 14) rfl ?_); refine goesQ (some 121) Tryz.func14 #[.agg #[.int .i64 t805, .slice Ao15 t806.length co15]] ?_; (with_reducible refine (impl_IsSemiorder.calls kj10 t805 _ _ t806 true true _ ?_ ?_ ?_ A119.out).mono ?_); exact rCF HO_810001 BK837; exact rL HO_810001; exact Tab.below HTAB.out (bel_g HB.out); rintro e w164 ⟨rfl, hb⟩; refine ⟨_, rfl, ?_⟩; replace HO_6 := mkA (Kd.R_below (rFg HO_6 BK837) hb); replace HO_810001 := mkA (Kd.R_below (rFg HO_810001 BK837) hb); replace HO835 := mkA (Kd.R_below (rFg HO835 BK837) hb); replace BK809 := blkS BK809 hb; replace BK837 := blkS BK837 hb; replace HB := bst HB hb; clear hb; obtain ⟨_, _, _, _⟩ := blk2 BK809) | ((with_reducible refine gate_callee (f := 15) rfl ?_); refine goesQ (some 126) Tryz.func15 #[.agg #[.int .i64 t805, .slice Ao15 t806.length co15]] ?_; (with_reducible refine (impl_TraceOf.calls kj10 t805 _ _ t806 t840 false _ ?_ ?_ ?_ A120.out).mono ?_); exact rC HO_810001; exact rL HO_810001; exact Tab.below HTAB.out (bel_g HB.out); rintro e w166 ⟨v841, rfl, ho0, hb⟩; refine ⟨_, rfl, ?_⟩; have HO842 := rLo (rN (rN (rN ho0 HO_6) HO_810001) HO835) HB; replace HO_6 := rE HO_6 ho0 hb; replace HO_810001 := rE HO_810001 ho0 hb; replace HO835 := rE HO835 ho0 hb; replace BK809 := blkB BK809 hb; replace BK837 := blkB BK837 hb; replace HB := bst HB hb; clear hb ho0; obtain ⟨_, _, _, _⟩ := blk2 BK837; obtain ⟨_, _, _, _⟩ := blk2 BK809) | (go_at_call 16; (with_reducible refine (laws_vOrder.calls kj10 t832 _ _ t833 t805 _ _ t806 true _ ?_ ?_ ?_ ?_ A122.out).mono ?_); exact rC HO835; exact rL HO835; exact rC HO_810001; exact rL HO_810001; rintro e w169 ⟨rfl, hb⟩; replace HO_6 := rB HO_6 hb; replace HO_810001 := rB HO_810001 hb; replace HO835 := rB HO835 hb; replace HO842 := rB HO842 hb; replace BK809 := blkB BK809 hb; replace BK837 := blkB BK837 hb; replace HB := bst HB hb; clear hb))
            go_ret
            exact ⟨eqE, bel_g HB.out⟩
          ·replace c125 := Bool.eq_false_iff.mpr c125
           subst c125
           replace H := ifF H
           obtain rfl := Option.some.inj H
           obtain ⟨Ao170, co170, rfl⟩ := Kd.R_slice HO_6.out
           go_wp2_with (first | ((with_reducible refine gate_callee (f := 13) rfl ?_); refine goesQ (some 116) Tryz.func13 #[.slice Ao170 t810.length co170] ?_; (with_reducible refine (impl_OrderOfLevels.calls kj10 _ _ t810 t832 t833 true _ ?_ ?_ A118.out).mono ?_); exact rC HO_6; exact rL HO_6; rintro e w171 ⟨v834, rfl, ho0, hb⟩; refine ⟨_, rfl, ?_⟩; have HO835 := rLo (rN (rN ho0 HO_6) HO_810001) HB; replace HO_6 := rE HO_6 ho0 hb; replace HO_810001 := rE HO_810001 ho0 hb; replace BK809 := blkB BK809 hb; replace HB := bst HB hb; clear hb ho0) | ((with_reducible refine gate_dst (N := 16) rfl ?_); refine boxG HB #[.int .i64 0, .slice none 0 0] 26 ?_; intro gb837 hg w172 BK837 GE837 hb; replace HO_6 := rB HO_6 hb; replace HO_810001 := rB HO_810001 hb; replace HO835 := rB HO835 hb; have NB809_837 := neL7 BK809 hg; have NB837_809 := neR7 BK809 hg; replace BK809 := blkB BK809 hb; replace HB := bst HB hb; clear hb hg; obtain ⟨_, _, _, _⟩ := blk2 BK837; obtain ⟨Ao175, co175, rfl⟩ := Kd.R_slice HO835.out; obtain ⟨_, _, _, _⟩ := blk2 BK809) | ((with_reducible refine gate_callee (f := 14) rfl ?_); refine goesQ (some 121) Tryz.func14 #[.agg #[.int .i64 t805, .slice Ao15 t806.length co15]] ?_; (with_reducible refine (impl_IsSemiorder.calls kj10 t805 _ _ t806 false true _ ?_ ?_ ?_ A119.out).mono ?_); exact rCF HO_810001 BK837; exact rL HO_810001; exact Tab.below HTAB.out (bel_g HB.out); rintro e w177 ⟨rfl, hb⟩; refine ⟨_, rfl, ?_⟩; replace HO_6 := mkA (Kd.R_below (rFg HO_6 BK837) hb); replace HO_810001 := mkA (Kd.R_below (rFg HO_810001 BK837) hb); replace HO835 := mkA (Kd.R_below (rFg HO835 BK837) hb); replace BK809 := blkS BK809 hb; replace BK837 := blkS BK837 hb; replace HB := bst HB hb; clear hb; obtain ⟨_, _, _, _⟩ := blk2 BK809) | ((with_reducible refine gate_callee (f := 15) rfl ?_); refine goesQ (some 126) Tryz.func15 #[.agg #[.int .i64 t805, .slice Ao15 t806.length co15]] ?_; (with_reducible refine (impl_TraceOf.calls kj10 t805 _ _ t806 t840 t843 _ ?_ ?_ ?_ A120.out).mono ?_); exact rC HO_810001; exact rL HO_810001; exact Tab.below HTAB.out (bel_g HB.out); rintro e w179 ⟨v841, rfl, ho0, hb⟩; refine ⟨_, rfl, ?_⟩; have HO842 := rLo (rN (rN (rN ho0 HO_6) HO_810001) HO835) HB; replace HO_6 := rE HO_6 ho0 hb; replace HO_810001 := rE HO_810001 ho0 hb; replace HO835 := rE HO835 ho0 hb; replace BK809 := blkB BK809 hb; replace BK837 := blkB BK837 hb; replace HB := bst HB hb; clear hb ho0; obtain ⟨_, _, _, _⟩ := blk2 BK837; obtain ⟨_, _, _, _⟩ := blk2 BK809) | (go_at_call 16; (with_reducible refine (laws_vOrder.calls kj10 t832 _ _ t833 t805 _ _ t806 true _ ?_ ?_ ?_ ?_ A122.out).mono ?_); exact rC HO835; exact rL HO835; exact rC HO_810001; exact rL HO_810001; rintro e w182 ⟨rfl, hb⟩; replace HO_6 := rB HO_6 hb; replace HO_810001 := rB HO_810001 hb; replace HO835 := rB HO835 hb; replace HO842 := rB HO842 hb; replace BK809 := blkB BK809 hb; replace BK837 := blkB BK837 hb; replace HB := bst HB hb; clear hb))
           go_ret
           exact ⟨eqE, bel_g HB.out⟩
         ·replace c124 := Bool.eq_false_iff.mpr c124
          subst c124
          replace H := ifF H
          obtain rfl := Option.some.inj H
          obtain ⟨Ao183, co183, rfl⟩ := Kd.R_slice HO_6.out
          go_wp2_with (first | ((with_reducible refine gate_callee (f := 13) rfl ?_); refine goesQ (some 116) Tryz.func13 #[.slice Ao183 t810.length co183] ?_; (with_reducible refine (impl_OrderOfLevels.calls kj10 _ _ t810 t832 t833 true _ ?_ ?_ A118.out).mono ?_); exact rC HO_6; exact rL HO_6; rintro e w184 ⟨v834, rfl, ho0, hb⟩; refine ⟨_, rfl, ?_⟩; have HO835 := rLo (rN (rN ho0 HO_6) HO_810001) HB; replace HO_6 := rE HO_6 ho0 hb; replace HO_810001 := rE HO_810001 ho0 hb; replace BK809 := blkB BK809 hb; replace HB := bst HB hb; clear hb ho0) | ((with_reducible refine gate_dst (N := 16) rfl ?_); refine boxG HB #[.int .i64 0, .slice none 0 0] 26 ?_; intro gb837 hg w185 BK837 GE837 hb; replace HO_6 := rB HO_6 hb; replace HO_810001 := rB HO_810001 hb; replace HO835 := rB HO835 hb; have NB809_837 := neL7 BK809 hg; have NB837_809 := neR7 BK809 hg; replace BK809 := blkB BK809 hb; replace HB := bst HB hb; clear hb hg; obtain ⟨_, _, _, _⟩ := blk2 BK837; obtain ⟨Ao188, co188, rfl⟩ := Kd.R_slice HO835.out; obtain ⟨_, _, _, _⟩ := blk2 BK809) | ((with_reducible refine gate_callee (f := 14) rfl ?_); refine goesQ (some 121) Tryz.func14 #[.agg #[.int .i64 t805, .slice Ao15 t806.length co15]] ?_; (with_reducible refine (impl_IsSemiorder.calls kj10 t805 _ _ t806 t838 false _ ?_ ?_ ?_ A119.out).mono ?_); exact rCF HO_810001 BK837; exact rL HO_810001; exact Tab.below HTAB.out (bel_g HB.out); rintro e w190 ⟨rfl, hb⟩; refine ⟨_, rfl, ?_⟩; replace HO_6 := mkA (Kd.R_below (rFg HO_6 BK837) hb); replace HO_810001 := mkA (Kd.R_below (rFg HO_810001 BK837) hb); replace HO835 := mkA (Kd.R_below (rFg HO835 BK837) hb); replace BK809 := blkS BK809 hb; replace BK837 := blkS BK837 hb; replace HB := bst HB hb; clear hb; obtain ⟨_, _, _, _⟩ := blk2 BK809) | ((with_reducible refine gate_callee (f := 15) rfl ?_); refine goesQ (some 126) Tryz.func15 #[.agg #[.int .i64 t805, .slice Ao15 t806.length co15]] ?_; (with_reducible refine (impl_TraceOf.calls kj10 t805 _ _ t806 t840 t843 _ ?_ ?_ ?_ A120.out).mono ?_); exact rC HO_810001; exact rL HO_810001; exact Tab.below HTAB.out (bel_g HB.out); rintro e w192 ⟨v841, rfl, ho0, hb⟩; refine ⟨_, rfl, ?_⟩; have HO842 := rLo (rN (rN (rN ho0 HO_6) HO_810001) HO835) HB; replace HO_6 := rE HO_6 ho0 hb; replace HO_810001 := rE HO_810001 ho0 hb; replace HO835 := rE HO835 ho0 hb; replace BK809 := blkB BK809 hb; replace BK837 := blkB BK837 hb; replace HB := bst HB hb; clear hb ho0; obtain ⟨_, _, _, _⟩ := blk2 BK837; obtain ⟨_, _, _, _⟩ := blk2 BK809) | (go_at_call 16; (with_reducible refine (laws_vOrder.calls kj10 t832 _ _ t833 t805 _ _ t806 true _ ?_ ?_ ?_ ?_ A122.out).mono ?_); exact rC HO835; exact rL HO835; exact rC HO_810001; exact rL HO_810001; rintro e w195 ⟨rfl, hb⟩; replace HO_6 := rB HO_6 hb; replace HO_810001 := rB HO_810001 hb; replace HO835 := rB HO835 hb; replace HO842 := rB HO842 hb; replace BK809 := blkB BK809 hb; replace BK837 := blkB BK837 hb; replace HB := bst HB hb; clear hb))
          go_ret
          exact ⟨eqE, bel_g HB.out⟩
        ·replace c123 := Bool.eq_false_iff.mpr c123
         subst c123
         replace H := ifF H
         obtain rfl := Option.some.inj H
         obtain ⟨Ao196, co196, rfl⟩ := Kd.R_slice HO_6.out
         go_wp2_with (first | ((with_reducible refine gate_callee (f := 13) rfl ?_); refine goesQ (some 116) Tryz.func13 #[.slice Ao196 t810.length co196] ?_; (with_reducible refine (impl_OrderOfLevels.calls kj10 _ _ t810 t832 t833 true _ ?_ ?_ A118.out).mono ?_); exact rC HO_6; exact rL HO_6; rintro e w197 ⟨v834, rfl, ho0, hb⟩; refine ⟨_, rfl, ?_⟩; have HO835 := rLo (rN (rN ho0 HO_6) HO_810001) HB; replace HO_6 := rE HO_6 ho0 hb; replace HO_810001 := rE HO_810001 ho0 hb; replace BK809 := blkB BK809 hb; replace HB := bst HB hb; clear hb ho0) | ((with_reducible refine gate_dst (N := 16) rfl ?_); refine boxG HB #[.int .i64 0, .slice none 0 0] 26 ?_; intro gb837 hg w198 BK837 GE837 hb; replace HO_6 := rB HO_6 hb; replace HO_810001 := rB HO_810001 hb; replace HO835 := rB HO835 hb; have NB809_837 := neL7 BK809 hg; have NB837_809 := neR7 BK809 hg; replace BK809 := blkB BK809 hb; replace HB := bst HB hb; clear hb hg; obtain ⟨_, _, _, _⟩ := blk2 BK837; obtain ⟨Ao201, co201, rfl⟩ := Kd.R_slice HO835.out; obtain ⟨_, _, _, _⟩ := blk2 BK809) | ((with_reducible refine gate_callee (f := 14) rfl ?_); refine goesQ (some 121) Tryz.func14 #[.agg #[.int .i64 t805, .slice Ao15 t806.length co15]] ?_; (with_reducible refine (impl_IsSemiorder.calls kj10 t805 _ _ t806 t838 t839 _ ?_ ?_ ?_ A119.out).mono ?_); exact rCF HO_810001 BK837; exact rL HO_810001; exact Tab.below HTAB.out (bel_g HB.out); rintro e w203 ⟨rfl, hb⟩; refine ⟨_, rfl, ?_⟩; replace HO_6 := mkA (Kd.R_below (rFg HO_6 BK837) hb); replace HO_810001 := mkA (Kd.R_below (rFg HO_810001 BK837) hb); replace HO835 := mkA (Kd.R_below (rFg HO835 BK837) hb); replace BK809 := blkS BK809 hb; replace BK837 := blkS BK837 hb; replace HB := bst HB hb; clear hb; obtain ⟨_, _, _, _⟩ := blk2 BK809) | ((with_reducible refine gate_callee (f := 15) rfl ?_); refine goesQ (some 126) Tryz.func15 #[.agg #[.int .i64 t805, .slice Ao15 t806.length co15]] ?_; (with_reducible refine (impl_TraceOf.calls kj10 t805 _ _ t806 t840 t843 _ ?_ ?_ ?_ A120.out).mono ?_); exact rC HO_810001; exact rL HO_810001; exact Tab.below HTAB.out (bel_g HB.out); rintro e w205 ⟨v841, rfl, ho0, hb⟩; refine ⟨_, rfl, ?_⟩; have HO842 := rLo (rN (rN (rN ho0 HO_6) HO_810001) HO835) HB; replace HO_6 := rE HO_6 ho0 hb; replace HO_810001 := rE HO_810001 ho0 hb; replace HO835 := rE HO835 ho0 hb; replace BK809 := blkB BK809 hb; replace BK837 := blkB BK837 hb; replace HB := bst HB hb; clear hb ho0; obtain ⟨_, _, _, _⟩ := blk2 BK837; obtain ⟨_, _, _, _⟩ := blk2 BK809) | (go_at_call 16; (with_reducible refine (laws_vOrder.calls kj10 t832 _ _ t833 t805 _ _ t806 false _ ?_ ?_ ?_ ?_ A122.out).mono ?_); exact rC HO835; exact rL HO835; exact rC HO_810001; exact rL HO_810001; rintro e w208 ⟨rfl, hb⟩; replace HO_6 := rB HO_6 hb; replace HO_810001 := rB HO_810001 hb; replace HO835 := rB HO835 hb; replace HO842 := rB HO842 hb; replace BK809 := blkB BK809 hb; replace BK837 := blkB BK837 hb; replace HB := bst HB hb; clear hb))
         go_ret
         exact ⟨eqE, bel_g HB.out⟩
       ·replace c121 := Bool.eq_false_iff.mpr c121
        subst c121
        replace H := ifF H
        obtain rfl := Option.some.inj H
        obtain ⟨Ao209, co209, rfl⟩ := Kd.R_slice HO_6.out
        go_wp2_with (first | ((with_reducible refine gate_callee (f := 13) rfl ?_); refine goesQ (some 116) Tryz.func13 #[.slice Ao209 t810.length co209] ?_; (with_reducible refine (impl_OrderOfLevels.calls kj10 _ _ t810 t832 t833 false _ ?_ ?_ A118.out).mono ?_); exact rC HO_6; exact rL HO_6; rintro e w210 ⟨v834, rfl, ho0, hb⟩; refine ⟨_, rfl, ?_⟩; have HO835 := rLo (rN (rN ho0 HO_6) HO_810001) HB; replace HO_6 := rE HO_6 ho0 hb; replace HO_810001 := rE HO_810001 ho0 hb; replace BK809 := blkB BK809 hb; replace HB := bst HB hb; clear hb ho0) | ((with_reducible refine gate_dst (N := 16) rfl ?_); refine boxG HB #[.int .i64 0, .slice none 0 0] 26 ?_; intro gb837 hg w211 BK837 GE837 hb; replace HO_6 := rB HO_6 hb; replace HO_810001 := rB HO_810001 hb; replace HO835 := rB HO835 hb; have NB809_837 := neL7 BK809 hg; have NB837_809 := neR7 BK809 hg; replace BK809 := blkB BK809 hb; replace HB := bst HB hb; clear hb hg; obtain ⟨_, _, _, _⟩ := blk2 BK837; obtain ⟨Ao214, co214, rfl⟩ := Kd.R_slice HO835.out; obtain ⟨_, _, _, _⟩ := blk2 BK809) | ((with_reducible refine gate_callee (f := 14) rfl ?_); refine goesQ (some 121) Tryz.func14 #[.agg #[.int .i64 t805, .slice Ao15 t806.length co15]] ?_; (with_reducible refine (impl_IsSemiorder.calls kj10 t805 _ _ t806 t838 t839 _ ?_ ?_ ?_ A119.out).mono ?_); exact rCF HO_810001 BK837; exact rL HO_810001; exact Tab.below HTAB.out (bel_g HB.out); rintro e w216 ⟨rfl, hb⟩; refine ⟨_, rfl, ?_⟩; replace HO_6 := mkA (Kd.R_below (rFg HO_6 BK837) hb); replace HO_810001 := mkA (Kd.R_below (rFg HO_810001 BK837) hb); replace HO835 := mkA (Kd.R_below (rFg HO835 BK837) hb); replace BK809 := blkS BK809 hb; replace BK837 := blkS BK837 hb; replace HB := bst HB hb; clear hb; obtain ⟨_, _, _, _⟩ := blk2 BK809) | ((with_reducible refine gate_callee (f := 15) rfl ?_); refine goesQ (some 126) Tryz.func15 #[.agg #[.int .i64 t805, .slice Ao15 t806.length co15]] ?_; (with_reducible refine (impl_TraceOf.calls kj10 t805 _ _ t806 t840 t843 _ ?_ ?_ ?_ A120.out).mono ?_); exact rC HO_810001; exact rL HO_810001; exact Tab.below HTAB.out (bel_g HB.out); rintro e w218 ⟨v841, rfl, ho0, hb⟩; refine ⟨_, rfl, ?_⟩; have HO842 := rLo (rN (rN (rN ho0 HO_6) HO_810001) HO835) HB; replace HO_6 := rE HO_6 ho0 hb; replace HO_810001 := rE HO_810001 ho0 hb; replace HO835 := rE HO835 ho0 hb; replace BK809 := blkB BK809 hb; replace BK837 := blkB BK837 hb; replace HB := bst HB hb; clear hb ho0))
        go_ret
        exact ⟨eqE, bel_g HB.out⟩
      ·replace c117 := Bool.eq_false_iff.mpr c117
       subst c117
       replace H := ifF H
       have H' := mkA H
       clear H
       as_aux_lemma =>
        go_wp2
        go_meet
        case rel => exact ⟨_, H', ⟨by have := HJ10.out; first | omega | exact Nat.le_refl _⟩, hbg HB⟩
     case rest =>
      clear HC116
      try clear c1
      try clear c4
      try clear c25
      try clear c25b0
      try clear c25b1
      try clear c25b2
      try clear c27
      try clear c28
      try clear c28b0
      try clear c28b1
      try clear c28b2
      try clear c32
      try clear c33
      try clear c34
      try clear c40
      try clear c40b0
      try clear c40b1
      try clear c40b2
      try clear c47
      try clear c47b0
      try clear c47b1
      try clear c47b2
      try clear c54
      try clear c55
      try clear c75
      try clear c75b0
      try clear c75b1
      try clear c75b2
      try clear c82
      try clear c82b0
      try clear c82b1
      try clear c82b2
      try clear c89
      try clear c90
      try clear c115
      try clear c117
      try clear c121
      try clear c123
      try clear c124
      try clear c125
      try clear c126
      try clear c128
      obtain ⟨kq, HA, HJ115, HB⟩ := hcut
      cases kq with
      | zero => exact absurd HA.out (by simp [laws_FnWeakOrders.j1])
      | succ kj115 =>
       have H := HA.out
       clear HA
       simp only [laws_FnWeakOrders.j1] at H
       obtain ⟨t846, A219, H⟩ := obE H
       obtain ⟨⟨t849, t850, t853⟩, A220, H⟩ := obE H
       dsimp only at H
       obtain ⟨⟨t855, t856, t859⟩, A221, H⟩ := obE H
       dsimp only at H
       have HC222 := mkA H
       clear H
       go_upto_region 20 with (first | ((with_reducible refine gate_callee (f := 17) rfl ?_); refine goesQ (some 156) Tryz.func17 #[.slice A1 l1.length c1] ?_; (with_reducible refine (spec_DrawOrderOfLevels.calls kj115 _ _ l1 t846 _ ?_ ?_ A219.out).mono ?_); exact C_g HR1 HB; exact HC1.out; rintro e w223 ⟨v847, rfl, ho0, hb⟩; refine ⟨_, rfl, ?_⟩; have HO848 := rLo ho0 HB; replace HB := bst HB hb; clear hb ho0; obtain ⟨Ao224, co224, rfl⟩ := Kd.R_slice HO848.out) | ((with_reducible refine gate_callee (f := 13) rfl ?_); refine goesQ (some 159) Tryz.func13 #[.slice Ao224 t846.length co224] ?_; (with_reducible refine (impl_OrderOfLevels.calls kj115 _ _ t846 t849 t850 t853 _ ?_ ?_ A220.out).mono ?_); exact rC HO848; exact rL HO848; rintro e w225 ⟨v851, rfl, ho0, hb⟩; refine ⟨_, rfl, ?_⟩; have HO852 := rLo (rN ho0 HO848) HB; replace HO848 := rE HO848 ho0 hb; replace HB := bst HB hb; clear hb ho0) | ((with_reducible refine gate_dst (N := 23) rfl ?_); refine boxG HB #[.int .i64 0, .slice none 0 0] 26 ?_; intro gb854 hg w226 BK854 GE854 hb; replace HO848 := rB HO848 hb; replace HO852 := rB HO852 hb; replace HB := bst HB hb; clear hb hg; obtain ⟨_, _, _, _⟩ := blk2 BK854; obtain ⟨Ao228, co228, rfl⟩ := Kd.R_slice HO852.out) | ((with_reducible refine gate_callee (f := 18) rfl ?_); refine goesQ (some 164) Tryz.func18 #[.slice Ao224 t846.length co224] ?_; (with_reducible refine (spec_OrderOfLevels.calls kj115 _ _ t846 t855 t856 t859 _ ?_ ?_ A221.out).mono ?_); exact rCF HO848 BK854; exact rL HO848; rintro e w229 ⟨v857, rfl, ho0, hb⟩; refine ⟨_, rfl, ?_⟩; have HO858 := rLo (rNF (rNF ho0 HO848 BK854) HO852 BK854) HB; replace HO848 := rEF HO848 BK854 ho0 hb; replace HO852 := rEF HO852 BK854 ho0 hb; replace BK854 := blkS BK854 hb; replace HB := bst HB hb; clear hb ho0) | ((with_reducible refine gate_dst (N := 25) rfl ?_); refine boxG HB #[.int .i64 0, .slice none 0 0] 26 ?_; intro gb860 hg w230 BK860 GE860 hb; replace HO848 := rB HO848 hb; replace HO852 := rB HO852 hb; replace HO858 := rB HO858 hb; have NB854_860 := neL7 BK854 hg; have NB860_854 := neR7 BK854 hg; replace BK854 := blkB BK854 hb; replace HB := bst HB hb; clear hb hg; obtain ⟨_, _, _, _⟩ := blk2 BK860; obtain ⟨Ao233, co233, rfl⟩ := Kd.R_slice HO858.out))
       (try simp only [Act.put, List.setIfInBounds_toArray, List.set_cons_zero, List.set_cons_succ])
       go_cut [181] (fun v181 wc => ∃ (kq : Nat) (x181_221 : Bool), v181 = .bool x181_221 ∧ Fc (laws_FnWeakOrders.j2 kq t846 t853 x181_221 t849 t850 = some r) ∧ Fc (kq ≤ kj115) ∧ Fc (Kd.R (Kd.int .i64) 3 wc w.heap.size (fun k_ => some k_ ≠ ((.slice Ao228 t850.length co228) : Value).ownBlock) (.slice Ao224 t846.length co224) t846) ∧ Fc (Kd.R (Kd.int .i64) 3 wc w.heap.size (fun k_ => some k_ ≠ ((.slice Ao224 t846.length co224) : Value).ownBlock) (.slice Ao228 t850.length co228) t850) ∧ Fc (wc.heap[gb854]? = some (.cells #[.int .i64 t849, (.slice Ao228 t850.length co228)] 26 (0, 0))) ∧ Fc (Below w.heap.size w wc))
       case first =>
        have H := HC222.out
        clear HC222
        rcases iteP H with ⟨c234, H⟩ | ⟨c234, H⟩
        ·have c234b0 : (t853 != t859) = true := c234
         (try (have c234b1 : decide (t853 = t859) = false := by simpa using c234))
         (try (have c234b2 : (t853 == t859) = false := by simpa using c234))
         (try (have c234b3 : ¬ (t853 = t859) := by simpa using c234))
         clear c234
         (first | rw [c234b0] | (simp only [i64_w, i32_w]; rw [c234b0]) | skip)
         have H' := mkA H
         clear H
         as_aux_lemma =>
          go_wp2
          go_meet
          case rel => exact ⟨_, (true), eqS, H', ⟨by have := HJ10.out; have := HJ115.out; first | omega | exact Nat.le_refl _⟩, ⟨Kd.R_g (Kd.R_mono (Kd.R_far (p := ⟨gb860, 1, none⟩) (Kd.R_far (p := ⟨gb860, 0, none⟩) (Kd.R_types HO848.out BK860.out (by decide)) (fun _ hk => hk.2) (.int .i64 t855)) (fun _ hk => hk.2) (.slice Ao233 t856.length co233)) (fun _ hk => hk.1.1.2))⟩, ⟨Kd.R_g (Kd.R_mono (Kd.R_far (p := ⟨gb860, 1, none⟩) (Kd.R_far (p := ⟨gb860, 0, none⟩) (Kd.R_types HO852.out BK860.out (by decide)) (fun _ hk => hk.2) (.int .i64 t855)) (fun _ hk => hk.2) (.slice Ao233 t856.length co233)) (fun _ hk => hk.1.1.2))⟩, ⟨blkT BK854⟩, hbg HB⟩
        ·have c234b0 : (t853 != t859) = false := by simpa using c234
         (try (have c234b1 : decide (t853 = t859) = true := by simpa using c234))
         (try (have c234b2 : (t853 == t859) = true := by simpa using c234))
         clear c234
         (first | rw [c234b0] | (simp only [i64_w, i32_w]; rw [c234b0]) | skip)
         obtain ⟨t861, A235, H⟩ := obE H
         by_cases c236 : t861 = true
         ·subst c236
          replace H := ifT H
          obtain ⟨t862, A237, H⟩ := obE H
          have H' := mkA H
          clear H
          obtain ⟨_, _, _, _⟩ := blk2 BK854
          obtain ⟨_, _, _, _⟩ := blk2 BK860
          as_aux_lemma =>
           go_wp2_with (first | (go_at_call 16; (with_reducible refine (laws_vOrder.calls kj115 t849 _ _ t850 t855 _ _ t856 true _ ?_ ?_ ?_ ?_ A235.out).mono ?_); exact rCF HO852 BK860; exact rL HO852; exact rCF HO858 BK860; exact rL HO858; rintro e w241 ⟨rfl, hb⟩; replace HO848 := mkA (Kd.R_below (rFg HO848 BK860) hb); replace HO852 := mkA (Kd.R_below (rFg HO852 BK860) hb); replace HO858 := mkA (Kd.R_below (rFg HO858 BK860) hb); replace BK854 := blkS BK854 hb; replace BK860 := blkS BK860 hb; replace HB := bst HB hb; clear hb) | (go_at_call 19; (with_reducible refine (impl_AreLevels.calls kj115 _ _ t846 t862 _ ?_ ?_ A237.out).mono ?_); exact rC HO848; exact rL HO848; rintro e w242 ⟨rfl, hb⟩; replace HO848 := rB HO848 hb; replace HO852 := rB HO852 hb; replace HO858 := rB HO858 hb; replace BK854 := blkB BK854 hb; replace BK860 := blkB BK860 hb; replace HB := bst HB hb; clear hb))
           go_meet
           case rel => exact ⟨_, ((t853 != t862)), eqS, H', ⟨by have := HJ10.out; have := HJ115.out; first | omega | exact Nat.le_refl _⟩, ⟨Kd.R_g (Kd.R_mono HO848.out (fun _ hk => hk.1.2))⟩, ⟨Kd.R_g (Kd.R_mono HO852.out (fun _ hk => hk.1.2))⟩, bg BK854, hbg HB⟩
         ·replace c236 := Bool.eq_false_iff.mpr c236
          subst c236
          replace H := ifF H
          have H' := mkA H
          clear H
          obtain ⟨_, _, _, _⟩ := blk2 BK854
          obtain ⟨_, _, _, _⟩ := blk2 BK860
          as_aux_lemma =>
           go_wp2_with (first | (go_at_call 16; (with_reducible refine (laws_vOrder.calls kj115 t849 _ _ t850 t855 _ _ t856 false _ ?_ ?_ ?_ ?_ A235.out).mono ?_); exact rCF HO852 BK860; exact rL HO852; exact rCF HO858 BK860; exact rL HO858; rintro e w246 ⟨rfl, hb⟩; replace HO848 := mkA (Kd.R_below (rFg HO848 BK860) hb); replace HO852 := mkA (Kd.R_below (rFg HO852 BK860) hb); replace HO858 := mkA (Kd.R_below (rFg HO858 BK860) hb); replace BK854 := blkS BK854 hb; replace BK860 := blkS BK860 hb; replace HB := bst HB hb; clear hb))
           go_meet
           case rel => exact ⟨_, (true), eqS, H', ⟨by have := HJ10.out; have := HJ115.out; first | omega | exact Nat.le_refl _⟩, ⟨Kd.R_g (Kd.R_mono HO848.out (fun _ hk => hk.1.2))⟩, ⟨Kd.R_g (Kd.R_mono HO852.out (fun _ hk => hk.1.2))⟩, bg BK854, hbg HB⟩
       case rest =>
        clear HC222
        try clear c1
        try clear c4
        try clear c25
        try clear c25b0
        try clear c25b1
        try clear c25b2
        try clear c27
        try clear c28
        try clear c28b0
        try clear c28b1
        try clear c28b2
        try clear c32
        try clear c33
        try clear c34
        try clear c40
        try clear c40b0
        try clear c40b1
        try clear c40b2
        try clear c47
        try clear c47b0
        try clear c47b1
        try clear c47b2
        try clear c54
        try clear c55
        try clear c75
        try clear c75b0
        try clear c75b1
        try clear c75b2
        try clear c82
        try clear c82b0
        try clear c82b1
        try clear c82b2
        try clear c89
        try clear c90
        try clear c115
        try clear c117
        try clear c121
        try clear c123
        try clear c124
        try clear c125
        try clear c126
        try clear c128
        try clear c234
        try clear c234b0
        try clear c234b1
        try clear c234b2
        try clear c236
        obtain ⟨kq, x181_221, rfl, HA, HJ221, HO_22, HO_855001, BK854, HB⟩ := hcut
        cases kq with
        | zero => exact absurd HA.out (by simp [laws_FnWeakOrders.j2])
        | succ kj221 =>
         have H := HA.out
         clear HA
         simp only [laws_FnWeakOrders.j2] at H
         by_cases c247 : x181_221 = true
         ·subst c247
          replace H := ifT H
          obtain rfl := Option.some.inj H
          go_wp2
          go_ret
          exact ⟨eqE, bel_g HB.out⟩
         ·replace c247 := Bool.eq_false_iff.mpr c247
          subst c247
          replace H := ifF H
          by_cases c248 : t853 = true
          ·subst c248
           replace H := ifT H
           obtain ⟨⟨t863, t866⟩, A249, H⟩ := obE H
           dsimp only at H
           obtain ⟨⟨t867, t868⟩, A250, H⟩ := obE H
           dsimp only at H
           obtain ⟨⟨t871, t872, t875⟩, A251, H⟩ := obE H
           dsimp only at H
           obtain ⟨⟨t877, t878, t881⟩, A252, H⟩ := obE H
           dsimp only at H
           by_cases c253 : t866 = true
           ·subst c253
            replace H := ifT H
            obtain ⟨t883, A254, H⟩ := obE H
            by_cases c255 : t883 = true
            ·subst c255
             replace H := ifT H
             by_cases c256 : t868 = true
             ·subst c256
              replace H := ifT H
              by_cases c257 : t875 = true
              ·subst c257
               replace H := ifT H
               by_cases c258 : t881 = true
               ·subst c258
                replace H := ifT H
                obtain ⟨t884, A259, H⟩ := obE H
                obtain rfl := Option.some.inj H
                obtain ⟨_, _, _, _⟩ := blk2 BK854
                go_wp2_with (first | ((with_reducible refine gate_callee (f := 6) rfl ?_); refine goesQ (some 185) Tryz.func6 #[.agg #[.int .i64 t849, .slice Ao228 t850.length co228]] ?_; (with_reducible refine (impl_WeakLevels.calls kj221 t849 _ _ t850 t863 true _ ?_ ?_ ?_ A249.out).mono ?_); exact rC HO_855001; exact rL HO_855001; exact Tab.below HTAB.out (bel_g HB.out); rintro e w261 ⟨v864, rfl, ho0, hb⟩; refine ⟨_, rfl, ?_⟩; have HO865 := rLo (rN (rN ho0 HO_22) HO_855001) HB; replace HO_22 := rE HO_22 ho0 hb; replace HO_855001 := rE HO_855001 ho0 hb; replace BK854 := blkB BK854 hb; replace HB := bst HB hb; clear hb ho0) | ((with_reducible refine gate_callee (f := 20) rfl ?_); refine goesQ (some 190) Tryz.func20 #[.slice Ao224 t846.length co224] ?_; (with_reducible refine (impl_MirrorLevels.calls kj221 _ _ t846 t867 true _ ?_ ?_ A250.out).mono ?_); exact rC HO_22; exact rL HO_22; rintro e w262 ⟨v869, rfl, ho0, hb⟩; refine ⟨_, rfl, ?_⟩; have HO870 := rLo (rN (rN (rN ho0 HO_22) HO_855001) HO865) HB; replace HO_22 := rE HO_22 ho0 hb; replace HO_855001 := rE HO_855001 ho0 hb; replace HO865 := rE HO865 ho0 hb; replace BK854 := blkB BK854 hb; replace HB := bst HB hb; clear hb ho0; obtain ⟨Ao263, co263, rfl⟩ := Kd.R_slice HO870.out) | ((with_reducible refine gate_callee (f := 13) rfl ?_); refine goesQ (some 195) Tryz.func13 #[.slice Ao263 t867.length co263] ?_; (with_reducible refine (impl_OrderOfLevels.calls kj221 _ _ t867 t871 t872 true _ ?_ ?_ A251.out).mono ?_); exact rC HO870; exact rL HO870; rintro e w264 ⟨v873, rfl, ho0, hb⟩; refine ⟨_, rfl, ?_⟩; have HO874 := rLo (rN (rN (rN (rN ho0 HO_22) HO_855001) HO865) HO870) HB; replace HO_22 := rE HO_22 ho0 hb; replace HO_855001 := rE HO_855001 ho0 hb; replace HO865 := rE HO865 ho0 hb; replace HO870 := rE HO870 ho0 hb; replace BK854 := blkB BK854 hb; replace HB := bst HB hb; clear hb ho0) | ((with_reducible refine gate_dst (N := 31) rfl ?_); refine boxG HB #[.int .i64 0, .slice none 0 0] 26 ?_; intro gb876 hg w265 BK876 GE876 hb; replace HO_22 := rB HO_22 hb; replace HO_855001 := rB HO_855001 hb; replace HO865 := rB HO865 hb; replace HO870 := rB HO870 hb; replace HO874 := rB HO874 hb; have NB854_876 := neL7 BK854 hg; have NB876_854 := neR7 BK854 hg; replace BK854 := blkB BK854 hb; replace HB := bst HB hb; clear hb hg; obtain ⟨_, _, _, _⟩ := blk2 BK876; obtain ⟨Ao268, co268, rfl⟩ := Kd.R_slice HO874.out; obtain ⟨_, _, _, _⟩ := blk2 BK854) | ((with_reducible refine gate_callee (f := 21) rfl ?_); refine goesQ (some 200) Tryz.func21 #[.agg #[.int .i64 t849, .slice Ao228 t850.length co228]] ?_; (with_reducible refine (impl_MirrorOf.calls kj221 t849 _ _ t850 t877 t878 true _ ?_ ?_ A252.out).mono ?_); exact rCF HO_855001 BK876; exact rL HO_855001; rintro e w270 ⟨v879, rfl, ho0, hb⟩; refine ⟨_, rfl, ?_⟩; have HO880 := rLo (rNF (rNF (rNF (rNF (rNF ho0 HO_22 BK876) HO_855001 BK876) HO865 BK876) HO870 BK876) HO874 BK876) HB; replace HO_22 := rEF HO_22 BK876 ho0 hb; replace HO_855001 := rEF HO_855001 BK876 ho0 hb; replace HO865 := rEF HO865 BK876 ho0 hb; replace HO870 := rEF HO870 BK876 ho0 hb; replace HO874 := rEF HO874 BK876 ho0 hb; replace BK854 := blkS BK854 hb; replace BK876 := blkS BK876 hb; replace HB := bst HB hb; clear hb ho0) | ((with_reducible refine gate_dst (N := 33) rfl ?_); refine boxG HB #[.int .i64 0, .slice none 0 0] 26 ?_; intro gb882 hg w271 BK882 GE882 hb; replace HO_22 := rB HO_22 hb; replace HO_855001 := rB HO_855001 hb; replace HO865 := rB HO865 hb; replace HO870 := rB HO870 hb; replace HO874 := rB HO874 hb; replace HO880 := rB HO880 hb; have NB854_882 := neL7 BK854 hg; have NB882_854 := neR7 BK854 hg; replace BK854 := blkB BK854 hb; have NB876_882 := neL7 BK876 hg; have NB882_876 := neR7 BK876 hg; replace BK876 := blkB BK876 hb; replace HB := bst HB hb; clear hb hg; obtain ⟨_, _, _, _⟩ := blk2 BK882; obtain ⟨Ao275, co275, rfl⟩ := Kd.R_slice HO880.out; obtain ⟨Ao276, co276, rfl⟩ := Kd.R_slice HO865.out) | (go_at_call 11; (with_reducible refine (laws_vSame.calls kj221 _ _ t863 _ _ t846 true _ ?_ ?_ ?_ ?_ A254.out).mono ?_); exact rCF HO865 BK882; exact rL HO865; exact rCF HO_22 BK882; exact rL HO_22; rintro e w' ⟨rfl, ⟨nd, rfl⟩⟩; obtain ⟨_, _, _, _⟩ := blk2 BK876) | (go_at_call 16; (with_reducible refine (laws_vOrder.calls kj221 t871 _ _ t872 t877 _ _ t878 t884 _ ?_ ?_ ?_ ?_ A259.out).mono ?_); exact rCF HO874 BK882; exact rL HO874; exact rCF HO880 BK882; exact rL HO880; rintro e w278 ⟨rfl, hb⟩; replace HO_22 := mkA (Kd.R_below (rFg HO_22 BK882) hb); replace HO_855001 := mkA (Kd.R_below (rFg HO_855001 BK882) hb); replace HO865 := mkA (Kd.R_below (rFg HO865 BK882) hb); replace HO870 := mkA (Kd.R_below (rFg HO870 BK882) hb); replace HO874 := mkA (Kd.R_below (rFg HO874 BK882) hb); replace HO880 := mkA (Kd.R_below (rFg HO880 BK882) hb); replace BK854 := blkS BK854 hb; replace BK876 := blkS BK876 hb; replace BK882 := blkS BK882 hb; replace HB := bst HB hb; clear hb))
                go_ret
                exact ⟨eqE, bel_g HB.out⟩
               ·replace c258 := Bool.eq_false_iff.mpr c258
                subst c258
                replace H := ifF H
                obtain rfl := Option.some.inj H
                obtain ⟨_, _, _, _⟩ := blk2 BK854
                go_wp2_with (first | ((with_reducible refine gate_callee (f := 6) rfl ?_); refine goesQ (some 185) Tryz.func6 #[.agg #[.int .i64 t849, .slice Ao228 t850.length co228]] ?_; (with_reducible refine (impl_WeakLevels.calls kj221 t849 _ _ t850 t863 true _ ?_ ?_ ?_ A249.out).mono ?_); exact rC HO_855001; exact rL HO_855001; exact Tab.below HTAB.out (bel_g HB.out); rintro e w280 ⟨v864, rfl, ho0, hb⟩; refine ⟨_, rfl, ?_⟩; have HO865 := rLo (rN (rN ho0 HO_22) HO_855001) HB; replace HO_22 := rE HO_22 ho0 hb; replace HO_855001 := rE HO_855001 ho0 hb; replace BK854 := blkB BK854 hb; replace HB := bst HB hb; clear hb ho0) | ((with_reducible refine gate_callee (f := 20) rfl ?_); refine goesQ (some 190) Tryz.func20 #[.slice Ao224 t846.length co224] ?_; (with_reducible refine (impl_MirrorLevels.calls kj221 _ _ t846 t867 true _ ?_ ?_ A250.out).mono ?_); exact rC HO_22; exact rL HO_22; rintro e w281 ⟨v869, rfl, ho0, hb⟩; refine ⟨_, rfl, ?_⟩; have HO870 := rLo (rN (rN (rN ho0 HO_22) HO_855001) HO865) HB; replace HO_22 := rE HO_22 ho0 hb; replace HO_855001 := rE HO_855001 ho0 hb; replace HO865 := rE HO865 ho0 hb; replace BK854 := blkB BK854 hb; replace HB := bst HB hb; clear hb ho0; obtain ⟨Ao282, co282, rfl⟩ := Kd.R_slice HO870.out) | ((with_reducible refine gate_callee (f := 13) rfl ?_); refine goesQ (some 195) Tryz.func13 #[.slice Ao282 t867.length co282] ?_; (with_reducible refine (impl_OrderOfLevels.calls kj221 _ _ t867 t871 t872 true _ ?_ ?_ A251.out).mono ?_); exact rC HO870; exact rL HO870; rintro e w283 ⟨v873, rfl, ho0, hb⟩; refine ⟨_, rfl, ?_⟩; have HO874 := rLo (rN (rN (rN (rN ho0 HO_22) HO_855001) HO865) HO870) HB; replace HO_22 := rE HO_22 ho0 hb; replace HO_855001 := rE HO_855001 ho0 hb; replace HO865 := rE HO865 ho0 hb; replace HO870 := rE HO870 ho0 hb; replace BK854 := blkB BK854 hb; replace HB := bst HB hb; clear hb ho0) | ((with_reducible refine gate_dst (N := 31) rfl ?_); refine boxG HB #[.int .i64 0, .slice none 0 0] 26 ?_; intro gb876 hg w284 BK876 GE876 hb; replace HO_22 := rB HO_22 hb; replace HO_855001 := rB HO_855001 hb; replace HO865 := rB HO865 hb; replace HO870 := rB HO870 hb; replace HO874 := rB HO874 hb; have NB854_876 := neL7 BK854 hg; have NB876_854 := neR7 BK854 hg; replace BK854 := blkB BK854 hb; replace HB := bst HB hb; clear hb hg; obtain ⟨_, _, _, _⟩ := blk2 BK876; obtain ⟨Ao287, co287, rfl⟩ := Kd.R_slice HO874.out; obtain ⟨_, _, _, _⟩ := blk2 BK854) | ((with_reducible refine gate_callee (f := 21) rfl ?_); refine goesQ (some 200) Tryz.func21 #[.agg #[.int .i64 t849, .slice Ao228 t850.length co228]] ?_; (with_reducible refine (impl_MirrorOf.calls kj221 t849 _ _ t850 t877 t878 false _ ?_ ?_ A252.out).mono ?_); exact rCF HO_855001 BK876; exact rL HO_855001; rintro e w289 ⟨v879, rfl, ho0, hb⟩; refine ⟨_, rfl, ?_⟩; have HO880 := rLo (rNF (rNF (rNF (rNF (rNF ho0 HO_22 BK876) HO_855001 BK876) HO865 BK876) HO870 BK876) HO874 BK876) HB; replace HO_22 := rEF HO_22 BK876 ho0 hb; replace HO_855001 := rEF HO_855001 BK876 ho0 hb; replace HO865 := rEF HO865 BK876 ho0 hb; replace HO870 := rEF HO870 BK876 ho0 hb; replace HO874 := rEF HO874 BK876 ho0 hb; replace BK854 := blkS BK854 hb; replace BK876 := blkS BK876 hb; replace HB := bst HB hb; clear hb ho0) | ((with_reducible refine gate_dst (N := 33) rfl ?_); refine boxG HB #[.int .i64 0, .slice none 0 0] 26 ?_; intro gb882 hg w290 BK882 GE882 hb; replace HO_22 := rB HO_22 hb; replace HO_855001 := rB HO_855001 hb; replace HO865 := rB HO865 hb; replace HO870 := rB HO870 hb; replace HO874 := rB HO874 hb; replace HO880 := rB HO880 hb; have NB854_882 := neL7 BK854 hg; have NB882_854 := neR7 BK854 hg; replace BK854 := blkB BK854 hb; have NB876_882 := neL7 BK876 hg; have NB882_876 := neR7 BK876 hg; replace BK876 := blkB BK876 hb; replace HB := bst HB hb; clear hb hg; obtain ⟨_, _, _, _⟩ := blk2 BK882; obtain ⟨Ao294, co294, rfl⟩ := Kd.R_slice HO880.out; obtain ⟨Ao295, co295, rfl⟩ := Kd.R_slice HO865.out) | (go_at_call 11; (with_reducible refine (laws_vSame.calls kj221 _ _ t863 _ _ t846 true _ ?_ ?_ ?_ ?_ A254.out).mono ?_); exact rCF HO865 BK882; exact rL HO865; exact rCF HO_22 BK882; exact rL HO_22; rintro e w' ⟨rfl, ⟨nd, rfl⟩⟩))
                go_ret
                exact ⟨eqE, bel_g HB.out⟩
              ·replace c257 := Bool.eq_false_iff.mpr c257
               subst c257
               replace H := ifF H
               obtain rfl := Option.some.inj H
               obtain ⟨_, _, _, _⟩ := blk2 BK854
               go_wp2_with (first | ((with_reducible refine gate_callee (f := 6) rfl ?_); refine goesQ (some 185) Tryz.func6 #[.agg #[.int .i64 t849, .slice Ao228 t850.length co228]] ?_; (with_reducible refine (impl_WeakLevels.calls kj221 t849 _ _ t850 t863 true _ ?_ ?_ ?_ A249.out).mono ?_); exact rC HO_855001; exact rL HO_855001; exact Tab.below HTAB.out (bel_g HB.out); rintro e w297 ⟨v864, rfl, ho0, hb⟩; refine ⟨_, rfl, ?_⟩; have HO865 := rLo (rN (rN ho0 HO_22) HO_855001) HB; replace HO_22 := rE HO_22 ho0 hb; replace HO_855001 := rE HO_855001 ho0 hb; replace BK854 := blkB BK854 hb; replace HB := bst HB hb; clear hb ho0) | ((with_reducible refine gate_callee (f := 20) rfl ?_); refine goesQ (some 190) Tryz.func20 #[.slice Ao224 t846.length co224] ?_; (with_reducible refine (impl_MirrorLevels.calls kj221 _ _ t846 t867 true _ ?_ ?_ A250.out).mono ?_); exact rC HO_22; exact rL HO_22; rintro e w298 ⟨v869, rfl, ho0, hb⟩; refine ⟨_, rfl, ?_⟩; have HO870 := rLo (rN (rN (rN ho0 HO_22) HO_855001) HO865) HB; replace HO_22 := rE HO_22 ho0 hb; replace HO_855001 := rE HO_855001 ho0 hb; replace HO865 := rE HO865 ho0 hb; replace BK854 := blkB BK854 hb; replace HB := bst HB hb; clear hb ho0; obtain ⟨Ao299, co299, rfl⟩ := Kd.R_slice HO870.out) | ((with_reducible refine gate_callee (f := 13) rfl ?_); refine goesQ (some 195) Tryz.func13 #[.slice Ao299 t867.length co299] ?_; (with_reducible refine (impl_OrderOfLevels.calls kj221 _ _ t867 t871 t872 false _ ?_ ?_ A251.out).mono ?_); exact rC HO870; exact rL HO870; rintro e w300 ⟨v873, rfl, ho0, hb⟩; refine ⟨_, rfl, ?_⟩; have HO874 := rLo (rN (rN (rN (rN ho0 HO_22) HO_855001) HO865) HO870) HB; replace HO_22 := rE HO_22 ho0 hb; replace HO_855001 := rE HO_855001 ho0 hb; replace HO865 := rE HO865 ho0 hb; replace HO870 := rE HO870 ho0 hb; replace BK854 := blkB BK854 hb; replace HB := bst HB hb; clear hb ho0) | ((with_reducible refine gate_dst (N := 31) rfl ?_); refine boxG HB #[.int .i64 0, .slice none 0 0] 26 ?_; intro gb876 hg w301 BK876 GE876 hb; replace HO_22 := rB HO_22 hb; replace HO_855001 := rB HO_855001 hb; replace HO865 := rB HO865 hb; replace HO870 := rB HO870 hb; replace HO874 := rB HO874 hb; have NB854_876 := neL7 BK854 hg; have NB876_854 := neR7 BK854 hg; replace BK854 := blkB BK854 hb; replace HB := bst HB hb; clear hb hg; obtain ⟨_, _, _, _⟩ := blk2 BK876; obtain ⟨Ao304, co304, rfl⟩ := Kd.R_slice HO874.out; obtain ⟨_, _, _, _⟩ := blk2 BK854) | ((with_reducible refine gate_callee (f := 21) rfl ?_); refine goesQ (some 200) Tryz.func21 #[.agg #[.int .i64 t849, .slice Ao228 t850.length co228]] ?_; (with_reducible refine (impl_MirrorOf.calls kj221 t849 _ _ t850 t877 t878 t881 _ ?_ ?_ A252.out).mono ?_); exact rCF HO_855001 BK876; exact rL HO_855001; rintro e w306 ⟨v879, rfl, ho0, hb⟩; refine ⟨_, rfl, ?_⟩; have HO880 := rLo (rNF (rNF (rNF (rNF (rNF ho0 HO_22 BK876) HO_855001 BK876) HO865 BK876) HO870 BK876) HO874 BK876) HB; replace HO_22 := rEF HO_22 BK876 ho0 hb; replace HO_855001 := rEF HO_855001 BK876 ho0 hb; replace HO865 := rEF HO865 BK876 ho0 hb; replace HO870 := rEF HO870 BK876 ho0 hb; replace HO874 := rEF HO874 BK876 ho0 hb; replace BK854 := blkS BK854 hb; replace BK876 := blkS BK876 hb; replace HB := bst HB hb; clear hb ho0) | ((with_reducible refine gate_dst (N := 33) rfl ?_); refine boxG HB #[.int .i64 0, .slice none 0 0] 26 ?_; intro gb882 hg w307 BK882 GE882 hb; replace HO_22 := rB HO_22 hb; replace HO_855001 := rB HO_855001 hb; replace HO865 := rB HO865 hb; replace HO870 := rB HO870 hb; replace HO874 := rB HO874 hb; replace HO880 := rB HO880 hb; have NB854_882 := neL7 BK854 hg; have NB882_854 := neR7 BK854 hg; replace BK854 := blkB BK854 hb; have NB876_882 := neL7 BK876 hg; have NB882_876 := neR7 BK876 hg; replace BK876 := blkB BK876 hb; replace HB := bst HB hb; clear hb hg; obtain ⟨_, _, _, _⟩ := blk2 BK882; obtain ⟨Ao311, co311, rfl⟩ := Kd.R_slice HO880.out; obtain ⟨Ao312, co312, rfl⟩ := Kd.R_slice HO865.out) | (go_at_call 11; (with_reducible refine (laws_vSame.calls kj221 _ _ t863 _ _ t846 true _ ?_ ?_ ?_ ?_ A254.out).mono ?_); exact rCF HO865 BK882; exact rL HO865; exact rCF HO_22 BK882; exact rL HO_22; rintro e w' ⟨rfl, ⟨nd, rfl⟩⟩))
               go_ret
               exact ⟨eqE, bel_g HB.out⟩
             ·replace c256 := Bool.eq_false_iff.mpr c256
              subst c256
              replace H := ifF H
              obtain rfl := Option.some.inj H
              obtain ⟨_, _, _, _⟩ := blk2 BK854
              go_wp2_with (first | ((with_reducible refine gate_callee (f := 6) rfl ?_); refine goesQ (some 185) Tryz.func6 #[.agg #[.int .i64 t849, .slice Ao228 t850.length co228]] ?_; (with_reducible refine (impl_WeakLevels.calls kj221 t849 _ _ t850 t863 true _ ?_ ?_ ?_ A249.out).mono ?_); exact rC HO_855001; exact rL HO_855001; exact Tab.below HTAB.out (bel_g HB.out); rintro e w314 ⟨v864, rfl, ho0, hb⟩; refine ⟨_, rfl, ?_⟩; have HO865 := rLo (rN (rN ho0 HO_22) HO_855001) HB; replace HO_22 := rE HO_22 ho0 hb; replace HO_855001 := rE HO_855001 ho0 hb; replace BK854 := blkB BK854 hb; replace HB := bst HB hb; clear hb ho0) | ((with_reducible refine gate_callee (f := 20) rfl ?_); refine goesQ (some 190) Tryz.func20 #[.slice Ao224 t846.length co224] ?_; (with_reducible refine (impl_MirrorLevels.calls kj221 _ _ t846 t867 false _ ?_ ?_ A250.out).mono ?_); exact rC HO_22; exact rL HO_22; rintro e w315 ⟨v869, rfl, ho0, hb⟩; refine ⟨_, rfl, ?_⟩; have HO870 := rLo (rN (rN (rN ho0 HO_22) HO_855001) HO865) HB; replace HO_22 := rE HO_22 ho0 hb; replace HO_855001 := rE HO_855001 ho0 hb; replace HO865 := rE HO865 ho0 hb; replace BK854 := blkB BK854 hb; replace HB := bst HB hb; clear hb ho0; obtain ⟨Ao316, co316, rfl⟩ := Kd.R_slice HO870.out) | ((with_reducible refine gate_callee (f := 13) rfl ?_); refine goesQ (some 195) Tryz.func13 #[.slice Ao316 t867.length co316] ?_; (with_reducible refine (impl_OrderOfLevels.calls kj221 _ _ t867 t871 t872 t875 _ ?_ ?_ A251.out).mono ?_); exact rC HO870; exact rL HO870; rintro e w317 ⟨v873, rfl, ho0, hb⟩; refine ⟨_, rfl, ?_⟩; have HO874 := rLo (rN (rN (rN (rN ho0 HO_22) HO_855001) HO865) HO870) HB; replace HO_22 := rE HO_22 ho0 hb; replace HO_855001 := rE HO_855001 ho0 hb; replace HO865 := rE HO865 ho0 hb; replace HO870 := rE HO870 ho0 hb; replace BK854 := blkB BK854 hb; replace HB := bst HB hb; clear hb ho0) | ((with_reducible refine gate_dst (N := 31) rfl ?_); refine boxG HB #[.int .i64 0, .slice none 0 0] 26 ?_; intro gb876 hg w318 BK876 GE876 hb; replace HO_22 := rB HO_22 hb; replace HO_855001 := rB HO_855001 hb; replace HO865 := rB HO865 hb; replace HO870 := rB HO870 hb; replace HO874 := rB HO874 hb; have NB854_876 := neL7 BK854 hg; have NB876_854 := neR7 BK854 hg; replace BK854 := blkB BK854 hb; replace HB := bst HB hb; clear hb hg; obtain ⟨_, _, _, _⟩ := blk2 BK876; obtain ⟨Ao321, co321, rfl⟩ := Kd.R_slice HO874.out; obtain ⟨_, _, _, _⟩ := blk2 BK854) | ((with_reducible refine gate_callee (f := 21) rfl ?_); refine goesQ (some 200) Tryz.func21 #[.agg #[.int .i64 t849, .slice Ao228 t850.length co228]] ?_; (with_reducible refine (impl_MirrorOf.calls kj221 t849 _ _ t850 t877 t878 t881 _ ?_ ?_ A252.out).mono ?_); exact rCF HO_855001 BK876; exact rL HO_855001; rintro e w323 ⟨v879, rfl, ho0, hb⟩; refine ⟨_, rfl, ?_⟩; have HO880 := rLo (rNF (rNF (rNF (rNF (rNF ho0 HO_22 BK876) HO_855001 BK876) HO865 BK876) HO870 BK876) HO874 BK876) HB; replace HO_22 := rEF HO_22 BK876 ho0 hb; replace HO_855001 := rEF HO_855001 BK876 ho0 hb; replace HO865 := rEF HO865 BK876 ho0 hb; replace HO870 := rEF HO870 BK876 ho0 hb; replace HO874 := rEF HO874 BK876 ho0 hb; replace BK854 := blkS BK854 hb; replace BK876 := blkS BK876 hb; replace HB := bst HB hb; clear hb ho0) | ((with_reducible refine gate_dst (N := 33) rfl ?_); refine boxG HB #[.int .i64 0, .slice none 0 0] 26 ?_; intro gb882 hg w324 BK882 GE882 hb; replace HO_22 := rB HO_22 hb; replace HO_855001 := rB HO_855001 hb; replace HO865 := rB HO865 hb; replace HO870 := rB HO870 hb; replace HO874 := rB HO874 hb; replace HO880 := rB HO880 hb; have NB854_882 := neL7 BK854 hg; have NB882_854 := neR7 BK854 hg; replace BK854 := blkB BK854 hb; have NB876_882 := neL7 BK876 hg; have NB882_876 := neR7 BK876 hg; replace BK876 := blkB BK876 hb; replace HB := bst HB hb; clear hb hg; obtain ⟨_, _, _, _⟩ := blk2 BK882; obtain ⟨Ao328, co328, rfl⟩ := Kd.R_slice HO880.out; obtain ⟨Ao329, co329, rfl⟩ := Kd.R_slice HO865.out) | (go_at_call 11; (with_reducible refine (laws_vSame.calls kj221 _ _ t863 _ _ t846 true _ ?_ ?_ ?_ ?_ A254.out).mono ?_); exact rCF HO865 BK882; exact rL HO865; exact rCF HO_22 BK882; exact rL HO_22; rintro e w' ⟨rfl, ⟨nd, rfl⟩⟩))
              go_ret
              exact ⟨eqE, bel_g HB.out⟩
            ·replace c255 := Bool.eq_false_iff.mpr c255
             subst c255
             replace H := ifF H
             obtain rfl := Option.some.inj H
             obtain ⟨_, _, _, _⟩ := blk2 BK854
             go_wp2_with (first | ((with_reducible refine gate_callee (f := 6) rfl ?_); refine goesQ (some 185) Tryz.func6 #[.agg #[.int .i64 t849, .slice Ao228 t850.length co228]] ?_; (with_reducible refine (impl_WeakLevels.calls kj221 t849 _ _ t850 t863 true _ ?_ ?_ ?_ A249.out).mono ?_); exact rC HO_855001; exact rL HO_855001; exact Tab.below HTAB.out (bel_g HB.out); rintro e w331 ⟨v864, rfl, ho0, hb⟩; refine ⟨_, rfl, ?_⟩; have HO865 := rLo (rN (rN ho0 HO_22) HO_855001) HB; replace HO_22 := rE HO_22 ho0 hb; replace HO_855001 := rE HO_855001 ho0 hb; replace BK854 := blkB BK854 hb; replace HB := bst HB hb; clear hb ho0) | ((with_reducible refine gate_callee (f := 20) rfl ?_); refine goesQ (some 190) Tryz.func20 #[.slice Ao224 t846.length co224] ?_; (with_reducible refine (impl_MirrorLevels.calls kj221 _ _ t846 t867 t868 _ ?_ ?_ A250.out).mono ?_); exact rC HO_22; exact rL HO_22; rintro e w332 ⟨v869, rfl, ho0, hb⟩; refine ⟨_, rfl, ?_⟩; have HO870 := rLo (rN (rN (rN ho0 HO_22) HO_855001) HO865) HB; replace HO_22 := rE HO_22 ho0 hb; replace HO_855001 := rE HO_855001 ho0 hb; replace HO865 := rE HO865 ho0 hb; replace BK854 := blkB BK854 hb; replace HB := bst HB hb; clear hb ho0; obtain ⟨Ao333, co333, rfl⟩ := Kd.R_slice HO870.out) | ((with_reducible refine gate_callee (f := 13) rfl ?_); refine goesQ (some 195) Tryz.func13 #[.slice Ao333 t867.length co333] ?_; (with_reducible refine (impl_OrderOfLevels.calls kj221 _ _ t867 t871 t872 t875 _ ?_ ?_ A251.out).mono ?_); exact rC HO870; exact rL HO870; rintro e w334 ⟨v873, rfl, ho0, hb⟩; refine ⟨_, rfl, ?_⟩; have HO874 := rLo (rN (rN (rN (rN ho0 HO_22) HO_855001) HO865) HO870) HB; replace HO_22 := rE HO_22 ho0 hb; replace HO_855001 := rE HO_855001 ho0 hb; replace HO865 := rE HO865 ho0 hb; replace HO870 := rE HO870 ho0 hb; replace BK854 := blkB BK854 hb; replace HB := bst HB hb; clear hb ho0) | ((with_reducible refine gate_dst (N := 31) rfl ?_); refine boxG HB #[.int .i64 0, .slice none 0 0] 26 ?_; intro gb876 hg w335 BK876 GE876 hb; replace HO_22 := rB HO_22 hb; replace HO_855001 := rB HO_855001 hb; replace HO865 := rB HO865 hb; replace HO870 := rB HO870 hb; replace HO874 := rB HO874 hb; have NB854_876 := neL7 BK854 hg; have NB876_854 := neR7 BK854 hg; replace BK854 := blkB BK854 hb; replace HB := bst HB hb; clear hb hg; obtain ⟨_, _, _, _⟩ := blk2 BK876; obtain ⟨Ao338, co338, rfl⟩ := Kd.R_slice HO874.out; obtain ⟨_, _, _, _⟩ := blk2 BK854) | ((with_reducible refine gate_callee (f := 21) rfl ?_); refine goesQ (some 200) Tryz.func21 #[.agg #[.int .i64 t849, .slice Ao228 t850.length co228]] ?_; (with_reducible refine (impl_MirrorOf.calls kj221 t849 _ _ t850 t877 t878 t881 _ ?_ ?_ A252.out).mono ?_); exact rCF HO_855001 BK876; exact rL HO_855001; rintro e w340 ⟨v879, rfl, ho0, hb⟩; refine ⟨_, rfl, ?_⟩; have HO880 := rLo (rNF (rNF (rNF (rNF (rNF ho0 HO_22 BK876) HO_855001 BK876) HO865 BK876) HO870 BK876) HO874 BK876) HB; replace HO_22 := rEF HO_22 BK876 ho0 hb; replace HO_855001 := rEF HO_855001 BK876 ho0 hb; replace HO865 := rEF HO865 BK876 ho0 hb; replace HO870 := rEF HO870 BK876 ho0 hb; replace HO874 := rEF HO874 BK876 ho0 hb; replace BK854 := blkS BK854 hb; replace BK876 := blkS BK876 hb; replace HB := bst HB hb; clear hb ho0) | ((with_reducible refine gate_dst (N := 33) rfl ?_); refine boxG HB #[.int .i64 0, .slice none 0 0] 26 ?_; intro gb882 hg w341 BK882 GE882 hb; replace HO_22 := rB HO_22 hb; replace HO_855001 := rB HO_855001 hb; replace HO865 := rB HO865 hb; replace HO870 := rB HO870 hb; replace HO874 := rB HO874 hb; replace HO880 := rB HO880 hb; have NB854_882 := neL7 BK854 hg; have NB882_854 := neR7 BK854 hg; replace BK854 := blkB BK854 hb; have NB876_882 := neL7 BK876 hg; have NB882_876 := neR7 BK876 hg; replace BK876 := blkB BK876 hb; replace HB := bst HB hb; clear hb hg; obtain ⟨_, _, _, _⟩ := blk2 BK882; obtain ⟨Ao345, co345, rfl⟩ := Kd.R_slice HO880.out; obtain ⟨Ao346, co346, rfl⟩ := Kd.R_slice HO865.out) | (go_at_call 11; (with_reducible refine (laws_vSame.calls kj221 _ _ t863 _ _ t846 false _ ?_ ?_ ?_ ?_ A254.out).mono ?_); exact rCF HO865 BK882; exact rL HO865; exact rCF HO_22 BK882; exact rL HO_22; rintro e w' ⟨rfl, ⟨nd, rfl⟩⟩))
             go_ret
             exact ⟨eqE, bel_g HB.out⟩
           ·replace c253 := Bool.eq_false_iff.mpr c253
            subst c253
            replace H := ifF H
            obtain rfl := Option.some.inj H
            obtain ⟨_, _, _, _⟩ := blk2 BK854
            go_wp2_with (first | ((with_reducible refine gate_callee (f := 6) rfl ?_); refine goesQ (some 185) Tryz.func6 #[.agg #[.int .i64 t849, .slice Ao228 t850.length co228]] ?_; (with_reducible refine (impl_WeakLevels.calls kj221 t849 _ _ t850 t863 false _ ?_ ?_ ?_ A249.out).mono ?_); exact rC HO_855001; exact rL HO_855001; exact Tab.below HTAB.out (bel_g HB.out); rintro e w348 ⟨v864, rfl, ho0, hb⟩; refine ⟨_, rfl, ?_⟩; have HO865 := rLo (rN (rN ho0 HO_22) HO_855001) HB; replace HO_22 := rE HO_22 ho0 hb; replace HO_855001 := rE HO_855001 ho0 hb; replace BK854 := blkB BK854 hb; replace HB := bst HB hb; clear hb ho0) | ((with_reducible refine gate_callee (f := 20) rfl ?_); refine goesQ (some 190) Tryz.func20 #[.slice Ao224 t846.length co224] ?_; (with_reducible refine (impl_MirrorLevels.calls kj221 _ _ t846 t867 t868 _ ?_ ?_ A250.out).mono ?_); exact rC HO_22; exact rL HO_22; rintro e w349 ⟨v869, rfl, ho0, hb⟩; refine ⟨_, rfl, ?_⟩; have HO870 := rLo (rN (rN (rN ho0 HO_22) HO_855001) HO865) HB; replace HO_22 := rE HO_22 ho0 hb; replace HO_855001 := rE HO_855001 ho0 hb; replace HO865 := rE HO865 ho0 hb; replace BK854 := blkB BK854 hb; replace HB := bst HB hb; clear hb ho0; obtain ⟨Ao350, co350, rfl⟩ := Kd.R_slice HO870.out) | ((with_reducible refine gate_callee (f := 13) rfl ?_); refine goesQ (some 195) Tryz.func13 #[.slice Ao350 t867.length co350] ?_; (with_reducible refine (impl_OrderOfLevels.calls kj221 _ _ t867 t871 t872 t875 _ ?_ ?_ A251.out).mono ?_); exact rC HO870; exact rL HO870; rintro e w351 ⟨v873, rfl, ho0, hb⟩; refine ⟨_, rfl, ?_⟩; have HO874 := rLo (rN (rN (rN (rN ho0 HO_22) HO_855001) HO865) HO870) HB; replace HO_22 := rE HO_22 ho0 hb; replace HO_855001 := rE HO_855001 ho0 hb; replace HO865 := rE HO865 ho0 hb; replace HO870 := rE HO870 ho0 hb; replace BK854 := blkB BK854 hb; replace HB := bst HB hb; clear hb ho0) | ((with_reducible refine gate_dst (N := 31) rfl ?_); refine boxG HB #[.int .i64 0, .slice none 0 0] 26 ?_; intro gb876 hg w352 BK876 GE876 hb; replace HO_22 := rB HO_22 hb; replace HO_855001 := rB HO_855001 hb; replace HO865 := rB HO865 hb; replace HO870 := rB HO870 hb; replace HO874 := rB HO874 hb; have NB854_876 := neL7 BK854 hg; have NB876_854 := neR7 BK854 hg; replace BK854 := blkB BK854 hb; replace HB := bst HB hb; clear hb hg; obtain ⟨_, _, _, _⟩ := blk2 BK876; obtain ⟨Ao355, co355, rfl⟩ := Kd.R_slice HO874.out; obtain ⟨_, _, _, _⟩ := blk2 BK854) | ((with_reducible refine gate_callee (f := 21) rfl ?_); refine goesQ (some 200) Tryz.func21 #[.agg #[.int .i64 t849, .slice Ao228 t850.length co228]] ?_; (with_reducible refine (impl_MirrorOf.calls kj221 t849 _ _ t850 t877 t878 t881 _ ?_ ?_ A252.out).mono ?_); exact rCF HO_855001 BK876; exact rL HO_855001; rintro e w357 ⟨v879, rfl, ho0, hb⟩; refine ⟨_, rfl, ?_⟩; have HO880 := rLo (rNF (rNF (rNF (rNF (rNF ho0 HO_22 BK876) HO_855001 BK876) HO865 BK876) HO870 BK876) HO874 BK876) HB; replace HO_22 := rEF HO_22 BK876 ho0 hb; replace HO_855001 := rEF HO_855001 BK876 ho0 hb; replace HO865 := rEF HO865 BK876 ho0 hb; replace HO870 := rEF HO870 BK876 ho0 hb; replace HO874 := rEF HO874 BK876 ho0 hb; replace BK854 := blkS BK854 hb; replace BK876 := blkS BK876 hb; replace HB := bst HB hb; clear hb ho0) | ((with_reducible refine gate_dst (N := 33) rfl ?_); refine boxG HB #[.int .i64 0, .slice none 0 0] 26 ?_; intro gb882 hg w358 BK882 GE882 hb; replace HO_22 := rB HO_22 hb; replace HO_855001 := rB HO_855001 hb; replace HO865 := rB HO865 hb; replace HO870 := rB HO870 hb; replace HO874 := rB HO874 hb; replace HO880 := rB HO880 hb; have NB854_882 := neL7 BK854 hg; have NB882_854 := neR7 BK854 hg; replace BK854 := blkB BK854 hb; have NB876_882 := neL7 BK876 hg; have NB882_876 := neR7 BK876 hg; replace BK876 := blkB BK876 hb; replace HB := bst HB hb; clear hb hg; obtain ⟨_, _, _, _⟩ := blk2 BK882; obtain ⟨Ao362, co362, rfl⟩ := Kd.R_slice HO880.out))
            go_ret
            exact ⟨eqE, bel_g HB.out⟩
          ·replace c248 := Bool.eq_false_iff.mpr c248
           subst c248
           replace H := ifF H
           obtain rfl := Option.some.inj H
           go_wp2
           go_ret
           exact ⟨eqE, bel_g HB.out⟩
end Go.Proofs.YtgbdjchdfcodcaaGreatDoor.Q
