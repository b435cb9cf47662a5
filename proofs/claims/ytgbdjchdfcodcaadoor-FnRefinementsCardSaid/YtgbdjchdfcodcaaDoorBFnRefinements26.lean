import Derived.Test.YtgbdjchdfcodcaaDoorBFnRefinements18
import Derived.Test.YtgbdjchdfcodcaaDoorBFnRefinements19
import Derived.Test.YtgbdjchdfcodcaaDoorBFnRefinements25
namespace Go.Proofs.YtgbdjchdfcodcaaDoor.Q
open Go.RowKit Go.Proofs.YtgbdjchdfcodcaaDoorW.PrintWords Go.Proofs.YtgbdjchdfcodcaaDoorW.PrintLast Go.Proofs.YtgbdjchdfcodcaaDoorW.PrintMore
attribute [local go_sem] max2_int min2_int max_two min_two max_three min_three max_four min_four neB_f
set_option linter.unusedVariables false
set_option maxHeartbeats 8000000
set_option maxRecDepth 100000
set_option linter.unusedSimpArgs false
mutual
def laws_FnRefinements.j0 : Nat → List Int → Bool → Bool → Bool → Int → List Int → Int → List Int → Int → List Int → Option (Bool)
 | 0, _, _, _, _, _, _, _, _, _, _ => none
 | k + 1, x1, x8, x11, x86, x745000, x745001, x746000, x746001, x752000, x752001 => if x86 = true then (some false) else (if x8 = true then ((impl_DoesRefine.f k x745000 x745001 x752000 x752001).bind fun bt763 => ((impl_DoesRefine.f k x746000 x746001 x752000 x752001).bind fun bt765 => ((impl_IsOrder.f k x752000 x752001).bind fun t767 => (if t767 = true then (if bt763.2 = true then (if bt763.1 = true then (if bt765.2 = true then (if bt765.1 = true then ((laws_vOrder.f k x752000 x752001 x746000 x746001).bind fun t768 => (if (x11 != t768) = true then (some false) else (laws_FnRefinements.j1 k x1))) else (some false)) else (some false)) else (some false)) else (some false)) else (some false))))) else (laws_FnRefinements.j1 k x1))
def laws_FnRefinements.j1 : Nat → List Int → Option (Bool)
 | 0, _ => none
 | k + 1, x1 => (spec_DrawRefineLevels.f k x1).bind fun bt769 => ((impl_RefineLevels.f k bt769.1 bt769.2).bind fun bt775 => ((spec_RefineLevels.f k bt769.1 bt769.2).bind fun bt779 => (if (bt775.2 != bt779.2) = true then (laws_FnRefinements.j2 k bt769.1 bt775.1 bt775.2 true) else ((laws_vSame.f k bt775.1 bt779.1).bind fun t783 => (laws_FnRefinements.j2 k bt769.1 bt775.1 bt775.2 (!t783))))))
def laws_FnRefinements.j2 : Nat → List Int → List Int → Bool → Bool → Option (Bool)
 | 0, _, _, _, _ => none
 | k + 1, x19, x21, x22, x151 => if x151 = true then (some false) else (if x22 = true then ((impl_OrderOfLevels.f k x21).bind fun bt784 => ((impl_OrderOfLevels.f k x19).bind fun bt790 => ((impl_DoesRefine.f k bt784.1 bt784.2.1 bt790.1 bt790.2.1).bind fun bt796 => (if bt784.2.2 = true then (if bt790.2.2 = true then (if bt796.2 = true then (some bt796.1) else (some false)) else (some false)) else (some false))))) else (some true))
end
def laws_FnRefinements.f (k : Nat) (l0 : List Int) (l1 : List Int) : Option (Bool) := (laws_big.f l0 l1).bind fun t735 => (if t735 = true then (some true) else ((spec_DrawMeetOrders.f k l0).bind fun bt736 => ((impl_MeetOrders.f k bt736.1 bt736.2.1 bt736.2.2.1 bt736.2.2.2).bind fun bt746 => ((spec_MeetOrders.f k bt736.1 bt736.2.1 bt736.2.2.1 bt736.2.2.2).bind fun bt752 => ((impl_DoesRefine.f k bt736.1 bt736.2.1 bt736.2.2.1 bt736.2.2.2).bind fun bt758 => ((spec_DoesRefine.f k bt736.1 bt736.2.1 bt736.2.2.1 bt736.2.2.2).bind fun bt760 => (if (bt746.2.2 != bt752.2.2) = true then (laws_FnRefinements.j0 k l1 bt746.2.2 bt758.1 true bt736.1 bt736.2.1 bt736.2.2.1 bt736.2.2.2 bt746.1 bt746.2.1) else ((laws_vOrder.f k bt746.1 bt746.2.1 bt752.1 bt752.2.1).bind fun t762 => (if t762 = true then (if (bt758.2 != bt760.2) = true then (laws_FnRefinements.j0 k l1 bt746.2.2 bt758.1 true bt736.1 bt736.2.1 bt736.2.2.1 bt736.2.2.2 bt746.1 bt746.2.1) else (if (bt758.1 != bt760.1) = true then (laws_FnRefinements.j0 k l1 bt746.2.2 bt758.1 true bt736.1 bt736.2.1 bt736.2.2.1 bt736.2.2.2 bt746.1 bt746.2.1) else (laws_FnRefinements.j0 k l1 bt746.2.2 bt758.1 (bt758.2 != bt746.2.2) bt736.1 bt736.2.1 bt736.2.2.1 bt736.2.2.2 bt746.1 bt746.2.1))) else (laws_FnRefinements.j0 k l1 bt746.2.2 bt758.1 true bt736.1 bt736.2.1 bt736.2.2.1 bt736.2.2.2 bt746.1 bt746.2.1))))))))))
theorem laws_FnRefinements.mono_l : ∀ k, (∀ y0 y1 y2 y3 y4 y5 y6 y7 y8 y9, LeO (laws_FnRefinements.j0 k y0 y1 y2 y3 y4 y5 y6 y7 y8 y9) (laws_FnRefinements.j0 (k + 1) y0 y1 y2 y3 y4 y5 y6 y7 y8 y9)) ∧ (∀ y0, LeO (laws_FnRefinements.j1 k y0) (laws_FnRefinements.j1 (k + 1) y0)) ∧ (∀ y0 y1 y2 y3, LeO (laws_FnRefinements.j2 k y0 y1 y2 y3) (laws_FnRefinements.j2 (k + 1) y0 y1 y2 y3))
 | 0 => ⟨fun _ _ _ _ _ _ _ _ _ _ r h => by simp [laws_FnRefinements.j0] at h, fun _ r h => by simp [laws_FnRefinements.j1] at h, fun _ _ _ _ r h => by simp [laws_FnRefinements.j2] at h⟩
 | k + 1 => by
  obtain ⟨ih0, ih1, ih2⟩ := laws_FnRefinements.mono_l k
  refine ⟨?_, ?_, ?_⟩ <;> intros
  unfold laws_FnRefinements.j0
  rotate_left
  unfold laws_FnRefinements.j1
  rotate_left
  unfold laws_FnRefinements.j2
  rotate_left
  all_goals repeat' (with_reducible first|exact ih0 _ _ _ _ _ _ _ _ _ _|exact ih1 _|exact ih2 _ _ _ _|exact impl_DoesRefine.mono _ _ _ _ _|exact impl_IsOrder.mono _ _ _|exact impl_MeetOrders.mono _ _ _ _ _|exact impl_OrderOfLevels.mono _ _|exact impl_RefineLevels.mono _ _ _|exact laws_vOrder.mono _ _ _ _ _|exact laws_vSame.mono _ _ _|exact spec_DoesRefine.mono _ _ _ _ _|exact spec_DrawMeetOrders.mono _ _|exact spec_DrawRefineLevels.mono _ _|exact spec_MeetOrders.mono _ _ _ _ _|exact spec_RefineLevels.mono _ _ _|exact LeO.refl _|exact LeO.none _|refine LeO.ite ?_ ?_|refine LeO.bind ?_ (fun _ => ?_))
theorem laws_FnRefinements.mono : ∀ a0 a1 k, LeO (laws_FnRefinements.f k a0 a1) (laws_FnRefinements.f (k + 1) a0 a1) := by
 intro a0 a1 k
 obtain ⟨ih0, ih1, ih2⟩ := laws_FnRefinements.mono_l k
 unfold laws_FnRefinements.f
 repeat' (with_reducible first|exact ih0 _ _ _ _ _ _ _ _ _ _|exact ih1 _|exact ih2 _ _ _ _|exact impl_DoesRefine.mono _ _ _ _ _|exact impl_IsOrder.mono _ _ _|exact impl_MeetOrders.mono _ _ _ _ _|exact impl_OrderOfLevels.mono _ _|exact impl_RefineLevels.mono _ _ _|exact laws_vOrder.mono _ _ _ _ _|exact laws_vSame.mono _ _ _|exact spec_DoesRefine.mono _ _ _ _ _|exact spec_DrawMeetOrders.mono _ _|exact spec_DrawRefineLevels.mono _ _|exact spec_MeetOrders.mono _ _ _ _ _|exact spec_RefineLevels.mono _ _ _|exact LeO.refl _|exact LeO.none _|refine LeO.ite ?_ ?_|refine LeO.bind ?_ (fun _ => ?_))
theorem laws_FnRefinements.calls (k : Nat) (A0 : Option Addr) (c0 : Nat) (l0 : List Int) (A1 : Option Addr) (c1 : Nat) (l1 : List Int) (r : Bool) (w : World) (hr0 : Kd.C (Kd.int .u8) w A0 l0.length l0) (hc0 : l0.length ≤ c0) (hr1 : Kd.C (Kd.int .u8) w A1 l1.length l1) (hc1 : l1.length ≤ c1) (hTAB : Tab w) (h : laws_FnRefinements.f k l0 l1 = some r) :
  Calls Tryd.prog 3 #[.slice A0 l0.length c0, .slice A1 l1.length c1] w fun e w' => e = .returned (.bool r) ∧ Below w.heap.size w w' := by
 have HTAB := mkA hTAB
 clear hTAB
 have hu26 := Tryd.underlying26
 have HR0 := mkA hr0
 have HC0 := mkA hc0
 clear hr0 hc0
 have HR1 := mkA hr1
 have HC1 := mkA hc1
 clear hr1 hc1
 have HB := mkA (Below.refl w.heap.size w)
 have H := h
 clear h
 unfold laws_FnRefinements.f at H
 obtain ⟨t735, A3, H⟩ := obE H
 by_cases c4 : t735 = true
 ·subst c4
  replace H := ifT H
  obtain rfl := Option.some.inj H
  go_enter Tryd.func3, Tryd.ntmps3
  go_wp2_with (first | ((with_reducible refine gate_callee (f := 4) rfl ?_); refine goesQ (some 33) Tryd.func4 #[.slice A0 l0.length c0, .slice A1 l1.length c1] ?_; (with_reducible refine (laws_big.calls _ _ l0 _ _ l1 true _ ?s1 ?s2 ?s3 ?s4 A3.out).mono ?_); (case s1 => repeat (first | exact HR0.out | (with_reducible refine Kd.C_alloc ?_ _) | (with_reducible refine Kd.C_drewN ?_ _) | (with_reducible refine Kd.C_drew ?_))); (case s2 => exact HC0.out); (case s3 => repeat (first | exact HR1.out | (with_reducible refine Kd.C_alloc ?_ _) | (with_reducible refine Kd.C_drewN ?_ _) | (with_reducible refine Kd.C_drew ?_))); (case s4 => exact HC1.out); rintro e w' ⟨rfl, ⟨nd, rfl⟩⟩; refine ⟨_, rfl, ?_⟩))
  go_ret
  exact ⟨eqE, bel_g HB.out⟩
 ·replace c4 := Bool.eq_false_iff.mpr c4
  subst c4
  replace H := ifF H
  obtain ⟨⟨t736, t737, t740, t741⟩, A5, H⟩ := obE H
  dsimp only at H
  obtain ⟨⟨t746, t747, t750⟩, A6, H⟩ := obE H
  dsimp only at H
  obtain ⟨⟨t752, t753, t756⟩, A7, H⟩ := obE H
  dsimp only at H
  obtain ⟨⟨t758, t759⟩, A8, H⟩ := obE H
  dsimp only at H
  obtain ⟨⟨t760, t761⟩, A9, H⟩ := obE H
  dsimp only at H
  have HC10 := mkA H
  clear H
  go_enter Tryd.func3, Tryd.ntmps3
  go_upto_region 8 with (first | ((with_reducible refine gate_callee (f := 4) rfl ?_); refine goesQ (some 33) Tryd.func4 #[.slice A0 l0.length c0, .slice A1 l1.length c1] ?_; (with_reducible refine (laws_big.calls _ _ l0 _ _ l1 false _ ?s1 ?s2 ?s3 ?s4 A3.out).mono ?_); (case s1 => repeat (first | exact HR0.out | (with_reducible refine Kd.C_alloc ?_ _) | (with_reducible refine Kd.C_drewN ?_ _) | (with_reducible refine Kd.C_drew ?_))); (case s2 => exact HC0.out); (case s3 => repeat (first | exact HR1.out | (with_reducible refine Kd.C_alloc ?_ _) | (with_reducible refine Kd.C_drewN ?_ _) | (with_reducible refine Kd.C_drew ?_))); (case s4 => exact HC1.out); rintro e w' ⟨rfl, ⟨nd, rfl⟩⟩; refine ⟨_, rfl, ?_⟩) | ((with_reducible refine gate_callee (f := 5) rfl ?_); refine goesQ (some 36) Tryd.func5 #[.slice A0 l0.length c0] ?_; (with_reducible refine (spec_DrawMeetOrders.calls k _ _ l0 t736 t737 t740 t741 _ ?s1 ?s2 A5.out).mono ?_); (case s1 => repeat (first | exact HR0.out | (with_reducible refine Kd.C_alloc ?_ _) | (with_reducible refine Kd.C_drewN ?_ _) | (with_reducible refine Kd.C_drew ?_))); (case s2 => exact HC0.out); rintro e w11 ⟨v738, v742, rfl, ho0, ho1, hb⟩; refine ⟨_, rfl, ?_⟩; have HO739 := mkA (Kd.R_lower ho0 (below_size (bel_g HB.out))); have HO743 := mkA (Kd.R_lower ho1 (below_size (bel_g HB.out))); replace HB := bst HB hb; (try clear hb); (try clear hk); (try clear ho0); (try clear ho1)) | ((with_reducible refine gate_dst (N := 5) rfl ?_); refine boxE (N := 5) (cs := #[.int .i64 0, .slice none 0 0]) (t := 26) ?_; intro gb744 hg w12 hbox hb; replace HO739 := rB HO739 hb; replace HO743 := rB HO743 hb; have BK744 := mkA (hbox); have GE744 := geB HB hg; replace HB := bst HB hb; clear hb hbox hg) | ((with_reducible refine gate_dst (N := 6) rfl ?_); refine boxE (N := 6) (cs := #[.int .i64 0, .slice none 0 0]) (t := 26) ?_; intro gb745 hg w13 hbox hb; replace HO739 := rB HO739 hb; replace HO743 := rB HO743 hb; have BK745 := mkA (hbox); have GE745 := geB HB hg; have NB744_745 := neL7 BK744 hg; have NB745_744 := neR7 BK744 hg; replace BK744 := blkB BK744 hb; replace HB := bst HB hb; clear hb hbox hg; obtain ⟨_, _, _, _⟩ := blk2 BK744; obtain ⟨Ao16, co16, eo16⟩ := Kd.R_slice HO739.out; subst eo16; obtain ⟨_, _, _, _⟩ := blk2 BK745; obtain ⟨Ao18, co18, eo18⟩ := Kd.R_slice HO743.out; subst eo18) | ((with_reducible refine gate_callee (f := 6) rfl ?_); refine goesQ (some 42) Tryd.func6 #[.agg #[.int .i64 t736, .slice Ao16 t737.length co16], .agg #[.int .i64 t740, .slice Ao18 t741.length co18]] ?_; (with_reducible refine (impl_MeetOrders.calls k t736 _ _ t737 t740 _ _ t741 t746 t747 t750 _ ?s1 ?s2 ?s3 ?s4 ?s5 A6.out).mono ?_); (case s1 => exact rDF HO739 BK744 BK745); (case s2 => exact rL HO739); (case s3 => exact rDF HO743 BK744 BK745); (case s4 => exact rL HO743); (case s5 => exact Tab.below HTAB.out (bel_g HB.out)); rintro e w19 ⟨v748, rfl, ho0, hb⟩; refine ⟨_, rfl, ?_⟩; have HO749 := mkA (Kd.R_lower (Kd.R_new' (Kd.R_new' ho0 (Kd.R_lt (rGg HO739 BK744 BK745))) (Kd.R_lt (rGg HO743 BK744 BK745))) (below_size (bel_g HB.out))); replace HO739 := mkA (Kd.R_elder' (rGg HO739 BK744 BK745) (Kd.R_base ho0) hb); replace HO743 := mkA (Kd.R_elder' (rGg HO743 BK744 BK745) (Kd.R_base ho0) hb); replace BK744 := blkS BK744 hb; replace BK745 := blkS BK745 hb; replace HB := bst HB hb; (try clear hb); (try clear hk); (try clear ho0)) | ((with_reducible refine gate_dst (N := 7) rfl ?_); refine boxE (N := 7) (cs := #[.int .i64 0, .slice none 0 0]) (t := 26) ?_; intro gb751 hg w20 hbox hb; replace HO739 := rB HO739 hb; replace HO743 := rB HO743 hb; replace HO749 := rB HO749 hb; have BK751 := mkA (hbox); have GE751 := geB HB hg; have NB744_751 := neL7 BK744 hg; have NB751_744 := neR7 BK744 hg; replace BK744 := blkB BK744 hb; have NB745_751 := neL7 BK745 hg; have NB751_745 := neR7 BK745 hg; replace BK745 := blkB BK745 hb; replace HB := bst HB hb; clear hb hbox hg; obtain ⟨_, _, _, _⟩ := blk2 BK751; obtain ⟨Ao24, co24, eo24⟩ := Kd.R_slice HO749.out; subst eo24; obtain ⟨_, _, _, _⟩ := blk2 BK744; obtain ⟨_, _, _, _⟩ := blk2 BK745) | ((with_reducible refine gate_callee (f := 7) rfl ?_); refine goesQ (some 48) Tryd.func7 #[.agg #[.int .i64 t736, .slice Ao16 t737.length co16], .agg #[.int .i64 t740, .slice Ao18 t741.length co18]] ?_; (with_reducible refine (spec_MeetOrders.calls k t736 _ _ t737 t740 _ _ t741 t752 t753 t756 _ ?s1 ?s2 ?s3 ?s4 A7.out).mono ?_); (case s1 => exact rCF HO739 BK751); (case s2 => exact rL HO739); (case s3 => exact rCF HO743 BK751); (case s4 => exact rL HO743); rintro e w27 ⟨v754, rfl, ho0, hb⟩; refine ⟨_, rfl, ?_⟩; have HO755 := mkA (Kd.R_lower (Kd.R_new' (Kd.R_new' (Kd.R_new' ho0 (Kd.R_lt (rFg HO739 BK751))) (Kd.R_lt (rFg HO743 BK751))) (Kd.R_lt (rFg HO749 BK751))) (below_size (bel_g HB.out))); replace HO739 := mkA (Kd.R_elder' (rFg HO739 BK751) (Kd.R_base ho0) hb); replace HO743 := mkA (Kd.R_elder' (rFg HO743 BK751) (Kd.R_base ho0) hb); replace HO749 := mkA (Kd.R_elder' (rFg HO749 BK751) (Kd.R_base ho0) hb); replace BK744 := blkS BK744 hb; replace BK745 := blkS BK745 hb; replace BK751 := blkS BK751 hb; replace HB := bst HB hb; (try clear hb); (try clear hk); (try clear ho0)) | ((with_reducible refine gate_dst (N := 9) rfl ?_); refine boxE (N := 9) (cs := #[.int .i64 0, .slice none 0 0]) (t := 26) ?_; intro gb757 hg w28 hbox hb; replace HO739 := rB HO739 hb; replace HO743 := rB HO743 hb; replace HO749 := rB HO749 hb; replace HO755 := rB HO755 hb; have BK757 := mkA (hbox); have GE757 := geB HB hg; have NB744_757 := neL7 BK744 hg; have NB757_744 := neR7 BK744 hg; replace BK744 := blkB BK744 hb; have NB745_757 := neL7 BK745 hg; have NB757_745 := neR7 BK745 hg; replace BK745 := blkB BK745 hb; have NB751_757 := neL7 BK751 hg; have NB757_751 := neR7 BK751 hg; replace BK751 := blkB BK751 hb; replace HB := bst HB hb; clear hb hbox hg; obtain ⟨_, _, _, _⟩ := blk2 BK757; obtain ⟨Ao33, co33, eo33⟩ := Kd.R_slice HO755.out; subst eo33; obtain ⟨_, _, _, _⟩ := blk2 BK744; obtain ⟨_, _, _, _⟩ := blk2 BK745) | ((with_reducible refine gate_callee (f := 8) rfl ?_); refine goesQ (some 54) Tryd.func8 #[.agg #[.int .i64 t736, .slice Ao16 t737.length co16], .agg #[.int .i64 t740, .slice Ao18 t741.length co18]] ?_; (with_reducible refine (impl_DoesRefine.calls k t736 _ _ t737 t740 _ _ t741 t758 t759 _ ?s1 ?s2 ?s3 ?s4 ?s5 A8.out).mono ?_); (case s1 => exact rCF HO739 BK757); (case s2 => exact rL HO739); (case s3 => exact rCF HO743 BK757); (case s4 => exact rL HO743); (case s5 => exact Tab.below HTAB.out (bel_g HB.out)); rintro e w36 ⟨rfl, hb⟩; refine ⟨_, rfl, ?_⟩; replace HO739 := mkA (Kd.R_below (rFg HO739 BK757) hb); replace HO743 := mkA (Kd.R_below (rFg HO743 BK757) hb); replace HO749 := mkA (Kd.R_below (rFg HO749 BK757) hb); replace HO755 := mkA (Kd.R_below (rFg HO755 BK757) hb); replace BK744 := blkS BK744 hb; replace BK745 := blkS BK745 hb; replace BK751 := blkS BK751 hb; replace BK757 := blkS BK757 hb; replace HB := bst HB hb; (try clear hb); (try clear hk); obtain ⟨_, _, _, _⟩ := blk2 BK744; obtain ⟨_, _, _, _⟩ := blk2 BK745) | ((with_reducible refine gate_callee (f := 9) rfl ?_); refine goesQ (some 60) Tryd.func9 #[.agg #[.int .i64 t736, .slice Ao16 t737.length co16], .agg #[.int .i64 t740, .slice Ao18 t741.length co18]] ?_; (with_reducible refine (spec_DoesRefine.calls k t736 _ _ t737 t740 _ _ t741 t760 t761 _ ?s1 ?s2 ?s3 ?s4 A9.out).mono ?_); (case s1 => exact rC HO739); (case s2 => exact rL HO739); (case s3 => exact rC HO743); (case s4 => exact rL HO743); rintro e w39 ⟨rfl, hb⟩; refine ⟨_, rfl, ?_⟩; replace HO739 := rB HO739 hb; replace HO743 := rB HO743 hb; replace HO749 := rB HO749 hb; replace HO755 := rB HO755 hb; replace BK744 := blkB BK744 hb; replace BK745 := blkB BK745 hb; replace BK751 := blkB BK751 hb; replace BK757 := blkB BK757 hb; replace HB := bst HB hb; (try clear hb); (try clear hk)))
  (try simp only [Act.put, List.setIfInBounds_toArray, List.set_cons_zero, List.set_cons_succ])
  go_cut [86] (fun v86 wc => ∃ (kq : Nat) (x86_9 : Bool), v86 = .bool x86_9 ∧ Fc (laws_FnRefinements.j0 kq l1 t750 t758 x86_9 t736 t737 t740 t741 t746 t747 = some r) ∧ Fc (kq ≤ k) ∧ Fc (Kd.R (Kd.int .i64) 3 wc w.heap.size (fun k_ => some k_ ≠ ((.slice Ao18 t741.length co18) : Value).ownBlock ∧ some k_ ≠ ((.slice Ao24 t747.length co24) : Value).ownBlock) (.slice Ao16 t737.length co16) t737) ∧ Fc (Kd.R (Kd.int .i64) 3 wc w.heap.size (fun k_ => some k_ ≠ ((.slice Ao16 t737.length co16) : Value).ownBlock ∧ some k_ ≠ ((.slice Ao24 t747.length co24) : Value).ownBlock) (.slice Ao18 t741.length co18) t741) ∧ Fc (Kd.R (Kd.int .i64) 3 wc w.heap.size (fun k_ => some k_ ≠ ((.slice Ao16 t737.length co16) : Value).ownBlock ∧ some k_ ≠ ((.slice Ao18 t741.length co18) : Value).ownBlock) (.slice Ao24 t747.length co24) t747) ∧ Fc (wc.heap[gb744]? = some (.cells #[.int .i64 t736, (.slice Ao16 t737.length co16)] 26 (0, 0))) ∧ Fc (wc.heap[gb745]? = some (.cells #[.int .i64 t740, (.slice Ao18 t741.length co18)] 26 (0, 0))) ∧ Fc (wc.heap[gb751]? = some (.cells #[.int .i64 t746, (.slice Ao24 t747.length co24)] 26 (0, 0))) ∧ Fc (Below w.heap.size w wc))
  case first =>
   have H := HC10.out
   clear HC10
   rcases iteP H with ⟨c40, H⟩ | ⟨c40, H⟩
   ·have c40b0 : (t750 != t756) = true := c40
    (try (have c40b1 : decide (t750 = t756) = false := by simpa using c40))
    (try (have c40b2 : (t750 == t756) = false := by simpa using c40))
    (try (have c40b3 : ¬ (t750 = t756) := by simpa using c40))
    clear c40
    (first | rw [c40b0] | (simp only [i64_w, i32_w]; rw [c40b0]) | skip)
    have H' := mkA H
    clear H
    go_wp2
    go_meet
    case rel => exact ⟨_, (true), eqS, H', ⟨by first | omega | exact Nat.le_refl _⟩, ⟨Kd.R_g (Kd.R_mono HO739.out (fun _ hk => ⟨hk.1.1, hk.1.2⟩))⟩, ⟨Kd.R_g (Kd.R_mono HO743.out (fun _ hk => ⟨hk.1.1, hk.1.2⟩))⟩, ⟨Kd.R_g (Kd.R_mono HO749.out (fun _ hk => ⟨hk.1.1.2, hk.1.2⟩))⟩, ⟨blk_g BK744.out⟩, ⟨blk_g BK745.out⟩, ⟨blk_g BK751.out⟩, ⟨bel_g HB.out⟩⟩
   ·have c40b0 : (t750 != t756) = false := by simpa using c40
    (try (have c40b1 : decide (t750 = t756) = true := by simpa using c40))
    (try (have c40b2 : (t750 == t756) = true := by simpa using c40))
    clear c40
    (first | rw [c40b0] | (simp only [i64_w, i32_w]; rw [c40b0]) | skip)
    obtain ⟨t762, A41, H⟩ := obE H
    by_cases c42 : t762 = true
    ·subst c42
     replace H := ifT H
     rcases iteP H with ⟨c43, H⟩ | ⟨c43, H⟩
     ·have c43b0 : (t759 != t761) = true := c43
      (try (have c43b1 : decide (t759 = t761) = false := by simpa using c43))
      (try (have c43b2 : (t759 == t761) = false := by simpa using c43))
      (try (have c43b3 : ¬ (t759 = t761) := by simpa using c43))
      clear c43
      have H' := mkA H
      clear H
      obtain ⟨_, _, _, _⟩ := blk2 BK751
      obtain ⟨_, _, _, _⟩ := blk2 BK757
      go_wp2_with (first | (go_at_call 10; (with_reducible refine (laws_vOrder.calls k t746 _ _ t747 t752 _ _ t753 true _ ?s1 ?s2 ?s3 ?s4 A41.out).mono ?_); (case s1 => exact rC HO749); (case s2 => exact rL HO749); (case s3 => exact rC HO755); (case s4 => exact rL HO755); rintro e w51 ⟨rfl, hb⟩; replace HO739 := rB HO739 hb; replace HO743 := rB HO743 hb; replace HO749 := rB HO749 hb; replace HO755 := rB HO755 hb; replace BK744 := blkB BK744 hb; replace BK745 := blkB BK745 hb; replace BK751 := blkB BK751 hb; replace BK757 := blkB BK757 hb; replace HB := bst HB hb; (try clear hb); (try clear hk)))
      go_meet
      case rel => exact ⟨_, (true), eqS, H', ⟨by first | omega | exact Nat.le_refl _⟩, ⟨Kd.R_g (Kd.R_mono HO739.out (fun _ hk => ⟨hk.1.1, hk.1.2⟩))⟩, ⟨Kd.R_g (Kd.R_mono HO743.out (fun _ hk => ⟨hk.1.1, hk.1.2⟩))⟩, ⟨Kd.R_g (Kd.R_mono HO749.out (fun _ hk => ⟨hk.1.1.2, hk.1.2⟩))⟩, ⟨blk_g BK744.out⟩, ⟨blk_g BK745.out⟩, ⟨blk_g BK751.out⟩, ⟨bel_g HB.out⟩⟩
     ·have c43b0 : (t759 != t761) = false := by simpa using c43
      (try (have c43b1 : decide (t759 = t761) = true := by simpa using c43))
      (try (have c43b2 : (t759 == t761) = true := by simpa using c43))
      clear c43
      rcases iteP H with ⟨c52, H⟩ | ⟨c52, H⟩
      ·have c52b0 : (t758 != t760) = true := c52
       (try (have c52b1 : decide (t758 = t760) = false := by simpa using c52))
       (try (have c52b2 : (t758 == t760) = false := by simpa using c52))
       (try (have c52b3 : ¬ (t758 = t760) := by simpa using c52))
       clear c52
       have H' := mkA H
       clear H
       obtain ⟨_, _, _, _⟩ := blk2 BK751
       obtain ⟨_, _, _, _⟩ := blk2 BK757
       go_wp2_with (first | (go_at_call 10; (with_reducible refine (laws_vOrder.calls k t746 _ _ t747 t752 _ _ t753 true _ ?s1 ?s2 ?s3 ?s4 A41.out).mono ?_); (case s1 => exact rC HO749); (case s2 => exact rL HO749); (case s3 => exact rC HO755); (case s4 => exact rL HO755); rintro e w60 ⟨rfl, hb⟩; replace HO739 := rB HO739 hb; replace HO743 := rB HO743 hb; replace HO749 := rB HO749 hb; replace HO755 := rB HO755 hb; replace BK744 := blkB BK744 hb; replace BK745 := blkB BK745 hb; replace BK751 := blkB BK751 hb; replace BK757 := blkB BK757 hb; replace HB := bst HB hb; (try clear hb); (try clear hk)))
       go_meet
       case rel => exact ⟨_, (true), eqS, H', ⟨by first | omega | exact Nat.le_refl _⟩, ⟨Kd.R_g (Kd.R_mono HO739.out (fun _ hk => ⟨hk.1.1, hk.1.2⟩))⟩, ⟨Kd.R_g (Kd.R_mono HO743.out (fun _ hk => ⟨hk.1.1, hk.1.2⟩))⟩, ⟨Kd.R_g (Kd.R_mono HO749.out (fun _ hk => ⟨hk.1.1.2, hk.1.2⟩))⟩, ⟨blk_g BK744.out⟩, ⟨blk_g BK745.out⟩, ⟨blk_g BK751.out⟩, ⟨bel_g HB.out⟩⟩
      ·have c52b0 : (t758 != t760) = false := by simpa using c52
       (try (have c52b1 : decide (t758 = t760) = true := by simpa using c52))
       (try (have c52b2 : (t758 == t760) = true := by simpa using c52))
       clear c52
       have H' := mkA H
       clear H
       obtain ⟨_, _, _, _⟩ := blk2 BK751
       obtain ⟨_, _, _, _⟩ := blk2 BK757
       go_wp2_with (first | (go_at_call 10; (with_reducible refine (laws_vOrder.calls k t746 _ _ t747 t752 _ _ t753 true _ ?s1 ?s2 ?s3 ?s4 A41.out).mono ?_); (case s1 => exact rC HO749); (case s2 => exact rL HO749); (case s3 => exact rC HO755); (case s4 => exact rL HO755); rintro e w68 ⟨rfl, hb⟩; replace HO739 := rB HO739 hb; replace HO743 := rB HO743 hb; replace HO749 := rB HO749 hb; replace HO755 := rB HO755 hb; replace BK744 := blkB BK744 hb; replace BK745 := blkB BK745 hb; replace BK751 := blkB BK751 hb; replace BK757 := blkB BK757 hb; replace HB := bst HB hb; (try clear hb); (try clear hk)))
       go_meet
       case rel => exact ⟨_, ((t759 != t750)), eqS, H', ⟨by first | omega | exact Nat.le_refl _⟩, ⟨Kd.R_g (Kd.R_mono HO739.out (fun _ hk => ⟨hk.1.1, hk.1.2⟩))⟩, ⟨Kd.R_g (Kd.R_mono HO743.out (fun _ hk => ⟨hk.1.1, hk.1.2⟩))⟩, ⟨Kd.R_g (Kd.R_mono HO749.out (fun _ hk => ⟨hk.1.1.2, hk.1.2⟩))⟩, ⟨blk_g BK744.out⟩, ⟨blk_g BK745.out⟩, ⟨blk_g BK751.out⟩, ⟨bel_g HB.out⟩⟩
    ·replace c42 := Bool.eq_false_iff.mpr c42
     subst c42
     replace H := ifF H
     have H' := mkA H
     clear H
     obtain ⟨_, _, _, _⟩ := blk2 BK751
     obtain ⟨_, _, _, _⟩ := blk2 BK757
     go_wp2_with (first | (go_at_call 10; (with_reducible refine (laws_vOrder.calls k t746 _ _ t747 t752 _ _ t753 false _ ?s1 ?s2 ?s3 ?s4 A41.out).mono ?_); (case s1 => exact rC HO749); (case s2 => exact rL HO749); (case s3 => exact rC HO755); (case s4 => exact rL HO755); rintro e w76 ⟨rfl, hb⟩; replace HO739 := rB HO739 hb; replace HO743 := rB HO743 hb; replace HO749 := rB HO749 hb; replace HO755 := rB HO755 hb; replace BK744 := blkB BK744 hb; replace BK745 := blkB BK745 hb; replace BK751 := blkB BK751 hb; replace BK757 := blkB BK757 hb; replace HB := bst HB hb; (try clear hb); (try clear hk)))
     go_meet
     case rel => exact ⟨_, (true), eqS, H', ⟨by first | omega | exact Nat.le_refl _⟩, ⟨Kd.R_g (Kd.R_mono HO739.out (fun _ hk => ⟨hk.1.1, hk.1.2⟩))⟩, ⟨Kd.R_g (Kd.R_mono HO743.out (fun _ hk => ⟨hk.1.1, hk.1.2⟩))⟩, ⟨Kd.R_g (Kd.R_mono HO749.out (fun _ hk => ⟨hk.1.1.2, hk.1.2⟩))⟩, ⟨blk_g BK744.out⟩, ⟨blk_g BK745.out⟩, ⟨blk_g BK751.out⟩, ⟨bel_g HB.out⟩⟩
  case rest =>
   clear HC10
   try clear c1
   try clear c4
   try clear c40
   try clear c40b0
   try clear c40b1
   try clear c40b2
   try clear c42
   try clear c43
   try clear c43b0
   try clear c43b1
   try clear c43b2
   try clear c52
   try clear c52b0
   try clear c52b1
   try clear c52b2
   obtain ⟨kq, x86_9, rfl, HA, HJ9, HO_745001, HO_746001, HO_752001, BK744, BK745, BK751, HB⟩ := hcut
   cases kq with
   | zero => exact absurd HA.out (by simp [laws_FnRefinements.j0])
   | succ kj9 =>
    have H := HA.out
    clear HA
    simp only [laws_FnRefinements.j0] at H
    by_cases c77 : x86_9 = true
    ·subst c77
     replace H := ifT H
     obtain rfl := Option.some.inj H
     go_wp2
     go_ret
     exact ⟨eqE, bel_g HB.out⟩
    ·replace c77 := Bool.eq_false_iff.mpr c77
     subst c77
     replace H := ifF H
     have HC78 := mkA H
     clear H
     go_upto_if 87 with (fail)
     go_cut [] (fun wc => ∃ (kq : Nat), Fc (laws_FnRefinements.j1 kq l1 = some r) ∧ Fc (kq ≤ kj9) ∧ Fc (Below w.heap.size w wc))
     case first =>
      have H := HC78.out
      clear HC78
      by_cases c79 : t750 = true
      ·subst c79
       replace H := ifT H
       obtain ⟨⟨t763, t764⟩, A80, H⟩ := obE H
       dsimp only at H
       obtain ⟨⟨t765, t766⟩, A81, H⟩ := obE H
       dsimp only at H
       obtain ⟨t767, A82, H⟩ := obE H
       by_cases c83 : t767 = true
       ·subst c83
        replace H := ifT H
        by_cases c84 : t764 = true
        ·subst c84
         replace H := ifT H
         by_cases c85 : t763 = true
         ·subst c85
          replace H := ifT H
          by_cases c86 : t766 = true
          ·subst c86
           replace H := ifT H
           by_cases c87 : t765 = true
           ·subst c87
            replace H := ifT H
            obtain ⟨t768, A88, H⟩ := obE H
            rcases iteP H with ⟨c89, H⟩ | ⟨c89, H⟩
            ·have c89b0 : (t758 != t768) = true := c89
             (try (have c89b1 : decide (t758 = t768) = false := by simpa using c89))
             (try (have c89b2 : (t758 == t768) = false := by simpa using c89))
             (try (have c89b3 : ¬ (t758 = t768) := by simpa using c89))
             clear c89
             (first | rw [c89b0] | (simp only [i64_w, i32_w]; rw [c89b0]) | skip)
             obtain rfl := Option.some.inj H
             obtain ⟨_, _, _, _⟩ := blk2 BK744
             obtain ⟨_, _, _, _⟩ := blk2 BK751
             go_wp2_with (first | ((with_reducible refine gate_callee (f := 8) rfl ?_); refine goesQ (some 91) Tryd.func8 #[.agg #[.int .i64 t736, .slice Ao16 t737.length co16], .agg #[.int .i64 t746, .slice Ao24 t747.length co24]] ?_; (with_reducible refine (impl_DoesRefine.calls kj9 t736 _ _ t737 t746 _ _ t747 true true _ ?s1 ?s2 ?s3 ?s4 ?s5 A80.out).mono ?_); (case s1 => exact rC HO_745001); (case s2 => exact rL HO_745001); (case s3 => exact rC HO_752001); (case s4 => exact rL HO_752001); (case s5 => exact Tab.below HTAB.out (bel_g HB.out)); rintro e w95 ⟨rfl, hb⟩; refine ⟨_, rfl, ?_⟩; replace HO_745001 := rB HO_745001 hb; replace HO_746001 := rB HO_746001 hb; replace HO_752001 := rB HO_752001 hb; replace BK744 := blkB BK744 hb; replace BK745 := blkB BK745 hb; replace BK751 := blkB BK751 hb; replace HB := bst HB hb; (try clear hb); (try clear hk); obtain ⟨_, _, _, _⟩ := blk2 BK745; obtain ⟨_, _, _, _⟩ := blk2 BK751) | ((with_reducible refine gate_callee (f := 8) rfl ?_); refine goesQ (some 97) Tryd.func8 #[.agg #[.int .i64 t740, .slice Ao18 t741.length co18], .agg #[.int .i64 t746, .slice Ao24 t747.length co24]] ?_; (with_reducible refine (impl_DoesRefine.calls kj9 t740 _ _ t741 t746 _ _ t747 true true _ ?s1 ?s2 ?s3 ?s4 ?s5 A81.out).mono ?_); (case s1 => exact rC HO_746001); (case s2 => exact rL HO_746001); (case s3 => exact rC HO_752001); (case s4 => exact rL HO_752001); (case s5 => exact Tab.below HTAB.out (bel_g HB.out)); rintro e w98 ⟨rfl, hb⟩; refine ⟨_, rfl, ?_⟩; replace HO_745001 := rB HO_745001 hb; replace HO_746001 := rB HO_746001 hb; replace HO_752001 := rB HO_752001 hb; replace BK744 := blkB BK744 hb; replace BK745 := blkB BK745 hb; replace BK751 := blkB BK751 hb; replace HB := bst HB hb; (try clear hb); (try clear hk); obtain ⟨_, _, _, _⟩ := blk2 BK751) | ((with_reducible refine gate_callee (f := 11) rfl ?_); refine goesQ (some 101) Tryd.func11 #[.agg #[.int .i64 t746, .slice Ao24 t747.length co24]] ?_; (with_reducible refine (impl_IsOrder.calls kj9 t746 _ _ t747 true _ ?s1 ?s2 ?s3 A82.out).mono ?_); (case s1 => exact rC HO_752001); (case s2 => exact rL HO_752001); (case s3 => exact Tab.below HTAB.out (bel_g HB.out)); rintro e w100 ⟨rfl, hb⟩; refine ⟨_, rfl, ?_⟩; replace HO_745001 := rB HO_745001 hb; replace HO_746001 := rB HO_746001 hb; replace HO_752001 := rB HO_752001 hb; replace BK744 := blkB BK744 hb; replace BK745 := blkB BK745 hb; replace BK751 := blkB BK751 hb; replace HB := bst HB hb; (try clear hb); (try clear hk); obtain ⟨_, _, _, _⟩ := blk2 BK751; obtain ⟨_, _, _, _⟩ := blk2 BK745) | (go_at_call 10; (with_reducible refine (laws_vOrder.calls kj9 t746 _ _ t747 t740 _ _ t741 t768 _ ?s1 ?s2 ?s3 ?s4 A88.out).mono ?_); (case s1 => exact rC HO_752001); (case s2 => exact rL HO_752001); (case s3 => exact rC HO_746001); (case s4 => exact rL HO_746001); rintro e w103 ⟨rfl, hb⟩; replace HO_745001 := rB HO_745001 hb; replace HO_746001 := rB HO_746001 hb; replace HO_752001 := rB HO_752001 hb; replace BK744 := blkB BK744 hb; replace BK745 := blkB BK745 hb; replace BK751 := blkB BK751 hb; replace HB := bst HB hb; (try clear hb); (try clear hk)))
             go_ret
             exact ⟨eqE, bel_g HB.out⟩
            ·have c89b0 : (t758 != t768) = false := by simpa using c89
             (try (have c89b1 : decide (t758 = t768) = true := by simpa using c89))
             (try (have c89b2 : (t758 == t768) = true := by simpa using c89))
             clear c89
             (first | rw [c89b0] | (simp only [i64_w, i32_w]; rw [c89b0]) | skip)
             have H' := mkA H
             clear H
             obtain ⟨_, _, _, _⟩ := blk2 BK744
             obtain ⟨_, _, _, _⟩ := blk2 BK751
             go_wp2_with (first | ((with_reducible refine gate_callee (f := 8) rfl ?_); refine goesQ (some 91) Tryd.func8 #[.agg #[.int .i64 t736, .slice Ao16 t737.length co16], .agg #[.int .i64 t746, .slice Ao24 t747.length co24]] ?_; (with_reducible refine (impl_DoesRefine.calls kj9 t736 _ _ t737 t746 _ _ t747 true true _ ?s1 ?s2 ?s3 ?s4 ?s5 A80.out).mono ?_); (case s1 => exact rC HO_745001); (case s2 => exact rL HO_745001); (case s3 => exact rC HO_752001); (case s4 => exact rL HO_752001); (case s5 => exact Tab.below HTAB.out (bel_g HB.out)); rintro e w109 ⟨rfl, hb⟩; refine ⟨_, rfl, ?_⟩; replace HO_745001 := rB HO_745001 hb; replace HO_746001 := rB HO_746001 hb; replace HO_752001 := rB HO_752001 hb; replace BK744 := blkB BK744 hb; replace BK745 := blkB BK745 hb; replace BK751 := blkB BK751 hb; replace HB := bst HB hb; (try clear hb); (try clear hk); obtain ⟨_, _, _, _⟩ := blk2 BK745; obtain ⟨_, _, _, _⟩ := blk2 BK751) | ((with_reducible refine gate_callee (f := 8) rfl ?_); refine goesQ (some 97) Tryd.func8 #[.agg #[.int .i64 t740, .slice Ao18 t741.length co18], .agg #[.int .i64 t746, .slice Ao24 t747.length co24]] ?_; (with_reducible refine (impl_DoesRefine.calls kj9 t740 _ _ t741 t746 _ _ t747 true true _ ?s1 ?s2 ?s3 ?s4 ?s5 A81.out).mono ?_); (case s1 => exact rC HO_746001); (case s2 => exact rL HO_746001); (case s3 => exact rC HO_752001); (case s4 => exact rL HO_752001); (case s5 => exact Tab.below HTAB.out (bel_g HB.out)); rintro e w112 ⟨rfl, hb⟩; refine ⟨_, rfl, ?_⟩; replace HO_745001 := rB HO_745001 hb; replace HO_746001 := rB HO_746001 hb; replace HO_752001 := rB HO_752001 hb; replace BK744 := blkB BK744 hb; replace BK745 := blkB BK745 hb; replace BK751 := blkB BK751 hb; replace HB := bst HB hb; (try clear hb); (try clear hk); obtain ⟨_, _, _, _⟩ := blk2 BK751) | ((with_reducible refine gate_callee (f := 11) rfl ?_); refine goesQ (some 101) Tryd.func11 #[.agg #[.int .i64 t746, .slice Ao24 t747.length co24]] ?_; (with_reducible refine (impl_IsOrder.calls kj9 t746 _ _ t747 true _ ?s1 ?s2 ?s3 A82.out).mono ?_); (case s1 => exact rC HO_752001); (case s2 => exact rL HO_752001); (case s3 => exact Tab.below HTAB.out (bel_g HB.out)); rintro e w114 ⟨rfl, hb⟩; refine ⟨_, rfl, ?_⟩; replace HO_745001 := rB HO_745001 hb; replace HO_746001 := rB HO_746001 hb; replace HO_752001 := rB HO_752001 hb; replace BK744 := blkB BK744 hb; replace BK745 := blkB BK745 hb; replace BK751 := blkB BK751 hb; replace HB := bst HB hb; (try clear hb); (try clear hk); obtain ⟨_, _, _, _⟩ := blk2 BK751; obtain ⟨_, _, _, _⟩ := blk2 BK745) | (go_at_call 10; (with_reducible refine (laws_vOrder.calls kj9 t746 _ _ t747 t740 _ _ t741 t768 _ ?s1 ?s2 ?s3 ?s4 A88.out).mono ?_); (case s1 => exact rC HO_752001); (case s2 => exact rL HO_752001); (case s3 => exact rC HO_746001); (case s4 => exact rL HO_746001); rintro e w117 ⟨rfl, hb⟩; replace HO_745001 := rB HO_745001 hb; replace HO_746001 := rB HO_746001 hb; replace HO_752001 := rB HO_752001 hb; replace BK744 := blkB BK744 hb; replace BK745 := blkB BK745 hb; replace BK751 := blkB BK751 hb; replace HB := bst HB hb; (try clear hb); (try clear hk)))
             go_meet
             case rel => exact ⟨_, H', ⟨by have := HJ9.out; first | omega | exact Nat.le_refl _⟩, ⟨bel_g HB.out⟩⟩
           ·replace c87 := Bool.eq_false_iff.mpr c87
            subst c87
            replace H := ifF H
            obtain rfl := Option.some.inj H
            obtain ⟨_, _, _, _⟩ := blk2 BK744
            obtain ⟨_, _, _, _⟩ := blk2 BK751
            go_wp2_with (first | ((with_reducible refine gate_callee (f := 8) rfl ?_); refine goesQ (some 91) Tryd.func8 #[.agg #[.int .i64 t736, .slice Ao16 t737.length co16], .agg #[.int .i64 t746, .slice Ao24 t747.length co24]] ?_; (with_reducible refine (impl_DoesRefine.calls kj9 t736 _ _ t737 t746 _ _ t747 true true _ ?s1 ?s2 ?s3 ?s4 ?s5 A80.out).mono ?_); (case s1 => exact rC HO_745001); (case s2 => exact rL HO_745001); (case s3 => exact rC HO_752001); (case s4 => exact rL HO_752001); (case s5 => exact Tab.below HTAB.out (bel_g HB.out)); rintro e w123 ⟨rfl, hb⟩; refine ⟨_, rfl, ?_⟩; replace HO_745001 := rB HO_745001 hb; replace HO_746001 := rB HO_746001 hb; replace HO_752001 := rB HO_752001 hb; replace BK744 := blkB BK744 hb; replace BK745 := blkB BK745 hb; replace BK751 := blkB BK751 hb; replace HB := bst HB hb; (try clear hb); (try clear hk); obtain ⟨_, _, _, _⟩ := blk2 BK745; obtain ⟨_, _, _, _⟩ := blk2 BK751) | ((with_reducible refine gate_callee (f := 8) rfl ?_); refine goesQ (some 97) Tryd.func8 #[.agg #[.int .i64 t740, .slice Ao18 t741.length co18], .agg #[.int .i64 t746, .slice Ao24 t747.length co24]] ?_; (with_reducible refine (impl_DoesRefine.calls kj9 t740 _ _ t741 t746 _ _ t747 false true _ ?s1 ?s2 ?s3 ?s4 ?s5 A81.out).mono ?_); (case s1 => exact rC HO_746001); (case s2 => exact rL HO_746001); (case s3 => exact rC HO_752001); (case s4 => exact rL HO_752001); (case s5 => exact Tab.below HTAB.out (bel_g HB.out)); rintro e w126 ⟨rfl, hb⟩; refine ⟨_, rfl, ?_⟩; replace HO_745001 := rB HO_745001 hb; replace HO_746001 := rB HO_746001 hb; replace HO_752001 := rB HO_752001 hb; replace BK744 := blkB BK744 hb; replace BK745 := blkB BK745 hb; replace BK751 := blkB BK751 hb; replace HB := bst HB hb; (try clear hb); (try clear hk); obtain ⟨_, _, _, _⟩ := blk2 BK751) | ((with_reducible refine gate_callee (f := 11) rfl ?_); refine goesQ (some 101) Tryd.func11 #[.agg #[.int .i64 t746, .slice Ao24 t747.length co24]] ?_; (with_reducible refine (impl_IsOrder.calls kj9 t746 _ _ t747 true _ ?s1 ?s2 ?s3 A82.out).mono ?_); (case s1 => exact rC HO_752001); (case s2 => exact rL HO_752001); (case s3 => exact Tab.below HTAB.out (bel_g HB.out)); rintro e w128 ⟨rfl, hb⟩; refine ⟨_, rfl, ?_⟩; replace HO_745001 := rB HO_745001 hb; replace HO_746001 := rB HO_746001 hb; replace HO_752001 := rB HO_752001 hb; replace BK744 := blkB BK744 hb; replace BK745 := blkB BK745 hb; replace BK751 := blkB BK751 hb; replace HB := bst HB hb; (try clear hb); (try clear hk)))
            go_ret
            exact ⟨eqE, bel_g HB.out⟩
          ·replace c86 := Bool.eq_false_iff.mpr c86
           subst c86
           replace H := ifF H
           obtain rfl := Option.some.inj H
           obtain ⟨_, _, _, _⟩ := blk2 BK744
           obtain ⟨_, _, _, _⟩ := blk2 BK751
           go_wp2_with (first | ((with_reducible refine gate_callee (f := 8) rfl ?_); refine goesQ (some 91) Tryd.func8 #[.agg #[.int .i64 t736, .slice Ao16 t737.length co16], .agg #[.int .i64 t746, .slice Ao24 t747.length co24]] ?_; (with_reducible refine (impl_DoesRefine.calls kj9 t736 _ _ t737 t746 _ _ t747 true true _ ?s1 ?s2 ?s3 ?s4 ?s5 A80.out).mono ?_); (case s1 => exact rC HO_745001); (case s2 => exact rL HO_745001); (case s3 => exact rC HO_752001); (case s4 => exact rL HO_752001); (case s5 => exact Tab.below HTAB.out (bel_g HB.out)); rintro e w134 ⟨rfl, hb⟩; refine ⟨_, rfl, ?_⟩; replace HO_745001 := rB HO_745001 hb; replace HO_746001 := rB HO_746001 hb; replace HO_752001 := rB HO_752001 hb; replace BK744 := blkB BK744 hb; replace BK745 := blkB BK745 hb; replace BK751 := blkB BK751 hb; replace HB := bst HB hb; (try clear hb); (try clear hk); obtain ⟨_, _, _, _⟩ := blk2 BK745; obtain ⟨_, _, _, _⟩ := blk2 BK751) | ((with_reducible refine gate_callee (f := 8) rfl ?_); refine goesQ (some 97) Tryd.func8 #[.agg #[.int .i64 t740, .slice Ao18 t741.length co18], .agg #[.int .i64 t746, .slice Ao24 t747.length co24]] ?_; (with_reducible refine (impl_DoesRefine.calls kj9 t740 _ _ t741 t746 _ _ t747 t765 false _ ?s1 ?s2 ?s3 ?s4 ?s5 A81.out).mono ?_); (case s1 => exact rC HO_746001); (case s2 => exact rL HO_746001); (case s3 => exact rC HO_752001); (case s4 => exact rL HO_752001); (case s5 => exact Tab.below HTAB.out (bel_g HB.out)); rintro e w137 ⟨rfl, hb⟩; refine ⟨_, rfl, ?_⟩; replace HO_745001 := rB HO_745001 hb; replace HO_746001 := rB HO_746001 hb; replace HO_752001 := rB HO_752001 hb; replace BK744 := blkB BK744 hb; replace BK745 := blkB BK745 hb; replace BK751 := blkB BK751 hb; replace HB := bst HB hb; (try clear hb); (try clear hk); obtain ⟨_, _, _, _⟩ := blk2 BK751) | ((with_reducible refine gate_callee (f := 11) rfl ?_); refine goesQ (some 101) Tryd.func11 #[.agg #[.int .i64 t746, .slice Ao24 t747.length co24]] ?_; (with_reducible refine (impl_IsOrder.calls kj9 t746 _ _ t747 true _ ?s1 ?s2 ?s3 A82.out).mono ?_); (case s1 => exact rC HO_752001); (case s2 => exact rL HO_752001); (case s3 => exact Tab.below HTAB.out (bel_g HB.out)); rintro e w139 ⟨rfl, hb⟩; refine ⟨_, rfl, ?_⟩; replace HO_745001 := rB HO_745001 hb; replace HO_746001 := rB HO_746001 hb; replace HO_752001 := rB HO_752001 hb; replace BK744 := blkB BK744 hb; replace BK745 := blkB BK745 hb; replace BK751 := blkB BK751 hb; replace HB := bst HB hb; (try clear hb); (try clear hk)))
           go_ret
           exact ⟨eqE, bel_g HB.out⟩
         ·replace c85 := Bool.eq_false_iff.mpr c85
          subst c85
          replace H := ifF H
          obtain rfl := Option.some.inj H
          obtain ⟨_, _, _, _⟩ := blk2 BK744
          obtain ⟨_, _, _, _⟩ := blk2 BK751
          go_wp2_with (first | ((with_reducible refine gate_callee (f := 8) rfl ?_); refine goesQ (some 91) Tryd.func8 #[.agg #[.int .i64 t736, .slice Ao16 t737.length co16], .agg #[.int .i64 t746, .slice Ao24 t747.length co24]] ?_; (with_reducible refine (impl_DoesRefine.calls kj9 t736 _ _ t737 t746 _ _ t747 false true _ ?s1 ?s2 ?s3 ?s4 ?s5 A80.out).mono ?_); (case s1 => exact rC HO_745001); (case s2 => exact rL HO_745001); (case s3 => exact rC HO_752001); (case s4 => exact rL HO_752001); (case s5 => exact Tab.below HTAB.out (bel_g HB.out)); rintro e w145 ⟨rfl, hb⟩; refine ⟨_, rfl, ?_⟩; replace HO_745001 := rB HO_745001 hb; replace HO_746001 := rB HO_746001 hb; replace HO_752001 := rB HO_752001 hb; replace BK744 := blkB BK744 hb; replace BK745 := blkB BK745 hb; replace BK751 := blkB BK751 hb; replace HB := bst HB hb; (try clear hb); (try clear hk); obtain ⟨_, _, _, _⟩ := blk2 BK745; obtain ⟨_, _, _, _⟩ := blk2 BK751) | ((with_reducible refine gate_callee (f := 8) rfl ?_); refine goesQ (some 97) Tryd.func8 #[.agg #[.int .i64 t740, .slice Ao18 t741.length co18], .agg #[.int .i64 t746, .slice Ao24 t747.length co24]] ?_; (with_reducible refine (impl_DoesRefine.calls kj9 t740 _ _ t741 t746 _ _ t747 t765 t766 _ ?s1 ?s2 ?s3 ?s4 ?s5 A81.out).mono ?_); (case s1 => exact rC HO_746001); (case s2 => exact rL HO_746001); (case s3 => exact rC HO_752001); (case s4 => exact rL HO_752001); (case s5 => exact Tab.below HTAB.out (bel_g HB.out)); rintro e w148 ⟨rfl, hb⟩; refine ⟨_, rfl, ?_⟩; replace HO_745001 := rB HO_745001 hb; replace HO_746001 := rB HO_746001 hb; replace HO_752001 := rB HO_752001 hb; replace BK744 := blkB BK744 hb; replace BK745 := blkB BK745 hb; replace BK751 := blkB BK751 hb; replace HB := bst HB hb; (try clear hb); (try clear hk); obtain ⟨_, _, _, _⟩ := blk2 BK751) | ((with_reducible refine gate_callee (f := 11) rfl ?_); refine goesQ (some 101) Tryd.func11 #[.agg #[.int .i64 t746, .slice Ao24 t747.length co24]] ?_; (with_reducible refine (impl_IsOrder.calls kj9 t746 _ _ t747 true _ ?s1 ?s2 ?s3 A82.out).mono ?_); (case s1 => exact rC HO_752001); (case s2 => exact rL HO_752001); (case s3 => exact Tab.below HTAB.out (bel_g HB.out)); rintro e w150 ⟨rfl, hb⟩; refine ⟨_, rfl, ?_⟩; replace HO_745001 := rB HO_745001 hb; replace HO_746001 := rB HO_746001 hb; replace HO_752001 := rB HO_752001 hb; replace BK744 := blkB BK744 hb; replace BK745 := blkB BK745 hb; replace BK751 := blkB BK751 hb; replace HB := bst HB hb; (try clear hb); (try clear hk)))
          go_ret
          exact ⟨eqE, bel_g HB.out⟩
        ·replace c84 := Bool.eq_false_iff.mpr c84
         subst c84
         replace H := ifF H
         obtain rfl := Option.some.inj H
         obtain ⟨_, _, _, _⟩ := blk2 BK744
         obtain ⟨_, _, _, _⟩ := blk2 BK751
         go_wp2_with (first | ((with_reducible refine gate_callee (f := 8) rfl ?_); refine goesQ (some 91) Tryd.func8 #[.agg #[.int .i64 t736, .slice Ao16 t737.length co16], .agg #[.int .i64 t746, .slice Ao24 t747.length co24]] ?_; (with_reducible refine (impl_DoesRefine.calls kj9 t736 _ _ t737 t746 _ _ t747 t763 false _ ?s1 ?s2 ?s3 ?s4 ?s5 A80.out).mono ?_); (case s1 => exact rC HO_745001); (case s2 => exact rL HO_745001); (case s3 => exact rC HO_752001); (case s4 => exact rL HO_752001); (case s5 => exact Tab.below HTAB.out (bel_g HB.out)); rintro e w156 ⟨rfl, hb⟩; refine ⟨_, rfl, ?_⟩; replace HO_745001 := rB HO_745001 hb; replace HO_746001 := rB HO_746001 hb; replace HO_752001 := rB HO_752001 hb; replace BK744 := blkB BK744 hb; replace BK745 := blkB BK745 hb; replace BK751 := blkB BK751 hb; replace HB := bst HB hb; (try clear hb); (try clear hk); obtain ⟨_, _, _, _⟩ := blk2 BK745; obtain ⟨_, _, _, _⟩ := blk2 BK751) | ((with_reducible refine gate_callee (f := 8) rfl ?_); refine goesQ (some 97) Tryd.func8 #[.agg #[.int .i64 t740, .slice Ao18 t741.length co18], .agg #[.int .i64 t746, .slice Ao24 t747.length co24]] ?_; (with_reducible refine (impl_DoesRefine.calls kj9 t740 _ _ t741 t746 _ _ t747 t765 t766 _ ?s1 ?s2 ?s3 ?s4 ?s5 A81.out).mono ?_); (case s1 => exact rC HO_746001); (case s2 => exact rL HO_746001); (case s3 => exact rC HO_752001); (case s4 => exact rL HO_752001); (case s5 => exact Tab.below HTAB.out (bel_g HB.out)); rintro e w159 ⟨rfl, hb⟩; refine ⟨_, rfl, ?_⟩; replace HO_745001 := rB HO_745001 hb; replace HO_746001 := rB HO_746001 hb; replace HO_752001 := rB HO_752001 hb; replace BK744 := blkB BK744 hb; replace BK745 := blkB BK745 hb; replace BK751 := blkB BK751 hb; replace HB := bst HB hb; (try clear hb); (try clear hk); obtain ⟨_, _, _, _⟩ := blk2 BK751) | ((with_reducible refine gate_callee (f := 11) rfl ?_); refine goesQ (some 101) Tryd.func11 #[.agg #[.int .i64 t746, .slice Ao24 t747.length co24]] ?_; (with_reducible refine (impl_IsOrder.calls kj9 t746 _ _ t747 true _ ?s1 ?s2 ?s3 A82.out).mono ?_); (case s1 => exact rC HO_752001); (case s2 => exact rL HO_752001); (case s3 => exact Tab.below HTAB.out (bel_g HB.out)); rintro e w161 ⟨rfl, hb⟩; refine ⟨_, rfl, ?_⟩; replace HO_745001 := rB HO_745001 hb; replace HO_746001 := rB HO_746001 hb; replace HO_752001 := rB HO_752001 hb; replace BK744 := blkB BK744 hb; replace BK745 := blkB BK745 hb; replace BK751 := blkB BK751 hb; replace HB := bst HB hb; (try clear hb); (try clear hk)))
         go_ret
         exact ⟨eqE, bel_g HB.out⟩
       ·replace c83 := Bool.eq_false_iff.mpr c83
        subst c83
        replace H := ifF H
        obtain rfl := Option.some.inj H
        obtain ⟨_, _, _, _⟩ := blk2 BK744
        obtain ⟨_, _, _, _⟩ := blk2 BK751
        go_wp2_with (first | ((with_reducible refine gate_callee (f := 8) rfl ?_); refine goesQ (some 91) Tryd.func8 #[.agg #[.int .i64 t736, .slice Ao16 t737.length co16], .agg #[.int .i64 t746, .slice Ao24 t747.length co24]] ?_; (with_reducible refine (impl_DoesRefine.calls kj9 t736 _ _ t737 t746 _ _ t747 t763 t764 _ ?s1 ?s2 ?s3 ?s4 ?s5 A80.out).mono ?_); (case s1 => exact rC HO_745001); (case s2 => exact rL HO_745001); (case s3 => exact rC HO_752001); (case s4 => exact rL HO_752001); (case s5 => exact Tab.below HTAB.out (bel_g HB.out)); rintro e w167 ⟨rfl, hb⟩; refine ⟨_, rfl, ?_⟩; replace HO_745001 := rB HO_745001 hb; replace HO_746001 := rB HO_746001 hb; replace HO_752001 := rB HO_752001 hb; replace BK744 := blkB BK744 hb; replace BK745 := blkB BK745 hb; replace BK751 := blkB BK751 hb; replace HB := bst HB hb; (try clear hb); (try clear hk); obtain ⟨_, _, _, _⟩ := blk2 BK745; obtain ⟨_, _, _, _⟩ := blk2 BK751) | ((with_reducible refine gate_callee (f := 8) rfl ?_); refine goesQ (some 97) Tryd.func8 #[.agg #[.int .i64 t740, .slice Ao18 t741.length co18], .agg #[.int .i64 t746, .slice Ao24 t747.length co24]] ?_; (with_reducible refine (impl_DoesRefine.calls kj9 t740 _ _ t741 t746 _ _ t747 t765 t766 _ ?s1 ?s2 ?s3 ?s4 ?s5 A81.out).mono ?_); (case s1 => exact rC HO_746001); (case s2 => exact rL HO_746001); (case s3 => exact rC HO_752001); (case s4 => exact rL HO_752001); (case s5 => exact Tab.below HTAB.out (bel_g HB.out)); rintro e w170 ⟨rfl, hb⟩; refine ⟨_, rfl, ?_⟩; replace HO_745001 := rB HO_745001 hb; replace HO_746001 := rB HO_746001 hb; replace HO_752001 := rB HO_752001 hb; replace BK744 := blkB BK744 hb; replace BK745 := blkB BK745 hb; replace BK751 := blkB BK751 hb; replace HB := bst HB hb; (try clear hb); (try clear hk); obtain ⟨_, _, _, _⟩ := blk2 BK751) | ((with_reducible refine gate_callee (f := 11) rfl ?_); refine goesQ (some 101) Tryd.func11 #[.agg #[.int .i64 t746, .slice Ao24 t747.length co24]] ?_; (with_reducible refine (impl_IsOrder.calls kj9 t746 _ _ t747 false _ ?s1 ?s2 ?s3 A82.out).mono ?_); (case s1 => exact rC HO_752001); (case s2 => exact rL HO_752001); (case s3 => exact Tab.below HTAB.out (bel_g HB.out)); rintro e w172 ⟨rfl, hb⟩; refine ⟨_, rfl, ?_⟩; replace HO_745001 := rB HO_745001 hb; replace HO_746001 := rB HO_746001 hb; replace HO_752001 := rB HO_752001 hb; replace BK744 := blkB BK744 hb; replace BK745 := blkB BK745 hb; replace BK751 := blkB BK751 hb; replace HB := bst HB hb; (try clear hb); (try clear hk)))
        go_ret
        exact ⟨eqE, bel_g HB.out⟩
      ·replace c79 := Bool.eq_false_iff.mpr c79
       subst c79
       replace H := ifF H
       have H' := mkA H
       clear H
       go_wp2
       go_meet
       case rel => exact ⟨_, H', ⟨by have := HJ9.out; first | omega | exact Nat.le_refl _⟩, ⟨bel_g HB.out⟩⟩
     case rest =>
      clear HC78
      try clear c1
      try clear c4
      try clear c40
      try clear c40b0
      try clear c40b1
      try clear c40b2
      try clear c42
      try clear c43
      try clear c43b0
      try clear c43b1
      try clear c43b2
      try clear c52
      try clear c52b0
      try clear c52b1
      try clear c52b2
      try clear c77
      try clear c79
      try clear c83
      try clear c84
      try clear c85
      try clear c86
      try clear c87
      try clear c89
      try clear c89b0
      try clear c89b1
      try clear c89b2
      obtain ⟨kq, HA, HJ77, HB⟩ := hcut
      cases kq with
      | zero => exact absurd HA.out (by simp [laws_FnRefinements.j1])
      | succ kj77 =>
       have H := HA.out
       clear HA
       simp only [laws_FnRefinements.j1] at H
       obtain ⟨⟨t769, t770⟩, A173, H⟩ := obE H
       dsimp only at H
       obtain ⟨⟨t775, t776⟩, A174, H⟩ := obE H
       dsimp only at H
       obtain ⟨⟨t779, t780⟩, A175, H⟩ := obE H
       dsimp only at H
       have HC176 := mkA H
       clear H
       go_upto_region 18 with (first | ((with_reducible refine gate_callee (f := 12) rfl ?_); refine goesQ (some 128) Tryd.func12 #[.slice A1 l1.length c1] ?_; (with_reducible refine (spec_DrawRefineLevels.calls kj77 _ _ l1 t769 t770 _ ?s1 ?s2 A173.out).mono ?_); (case s1 => exact C_g HR1 HB); (case s2 => exact HC1.out); rintro e w177 ⟨v771, v773, rfl, ho0, ho1, hb⟩; refine ⟨_, rfl, ?_⟩; have HO772 := mkA (Kd.R_lower ho0 (below_size (bel_g HB.out))); have HO774 := mkA (Kd.R_lower ho1 (below_size (bel_g HB.out))); replace HB := bst HB hb; (try clear hb); (try clear hk); (try clear ho0); (try clear ho1); obtain ⟨Ao178, co178, eo178⟩ := Kd.R_slice HO772.out; subst eo178; obtain ⟨Ao179, co179, eo179⟩ := Kd.R_slice HO774.out; subst eo179) | ((with_reducible refine gate_callee (f := 13) rfl ?_); refine goesQ (some 134) Tryd.func13 #[.slice Ao178 t769.length co178, .slice Ao179 t770.length co179] ?_; (with_reducible refine (impl_RefineLevels.calls kj77 _ _ t769 _ _ t770 t775 t776 _ ?s1 ?s2 ?s3 ?s4 A174.out).mono ?_); (case s1 => exact rC HO772); (case s2 => exact rL HO772); (case s3 => exact rC HO774); (case s4 => exact rL HO774); rintro e w180 ⟨v777, rfl, ho0, hb⟩; refine ⟨_, rfl, ?_⟩; have HO778 := mkA (Kd.R_lower (Kd.R_new' (Kd.R_new' ho0 (Kd.R_lt (Kd.R_g HO772.out))) (Kd.R_lt (Kd.R_g HO774.out))) (below_size (bel_g HB.out))); replace HO772 := mkA (Kd.R_elder' (Kd.R_g HO772.out) (Kd.R_base ho0) hb); replace HO774 := mkA (Kd.R_elder' (Kd.R_g HO774.out) (Kd.R_base ho0) hb); replace HB := bst HB hb; (try clear hb); (try clear hk); (try clear ho0)) | ((with_reducible refine gate_callee (f := 14) rfl ?_); refine goesQ (some 140) Tryd.func14 #[.slice Ao178 t769.length co178, .slice Ao179 t770.length co179] ?_; (with_reducible refine (spec_RefineLevels.calls kj77 _ _ t769 _ _ t770 t779 t780 _ ?s1 ?s2 ?s3 ?s4 A175.out).mono ?_); (case s1 => exact rC HO772); (case s2 => exact rL HO772); (case s3 => exact rC HO774); (case s4 => exact rL HO774); rintro e w181 ⟨v781, rfl, ho0, hb⟩; refine ⟨_, rfl, ?_⟩; have HO782 := mkA (Kd.R_lower (Kd.R_new' (Kd.R_new' (Kd.R_new' ho0 (Kd.R_lt (Kd.R_g HO772.out))) (Kd.R_lt (Kd.R_g HO774.out))) (Kd.R_lt (Kd.R_g HO778.out))) (below_size (bel_g HB.out))); replace HO772 := mkA (Kd.R_elder' (Kd.R_g HO772.out) (Kd.R_base ho0) hb); replace HO774 := mkA (Kd.R_elder' (Kd.R_g HO774.out) (Kd.R_base ho0) hb); replace HO778 := mkA (Kd.R_elder' (Kd.R_g HO778.out) (Kd.R_base ho0) hb); replace HB := bst HB hb; (try clear hb); (try clear hk); (try clear ho0)))
       (try simp only [Act.put, List.setIfInBounds_toArray, List.set_cons_zero, List.set_cons_succ])
       go_cut [151] (fun v151 wc => ∃ (kq : Nat) (x151_175 : Bool), v151 = .bool x151_175 ∧ Fc (laws_FnRefinements.j2 kq t769 t775 t776 x151_175 = some r) ∧ Fc (kq ≤ kj77) ∧ Fc (Kd.R (Kd.int .i64) 3 wc w.heap.size (fun k_ => some k_ ≠ (v777 : Value).ownBlock) (.slice Ao178 t769.length co178) t769) ∧ Fc (Kd.R (Kd.int .i64) 3 wc w.heap.size (fun k_ => some k_ ≠ ((.slice Ao178 t769.length co178) : Value).ownBlock) v777 t775) ∧ Fc (Below w.heap.size w wc))
       case first =>
        have H := HC176.out
        clear HC176
        rcases iteP H with ⟨c182, H⟩ | ⟨c182, H⟩
        ·have c182b0 : (t776 != t780) = true := c182
         (try (have c182b1 : decide (t776 = t780) = false := by simpa using c182))
         (try (have c182b2 : (t776 == t780) = false := by simpa using c182))
         (try (have c182b3 : ¬ (t776 = t780) := by simpa using c182))
         clear c182
         (first | rw [c182b0] | (simp only [i64_w, i32_w]; rw [c182b0]) | skip)
         have H' := mkA H
         clear H
         go_wp2
         go_meet
         case rel => exact ⟨_, (true), eqS, H', ⟨by have := HJ9.out; have := HJ77.out; first | omega | exact Nat.le_refl _⟩, ⟨Kd.R_g (Kd.R_mono HO772.out (fun _ hk => hk.1.2))⟩, ⟨Kd.R_g (Kd.R_mono HO778.out (fun _ hk => hk.1.1.2))⟩, ⟨bel_g HB.out⟩⟩
        ·have c182b0 : (t776 != t780) = false := by simpa using c182
         (try (have c182b1 : decide (t776 = t780) = true := by simpa using c182))
         (try (have c182b2 : (t776 == t780) = true := by simpa using c182))
         clear c182
         (first | rw [c182b0] | (simp only [i64_w, i32_w]; rw [c182b0]) | skip)
         obtain ⟨t783, A183, H⟩ := obE H
         have H' := mkA H
         clear H
         obtain ⟨Ao184, co184, eo184⟩ := Kd.R_slice HO778.out
         subst eo184
         obtain ⟨Ao185, co185, eo185⟩ := Kd.R_slice HO782.out
         subst eo185
         go_wp2_with (first | (go_at_call 15; (with_reducible refine (laws_vSame.calls kj77 _ _ t775 _ _ t779 t783 _ ?s1 ?s2 ?s3 ?s4 A183.out).mono ?_); (case s1 => exact rC HO778); (case s2 => exact rL HO778); (case s3 => exact rC HO782); (case s4 => exact rL HO782); rintro e w' ⟨rfl, ⟨nd, rfl⟩⟩))
         go_meet
         case rel => exact ⟨_, (!t783), eqS, H', ⟨by have := HJ9.out; have := HJ77.out; first | omega | exact Nat.le_refl _⟩, ⟨Kd.R_g (Kd.R_mono HO772.out (fun _ hk => hk.1.2))⟩, ⟨Kd.R_g (Kd.R_mono HO778.out (fun _ hk => hk.1.1.2))⟩, ⟨bel_g HB.out⟩⟩
       case rest =>
        clear HC176
        try clear c1
        try clear c4
        try clear c40
        try clear c40b0
        try clear c40b1
        try clear c40b2
        try clear c42
        try clear c43
        try clear c43b0
        try clear c43b1
        try clear c43b2
        try clear c52
        try clear c52b0
        try clear c52b1
        try clear c52b2
        try clear c77
        try clear c79
        try clear c83
        try clear c84
        try clear c85
        try clear c86
        try clear c87
        try clear c89
        try clear c89b0
        try clear c89b1
        try clear c89b2
        try clear c182
        try clear c182b0
        try clear c182b1
        try clear c182b2
        obtain ⟨kq, x151_175, rfl, HA, HJ175, HO_19, HO_21, HB⟩ := hcut
        cases kq with
        | zero => exact absurd HA.out (by simp [laws_FnRefinements.j2])
        | succ kj175 =>
         have H := HA.out
         clear HA
         simp only [laws_FnRefinements.j2] at H
         by_cases c186 : x151_175 = true
         ·subst c186
          replace H := ifT H
          obtain rfl := Option.some.inj H
          go_wp2
          go_ret
          exact ⟨eqE, bel_g HB.out⟩
         ·replace c186 := Bool.eq_false_iff.mpr c186
          subst c186
          replace H := ifF H
          by_cases c187 : t776 = true
          ·subst c187
           replace H := ifT H
           obtain ⟨⟨t784, t785, t788⟩, A188, H⟩ := obE H
           dsimp only at H
           obtain ⟨⟨t790, t791, t794⟩, A189, H⟩ := obE H
           dsimp only at H
           obtain ⟨⟨t796, t797⟩, A190, H⟩ := obE H
           dsimp only at H
           by_cases c191 : t788 = true
           ·subst c191
            replace H := ifT H
            by_cases c192 : t794 = true
            ·subst c192
             replace H := ifT H
             by_cases c193 : t797 = true
             ·subst c193
              replace H := ifT H
              obtain rfl := Option.some.inj H
              obtain ⟨Ao194, co194, eo194⟩ := Kd.R_slice HO_21.out
              subst eo194
              go_wp2_with (first | ((with_reducible refine gate_callee (f := 16) rfl ?_); refine goesQ (some 155) Tryd.func16 #[.slice Ao194 t775.length co194] ?_; (with_reducible refine (impl_OrderOfLevels.calls kj175 _ _ t775 t784 t785 true _ ?s1 ?s2 A188.out).mono ?_); (case s1 => exact rC HO_21); (case s2 => exact rL HO_21); rintro e w195 ⟨v786, rfl, ho0, hb⟩; refine ⟨_, rfl, ?_⟩; have HO787 := mkA (Kd.R_lower (Kd.R_new' (Kd.R_new' ho0 (Kd.R_lt (Kd.R_g HO_19.out))) (Kd.R_lt (Kd.R_g HO_21.out))) (below_size (bel_g HB.out))); replace HO_19 := mkA (Kd.R_elder' (Kd.R_g HO_19.out) (Kd.R_base ho0) hb); replace HO_21 := mkA (Kd.R_elder' (Kd.R_g HO_21.out) (Kd.R_base ho0) hb); replace HB := bst HB hb; (try clear hb); (try clear hk); (try clear ho0)) | ((with_reducible refine gate_dst (N := 25) rfl ?_); refine boxE (N := 25) (cs := #[.int .i64 0, .slice none 0 0]) (t := 26) ?_; intro gb789 hg w196 hbox hb; replace HO_19 := rB HO_19 hb; replace HO_21 := rB HO_21 hb; replace HO787 := rB HO787 hb; have BK789 := mkA (hbox); have GE789 := geB HB hg; replace HB := bst HB hb; clear hb hbox hg; obtain ⟨_, _, _, _⟩ := blk2 BK789; obtain ⟨Ao198, co198, eo198⟩ := Kd.R_slice HO787.out; subst eo198) | ((with_reducible refine gate_callee (f := 16) rfl ?_); refine goesQ (some 160) Tryd.func16 #[.slice Ao178 t769.length co178] ?_; (with_reducible refine (impl_OrderOfLevels.calls kj175 _ _ t769 t790 t791 true _ ?s1 ?s2 A189.out).mono ?_); (case s1 => exact rCF HO_19 BK789); (case s2 => exact rL HO_19); rintro e w199 ⟨v792, rfl, ho0, hb⟩; refine ⟨_, rfl, ?_⟩; have HO793 := mkA (Kd.R_lower (Kd.R_new' (Kd.R_new' (Kd.R_new' ho0 (Kd.R_lt (rFg HO_19 BK789))) (Kd.R_lt (rFg HO_21 BK789))) (Kd.R_lt (rFg HO787 BK789))) (below_size (bel_g HB.out))); replace HO_19 := mkA (Kd.R_elder' (rFg HO_19 BK789) (Kd.R_base ho0) hb); replace HO_21 := mkA (Kd.R_elder' (rFg HO_21 BK789) (Kd.R_base ho0) hb); replace HO787 := mkA (Kd.R_elder' (rFg HO787 BK789) (Kd.R_base ho0) hb); replace BK789 := blkS BK789 hb; replace HB := bst HB hb; (try clear hb); (try clear hk); (try clear ho0)) | ((with_reducible refine gate_dst (N := 27) rfl ?_); refine boxE (N := 27) (cs := #[.int .i64 0, .slice none 0 0]) (t := 26) ?_; intro gb795 hg w200 hbox hb; replace HO_19 := rB HO_19 hb; replace HO_21 := rB HO_21 hb; replace HO787 := rB HO787 hb; replace HO793 := rB HO793 hb; have BK795 := mkA (hbox); have GE795 := geB HB hg; have NB789_795 := neL7 BK789 hg; have NB795_789 := neR7 BK789 hg; replace BK789 := blkB BK789 hb; replace HB := bst HB hb; clear hb hbox hg; obtain ⟨_, _, _, _⟩ := blk2 BK795; obtain ⟨Ao203, co203, eo203⟩ := Kd.R_slice HO793.out; subst eo203; obtain ⟨_, _, _, _⟩ := blk2 BK789) | ((with_reducible refine gate_callee (f := 8) rfl ?_); refine goesQ (some 166) Tryd.func8 #[.agg #[.int .i64 t784, .slice Ao198 t785.length co198], .agg #[.int .i64 t790, .slice Ao203 t791.length co203]] ?_; (with_reducible refine (impl_DoesRefine.calls kj175 t784 _ _ t785 t790 _ _ t791 t796 true _ ?s1 ?s2 ?s3 ?s4 ?s5 A190.out).mono ?_); (case s1 => exact rCF HO787 BK795); (case s2 => exact rL HO787); (case s3 => exact rCF HO793 BK795); (case s4 => exact rL HO793); (case s5 => exact Tab.below HTAB.out (bel_g HB.out)); rintro e w205 ⟨rfl, hb⟩; refine ⟨_, rfl, ?_⟩; replace HO_19 := mkA (Kd.R_below (rFg HO_19 BK795) hb); replace HO_21 := mkA (Kd.R_below (rFg HO_21 BK795) hb); replace HO787 := mkA (Kd.R_below (rFg HO787 BK795) hb); replace HO793 := mkA (Kd.R_below (rFg HO793 BK795) hb); replace BK789 := blkS BK789 hb; replace BK795 := blkS BK795 hb; replace HB := bst HB hb; (try clear hb); (try clear hk)))
              go_ret
              exact ⟨eqE, bel_g HB.out⟩
             ·replace c193 := Bool.eq_false_iff.mpr c193
              subst c193
              replace H := ifF H
              obtain rfl := Option.some.inj H
              obtain ⟨Ao206, co206, eo206⟩ := Kd.R_slice HO_21.out
              subst eo206
              go_wp2_with (first | ((with_reducible refine gate_callee (f := 16) rfl ?_); refine goesQ (some 155) Tryd.func16 #[.slice Ao206 t775.length co206] ?_; (with_reducible refine (impl_OrderOfLevels.calls kj175 _ _ t775 t784 t785 true _ ?s1 ?s2 A188.out).mono ?_); (case s1 => exact rC HO_21); (case s2 => exact rL HO_21); rintro e w207 ⟨v786, rfl, ho0, hb⟩; refine ⟨_, rfl, ?_⟩; have HO787 := mkA (Kd.R_lower (Kd.R_new' (Kd.R_new' ho0 (Kd.R_lt (Kd.R_g HO_19.out))) (Kd.R_lt (Kd.R_g HO_21.out))) (below_size (bel_g HB.out))); replace HO_19 := mkA (Kd.R_elder' (Kd.R_g HO_19.out) (Kd.R_base ho0) hb); replace HO_21 := mkA (Kd.R_elder' (Kd.R_g HO_21.out) (Kd.R_base ho0) hb); replace HB := bst HB hb; (try clear hb); (try clear hk); (try clear ho0)) | ((with_reducible refine gate_dst (N := 25) rfl ?_); refine boxE (N := 25) (cs := #[.int .i64 0, .slice none 0 0]) (t := 26) ?_; intro gb789 hg w208 hbox hb; replace HO_19 := rB HO_19 hb; replace HO_21 := rB HO_21 hb; replace HO787 := rB HO787 hb; have BK789 := mkA (hbox); have GE789 := geB HB hg; replace HB := bst HB hb; clear hb hbox hg; obtain ⟨_, _, _, _⟩ := blk2 BK789; obtain ⟨Ao210, co210, eo210⟩ := Kd.R_slice HO787.out; subst eo210) | ((with_reducible refine gate_callee (f := 16) rfl ?_); refine goesQ (some 160) Tryd.func16 #[.slice Ao178 t769.length co178] ?_; (with_reducible refine (impl_OrderOfLevels.calls kj175 _ _ t769 t790 t791 true _ ?s1 ?s2 A189.out).mono ?_); (case s1 => exact rCF HO_19 BK789); (case s2 => exact rL HO_19); rintro e w211 ⟨v792, rfl, ho0, hb⟩; refine ⟨_, rfl, ?_⟩; have HO793 := mkA (Kd.R_lower (Kd.R_new' (Kd.R_new' (Kd.R_new' ho0 (Kd.R_lt (rFg HO_19 BK789))) (Kd.R_lt (rFg HO_21 BK789))) (Kd.R_lt (rFg HO787 BK789))) (below_size (bel_g HB.out))); replace HO_19 := mkA (Kd.R_elder' (rFg HO_19 BK789) (Kd.R_base ho0) hb); replace HO_21 := mkA (Kd.R_elder' (rFg HO_21 BK789) (Kd.R_base ho0) hb); replace HO787 := mkA (Kd.R_elder' (rFg HO787 BK789) (Kd.R_base ho0) hb); replace BK789 := blkS BK789 hb; replace HB := bst HB hb; (try clear hb); (try clear hk); (try clear ho0)) | ((with_reducible refine gate_dst (N := 27) rfl ?_); refine boxE (N := 27) (cs := #[.int .i64 0, .slice none 0 0]) (t := 26) ?_; intro gb795 hg w212 hbox hb; replace HO_19 := rB HO_19 hb; replace HO_21 := rB HO_21 hb; replace HO787 := rB HO787 hb; replace HO793 := rB HO793 hb; have BK795 := mkA (hbox); have GE795 := geB HB hg; have NB789_795 := neL7 BK789 hg; have NB795_789 := neR7 BK789 hg; replace BK789 := blkB BK789 hb; replace HB := bst HB hb; clear hb hbox hg; obtain ⟨_, _, _, _⟩ := blk2 BK795; obtain ⟨Ao215, co215, eo215⟩ := Kd.R_slice HO793.out; subst eo215; obtain ⟨_, _, _, _⟩ := blk2 BK789) | ((with_reducible refine gate_callee (f := 8) rfl ?_); refine goesQ (some 166) Tryd.func8 #[.agg #[.int .i64 t784, .slice Ao210 t785.length co210], .agg #[.int .i64 t790, .slice Ao215 t791.length co215]] ?_; (with_reducible refine (impl_DoesRefine.calls kj175 t784 _ _ t785 t790 _ _ t791 t796 false _ ?s1 ?s2 ?s3 ?s4 ?s5 A190.out).mono ?_); (case s1 => exact rCF HO787 BK795); (case s2 => exact rL HO787); (case s3 => exact rCF HO793 BK795); (case s4 => exact rL HO793); (case s5 => exact Tab.below HTAB.out (bel_g HB.out)); rintro e w217 ⟨rfl, hb⟩; refine ⟨_, rfl, ?_⟩; replace HO_19 := mkA (Kd.R_below (rFg HO_19 BK795) hb); replace HO_21 := mkA (Kd.R_below (rFg HO_21 BK795) hb); replace HO787 := mkA (Kd.R_below (rFg HO787 BK795) hb); replace HO793 := mkA (Kd.R_below (rFg HO793 BK795) hb); replace BK789 := blkS BK789 hb; replace BK795 := blkS BK795 hb; replace HB := bst HB hb; (try clear hb); (try clear hk)))
              go_ret
              exact ⟨eqE, bel_g HB.out⟩
            ·replace c192 := Bool.eq_false_iff.mpr c192
             subst c192
             replace H := ifF H
             obtain rfl := Option.some.inj H
             obtain ⟨Ao218, co218, eo218⟩ := Kd.R_slice HO_21.out
             subst eo218
             go_wp2_with (first | ((with_reducible refine gate_callee (f := 16) rfl ?_); refine goesQ (some 155) Tryd.func16 #[.slice Ao218 t775.length co218] ?_; (with_reducible refine (impl_OrderOfLevels.calls kj175 _ _ t775 t784 t785 true _ ?s1 ?s2 A188.out).mono ?_); (case s1 => exact rC HO_21); (case s2 => exact rL HO_21); rintro e w219 ⟨v786, rfl, ho0, hb⟩; refine ⟨_, rfl, ?_⟩; have HO787 := mkA (Kd.R_lower (Kd.R_new' (Kd.R_new' ho0 (Kd.R_lt (Kd.R_g HO_19.out))) (Kd.R_lt (Kd.R_g HO_21.out))) (below_size (bel_g HB.out))); replace HO_19 := mkA (Kd.R_elder' (Kd.R_g HO_19.out) (Kd.R_base ho0) hb); replace HO_21 := mkA (Kd.R_elder' (Kd.R_g HO_21.out) (Kd.R_base ho0) hb); replace HB := bst HB hb; (try clear hb); (try clear hk); (try clear ho0)) | ((with_reducible refine gate_dst (N := 25) rfl ?_); refine boxE (N := 25) (cs := #[.int .i64 0, .slice none 0 0]) (t := 26) ?_; intro gb789 hg w220 hbox hb; replace HO_19 := rB HO_19 hb; replace HO_21 := rB HO_21 hb; replace HO787 := rB HO787 hb; have BK789 := mkA (hbox); have GE789 := geB HB hg; replace HB := bst HB hb; clear hb hbox hg; obtain ⟨_, _, _, _⟩ := blk2 BK789; obtain ⟨Ao222, co222, eo222⟩ := Kd.R_slice HO787.out; subst eo222) | ((with_reducible refine gate_callee (f := 16) rfl ?_); refine goesQ (some 160) Tryd.func16 #[.slice Ao178 t769.length co178] ?_; (with_reducible refine (impl_OrderOfLevels.calls kj175 _ _ t769 t790 t791 false _ ?s1 ?s2 A189.out).mono ?_); (case s1 => exact rCF HO_19 BK789); (case s2 => exact rL HO_19); rintro e w223 ⟨v792, rfl, ho0, hb⟩; refine ⟨_, rfl, ?_⟩; have HO793 := mkA (Kd.R_lower (Kd.R_new' (Kd.R_new' (Kd.R_new' ho0 (Kd.R_lt (rFg HO_19 BK789))) (Kd.R_lt (rFg HO_21 BK789))) (Kd.R_lt (rFg HO787 BK789))) (below_size (bel_g HB.out))); replace HO_19 := mkA (Kd.R_elder' (rFg HO_19 BK789) (Kd.R_base ho0) hb); replace HO_21 := mkA (Kd.R_elder' (rFg HO_21 BK789) (Kd.R_base ho0) hb); replace HO787 := mkA (Kd.R_elder' (rFg HO787 BK789) (Kd.R_base ho0) hb); replace BK789 := blkS BK789 hb; replace HB := bst HB hb; (try clear hb); (try clear hk); (try clear ho0)) | ((with_reducible refine gate_dst (N := 27) rfl ?_); refine boxE (N := 27) (cs := #[.int .i64 0, .slice none 0 0]) (t := 26) ?_; intro gb795 hg w224 hbox hb; replace HO_19 := rB HO_19 hb; replace HO_21 := rB HO_21 hb; replace HO787 := rB HO787 hb; replace HO793 := rB HO793 hb; have BK795 := mkA (hbox); have GE795 := geB HB hg; have NB789_795 := neL7 BK789 hg; have NB795_789 := neR7 BK789 hg; replace BK789 := blkB BK789 hb; replace HB := bst HB hb; clear hb hbox hg; obtain ⟨_, _, _, _⟩ := blk2 BK795; obtain ⟨Ao227, co227, eo227⟩ := Kd.R_slice HO793.out; subst eo227; obtain ⟨_, _, _, _⟩ := blk2 BK789) | ((with_reducible refine gate_callee (f := 8) rfl ?_); refine goesQ (some 166) Tryd.func8 #[.agg #[.int .i64 t784, .slice Ao222 t785.length co222], .agg #[.int .i64 t790, .slice Ao227 t791.length co227]] ?_; (with_reducible refine (impl_DoesRefine.calls kj175 t784 _ _ t785 t790 _ _ t791 t796 t797 _ ?s1 ?s2 ?s3 ?s4 ?s5 A190.out).mono ?_); (case s1 => exact rCF HO787 BK795); (case s2 => exact rL HO787); (case s3 => exact rCF HO793 BK795); (case s4 => exact rL HO793); (case s5 => exact Tab.below HTAB.out (bel_g HB.out)); rintro e w229 ⟨rfl, hb⟩; refine ⟨_, rfl, ?_⟩; replace HO_19 := mkA (Kd.R_below (rFg HO_19 BK795) hb); replace HO_21 := mkA (Kd.R_below (rFg HO_21 BK795) hb); replace HO787 := mkA (Kd.R_below (rFg HO787 BK795) hb); replace HO793 := mkA (Kd.R_below (rFg HO793 BK795) hb); replace BK789 := blkS BK789 hb; replace BK795 := blkS BK795 hb; replace HB := bst HB hb; (try clear hb); (try clear hk)))
             go_ret
             exact ⟨eqE, bel_g HB.out⟩
           ·replace c191 := Bool.eq_false_iff.mpr c191
            subst c191
            replace H := ifF H
            obtain rfl := Option.some.inj H
            obtain ⟨Ao230, co230, eo230⟩ := Kd.R_slice HO_21.out
            subst eo230
            go_wp2_with (first | ((with_reducible refine gate_callee (f := 16) rfl ?_); refine goesQ (some 155) Tryd.func16 #[.slice Ao230 t775.length co230] ?_; (with_reducible refine (impl_OrderOfLevels.calls kj175 _ _ t775 t784 t785 false _ ?s1 ?s2 A188.out).mono ?_); (case s1 => exact rC HO_21); (case s2 => exact rL HO_21); rintro e w231 ⟨v786, rfl, ho0, hb⟩; refine ⟨_, rfl, ?_⟩; have HO787 := mkA (Kd.R_lower (Kd.R_new' (Kd.R_new' ho0 (Kd.R_lt (Kd.R_g HO_19.out))) (Kd.R_lt (Kd.R_g HO_21.out))) (below_size (bel_g HB.out))); replace HO_19 := mkA (Kd.R_elder' (Kd.R_g HO_19.out) (Kd.R_base ho0) hb); replace HO_21 := mkA (Kd.R_elder' (Kd.R_g HO_21.out) (Kd.R_base ho0) hb); replace HB := bst HB hb; (try clear hb); (try clear hk); (try clear ho0)) | ((with_reducible refine gate_dst (N := 25) rfl ?_); refine boxE (N := 25) (cs := #[.int .i64 0, .slice none 0 0]) (t := 26) ?_; intro gb789 hg w232 hbox hb; replace HO_19 := rB HO_19 hb; replace HO_21 := rB HO_21 hb; replace HO787 := rB HO787 hb; have BK789 := mkA (hbox); have GE789 := geB HB hg; replace HB := bst HB hb; clear hb hbox hg; obtain ⟨_, _, _, _⟩ := blk2 BK789; obtain ⟨Ao234, co234, eo234⟩ := Kd.R_slice HO787.out; subst eo234) | ((with_reducible refine gate_callee (f := 16) rfl ?_); refine goesQ (some 160) Tryd.func16 #[.slice Ao178 t769.length co178] ?_; (with_reducible refine (impl_OrderOfLevels.calls kj175 _ _ t769 t790 t791 t794 _ ?s1 ?s2 A189.out).mono ?_); (case s1 => exact rCF HO_19 BK789); (case s2 => exact rL HO_19); rintro e w235 ⟨v792, rfl, ho0, hb⟩; refine ⟨_, rfl, ?_⟩; have HO793 := mkA (Kd.R_lower (Kd.R_new' (Kd.R_new' (Kd.R_new' ho0 (Kd.R_lt (rFg HO_19 BK789))) (Kd.R_lt (rFg HO_21 BK789))) (Kd.R_lt (rFg HO787 BK789))) (below_size (bel_g HB.out))); replace HO_19 := mkA (Kd.R_elder' (rFg HO_19 BK789) (Kd.R_base ho0) hb); replace HO_21 := mkA (Kd.R_elder' (rFg HO_21 BK789) (Kd.R_base ho0) hb); replace HO787 := mkA (Kd.R_elder' (rFg HO787 BK789) (Kd.R_base ho0) hb); replace BK789 := blkS BK789 hb; replace HB := bst HB hb; (try clear hb); (try clear hk); (try clear ho0)) | ((with_reducible refine gate_dst (N := 27) rfl ?_); refine boxE (N := 27) (cs := #[.int .i64 0, .slice none 0 0]) (t := 26) ?_; intro gb795 hg w236 hbox hb; replace HO_19 := rB HO_19 hb; replace HO_21 := rB HO_21 hb; replace HO787 := rB HO787 hb; replace HO793 := rB HO793 hb; have BK795 := mkA (hbox); have GE795 := geB HB hg; have NB789_795 := neL7 BK789 hg; have NB795_789 := neR7 BK789 hg; replace BK789 := blkB BK789 hb; replace HB := bst HB hb; clear hb hbox hg; obtain ⟨_, _, _, _⟩ := blk2 BK795; obtain ⟨Ao239, co239, eo239⟩ := Kd.R_slice HO793.out; subst eo239; obtain ⟨_, _, _, _⟩ := blk2 BK789) | ((with_reducible refine gate_callee (f := 8) rfl ?_); refine goesQ (some 166) Tryd.func8 #[.agg #[.int .i64 t784, .slice Ao234 t785.length co234], .agg #[.int .i64 t790, .slice Ao239 t791.length co239]] ?_; (with_reducible refine (impl_DoesRefine.calls kj175 t784 _ _ t785 t790 _ _ t791 t796 t797 _ ?s1 ?s2 ?s3 ?s4 ?s5 A190.out).mono ?_); (case s1 => exact rCF HO787 BK795); (case s2 => exact rL HO787); (case s3 => exact rCF HO793 BK795); (case s4 => exact rL HO793); (case s5 => exact Tab.below HTAB.out (bel_g HB.out)); rintro e w241 ⟨rfl, hb⟩; refine ⟨_, rfl, ?_⟩; replace HO_19 := mkA (Kd.R_below (rFg HO_19 BK795) hb); replace HO_21 := mkA (Kd.R_below (rFg HO_21 BK795) hb); replace HO787 := mkA (Kd.R_below (rFg HO787 BK795) hb); replace HO793 := mkA (Kd.R_below (rFg HO793 BK795) hb); replace BK789 := blkS BK789 hb; replace BK795 := blkS BK795 hb; replace HB := bst HB hb; (try clear hb); (try clear hk)))
            go_ret
            exact ⟨eqE, bel_g HB.out⟩
          ·replace c187 := Bool.eq_false_iff.mpr c187
           subst c187
           replace H := ifF H
           obtain rfl := Option.some.inj H
           go_wp2
           go_ret
           exact ⟨eqE, bel_g HB.out⟩
end Go.Proofs.YtgbdjchdfcodcaaDoor.Q
