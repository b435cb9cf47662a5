import Derived.Test.YteechpappfagpaaDoorBFnOrdersOfPlaces0
import Derived.Test.YteechpappfagpaaDoorBFnOrdersOfPlaces3
import Derived.Test.YteechpappfagpaaDoorBFnOrdersOfPlaces6
import Derived.Test.YteechpappfagpaaDoorBFnOrdersOfPlaces7
import Derived.Test.YteechpappfagpaaDoorBFnOrdersOfPlaces8
import Derived.Test.YteechpappfagpaaDoorBFnOrdersOfPlaces14
import Derived.Test.YteechpappfagpaaDoorBFnOrdersOfPlaces15
-- printed by this project's own program (wip/mp/mp.py) over the kit's print, for this seat; Lean checks it
namespace Go.Proofs.YteechpappfagpaaDoor.Q
open Go.RowKit Go.Proofs.YteechpappfagpaaDoorW.PrintWords Go.Proofs.YteechpappfagpaaDoorW.PrintLast Go.Proofs.YteechpappfagpaaDoorW.PrintMore
attribute [local go_sem] max2_int min2_int max_two min_two max_three min_three max_four min_four   -- for this text's walks alone
set_option linter.unusedVariables false
set_option maxHeartbeats 8000000
set_option maxRecDepth 100000
set_option linter.unusedSimpArgs false

/-! ### laws_FnOrdersOfPlaces: function 8 -/
mutual
def laws_FnOrdersOfPlaces.j0 : Nat → List Int → Int → List Int → Bool → Bool → Int → List Int → Option (Bool)
 | 0, _, _, _, _, _, _, _ => none
 | k + 1, x1, x5, x6, x8, x49, x700000, x700001 => if x49 = true then (some false) else (if x8 = true then ((impl_IsSemiorder.f k x700000 x700001).bind fun bt707 => ((impl_IsPlaces.f k x700000 x700001 x5 x6).bind fun bt709 => (if bt707.2 = true then (if bt707.1 = true then (if bt709.2 = true then (laws_FnOrdersOfPlaces.j1 k x1 x5 x6 (!bt709.1) x700000 x700001) else (laws_FnOrdersOfPlaces.j1 k x1 x5 x6 true x700000 x700001)) else (laws_FnOrdersOfPlaces.j1 k x1 x5 x6 true x700000 x700001)) else (laws_FnOrdersOfPlaces.j1 k x1 x5 x6 true x700000 x700001)))) else (some true))
def laws_FnOrdersOfPlaces.j1 : Nat → List Int → Int → List Int → Bool → Int → List Int → Option (Bool)
 | 0, _, _, _, _, _, _ => none
 | k + 1, x1, x5, x6, x77, x700000, x700001 => if x77 = true then (some false) else ((laws_vNumber.f k x1).bind fun t711 => (laws_FnOrdersOfPlaces.l0 k x5 (Int.tmod t711 50) ([] : List Int) x6 (x6.length : Int) 0 x700000 x700001))
def laws_FnOrdersOfPlaces.l0 : Nat → Int → Int → List Int → List Int → Int → Int → Int → List Int → Option (Bool)
 | 0, _, _, _, _, _, _, _, _ => none
 | k + 1, x5, x15, x16, x81, x82, x83, x700000, x700001 => if x83 < x82 then (if 0 ≤ x83 then (if x83 < (x81.length : Int) then (if (wrap64 ((rd x81 x83) + x15)) > 1000 then (some true) else (if x16.length < 17592186044416 then (laws_FnOrdersOfPlaces.l0 k x5 x15 (x16 ++ [wrap64 ((rd x81 x83) + x15)]) x81 x82 (wrap64 (x83 + 1)) x700000 x700001) else (none))) else (none)) else (none)) else ((impl_OrderOfPlaces.f k x5 x16).bind fun bt716 => (if bt716.2.2 = true then ((laws_vOrder.f k bt716.1 bt716.2.1 x700000 x700001).bind fun t722 => (some t722)) else (some false)))
end
def laws_FnOrdersOfPlaces.f (k : Nat) (l0 : List Int) (l1 : List Int) : Option (Bool) := (laws_big.f l0 l1).bind fun t689 => (if t689 = true then (some true) else ((spec_DrawOrderOfPlaces.f k l0).bind fun bt690 => ((impl_OrderOfPlaces.f k bt690.1 bt690.2).bind fun bt694 => ((spec_OrderOfPlaces.f k bt690.1 bt690.2).bind fun bt700 => (if (bt694.2.2 != bt700.2.2) = true then (laws_FnOrdersOfPlaces.j0 k l1 bt690.1 bt690.2 bt694.2.2 true bt694.1 bt694.2.1) else ((laws_vOrder.f k bt694.1 bt694.2.1 bt700.1 bt700.2.1).bind fun t706 => (laws_FnOrdersOfPlaces.j0 k l1 bt690.1 bt690.2 bt694.2.2 (!t706) bt694.1 bt694.2.1)))))))
theorem laws_FnOrdersOfPlaces.mono_l : ∀ k, (∀ y0 y1 y2 y3 y4 y5 y6, LeO (laws_FnOrdersOfPlaces.j0 k y0 y1 y2 y3 y4 y5 y6) (laws_FnOrdersOfPlaces.j0 (k + 1) y0 y1 y2 y3 y4 y5 y6)) ∧ (∀ y0 y1 y2 y3 y4 y5, LeO (laws_FnOrdersOfPlaces.j1 k y0 y1 y2 y3 y4 y5) (laws_FnOrdersOfPlaces.j1 (k + 1) y0 y1 y2 y3 y4 y5)) ∧ (∀ y0 y1 y2 y3 y4 y5 y6 y7, LeO (laws_FnOrdersOfPlaces.l0 k y0 y1 y2 y3 y4 y5 y6 y7) (laws_FnOrdersOfPlaces.l0 (k + 1) y0 y1 y2 y3 y4 y5 y6 y7))
 | 0 => ⟨fun _ _ _ _ _ _ _ r h => by simp [laws_FnOrdersOfPlaces.j0] at h, fun _ _ _ _ _ _ r h => by simp [laws_FnOrdersOfPlaces.j1] at h, fun _ _ _ _ _ _ _ _ r h => by simp [laws_FnOrdersOfPlaces.l0] at h⟩
 | k + 1 => by
  obtain ⟨ih0, ih1, ih2⟩ := laws_FnOrdersOfPlaces.mono_l k
  refine ⟨?_, ?_, ?_⟩
  ·intro y0 y1 y2 y3 y4 y5 y6
   unfold laws_FnOrdersOfPlaces.j0
   repeat' (with_reducible first|exact ih0 _ _ _ _ _ _ _|exact ih1 _ _ _ _ _ _|exact ih2 _ _ _ _ _ _ _ _|exact impl_IsPlaces.mono _ _ _ _ _|exact impl_IsSemiorder.mono _ _ _|exact impl_OrderOfPlaces.mono _ _ _|exact laws_vNumber.mono _ _|exact laws_vOrder.mono _ _ _ _ _|exact spec_DrawOrderOfPlaces.mono _ _|exact spec_OrderOfPlaces.mono _ _ _|exact LeO.refl _|exact LeO.none _|refine LeO.ite ?_ ?_|refine LeO.bind ?_ (fun _ => ?_))
  ·intro y0 y1 y2 y3 y4 y5
   unfold laws_FnOrdersOfPlaces.j1
   repeat' (with_reducible first|exact ih0 _ _ _ _ _ _ _|exact ih1 _ _ _ _ _ _|exact ih2 _ _ _ _ _ _ _ _|exact impl_IsPlaces.mono _ _ _ _ _|exact impl_IsSemiorder.mono _ _ _|exact impl_OrderOfPlaces.mono _ _ _|exact laws_vNumber.mono _ _|exact laws_vOrder.mono _ _ _ _ _|exact spec_DrawOrderOfPlaces.mono _ _|exact spec_OrderOfPlaces.mono _ _ _|exact LeO.refl _|exact LeO.none _|refine LeO.ite ?_ ?_|refine LeO.bind ?_ (fun _ => ?_))
  ·intro y0 y1 y2 y3 y4 y5 y6 y7
   unfold laws_FnOrdersOfPlaces.l0
   repeat' (with_reducible first|exact ih0 _ _ _ _ _ _ _|exact ih1 _ _ _ _ _ _|exact ih2 _ _ _ _ _ _ _ _|exact impl_IsPlaces.mono _ _ _ _ _|exact impl_IsSemiorder.mono _ _ _|exact impl_OrderOfPlaces.mono _ _ _|exact laws_vNumber.mono _ _|exact laws_vOrder.mono _ _ _ _ _|exact spec_DrawOrderOfPlaces.mono _ _|exact spec_OrderOfPlaces.mono _ _ _|exact LeO.refl _|exact LeO.none _|refine LeO.ite ?_ ?_|refine LeO.bind ?_ (fun _ => ?_))
theorem laws_FnOrdersOfPlaces.mono : ∀ a0 a1 k, LeO (laws_FnOrdersOfPlaces.f k a0 a1) (laws_FnOrdersOfPlaces.f (k + 1) a0 a1) := by
 intro a0 a1 k
 obtain ⟨ih0, ih1, ih2⟩ := laws_FnOrdersOfPlaces.mono_l k
 unfold laws_FnOrdersOfPlaces.f
 repeat' (with_reducible first|exact ih0 _ _ _ _ _ _ _|exact ih1 _ _ _ _ _ _|exact ih2 _ _ _ _ _ _ _ _|exact impl_IsPlaces.mono _ _ _ _ _|exact impl_IsSemiorder.mono _ _ _|exact impl_OrderOfPlaces.mono _ _ _|exact laws_vNumber.mono _ _|exact laws_vOrder.mono _ _ _ _ _|exact spec_DrawOrderOfPlaces.mono _ _|exact spec_OrderOfPlaces.mono _ _ _|exact LeO.refl _|exact LeO.none _|refine LeO.ite ?_ ?_|refine LeO.bind ?_ (fun _ => ?_))
theorem laws_FnOrdersOfPlaces.calls (k : Nat) (A0 : Option Addr) (c0 : Nat) (l0 : List Int) (A1 : Option Addr) (c1 : Nat) (l1 : List Int) (r : Bool) (w : World) (hr0 : Kd.C (Kd.int .u8) w A0 l0.length l0) (hc0 : l0.length ≤ c0) (hr1 : Kd.C (Kd.int .u8) w A1 l1.length l1) (hc1 : l1.length ≤ c1) (hTAB : Tab w) (h : laws_FnOrdersOfPlaces.f k l0 l1 = some r) :
  Calls Tryd.prog 8 #[.slice A0 l0.length c0, .slice A1 l1.length c1] w fun e w' => e = .returned (.bool r) ∧ Below w.heap.size w w' := by
 have HTAB := Aside0.mk hTAB
 clear hTAB
 have hu28 := Tryd.underlying28
 have HR0 := Aside0.mk hr0
 have HC0 := Aside0.mk hc0
 clear hr0 hc0
 have HR1 := Aside0.mk hr1
 have HC1 := Aside0.mk hc1
 clear hr1 hc1
 have HB := Aside0.mk (Below.refl w.heap.size w)
 have H : ((laws_big.f l0 l1).bind fun t689 => (if t689 = true then (some true) else ((spec_DrawOrderOfPlaces.f k l0).bind fun bt690 => ((impl_OrderOfPlaces.f k bt690.1 bt690.2).bind fun bt694 => ((spec_OrderOfPlaces.f k bt690.1 bt690.2).bind fun bt700 => (if (bt694.2.2 != bt700.2.2) = true then (laws_FnOrdersOfPlaces.j0 k l1 bt690.1 bt690.2 bt694.2.2 true bt694.1 bt694.2.1) else ((laws_vOrder.f k bt694.1 bt694.2.1 bt700.1 bt700.2.1).bind fun t706 => (laws_FnOrdersOfPlaces.j0 k l1 bt690.1 bt690.2 bt694.2.2 (!t706) bt694.1 bt694.2.1)))))))) = some r := h
 clear h
 obtain ⟨t689, A3, H⟩ := obE H
 by_cases c4 : t689 = true
 ·subst c4
  replace H := ifT H
  obtain rfl := Option.some.inj H
  go_enter Tryd.func8, Tryd.ntmps8
  go_wp2_with (first | ((with_reducible refine gate_callee (f := 33) rfl ?_); refine goesQ (some 23) Tryd.func33 #[.slice A0 l0.length c0, .slice A1 l1.length c1] ?_; (with_reducible refine (laws_big.calls _ _ l0 _ _ l1 true _ ?side1 ?side2 ?side3 ?side4 A3.out).mono ?_); (case side1 => repeat (first | exact HR0.out | (with_reducible refine Kd.C_alloc ?_ _) | (with_reducible refine Kd.C_drewN ?_ _) | (with_reducible refine Kd.C_drew ?_))); (case side2 => exact HC0.out); (case side3 => repeat (first | exact HR1.out | (with_reducible refine Kd.C_alloc ?_ _) | (with_reducible refine Kd.C_drewN ?_ _) | (with_reducible refine Kd.C_drew ?_))); (case side4 => exact HC1.out); rintro e w' ⟨rfl, ⟨nd, rfl⟩⟩; refine ⟨_, rfl, ?_⟩))
  go_ret
  exact ⟨eqE, bel_g HB.out⟩
 ·replace c4 := Bool.eq_false_iff.mpr c4
  subst c4
  replace H := ifF H
  obtain ⟨⟨t690, t691⟩, A5, H⟩ := obE H
  dsimp only at H
  obtain ⟨⟨t694, t695, t698⟩, A6, H⟩ := obE H
  dsimp only at H
  obtain ⟨⟨t700, t701, t704⟩, A7, H⟩ := obE H
  dsimp only at H
  have HC8 := Aside0.mk H
  clear H
  go_enter Tryd.func8, Tryd.ntmps8
  go_upto_region 6 with (first | ((with_reducible refine gate_callee (f := 33) rfl ?_); refine goesQ (some 23) Tryd.func33 #[.slice A0 l0.length c0, .slice A1 l1.length c1] ?_; (with_reducible refine (laws_big.calls _ _ l0 _ _ l1 false _ ?side1 ?side2 ?side3 ?side4 A3.out).mono ?_); (case side1 => repeat (first | exact HR0.out | (with_reducible refine Kd.C_alloc ?_ _) | (with_reducible refine Kd.C_drewN ?_ _) | (with_reducible refine Kd.C_drew ?_))); (case side2 => exact HC0.out); (case side3 => repeat (first | exact HR1.out | (with_reducible refine Kd.C_alloc ?_ _) | (with_reducible refine Kd.C_drewN ?_ _) | (with_reducible refine Kd.C_drew ?_))); (case side4 => exact HC1.out); rintro e w' ⟨rfl, ⟨nd, rfl⟩⟩; refine ⟨_, rfl, ?_⟩) | ((with_reducible refine gate_callee (f := 34) rfl ?_); refine goesQ (some 26) Tryd.func34 #[.slice A0 l0.length c0] ?_; (with_reducible refine (spec_DrawOrderOfPlaces.calls k _ _ l0 t690 t691 _ ?side1 ?side2 A5.out).mono ?_); (case side1 => repeat (first | exact HR0.out | (with_reducible refine Kd.C_alloc ?_ _) | (with_reducible refine Kd.C_drewN ?_ _) | (with_reducible refine Kd.C_drew ?_))); (case side2 => exact HC0.out); rintro e w9 ⟨v692, rfl, ho0, hb⟩; refine ⟨_, rfl, ?_⟩; have HO693 := Aside0.mk (Kd.R_lower ho0 (below_size (bel_g HB.out))); replace HB := bst HB hb; (try clear hb); (try clear hk); (try clear ho0); obtain ⟨Ao10, co10, eo10⟩ := Kd.R_slice HO693.out; subst eo10) | ((with_reducible refine gate_callee (f := 35) rfl ?_); refine goesQ (some 32) Tryd.func35 #[.int .i64 t690, .slice Ao10 t691.length co10] ?_; (with_reducible refine (impl_OrderOfPlaces.calls k t690 _ _ t691 t694 t695 t698 _ ?side1 ?side2 A6.out).mono ?_); (case side1 => repeat (first | exact (Kd.R_reads' HO693.out).2.2 | (with_reducible refine Kd.C_alloc ?_ _) | (with_reducible refine Kd.C_drewN ?_ _) | (with_reducible refine Kd.C_drew ?_))); (case side2 => exact (Kd.R_reads' HO693.out).2.1); rintro e w11 ⟨v696, rfl, ho0, hb⟩; refine ⟨_, rfl, ?_⟩; have HO697 := Aside0.mk (Kd.R_lower (Kd.R_new' ho0 (Kd.R_lt (Kd.R_g HO693.out))) (below_size (bel_g HB.out))); replace HO693 := Aside0.mk (Kd.R_elder' (Kd.R_g HO693.out) (Kd.R_base ho0) hb); replace HB := bst HB hb; (try clear hb); (try clear hk); (try clear ho0)) | ((with_reducible refine gate_dst (N := 7) rfl ?_); refine boxE (N := 7) (cs := #[.int .i64 0, .slice none 0 0]) (t := 28) ?_; intro gb699 hg w12 hbox hb; replace HO693 := Aside0.mk (Kd.R_below (Kd.R_g HO693.out) hb); replace HO697 := Aside0.mk (Kd.R_below (Kd.R_g HO697.out) hb); have BK699 := Aside0.mk (hbox); have GE699 := geB HB hg; replace HB := bst HB hb; clear hb hbox hg; obtain ⟨hcz13_0, hcz13_1, hfz13_0, hfz13_1⟩ := blk2 BK699; obtain ⟨Ao14, co14, eo14⟩ := Kd.R_slice HO697.out; subst eo14) | ((with_reducible refine gate_callee (f := 36) rfl ?_); refine goesQ (some 38) Tryd.func36 #[.int .i64 t690, .slice Ao10 t691.length co10] ?_; (with_reducible refine (spec_OrderOfPlaces.calls k t690 _ _ t691 t700 t701 t704 _ ?side1 ?side2 A7.out).mono ?_); (case side1 => refine (Kd.R_reads' (e := 3) (base := w.heap.size) (ok := fun k_ => (True ∧ some k_ ≠ (.slice Ao14 t695.length co14 : Value).ownBlock)) (n := t691.length) (c := co10) ?_).2.2; exact (Kd.R_g ((Kd.R_mono (Kd.R_far (p := ⟨gb699, 1, none⟩) (Kd.R_far (p := ⟨gb699, 0, none⟩) (Kd.R_types HO693.out BK699.out (by decide)) (fun _ hk => hk.2) (.int .i64 t694)) (fun _ hk => hk.2) (.slice Ao14 t695.length co14)) (fun _ h_ => h_.1))))); (case side2 => exact (Kd.R_reads' HO693.out).2.1); rintro e w15 ⟨v702, rfl, ho0, hb⟩; refine ⟨_, rfl, ?_⟩; have HO703 := Aside0.mk (Kd.R_lower (Kd.R_new' (Kd.R_new' ho0 (Kd.R_lt (Kd.R_g ((Kd.R_mono (Kd.R_far (p := ⟨gb699, 1, none⟩) (Kd.R_far (p := ⟨gb699, 0, none⟩) (Kd.R_types HO693.out BK699.out (by decide)) (fun _ hk => hk.2) (.int .i64 t694)) (fun _ hk => hk.2) (.slice Ao14 t695.length co14)) (fun _ h_ => h_.1)))))) (Kd.R_lt (Kd.R_g ((Kd.R_mono (Kd.R_far (p := ⟨gb699, 1, none⟩) (Kd.R_far (p := ⟨gb699, 0, none⟩) (Kd.R_types HO697.out BK699.out (by decide)) (fun _ hk => hk.2) (.int .i64 t694)) (fun _ hk => hk.2) (.slice Ao14 t695.length co14)) (fun _ h_ => h_.1)))))) (below_size (bel_g HB.out))); replace HO693 := Aside0.mk (Kd.R_elder' (Kd.R_g ((Kd.R_mono (Kd.R_far (p := ⟨gb699, 1, none⟩) (Kd.R_far (p := ⟨gb699, 0, none⟩) (Kd.R_types HO693.out BK699.out (by decide)) (fun _ hk => hk.2) (.int .i64 t694)) (fun _ hk => hk.2) (.slice Ao14 t695.length co14)) (fun _ h_ => h_.1)))) (Kd.R_base ho0) hb); replace HO697 := Aside0.mk (Kd.R_elder' (Kd.R_g ((Kd.R_mono (Kd.R_far (p := ⟨gb699, 1, none⟩) (Kd.R_far (p := ⟨gb699, 0, none⟩) (Kd.R_types HO697.out BK699.out (by decide)) (fun _ hk => hk.2) (.int .i64 t694)) (fun _ hk => hk.2) (.slice Ao14 t695.length co14)) (fun _ h_ => h_.1)))) (Kd.R_base ho0) hb); replace BK699 := Aside0.mk (blk_below (g := gb699) (o := .cells #[.int .i64 t694, .slice Ao14 t695.length co14] 28 (0, 0)) (by (with_reducible repeat (first | refine blk_drewN ?_ _ | refine blk_drew ?_ | refine blk_alloc ?_ _)); refine blk_put (cs := #[.int .i64 t694, .slice none 0 0]) ?_ 1 _ rfl; (with_reducible repeat (first | refine blk_drewN ?_ _ | refine blk_drew ?_ | refine blk_alloc ?_ _)); refine blk_put (cs := #[.int .i64 0, .slice none 0 0]) ?_ 0 _ rfl; (with_reducible repeat (first | refine blk_drewN ?_ _ | refine blk_drew ?_ | refine blk_alloc ?_ _)); exact BK699.out) hb); replace HB := bst HB hb; (try clear hb); (try clear hk); (try clear ho0)) | ((with_reducible refine gate_dst (N := 9) rfl ?_); refine boxE (N := 9) (cs := #[.int .i64 0, .slice none 0 0]) (t := 28) ?_; intro gb705 hg w16 hbox hb; replace HO693 := Aside0.mk (Kd.R_below (Kd.R_g HO693.out) hb); replace HO697 := Aside0.mk (Kd.R_below (Kd.R_g HO697.out) hb); replace HO703 := Aside0.mk (Kd.R_below (Kd.R_g HO703.out) hb); have BK705 := Aside0.mk (hbox); have GE705 := geB HB hg; have NB699_705 := neL BK699 hg; have NB705_699 := neR BK699 hg; replace BK699 := blkB BK699 hb; replace HB := bst HB hb; clear hb hbox hg; have hnb17 := NB705_699.out; have hnc17 := NB699_705.out; obtain ⟨hcz18_0, hcz18_1, hfz18_0, hfz18_1⟩ := blk2 BK705; obtain ⟨Ao19, co19, eo19⟩ := Kd.R_slice HO703.out; subst eo19))
  (try simp only [Act.put, List.setIfInBounds_toArray, List.set_cons_zero, List.set_cons_succ])
  go_cut [49] (fun v49 wc => ∃ (kq : Nat) (x49_7 : Bool), v49 = .bool x49_7 ∧ Aside0 (laws_FnOrdersOfPlaces.j0 kq l1 t690 t691 t698 x49_7 t694 t695 = some r) ∧ Aside0 (kq ≤ k) ∧ Aside0 (Kd.R (Kd.int .i64) 3 wc w.heap.size (fun k_ => some k_ ≠ ((.slice Ao14 t695.length co14) : Value).ownBlock ∧ some k_ ≠ ((.slice Ao19 t701.length co19) : Value).ownBlock) (.slice Ao10 t691.length co10) t691) ∧ Aside0 (Kd.R (Kd.int .i64) 3 wc w.heap.size (fun k_ => some k_ ≠ ((.slice Ao10 t691.length co10) : Value).ownBlock ∧ some k_ ≠ ((.slice Ao19 t701.length co19) : Value).ownBlock) (.slice Ao14 t695.length co14) t695) ∧ Aside0 (Kd.R (Kd.int .i64) 3 wc w.heap.size (fun k_ => some k_ ≠ ((.slice Ao10 t691.length co10) : Value).ownBlock ∧ some k_ ≠ ((.slice Ao14 t695.length co14) : Value).ownBlock) (.slice Ao19 t701.length co19) t701) ∧ Aside0 (wc.heap[gb699]? = some (.cells #[.int .i64 t694, (.slice Ao14 t695.length co14)] 28 (0, 0))) ∧ Aside0 (wc.heap[gb705]? = some (.cells #[.int .i64 t700, (.slice Ao19 t701.length co19)] 28 (0, 0))) ∧ Aside0 (Below w.heap.size w wc))
  case first =>
   have H := HC8.out
   clear HC8
   rcases iteP H with ⟨c20, H⟩ | ⟨c20, H⟩
   ·have c20b0 : (t698 != t704) = true := c20
    (try (have c20b1 : decide (t698 = t704) = false := by simpa using c20))
    (try (have c20b2 : (t698 == t704) = false := by simpa using c20))
    (try (have c20b3 : ¬ (t698 = t704) := by simpa using c20))
    clear c20
    (first | rw [c20b0] | (simp only [i64_w, i32_w]; rw [c20b0]) | skip)
    have H' := Aside0.mk H
    clear H
    go_wp2
    go_meet
    case rel => exact ⟨_, (true), eqS, H', ⟨by first | omega | exact Nat.le_refl _⟩, ⟨Kd.R_g (Kd.R_mono (Kd.R_far (p := ⟨gb705, 1, none⟩) (Kd.R_far (p := ⟨gb705, 0, none⟩) (Kd.R_types HO693.out BK705.out (by decide)) (fun _ hk => hk.2) (.int .i64 t700)) (fun _ hk => hk.2) (.slice Ao19 t701.length co19)) (fun _ hk => ⟨hk.1.1.2, hk.1.2⟩))⟩, ⟨Kd.R_g (Kd.R_mono (Kd.R_far (p := ⟨gb705, 1, none⟩) (Kd.R_far (p := ⟨gb705, 0, none⟩) (Kd.R_types HO697.out BK705.out (by decide)) (fun _ hk => hk.2) (.int .i64 t700)) (fun _ hk => hk.2) (.slice Ao19 t701.length co19)) (fun _ hk => ⟨hk.1.1.2, hk.1.2⟩))⟩, ⟨Kd.R_g (Kd.R_mono (Kd.R_far (p := ⟨gb705, 1, none⟩) (Kd.R_far (p := ⟨gb705, 0, none⟩) (Kd.R_types HO703.out BK705.out (by decide)) (fun _ hk => hk.2) (.int .i64 t700)) (fun _ hk => hk.2) (.slice Ao19 t701.length co19)) (fun _ hk => ⟨hk.1.1.2, hk.1.2⟩))⟩, ⟨by (with_reducible repeat (first | refine blk_drewN ?_ _ | refine blk_drew ?_ | refine blk_alloc ?_ _)); refine blk_far ?_ NB699_705.out _; (with_reducible repeat (first | refine blk_drewN ?_ _ | refine blk_drew ?_ | refine blk_alloc ?_ _)); refine blk_far ?_ NB699_705.out _; (with_reducible repeat (first | refine blk_drewN ?_ _ | refine blk_drew ?_ | refine blk_alloc ?_ _)); exact BK699.out⟩, ⟨by (with_reducible repeat (first | refine blk_drewN ?_ _ | refine blk_drew ?_ | refine blk_alloc ?_ _)); refine blk_put (cs := #[.int .i64 t700, .slice none 0 0]) ?_ 1 _ rfl; (with_reducible repeat (first | refine blk_drewN ?_ _ | refine blk_drew ?_ | refine blk_alloc ?_ _)); refine blk_put (cs := #[.int .i64 0, .slice none 0 0]) ?_ 0 _ rfl; (with_reducible repeat (first | refine blk_drewN ?_ _ | refine blk_drew ?_ | refine blk_alloc ?_ _)); exact BK705.out⟩, ⟨bel_g HB.out⟩⟩
   ·have c20b0 : (t698 != t704) = false := by simpa using c20
    (try (have c20b1 : decide (t698 = t704) = true := by simpa using c20))
    (try (have c20b2 : (t698 == t704) = true := by simpa using c20))
    clear c20
    (first | rw [c20b0] | (simp only [i64_w, i32_w]; rw [c20b0]) | skip)
    obtain ⟨t706, A21, H⟩ := obE H
    have H' := Aside0.mk H
    clear H
    have hnb22 := NB699_705.out
    have hnc22 := NB705_699.out
    obtain ⟨hcz23_0, hcz23_1, hfz23_0, hfz23_1⟩ := blk2 BK699
    obtain ⟨hcz24_0, hcz24_1, hfz24_0, hfz24_1⟩ := blk2 BK705
    go_wp2_with (first | (go_at_call 37; (with_reducible refine (laws_vOrder.calls k t694 _ _ t695 t700 _ _ t701 t706 _ ?side1 ?side2 ?side3 ?side4 A21.out).mono ?_); (case side1 => refine (Kd.R_reads' (e := 3) (base := w.heap.size) (ok := fun k_ => ((True ∧ some k_ ≠ (.slice Ao10 t691.length co10 : Value).ownBlock) ∧ some k_ ≠ (.slice Ao19 t701.length co19 : Value).ownBlock)) (n := t695.length) (c := co14) ?_).2.2; exact (Kd.R_g ((Kd.R_mono (Kd.R_far (p := ⟨gb705, 1, none⟩) (Kd.R_far (p := ⟨gb705, 0, none⟩) (Kd.R_types HO697.out BK705.out (by decide)) (fun _ hk => hk.2) (.int .i64 t700)) (fun _ hk => hk.2) (.slice Ao19 t701.length co19)) (fun _ h_ => h_.1))))); (case side2 => exact (Kd.R_reads' HO697.out).2.1); (case side3 => refine (Kd.R_reads' (e := 3) (base := w.heap.size) (ok := fun k_ => ((True ∧ some k_ ≠ (.slice Ao10 t691.length co10 : Value).ownBlock) ∧ some k_ ≠ (.slice Ao14 t695.length co14 : Value).ownBlock)) (n := t701.length) (c := co19) ?_).2.2; exact (Kd.R_g ((Kd.R_mono (Kd.R_far (p := ⟨gb705, 1, none⟩) (Kd.R_far (p := ⟨gb705, 0, none⟩) (Kd.R_types HO703.out BK705.out (by decide)) (fun _ hk => hk.2) (.int .i64 t700)) (fun _ hk => hk.2) (.slice Ao19 t701.length co19)) (fun _ h_ => h_.1))))); (case side4 => exact (Kd.R_reads' HO703.out).2.1); rintro e w25 ⟨rfl, hb⟩; replace HO693 := Aside0.mk (Kd.R_below (Kd.R_g ((Kd.R_mono (Kd.R_far (p := ⟨gb705, 1, none⟩) (Kd.R_far (p := ⟨gb705, 0, none⟩) (Kd.R_types HO693.out BK705.out (by decide)) (fun _ hk => hk.2) (.int .i64 t700)) (fun _ hk => hk.2) (.slice Ao19 t701.length co19)) (fun _ h_ => h_.1)))) hb); replace HO697 := Aside0.mk (Kd.R_below (Kd.R_g ((Kd.R_mono (Kd.R_far (p := ⟨gb705, 1, none⟩) (Kd.R_far (p := ⟨gb705, 0, none⟩) (Kd.R_types HO697.out BK705.out (by decide)) (fun _ hk => hk.2) (.int .i64 t700)) (fun _ hk => hk.2) (.slice Ao19 t701.length co19)) (fun _ h_ => h_.1)))) hb); replace HO703 := Aside0.mk (Kd.R_below (Kd.R_g ((Kd.R_mono (Kd.R_far (p := ⟨gb705, 1, none⟩) (Kd.R_far (p := ⟨gb705, 0, none⟩) (Kd.R_types HO703.out BK705.out (by decide)) (fun _ hk => hk.2) (.int .i64 t700)) (fun _ hk => hk.2) (.slice Ao19 t701.length co19)) (fun _ h_ => h_.1)))) hb); replace BK699 := Aside0.mk (blk_below (g := gb699) (o := .cells #[.int .i64 t694, .slice Ao14 t695.length co14] 28 (0, 0)) (by (with_reducible repeat (first | refine blk_drewN ?_ _ | refine blk_drew ?_ | refine blk_alloc ?_ _)); refine blk_far ?_ NB699_705.out _; (with_reducible repeat (first | refine blk_drewN ?_ _ | refine blk_drew ?_ | refine blk_alloc ?_ _)); refine blk_far ?_ NB699_705.out _; (with_reducible repeat (first | refine blk_drewN ?_ _ | refine blk_drew ?_ | refine blk_alloc ?_ _)); exact BK699.out) hb); replace BK705 := Aside0.mk (blk_below (g := gb705) (o := .cells #[.int .i64 t700, .slice Ao19 t701.length co19] 28 (0, 0)) (by (with_reducible repeat (first | refine blk_drewN ?_ _ | refine blk_drew ?_ | refine blk_alloc ?_ _)); refine blk_put (cs := #[.int .i64 t700, .slice none 0 0]) ?_ 1 _ rfl; (with_reducible repeat (first | refine blk_drewN ?_ _ | refine blk_drew ?_ | refine blk_alloc ?_ _)); refine blk_put (cs := #[.int .i64 0, .slice none 0 0]) ?_ 0 _ rfl; (with_reducible repeat (first | refine blk_drewN ?_ _ | refine blk_drew ?_ | refine blk_alloc ?_ _)); exact BK705.out) hb); replace HB := bst HB hb; (try clear hb); (try clear hk)))
    go_meet
    case rel => exact ⟨_, (!t706), eqS, H', ⟨by first | omega | exact Nat.le_refl _⟩, ⟨Kd.R_g (Kd.R_mono HO693.out (fun _ hk => ⟨hk.1.2, hk.2⟩))⟩, ⟨Kd.R_g (Kd.R_mono HO697.out (fun _ hk => ⟨hk.1.2, hk.2⟩))⟩, ⟨Kd.R_g (Kd.R_mono HO703.out (fun _ hk => ⟨hk.1.2, hk.2⟩))⟩, ⟨blk_g BK699.out⟩, ⟨blk_g BK705.out⟩, ⟨bel_g HB.out⟩⟩
  case rest =>
   clear HC8
   try clear c1
   try clear c4
   try clear c20
   try clear c20b0
   try clear c20b1
   try clear c20b2
   try clear hcz13_0
   try clear hcz13_1
   try clear hcz18_0
   try clear hcz18_1
   try clear hcz23_0
   try clear hcz23_1
   try clear hcz24_0
   try clear hcz24_1
   try clear hfz13_0
   try clear hfz13_1
   try clear hfz18_0
   try clear hfz18_1
   try clear hfz23_0
   try clear hfz23_1
   try clear hfz24_0
   try clear hfz24_1
   obtain ⟨kq, x49_7, rfl, HA, HJ7, HO_6, HO_700001, HO_706001, BK699, BK705, HB⟩ := hcut
   cases kq with
   | zero => exact absurd HA.out (by simp [laws_FnOrdersOfPlaces.j0])
   | succ kj7 =>
    have H := HA.out
    clear HA
    simp only [laws_FnOrdersOfPlaces.j0] at H
    by_cases c26 : x49_7 = true
    ·subst c26
     replace H := ifT H
     obtain rfl := Option.some.inj H
     go_wp2
     go_ret
     exact ⟨eqE, bel_g HB.out⟩
    ·replace c26 := Bool.eq_false_iff.mpr c26
     subst c26
     replace H := ifF H
     by_cases c27 : t698 = true
     ·subst c27
      replace H := ifT H
      obtain ⟨⟨t707, t708⟩, A28, H⟩ := obE H
      dsimp only at H
      obtain ⟨⟨t709, t710⟩, A29, H⟩ := obE H
      dsimp only at H
      have HC30 := Aside0.mk H
      clear H
      have hnb31 := NB699_705.out
      have hnc31 := NB705_699.out
      obtain ⟨hcz32_0, hcz32_1, hfz32_0, hfz32_1⟩ := blk2 BK699
      go_upto_region 12 with (first | ((with_reducible refine gate_callee (f := 38) rfl ?_); refine goesQ (some 54) Tryd.func38 #[.agg #[.int .i64 t694, .slice Ao14 t695.length co14]] ?_; (with_reducible refine (impl_IsSemiorder.calls kj7 t694 _ _ t695 t707 t708 _ ?side1 ?side2 ?side3 A28.out).mono ?_); (case side1 => repeat (first | exact (Kd.R_reads' HO_700001.out).2.2 | (with_reducible refine Kd.C_alloc ?_ _) | (with_reducible refine Kd.C_drewN ?_ _) | (with_reducible refine Kd.C_drew ?_))); (case side2 => exact (Kd.R_reads' HO_700001.out).2.1); (case side3 => first | exact HTAB.out | exact Tab.drewN HTAB.out _ | exact Tab.below HTAB.out (bel_g HB.out) | exact Tab.below HTAB.out (by repeat (first | exact Below.refl _ _ | apply below_alloc | apply pw_below_drewN | apply below_drew1))); rintro e w33 ⟨rfl, hb⟩; refine ⟨_, rfl, ?_⟩; replace HO_6 := Aside0.mk (Kd.R_below (Kd.R_g HO_6.out) hb); replace HO_700001 := Aside0.mk (Kd.R_below (Kd.R_g HO_700001.out) hb); replace HO_706001 := Aside0.mk (Kd.R_below (Kd.R_g HO_706001.out) hb); replace BK699 := blkB BK699 hb; replace BK705 := blkB BK705 hb; replace HB := bst HB hb; (try clear hb); (try clear hk); obtain ⟨hcz34_0, hcz34_1, hfz34_0, hfz34_1⟩ := blk2 BK699) | ((with_reducible refine gate_callee (f := 39) rfl ?_); refine goesQ (some 61) Tryd.func39 #[.agg #[.int .i64 t694, .slice Ao14 t695.length co14], .int .i64 t690, .slice Ao10 t691.length co10] ?_; (with_reducible refine (impl_IsPlaces.calls kj7 t694 _ _ t695 t690 _ _ t691 t709 t710 _ ?side1 ?side2 ?side3 ?side4 ?side5 A29.out).mono ?_); (case side1 => repeat (first | exact (Kd.R_reads' HO_700001.out).2.2 | (with_reducible refine Kd.C_alloc ?_ _) | (with_reducible refine Kd.C_drewN ?_ _) | (with_reducible refine Kd.C_drew ?_))); (case side2 => exact (Kd.R_reads' HO_700001.out).2.1); (case side3 => repeat (first | exact (Kd.R_reads' HO_6.out).2.2 | (with_reducible refine Kd.C_alloc ?_ _) | (with_reducible refine Kd.C_drewN ?_ _) | (with_reducible refine Kd.C_drew ?_))); (case side4 => exact (Kd.R_reads' HO_6.out).2.1); (case side5 => first | exact HTAB.out | exact Tab.drewN HTAB.out _ | exact Tab.below HTAB.out (bel_g HB.out) | exact Tab.below HTAB.out (by repeat (first | exact Below.refl _ _ | apply below_alloc | apply pw_below_drewN | apply below_drew1))); rintro e w35 ⟨rfl, hb⟩; refine ⟨_, rfl, ?_⟩; replace HO_6 := Aside0.mk (Kd.R_below (Kd.R_g HO_6.out) hb); replace HO_700001 := Aside0.mk (Kd.R_below (Kd.R_g HO_700001.out) hb); replace HO_706001 := Aside0.mk (Kd.R_below (Kd.R_g HO_706001.out) hb); replace BK699 := blkB BK699 hb; replace BK705 := blkB BK705 hb; replace HB := bst HB hb; (try clear hb); (try clear hk)))
      (try simp only [Act.put, List.setIfInBounds_toArray, List.set_cons_zero, List.set_cons_succ])
      go_cut [77] (fun v77 wc => ∃ (kq : Nat) (x77_29 : Bool), v77 = .bool x77_29 ∧ Aside0 (laws_FnOrdersOfPlaces.j1 kq l1 t690 t691 x77_29 t694 t695 = some r) ∧ Aside0 (kq ≤ kj7) ∧ Aside0 (Kd.R (Kd.int .i64) 3 wc w.heap.size (fun k_ => some k_ ≠ ((.slice Ao14 t695.length co14) : Value).ownBlock ∧ some k_ ≠ ((.slice Ao19 t701.length co19) : Value).ownBlock) (.slice Ao10 t691.length co10) t691) ∧ Aside0 (Kd.R (Kd.int .i64) 3 wc w.heap.size (fun k_ => some k_ ≠ ((.slice Ao10 t691.length co10) : Value).ownBlock ∧ some k_ ≠ ((.slice Ao19 t701.length co19) : Value).ownBlock) (.slice Ao14 t695.length co14) t695) ∧ Aside0 (Kd.R (Kd.int .i64) 3 wc w.heap.size (fun k_ => some k_ ≠ ((.slice Ao10 t691.length co10) : Value).ownBlock ∧ some k_ ≠ ((.slice Ao14 t695.length co14) : Value).ownBlock) (.slice Ao19 t701.length co19) t701) ∧ Aside0 (wc.heap[gb699]? = some (.cells #[.int .i64 t694, (.slice Ao14 t695.length co14)] 28 (0, 0))) ∧ Aside0 (wc.heap[gb705]? = some (.cells #[.int .i64 t700, (.slice Ao19 t701.length co19)] 28 (0, 0))) ∧ Aside0 (Below w.heap.size w wc))
      case first =>
       have H := HC30.out
       clear HC30
       by_cases c36 : t708 = true
       ·subst c36
        replace H := ifT H
        by_cases c37 : t707 = true
        ·subst c37
         replace H := ifT H
         by_cases c38 : t710 = true
         ·subst c38
          replace H := ifT H
          have H' := Aside0.mk H
          clear H
          go_wp2
          go_meet
          case rel => exact ⟨_, (!t709), eqS, H', ⟨by have := HJ7.out; first | omega | exact Nat.le_refl _⟩, ⟨Kd.R_g HO_6.out⟩, ⟨Kd.R_g HO_700001.out⟩, ⟨Kd.R_g HO_706001.out⟩, ⟨blk_g BK699.out⟩, ⟨blk_g BK705.out⟩, ⟨bel_g HB.out⟩⟩
         ·replace c38 := Bool.eq_false_iff.mpr c38
          subst c38
          replace H := ifF H
          have H' := Aside0.mk H
          clear H
          go_wp2
          go_meet
          case rel => exact ⟨_, (true), eqS, H', ⟨by have := HJ7.out; first | omega | exact Nat.le_refl _⟩, ⟨Kd.R_g HO_6.out⟩, ⟨Kd.R_g HO_700001.out⟩, ⟨Kd.R_g HO_706001.out⟩, ⟨blk_g BK699.out⟩, ⟨blk_g BK705.out⟩, ⟨bel_g HB.out⟩⟩
        ·replace c37 := Bool.eq_false_iff.mpr c37
         subst c37
         replace H := ifF H
         have H' := Aside0.mk H
         clear H
         go_wp2
         go_meet
         case rel => exact ⟨_, (true), eqS, H', ⟨by have := HJ7.out; first | omega | exact Nat.le_refl _⟩, ⟨Kd.R_g HO_6.out⟩, ⟨Kd.R_g HO_700001.out⟩, ⟨Kd.R_g HO_706001.out⟩, ⟨blk_g BK699.out⟩, ⟨blk_g BK705.out⟩, ⟨bel_g HB.out⟩⟩
       ·replace c36 := Bool.eq_false_iff.mpr c36
        subst c36
        replace H := ifF H
        have H' := Aside0.mk H
        clear H
        go_wp2
        go_meet
        case rel => exact ⟨_, (true), eqS, H', ⟨by have := HJ7.out; first | omega | exact Nat.le_refl _⟩, ⟨Kd.R_g HO_6.out⟩, ⟨Kd.R_g HO_700001.out⟩, ⟨Kd.R_g HO_706001.out⟩, ⟨blk_g BK699.out⟩, ⟨blk_g BK705.out⟩, ⟨bel_g HB.out⟩⟩
      case rest =>
       clear HC30
       try clear c1
       try clear c4
       try clear c20
       try clear c20b0
       try clear c20b1
       try clear c20b2
       try clear c26
       try clear c27
       try clear c36
       try clear c37
       try clear c38
       try clear hcz13_0
       try clear hcz13_1
       try clear hcz18_0
       try clear hcz18_1
       try clear hcz23_0
       try clear hcz23_1
       try clear hcz24_0
       try clear hcz24_1
       try clear hcz32_0
       try clear hcz32_1
       try clear hcz34_0
       try clear hcz34_1
       try clear hfz13_0
       try clear hfz13_1
       try clear hfz18_0
       try clear hfz18_1
       try clear hfz23_0
       try clear hfz23_1
       try clear hfz24_0
       try clear hfz24_1
       try clear hfz32_0
       try clear hfz32_1
       try clear hfz34_0
       try clear hfz34_1
       obtain ⟨kq, x77_29, rfl, HA, HJ29, HO_6, HO_700001, HO_706001, BK699, BK705, HB⟩ := hcut
       cases kq with
       | zero => exact absurd HA.out (by simp [laws_FnOrdersOfPlaces.j1])
       | succ kj29 =>
        have H := HA.out
        clear HA
        simp only [laws_FnOrdersOfPlaces.j1] at H
        by_cases c39 : x77_29 = true
        ·subst c39
         replace H := ifT H
         obtain rfl := Option.some.inj H
         go_wp2
         go_ret
         exact ⟨eqE, bel_g HB.out⟩
        ·replace c39 := Bool.eq_false_iff.mpr c39
         subst c39
         replace H := ifF H
         obtain ⟨t711, A40, H⟩ := obE H
         have H' := Aside0.mk H
         clear H
         go_wp2_with (first | ((with_reducible refine gate_callee (f := 40) rfl ?_); refine goesQ (some 79) Tryd.func40 #[.slice A1 l1.length c1] ?_; (with_reducible refine (laws_vNumber.calls kj29 _ _ l1 t711 _ ?side1 ?side2 A40.out).mono ?_); (case side1 => exact C_g HR1 HB); (case side2 => exact HC1.out); rintro e w' ⟨rfl, ⟨nd, rfl⟩⟩; refine ⟨_, rfl, ?_⟩))
         go_loopg [16, 83] kj29 (fun kq v16 v83 w' => ∃ (x16_3 : List Int) (x83_3 : Int), v83 = .int .i64 x83_3 ∧ Aside0 (laws_FnOrdersOfPlaces.l0 kq t690 (Int.tmod t711 50) x16_3 t691 (t691.length : Int) x83_3 t694 t695 = some r) ∧ Aside0 (kq ≤ kj29) ∧ Aside0 (Kd.R (Kd.int .i64) 3 w' w.heap.size (fun k_ => some k_ ≠ ((.slice Ao10 t691.length co10) : Value).ownBlock ∧ some k_ ≠ ((.slice Ao14 t695.length co14) : Value).ownBlock ∧ some k_ ≠ ((.slice Ao19 t701.length co19) : Value).ownBlock) v16 x16_3) ∧ Aside0 (Kd.R (Kd.int .i64) 3 w' w.heap.size (fun k_ => some k_ ≠ (v16 : Value).ownBlock ∧ some k_ ≠ ((.slice Ao14 t695.length co14) : Value).ownBlock ∧ some k_ ≠ ((.slice Ao19 t701.length co19) : Value).ownBlock) (.slice Ao10 t691.length co10) t691) ∧ Aside0 (Kd.R (Kd.int .i64) 3 w' w.heap.size (fun k_ => some k_ ≠ (v16 : Value).ownBlock ∧ some k_ ≠ ((.slice Ao10 t691.length co10) : Value).ownBlock ∧ some k_ ≠ ((.slice Ao19 t701.length co19) : Value).ownBlock) (.slice Ao14 t695.length co14) t695) ∧ Aside0 (Kd.R (Kd.int .i64) 3 w' w.heap.size (fun k_ => some k_ ≠ (v16 : Value).ownBlock ∧ some k_ ≠ ((.slice Ao10 t691.length co10) : Value).ownBlock ∧ some k_ ≠ ((.slice Ao14 t695.length co14) : Value).ownBlock) (.slice Ao19 t701.length co19) t701) ∧ Aside0 (w'.heap[gb699]? = some (.cells #[.int .i64 t694, (.slice Ao14 t695.length co14)] 28 (0, 0))) ∧ Aside0 (w'.heap[gb705]? = some (.cells #[.int .i64 t700, (.slice Ao19 t701.length co19)] 28 (0, 0))) ∧ Aside0 (Below w.heap.size w w'))
         case atStart => exact ⟨(([] : List Int)), (0), eqS, H', ⟨Nat.le_refl _⟩, ⟨by first | exact Kd.R_nil _ _ _ _ _ | exact Kd.N_nil _ _ _ _ _ | exact Kd.V_nil _ _ _ _ _ | exact Kd.Q_nil _ _ _ _ _ | exact Kd.S_nil _ _ _ _ _⟩, ⟨Kd.R_g (Kd.R_mono HO_6.out (fun _ hk => ⟨(by simp [Value.ownBlock]), ⟨hk.1, hk.2⟩⟩))⟩, ⟨Kd.R_g (Kd.R_mono HO_700001.out (fun _ hk => ⟨(by simp [Value.ownBlock]), ⟨hk.1, hk.2⟩⟩))⟩, ⟨Kd.R_g (Kd.R_mono HO_706001.out (fun _ hk => ⟨(by simp [Value.ownBlock]), ⟨hk.1, hk.2⟩⟩))⟩, ⟨blk_g BK699.out⟩, ⟨blk_g BK705.out⟩, ⟨bel_g HB.out⟩⟩
         case round =>
          clear H'
          try clear c1
          try clear c4
          try clear c20
          try clear c20b0
          try clear c20b1
          try clear c20b2
          try clear c26
          try clear c27
          try clear c36
          try clear c37
          try clear c38
          try clear c39
          try clear hcz13_0
          try clear hcz13_1
          try clear hcz18_0
          try clear hcz18_1
          try clear hcz23_0
          try clear hcz23_1
          try clear hcz24_0
          try clear hcz24_1
          try clear hcz32_0
          try clear hcz32_1
          try clear hcz34_0
          try clear hcz34_1
          try clear hfz13_0
          try clear hfz13_1
          try clear hfz18_0
          try clear hfz18_1
          try clear hfz23_0
          try clear hfz23_1
          try clear hfz24_0
          try clear hfz24_1
          try clear hfz32_0
          try clear hfz32_1
          try clear hfz34_0
          try clear hfz34_1
          obtain ⟨x16_3, x83_3, rfl, HA, HK3, HO_16, HO_81, HO_700001, HO_706001, BK699, BK705, HB⟩ := hrel
          cases gk with
          | zero => exact absurd HA.out (by simp [laws_FnOrdersOfPlaces.l0])
          | succ k3 =>
           have H := HA.out
           clear HA
           simp only [laws_FnOrdersOfPlaces.l0] at H
           rcases iteE H with ⟨c41b0, H⟩ | ⟨c41b0, H⟩
           ·rcases iteP H with ⟨c42, H⟩ | ⟨c42, H⟩
            ·have c42b0 : decide (0 ≤ x83_3) = true := decide_eq_true c42
             clear c42
             rcases iteP H with ⟨c43, H⟩ | ⟨c43, H⟩
             ·have c43b0 : decide (x83_3 < (t691.length : Int)) = true := decide_eq_true c43
              clear c43
              rcases iteP H with ⟨c44, H⟩ | ⟨c44, H⟩
              ·have c44b0 : decide (1000 < (wrap64 ((rd t691 x83_3) + (Int.tmod t711 50)))) = true := decide_eq_true c44
               clear c44
               obtain rfl := Option.some.inj H
               have p712 : 0 ≤ (x83_3 : Int) := ofd
               have q712 : x83_3 < (t691.length : Int) := ofd
               obtain ⟨ad712, e712, hx712_0⟩ := Kd.at_int (Kd.R_reads' HO_81.out).2.2 x83_3 p712 q712
               cases e712
               replace p712 := eq_true p712
               replace q712 := eq_true q712
               go_wp2
               go_ret
               exact ⟨eqE, bel_g HB.out⟩
              ·have c44b0 : decide (1000 < (wrap64 ((rd t691 x83_3) + (Int.tmod t711 50)))) = false := decide_eq_false c44
               clear c44
               rcases iteP H with ⟨c45, H⟩ | ⟨c45, H⟩
               ·have LMc45 := Aside0.mk c45
                clear c45
                obtain ⟨y713, hy713⟩ : ∃ y_ : List Int, y_ = (x16_3 ++ [wrap64 ((rd t691 x83_3) + (Int.tmod t711 50))]) := ⟨_, rfl⟩
                replace H : (laws_FnOrdersOfPlaces.l0 k3 t690 (Int.tmod t711 50) y713 t691 (t691.length : Int) (wrap64 (x83_3 + 1)) t694 t695) = some r := by first | (rw [hy713]; with_reducible exact H) | (have H2_ := (Option.bind_some _ _).symm.trans H; rw [hy713]; with_reducible exact H2_) | (have H2_ := (Option.bind_some _ _).symm.trans H; with_reducible exact H2_) | with_reducible exact H | (rw [hy713]; exact H) | exact H
                have Ny713 := Aside0.mk hy713
                clear hy713
                have H' := Aside0.mk H
                clear H
                have p712 : 0 ≤ (x83_3 : Int) := ofd
                have q712 : x83_3 < (t691.length : Int) := ofd
                obtain ⟨ad712, e712, hx712_0⟩ := Kd.at_int (Kd.R_reads' HO_81.out).2.2 x83_3 p712 q712
                cases e712
                replace p712 := eq_true p712
                replace q712 := eq_true q712
                go_wp2_with (first | ((with_reducible refine gate_builtin (b := .append) (xs := #[.tmp 91, .tmp 95]) rfl ?_); at_builtin; refine Kd.R_append (Kd.int .i64) (w0 := w) w.heap.size rfl (.tmp 91) (.tmp 95) 22 3 (.int .i64 0) 8 rfl Tryd.underlying22 info3 rfl (by decide) (by omega) u16 x16_3 (wrap64 ((rd t691 x83_3) + (Int.tmod t711 50))) [.int .i64 (wrap64 ((rd t691 x83_3) + (Int.tmod t711 50)))] (fun k_ => some k_ ≠ (.slice (some ad712) t691.length co10 : Value).ownBlock ∧ some k_ ≠ (.slice Ao14 t695.length co14 : Value).ownBlock ∧ some k_ ≠ (.slice Ao19 t701.length co19 : Value).ownBlock) (fun _ => False) rfl rfl ?aP (fun _ hk => hk.elim) ?aF ?aO ?aB ?aS ?aL ?_; (case aP => exact rfl); (case aB => exact (bel_g HB.out)); (case aF => exact (fun k_ hk => ⟨Kd.fresh' (Kd.R_lt (Kd.R_g HO_81.out)) k_ hk, Kd.fresh' (Kd.R_lt (Kd.R_g HO_700001.out)) k_ hk, Kd.fresh' (Kd.R_lt (Kd.R_g HO_706001.out)) k_ hk⟩)); (case aO => exact (Kd.R_g HO_16.out)); (case aS => exact (below_size (bel_g HB.out))); (case aL => have := LMc45.out; omega); intro v714 w46 ho hb hg hat; rw [← Ny713.out] at ho; replace HO_81 := Aside0.mk (Kd.R_after (ok := (fun k_ => some k_ ≠ (.slice Ao14 t695.length co14 : Value).ownBlock ∧ some k_ ≠ (.slice Ao19 t701.length co19 : Value).ownBlock)) (Kd.R_g (Kd.R_mono HO_81.out (fun _ hk => ⟨⟨hk.2.1, hk.2.2⟩, hk.1⟩))) hg hat); replace HO_700001 := Aside0.mk (Kd.R_after (ok := (fun k_ => some k_ ≠ (.slice (some ad712) t691.length co10 : Value).ownBlock ∧ some k_ ≠ (.slice Ao19 t701.length co19 : Value).ownBlock)) (Kd.R_g (Kd.R_mono HO_700001.out (fun _ hk => ⟨⟨hk.2.1, hk.2.2⟩, hk.1⟩))) hg hat); replace HO_706001 := Aside0.mk (Kd.R_after (ok := (fun k_ => some k_ ≠ (.slice (some ad712) t691.length co10 : Value).ownBlock ∧ some k_ ≠ (.slice Ao14 t695.length co14 : Value).ownBlock)) (Kd.R_g (Kd.R_mono HO_706001.out (fun _ hk => ⟨⟨hk.2.1, hk.2.2⟩, hk.1⟩))) hg hat); replace BK699 := Aside0.mk (blk_grown (g := gb699) (o := .cells #[.int .i64 t694, .slice Ao14 t695.length co14] 28 (0, 0)) (blk_g BK699.out) hg (Kd.R_ne HO_16.out BK699.out (by decide))); replace BK705 := Aside0.mk (blk_grown (g := gb705) (o := .cells #[.int .i64 t700, .slice Ao19 t701.length co19] 28 (0, 0)) (blk_g BK705.out) hg (Kd.R_ne HO_16.out BK705.out (by decide))); have HO715 := Aside0.mk (ho); replace HB := Aside0.mk (hb); clear HO_16; clear ho hb hg hat))
                go_roundg k3
                case measure => have := HJ7.out; have := HJ29.out; have := HK3.out; omega
                case rel => exact ⟨(y713), (wrap64 (x83_3 + 1)), eqS, H', ⟨by have := HJ7.out; have := HJ29.out; have := HK3.out; omega⟩, ⟨Kd.R_g HO715.out⟩, ⟨Kd.R_g (Kd.R_mono HO_81.out (fun _ hk => ⟨hk.2, ⟨hk.1.1, hk.1.2⟩⟩))⟩, ⟨Kd.R_g (Kd.R_mono HO_700001.out (fun _ hk => ⟨hk.2, ⟨hk.1.1, hk.1.2⟩⟩))⟩, ⟨Kd.R_g (Kd.R_mono HO_706001.out (fun _ hk => ⟨hk.2, ⟨hk.1.1, hk.1.2⟩⟩))⟩, ⟨blk_g BK699.out⟩, ⟨blk_g BK705.out⟩, ⟨bel_g HB.out⟩⟩
               ·exact absurd H (by simp)
             ·exact absurd H (by simp)
            ·exact absurd H (by simp)
           ·obtain ⟨⟨t716, t717, t720⟩, A47, H⟩ := obE H
            dsimp only at H
            by_cases c48 : t720 = true
            ·subst c48
             replace H := ifT H
             obtain ⟨t722, A49, H⟩ := obE H
             obtain rfl := Option.some.inj H
             obtain ⟨Ao50, co50, eo50⟩ := Kd.R_slice HO_16.out
             subst eo50
             go_wp2_with (first | ((with_reducible refine gate_callee (f := 35) rfl ?_); refine goesQ (some 101) Tryd.func35 #[.int .i64 t690, .slice Ao50 x16_3.length co50] ?_; (with_reducible refine (impl_OrderOfPlaces.calls k3 t690 _ _ x16_3 t716 t717 true _ ?side1 ?side2 A47.out).mono ?_); (case side1 => repeat (first | exact (Kd.R_reads' HO_16.out).2.2 | (with_reducible refine Kd.C_alloc ?_ _) | (with_reducible refine Kd.C_drewN ?_ _) | (with_reducible refine Kd.C_drew ?_))); (case side2 => exact (Kd.R_reads' HO_16.out).2.1); rintro e w51 ⟨v718, rfl, ho0, hb⟩; refine ⟨_, rfl, ?_⟩; have HO719 := Aside0.mk (Kd.R_lower (Kd.R_new' (Kd.R_new' (Kd.R_new' (Kd.R_new' ho0 (Kd.R_lt (Kd.R_g HO_16.out))) (Kd.R_lt (Kd.R_g HO_81.out))) (Kd.R_lt (Kd.R_g HO_700001.out))) (Kd.R_lt (Kd.R_g HO_706001.out))) (below_size (bel_g HB.out))); replace HO_16 := Aside0.mk (Kd.R_elder' (Kd.R_g HO_16.out) (Kd.R_base ho0) hb); replace HO_81 := Aside0.mk (Kd.R_elder' (Kd.R_g HO_81.out) (Kd.R_base ho0) hb); replace HO_700001 := Aside0.mk (Kd.R_elder' (Kd.R_g HO_700001.out) (Kd.R_base ho0) hb); replace HO_706001 := Aside0.mk (Kd.R_elder' (Kd.R_g HO_706001.out) (Kd.R_base ho0) hb); replace BK699 := blkB BK699 hb; replace BK705 := blkB BK705 hb; replace HB := bst HB hb; (try clear hb); (try clear hk); (try clear ho0)) | ((with_reducible refine gate_dst (N := 19) rfl ?_); refine boxE (N := 19) (cs := #[.int .i64 0, .slice none 0 0]) (t := 28) ?_; intro gb721 hg w52 hbox hb; replace HO_16 := Aside0.mk (Kd.R_below (Kd.R_g HO_16.out) hb); replace HO_81 := Aside0.mk (Kd.R_below (Kd.R_g HO_81.out) hb); replace HO_700001 := Aside0.mk (Kd.R_below (Kd.R_g HO_700001.out) hb); replace HO_706001 := Aside0.mk (Kd.R_below (Kd.R_g HO_706001.out) hb); replace HO719 := Aside0.mk (Kd.R_below (Kd.R_g HO719.out) hb); have BK721 := Aside0.mk (hbox); have GE721 := geB HB hg; have NB699_721 := neL BK699 hg; have NB721_699 := neR BK699 hg; replace BK699 := blkB BK699 hb; have NB705_721 := neL BK705 hg; have NB721_705 := neR BK705 hg; replace BK705 := blkB BK705 hb; replace HB := bst HB hb; clear hb hbox hg; have hnb53 := NB721_699.out; have hnc53 := NB699_721.out; have hnb54 := NB721_705.out; have hnc54 := NB705_721.out; obtain ⟨hcz55_0, hcz55_1, hfz55_0, hfz55_1⟩ := blk2 BK721; obtain ⟨Ao56, co56, eo56⟩ := Kd.R_slice HO719.out; subst eo56; have hnb57 := NB699_705.out; have hnc57 := NB705_699.out; obtain ⟨hcz58_0, hcz58_1, hfz58_0, hfz58_1⟩ := blk2 BK699) | (go_at_call 37; (with_reducible refine (laws_vOrder.calls k3 t716 _ _ t717 t694 _ _ t695 t722 _ ?side1 ?side2 ?side3 ?side4 A49.out).mono ?_); (case side1 => refine (Kd.R_reads' (e := 3) (base := w.heap.size) (ok := fun k_ => ((((True ∧ some k_ ≠ (.slice Ao50 x16_3.length co50 : Value).ownBlock) ∧ some k_ ≠ (.slice Ao10 t691.length co10 : Value).ownBlock) ∧ some k_ ≠ (.slice Ao14 t695.length co14 : Value).ownBlock) ∧ some k_ ≠ (.slice Ao19 t701.length co19 : Value).ownBlock)) (n := t717.length) (c := co56) ?_).2.2; exact (Kd.R_g ((Kd.R_mono (Kd.R_far (p := ⟨gb721, 1, none⟩) (Kd.R_far (p := ⟨gb721, 0, none⟩) (Kd.R_types HO719.out BK721.out (by decide)) (fun _ hk => hk.2) (.int .i64 t716)) (fun _ hk => hk.2) (.slice Ao56 t717.length co56)) (fun _ h_ => h_.1))))); (case side2 => exact (Kd.R_reads' HO719.out).2.1); (case side3 => refine (Kd.R_reads' (e := 3) (base := w.heap.size) (ok := fun k_ => ((some k_ ≠ (.slice Ao50 x16_3.length co50 : Value).ownBlock ∧ (some k_ ≠ (.slice Ao10 t691.length co10 : Value).ownBlock ∧ some k_ ≠ (.slice Ao19 t701.length co19 : Value).ownBlock)) ∧ some k_ ≠ (.slice Ao56 t717.length co56 : Value).ownBlock)) (n := t695.length) (c := co14) ?_).2.2; exact (Kd.R_g ((Kd.R_mono (Kd.R_far (p := ⟨gb721, 1, none⟩) (Kd.R_far (p := ⟨gb721, 0, none⟩) (Kd.R_types HO_700001.out BK721.out (by decide)) (fun _ hk => hk.2) (.int .i64 t716)) (fun _ hk => hk.2) (.slice Ao56 t717.length co56)) (fun _ h_ => h_.1))))); (case side4 => exact (Kd.R_reads' HO_700001.out).2.1); rintro e w59 ⟨rfl, hb⟩; replace HO_16 := Aside0.mk (Kd.R_below (Kd.R_g ((Kd.R_mono (Kd.R_far (p := ⟨gb721, 1, none⟩) (Kd.R_far (p := ⟨gb721, 0, none⟩) (Kd.R_types HO_16.out BK721.out (by decide)) (fun _ hk => hk.2) (.int .i64 t716)) (fun _ hk => hk.2) (.slice Ao56 t717.length co56)) (fun _ h_ => h_.1)))) hb); replace HO_81 := Aside0.mk (Kd.R_below (Kd.R_g ((Kd.R_mono (Kd.R_far (p := ⟨gb721, 1, none⟩) (Kd.R_far (p := ⟨gb721, 0, none⟩) (Kd.R_types HO_81.out BK721.out (by decide)) (fun _ hk => hk.2) (.int .i64 t716)) (fun _ hk => hk.2) (.slice Ao56 t717.length co56)) (fun _ h_ => h_.1)))) hb); replace HO_700001 := Aside0.mk (Kd.R_below (Kd.R_g ((Kd.R_mono (Kd.R_far (p := ⟨gb721, 1, none⟩) (Kd.R_far (p := ⟨gb721, 0, none⟩) (Kd.R_types HO_700001.out BK721.out (by decide)) (fun _ hk => hk.2) (.int .i64 t716)) (fun _ hk => hk.2) (.slice Ao56 t717.length co56)) (fun _ h_ => h_.1)))) hb); replace HO_706001 := Aside0.mk (Kd.R_below (Kd.R_g ((Kd.R_mono (Kd.R_far (p := ⟨gb721, 1, none⟩) (Kd.R_far (p := ⟨gb721, 0, none⟩) (Kd.R_types HO_706001.out BK721.out (by decide)) (fun _ hk => hk.2) (.int .i64 t716)) (fun _ hk => hk.2) (.slice Ao56 t717.length co56)) (fun _ h_ => h_.1)))) hb); replace HO719 := Aside0.mk (Kd.R_below (Kd.R_g ((Kd.R_mono (Kd.R_far (p := ⟨gb721, 1, none⟩) (Kd.R_far (p := ⟨gb721, 0, none⟩) (Kd.R_types HO719.out BK721.out (by decide)) (fun _ hk => hk.2) (.int .i64 t716)) (fun _ hk => hk.2) (.slice Ao56 t717.length co56)) (fun _ h_ => h_.1)))) hb); replace BK699 := Aside0.mk (blk_below (g := gb699) (o := .cells #[.int .i64 t694, .slice Ao14 t695.length co14] 28 (0, 0)) (by (with_reducible repeat (first | refine blk_drewN ?_ _ | refine blk_drew ?_ | refine blk_alloc ?_ _)); refine blk_far ?_ NB699_721.out _; (with_reducible repeat (first | refine blk_drewN ?_ _ | refine blk_drew ?_ | refine blk_alloc ?_ _)); refine blk_far ?_ NB699_721.out _; (with_reducible repeat (first | refine blk_drewN ?_ _ | refine blk_drew ?_ | refine blk_alloc ?_ _)); exact BK699.out) hb); replace BK705 := Aside0.mk (blk_below (g := gb705) (o := .cells #[.int .i64 t700, .slice Ao19 t701.length co19] 28 (0, 0)) (by (with_reducible repeat (first | refine blk_drewN ?_ _ | refine blk_drew ?_ | refine blk_alloc ?_ _)); refine blk_far ?_ NB705_721.out _; (with_reducible repeat (first | refine blk_drewN ?_ _ | refine blk_drew ?_ | refine blk_alloc ?_ _)); refine blk_far ?_ NB705_721.out _; (with_reducible repeat (first | refine blk_drewN ?_ _ | refine blk_drew ?_ | refine blk_alloc ?_ _)); exact BK705.out) hb); replace BK721 := Aside0.mk (blk_below (g := gb721) (o := .cells #[.int .i64 t716, .slice Ao56 t717.length co56] 28 (0, 0)) (by (with_reducible repeat (first | refine blk_drewN ?_ _ | refine blk_drew ?_ | refine blk_alloc ?_ _)); refine blk_put (cs := #[.int .i64 t716, .slice none 0 0]) ?_ 1 _ rfl; (with_reducible repeat (first | refine blk_drewN ?_ _ | refine blk_drew ?_ | refine blk_alloc ?_ _)); refine blk_put (cs := #[.int .i64 0, .slice none 0 0]) ?_ 0 _ rfl; (with_reducible repeat (first | refine blk_drewN ?_ _ | refine blk_drew ?_ | refine blk_alloc ?_ _)); exact BK721.out) hb); replace HB := bst HB hb; (try clear hb); (try clear hk)))
             go_ret
             exact ⟨eqE, bel_g HB.out⟩
            ·replace c48 := Bool.eq_false_iff.mpr c48
             subst c48
             replace H := ifF H
             obtain rfl := Option.some.inj H
             obtain ⟨Ao60, co60, eo60⟩ := Kd.R_slice HO_16.out
             subst eo60
             go_wp2_with (first | ((with_reducible refine gate_callee (f := 35) rfl ?_); refine goesQ (some 101) Tryd.func35 #[.int .i64 t690, .slice Ao60 x16_3.length co60] ?_; (with_reducible refine (impl_OrderOfPlaces.calls k3 t690 _ _ x16_3 t716 t717 false _ ?side1 ?side2 A47.out).mono ?_); (case side1 => repeat (first | exact (Kd.R_reads' HO_16.out).2.2 | (with_reducible refine Kd.C_alloc ?_ _) | (with_reducible refine Kd.C_drewN ?_ _) | (with_reducible refine Kd.C_drew ?_))); (case side2 => exact (Kd.R_reads' HO_16.out).2.1); rintro e w61 ⟨v718, rfl, ho0, hb⟩; refine ⟨_, rfl, ?_⟩; have HO719 := Aside0.mk (Kd.R_lower (Kd.R_new' (Kd.R_new' (Kd.R_new' (Kd.R_new' ho0 (Kd.R_lt (Kd.R_g HO_16.out))) (Kd.R_lt (Kd.R_g HO_81.out))) (Kd.R_lt (Kd.R_g HO_700001.out))) (Kd.R_lt (Kd.R_g HO_706001.out))) (below_size (bel_g HB.out))); replace HO_16 := Aside0.mk (Kd.R_elder' (Kd.R_g HO_16.out) (Kd.R_base ho0) hb); replace HO_81 := Aside0.mk (Kd.R_elder' (Kd.R_g HO_81.out) (Kd.R_base ho0) hb); replace HO_700001 := Aside0.mk (Kd.R_elder' (Kd.R_g HO_700001.out) (Kd.R_base ho0) hb); replace HO_706001 := Aside0.mk (Kd.R_elder' (Kd.R_g HO_706001.out) (Kd.R_base ho0) hb); replace BK699 := blkB BK699 hb; replace BK705 := blkB BK705 hb; replace HB := bst HB hb; (try clear hb); (try clear hk); (try clear ho0)) | ((with_reducible refine gate_dst (N := 19) rfl ?_); refine boxE (N := 19) (cs := #[.int .i64 0, .slice none 0 0]) (t := 28) ?_; intro gb721 hg w62 hbox hb; replace HO_16 := Aside0.mk (Kd.R_below (Kd.R_g HO_16.out) hb); replace HO_81 := Aside0.mk (Kd.R_below (Kd.R_g HO_81.out) hb); replace HO_700001 := Aside0.mk (Kd.R_below (Kd.R_g HO_700001.out) hb); replace HO_706001 := Aside0.mk (Kd.R_below (Kd.R_g HO_706001.out) hb); replace HO719 := Aside0.mk (Kd.R_below (Kd.R_g HO719.out) hb); have BK721 := Aside0.mk (hbox); have GE721 := geB HB hg; have NB699_721 := neL BK699 hg; have NB721_699 := neR BK699 hg; replace BK699 := blkB BK699 hb; have NB705_721 := neL BK705 hg; have NB721_705 := neR BK705 hg; replace BK705 := blkB BK705 hb; replace HB := bst HB hb; clear hb hbox hg; have hnb63 := NB721_699.out; have hnc63 := NB699_721.out; have hnb64 := NB721_705.out; have hnc64 := NB705_721.out; obtain ⟨hcz65_0, hcz65_1, hfz65_0, hfz65_1⟩ := blk2 BK721; obtain ⟨Ao66, co66, eo66⟩ := Kd.R_slice HO719.out; subst eo66))
             go_ret
             exact ⟨eqE, bel_g HB.out⟩
     ·replace c27 := Bool.eq_false_iff.mpr c27
      subst c27
      replace H := ifF H
      obtain rfl := Option.some.inj H
      go_wp2
      go_ret
      exact ⟨eqE, bel_g HB.out⟩

end Go.Proofs.YteechpappfagpaaDoor.Q
