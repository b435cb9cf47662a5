import Derived.Test.YtjahodklmegglaaDoorBFnExactTraceOf0
import Derived.Test.YtjahodklmegglaaDoorBFnExactTraceOf1
import Derived.Test.YtjahodklmegglaaDoorBFnExactTraceOf2
import Derived.Test.YtjahodklmegglaaDoorBFnExactTraceOf10
import Derived.Test.YtjahodklmegglaaDoorBFnExactTraceOf20
-- printed by this project's own program (wip/mp/mp.py) over the kit's print, for this seat; Lean checks it
namespace Go.Proofs.YtjahodklmegglaaDoor.Q
open Go.RowKit Go.Proofs.YtjahodklmegglaaDoorW.PrintWords Go.Proofs.YtjahodklmegglaaDoorW.PrintLast Go.Proofs.YtjahodklmegglaaDoorW.PrintMore
attribute [local go_sem] max2_int min2_int max_two min_two max_three min_three max_four min_four   -- for this text's walks alone
set_option linter.unusedVariables false
set_option maxHeartbeats 8000000
set_option maxRecDepth 100000
set_option linter.unusedSimpArgs false

/-! ### laws_FnExactTraceOf: function 5 -/
mutual
def laws_FnExactTraceOf.j0 : Nat → List Int → Bool → List Int → Bool → Bool → Int → List Int → Int → List Int → Option (Bool)
 | 0, _, _, _, _, _, _, _, _, _ => none
 | k + 1, x4, x5, x7, x8, x40, x766000, x766001, x780000, x780001 => if x40 = true then (some false) else ((laws_toOrder.f k x766000 x766001).bind fun bt785 => ((laws_eqOrder.f k x780000 x780001 bt785.1 bt785.2).bind fun t789 => (if t789 = true then ((laws_markOrder.f k x780000 x780001 1).bind fun bt790 => (if bt790.1 < 0 then (laws_FnExactTraceOf.j1 k x4 x5 x7 true x766000 x766001) else ((laws_eqIntS.f k x7 x4).bind fun t792 => (if t792 = true then (laws_FnExactTraceOf.j1 k x4 x5 x7 (x8 != x5) x766000 x766001) else (laws_FnExactTraceOf.j1 k x4 x5 x7 true x766000 x766001))))) else (some false))))
def laws_FnExactTraceOf.j1 : Nat → List Int → Bool → List Int → Bool → Int → List Int → Option (Bool)
 | 0, _, _, _, _, _, _ => none
 | k + 1, x4, x5, x7, x61, x766000, x766001 => if x61 = true then (some false) else ((laws_markIntS.f k x7 1).bind fun bt793 => ((laws_heldIntS.f k bt793.2 1).bind fun t795 => (if t795 < 0 then (some false) else (if t795 = bt793.1 then ((laws_toOrder.f k x766000 x766001).bind fun bt796 => ((impl_TraceOf.f k bt796.1 bt796.2).bind fun bt800 => ((laws_eqIntS.f k bt800.1 x4).bind fun t804 => (if t804 = true then (laws_FnExactTraceOf.j2 k bt793.2 bt793.1 (bt800.2 != x5)) else (laws_FnExactTraceOf.j2 k bt793.2 bt793.1 true))))) else (some false)))))
def laws_FnExactTraceOf.j2 : Nat → List Int → Int → Bool → Option (Bool)
 | 0, _, _, _ => none
 | k + 1, x7, x10, x87 => if x87 = true then (some false) else ((laws_heldIntS.f k x7 1).bind fun t805 => (if t805 < 0 then (some false) else (if t805 = x10 then (some true) else (some false))))
end
def laws_FnExactTraceOf.f (k : Nat) (a0_0 : Int) (l0_1 : List Int) : Option (Bool) := (laws_szOrder.f a0_0 l0_1 1048576).bind fun t766 => (if t766 < 0 then (some true) else ((laws_toOrder.f k a0_0 l0_1).bind fun bt767 => ((spec_TraceOf.f k bt767.1 bt767.2).bind fun bt771 => ((laws_toOrder.f k a0_0 l0_1).bind fun bt775 => ((impl_TraceOf.f k bt775.1 bt775.2).bind fun bt780 => ((laws_eqIntS.f k bt780.1 bt771.1).bind fun t784 => (if t784 = true then (laws_FnExactTraceOf.j0 k bt771.1 bt771.2 bt780.1 bt780.2 (bt780.2 != bt771.2) a0_0 l0_1 bt775.1 bt775.2) else (laws_FnExactTraceOf.j0 k bt771.1 bt771.2 bt780.1 bt780.2 true a0_0 l0_1 bt775.1 bt775.2))))))))
theorem laws_FnExactTraceOf.mono_l : ∀ k, (∀ y0 y1 y2 y3 y4 y5 y6 y7 y8, LeO (laws_FnExactTraceOf.j0 k y0 y1 y2 y3 y4 y5 y6 y7 y8) (laws_FnExactTraceOf.j0 (k + 1) y0 y1 y2 y3 y4 y5 y6 y7 y8)) ∧ (∀ y0 y1 y2 y3 y4 y5, LeO (laws_FnExactTraceOf.j1 k y0 y1 y2 y3 y4 y5) (laws_FnExactTraceOf.j1 (k + 1) y0 y1 y2 y3 y4 y5)) ∧ (∀ y0 y1 y2, LeO (laws_FnExactTraceOf.j2 k y0 y1 y2) (laws_FnExactTraceOf.j2 (k + 1) y0 y1 y2))
 | 0 => ⟨fun _ _ _ _ _ _ _ _ _ r h => by simp [laws_FnExactTraceOf.j0] at h, fun _ _ _ _ _ _ r h => by simp [laws_FnExactTraceOf.j1] at h, fun _ _ _ r h => by simp [laws_FnExactTraceOf.j2] at h⟩
 | k + 1 => by
  obtain ⟨ih0, ih1, ih2⟩ := laws_FnExactTraceOf.mono_l k
  refine ⟨?_, ?_, ?_⟩
  ·intro y0 y1 y2 y3 y4 y5 y6 y7 y8
   unfold laws_FnExactTraceOf.j0
   repeat' (with_reducible first|exact ih0 _ _ _ _ _ _ _ _ _|exact ih1 _ _ _ _ _ _|exact ih2 _ _ _|exact impl_TraceOf.mono _ _ _|exact laws_eqIntS.mono _ _ _|exact laws_eqOrder.mono _ _ _ _ _|exact laws_heldIntS.mono _ _ _|exact laws_markIntS.mono _ _ _|exact laws_markOrder.mono _ _ _ _|exact laws_toOrder.mono _ _ _|exact spec_TraceOf.mono _ _ _|exact LeO.refl _|exact LeO.none _|refine LeO.ite ?_ ?_|refine LeO.bind ?_ (fun _ => ?_))
  ·intro y0 y1 y2 y3 y4 y5
   unfold laws_FnExactTraceOf.j1
   repeat' (with_reducible first|exact ih0 _ _ _ _ _ _ _ _ _|exact ih1 _ _ _ _ _ _|exact ih2 _ _ _|exact impl_TraceOf.mono _ _ _|exact laws_eqIntS.mono _ _ _|exact laws_eqOrder.mono _ _ _ _ _|exact laws_heldIntS.mono _ _ _|exact laws_markIntS.mono _ _ _|exact laws_markOrder.mono _ _ _ _|exact laws_toOrder.mono _ _ _|exact spec_TraceOf.mono _ _ _|exact LeO.refl _|exact LeO.none _|refine LeO.ite ?_ ?_|refine LeO.bind ?_ (fun _ => ?_))
  ·intro y0 y1 y2
   unfold laws_FnExactTraceOf.j2
   repeat' (with_reducible first|exact ih0 _ _ _ _ _ _ _ _ _|exact ih1 _ _ _ _ _ _|exact ih2 _ _ _|exact impl_TraceOf.mono _ _ _|exact laws_eqIntS.mono _ _ _|exact laws_eqOrder.mono _ _ _ _ _|exact laws_heldIntS.mono _ _ _|exact laws_markIntS.mono _ _ _|exact laws_markOrder.mono _ _ _ _|exact laws_toOrder.mono _ _ _|exact spec_TraceOf.mono _ _ _|exact LeO.refl _|exact LeO.none _|refine LeO.ite ?_ ?_|refine LeO.bind ?_ (fun _ => ?_))
theorem laws_FnExactTraceOf.mono : ∀ a0 a1 k, LeO (laws_FnExactTraceOf.f k a0 a1) (laws_FnExactTraceOf.f (k + 1) a0 a1) := by
 intro a0 a1 k
 obtain ⟨ih0, ih1, ih2⟩ := laws_FnExactTraceOf.mono_l k
 unfold laws_FnExactTraceOf.f
 repeat' (with_reducible first|exact ih0 _ _ _ _ _ _ _ _ _|exact ih1 _ _ _ _ _ _|exact ih2 _ _ _|exact impl_TraceOf.mono _ _ _|exact laws_eqIntS.mono _ _ _|exact laws_eqOrder.mono _ _ _ _ _|exact laws_heldIntS.mono _ _ _|exact laws_markIntS.mono _ _ _|exact laws_markOrder.mono _ _ _ _|exact laws_toOrder.mono _ _ _|exact spec_TraceOf.mono _ _ _|exact LeO.refl _|exact LeO.none _|refine LeO.ite ?_ ?_|refine LeO.bind ?_ (fun _ => ?_))
theorem laws_FnExactTraceOf.calls (k : Nat) (a0_0 : Int) (A0_1 : Option Addr) (c0_1 : Nat) (l0_1 : List Int) (r : Bool) (w : World) (hr0_1 : Kd.C (Kd.int .i64) w A0_1 l0_1.length l0_1) (hc0_1 : l0_1.length ≤ c0_1) (hTAB : Tab w) (h : laws_FnExactTraceOf.f k a0_0 l0_1 = some r) :
  Calls Tryd.prog 5 #[.agg #[.int .i64 a0_0, .slice A0_1 l0_1.length c0_1]] w fun e w' => e = .returned (.bool r) ∧ Below w.heap.size w w' := by
 have HTAB := Aside0.mk hTAB
 clear hTAB
 have hu24 := Tryd.underlying24
 have hu28 := Tryd.underlying28
 have HR0_1 := Aside0.mk hr0_1
 have HC0_1 := Aside0.mk hc0_1
 clear hr0_1 hc0_1
 have HB := Aside0.mk (Below.refl w.heap.size w)
 have H : ((laws_szOrder.f a0_0 l0_1 1048576).bind fun t766 => (if t766 < 0 then (some true) else ((laws_toOrder.f k a0_0 l0_1).bind fun bt767 => ((spec_TraceOf.f k bt767.1 bt767.2).bind fun bt771 => ((laws_toOrder.f k a0_0 l0_1).bind fun bt775 => ((impl_TraceOf.f k bt775.1 bt775.2).bind fun bt780 => ((laws_eqIntS.f k bt780.1 bt771.1).bind fun t784 => (if t784 = true then (laws_FnExactTraceOf.j0 k bt771.1 bt771.2 bt780.1 bt780.2 (bt780.2 != bt771.2) a0_0 l0_1 bt775.1 bt775.2) else (laws_FnExactTraceOf.j0 k bt771.1 bt771.2 bt780.1 bt780.2 true a0_0 l0_1 bt775.1 bt775.2))))))))) = some r := h
 clear h
 obtain ⟨t766, A2, H⟩ := obE H
 rcases iteE H with ⟨c3b0, H⟩ | ⟨c3b0, H⟩
 ·obtain rfl := Option.some.inj H
  go_enter Tryd.func5, Tryd.ntmps5
  go_wp2_with (first | ((with_reducible refine gate_dst (N := 1) rfl ?_); refine boxE (N := 1) (cs := #[.int .i64 a0_0, .slice A0_1 l0_1.length c0_1]) (t := 24) ?_; intro gb765 hg w4 hbox hb; have BK765 := Aside0.mk (hbox); have GE765 := geB HB hg; replace HB := bst HB hb; clear hb hbox hg; obtain ⟨hcz5_0, hcz5_1, hfz5_0, hfz5_1⟩ := blk2 BK765) | ((with_reducible refine gate_callee (f := 6) rfl ?_); refine goesQ (some 16) Tryd.func6 #[.agg #[.int .i64 a0_0, .slice A0_1 l0_1.length c0_1], .int .i64 1048576] ?_; (with_reducible refine (laws_szOrder.calls a0_0 _ _ l0_1 1048576 t766 _ ?side1 ?side2 A2.out).mono ?_); (case side1 => exact C_g HR0_1 HB); (case side2 => exact HC0_1.out); rintro e w6 ⟨rfl, hb⟩; refine ⟨_, rfl, ?_⟩; replace BK765 := blkB BK765 hb; replace HB := bst HB hb; (try clear hb); (try clear hk)))
  go_ret
  exact ⟨eqE, bel_g HB.out⟩
 ·obtain ⟨⟨t767, t768⟩, A7, H⟩ := obE H
  dsimp only at H
  obtain ⟨⟨t771, t774⟩, A8, H⟩ := obE H
  dsimp only at H
  obtain ⟨⟨t775, t776⟩, A9, H⟩ := obE H
  dsimp only at H
  obtain ⟨⟨t780, t783⟩, A10, H⟩ := obE H
  dsimp only at H
  have HC11 := Aside0.mk H
  clear H
  go_enter Tryd.func5, Tryd.ntmps5
  go_upto_region 8 with (first | ((with_reducible refine gate_dst (N := 1) rfl ?_); refine boxE (N := 1) (cs := #[.int .i64 a0_0, .slice A0_1 l0_1.length c0_1]) (t := 24) ?_; intro gb765 hg w12 hbox hb; have BK765 := Aside0.mk (hbox); have GE765 := geB HB hg; replace HB := bst HB hb; clear hb hbox hg; obtain ⟨hcz13_0, hcz13_1, hfz13_0, hfz13_1⟩ := blk2 BK765) | ((with_reducible refine gate_callee (f := 6) rfl ?_); refine goesQ (some 16) Tryd.func6 #[.agg #[.int .i64 a0_0, .slice A0_1 l0_1.length c0_1], .int .i64 1048576] ?_; (with_reducible refine (laws_szOrder.calls a0_0 _ _ l0_1 1048576 t766 _ ?side1 ?side2 A2.out).mono ?_); (case side1 => exact C_g HR0_1 HB); (case side2 => exact HC0_1.out); rintro e w14 ⟨rfl, hb⟩; refine ⟨_, rfl, ?_⟩; replace BK765 := blkB BK765 hb; replace HB := bst HB hb; (try clear hb); (try clear hk); obtain ⟨hcz15_0, hcz15_1, hfz15_0, hfz15_1⟩ := blk2 BK765) | ((with_reducible refine gate_callee (f := 8) rfl ?_); refine goesQ (some 21) Tryd.func8 #[.agg #[.int .i64 a0_0, .slice A0_1 l0_1.length c0_1]] ?_; (with_reducible refine (laws_toOrder.calls k a0_0 _ _ l0_1 t767 t768 _ ?side1 ?side2 A7.out).mono ?_); (case side1 => exact C_g HR0_1 HB); (case side2 => exact HC0_1.out); rintro e w16 ⟨v769, rfl, ho0, hb⟩; refine ⟨_, rfl, ?_⟩; have HO770 := Aside0.mk (Kd.R_lower ho0 (below_size (bel_g HB.out))); replace BK765 := blkB BK765 hb; replace HB := bst HB hb; (try clear hb); (try clear hk); (try clear ho0); obtain ⟨Ao17, co17, eo17⟩ := Kd.R_slice HO770.out; subst eo17) | ((with_reducible refine gate_callee (f := 17) rfl ?_); refine goesQ (some 22) Tryd.func17 #[.agg #[.int .i64 t767, .slice Ao17 t768.length co17]] ?_; (with_reducible refine (spec_TraceOf.calls k t767 _ _ t768 t771 t774 _ ?side1 ?side2 A8.out).mono ?_); (case side1 => repeat (first | exact (Kd.R_reads' HO770.out).2.2 | (with_reducible refine Kd.C_alloc ?_ _) | (with_reducible refine Kd.C_drewN ?_ _) | (with_reducible refine Kd.C_drew ?_))); (case side2 => exact (Kd.R_reads' HO770.out).2.1); rintro e w18 ⟨v772, rfl, ho0, hb⟩; refine ⟨_, rfl, ?_⟩; have HO773 := Aside0.mk (Kd.R_lower (Kd.R_new' ho0 (Kd.R_lt (Kd.R_g HO770.out))) (below_size (bel_g HB.out))); replace HO770 := Aside0.mk (Kd.R_elder' (Kd.R_g HO770.out) (Kd.R_base ho0) hb); replace BK765 := blkB BK765 hb; replace HB := bst HB hb; (try clear hb); (try clear hk); (try clear ho0); obtain ⟨hcz19_0, hcz19_1, hfz19_0, hfz19_1⟩ := blk2 BK765) | ((with_reducible refine gate_callee (f := 8) rfl ?_); refine goesQ (some 26) Tryd.func8 #[.agg #[.int .i64 a0_0, .slice A0_1 l0_1.length c0_1]] ?_; (with_reducible refine (laws_toOrder.calls k a0_0 _ _ l0_1 t775 t776 _ ?side1 ?side2 A9.out).mono ?_); (case side1 => exact C_g HR0_1 HB); (case side2 => exact HC0_1.out); rintro e w20 ⟨v777, rfl, ho0, hb⟩; refine ⟨_, rfl, ?_⟩; have HO778 := Aside0.mk (Kd.R_lower (Kd.R_new' (Kd.R_new' ho0 (Kd.R_lt (Kd.R_g HO770.out))) (Kd.R_lt (Kd.R_g HO773.out))) (below_size (bel_g HB.out))); replace HO770 := Aside0.mk (Kd.R_elder' (Kd.R_g HO770.out) (Kd.R_base ho0) hb); replace HO773 := Aside0.mk (Kd.R_elder' (Kd.R_g HO773.out) (Kd.R_base ho0) hb); replace BK765 := blkB BK765 hb; replace HB := bst HB hb; (try clear hb); (try clear hk); (try clear ho0)) | ((with_reducible refine gate_dst (N := 6) rfl ?_); refine boxE (N := 6) (cs := #[.int .i64 0, .slice none 0 0]) (t := 28) ?_; intro gb779 hg w21 hbox hb; replace HO770 := Aside0.mk (Kd.R_below (Kd.R_g HO770.out) hb); replace HO773 := Aside0.mk (Kd.R_below (Kd.R_g HO773.out) hb); replace HO778 := Aside0.mk (Kd.R_below (Kd.R_g HO778.out) hb); have BK779 := Aside0.mk (hbox); have GE779 := geB HB hg; have NB765_779 := neL BK765 hg; have NB779_765 := neR BK765 hg; replace BK765 := blkB BK765 hb; replace HB := bst HB hb; clear hb hbox hg; have hnb22 := NB779_765.out; have hnc22 := NB765_779.out; obtain ⟨hcz23_0, hcz23_1, hfz23_0, hfz23_1⟩ := blk2 BK779; obtain ⟨Ao24, co24, eo24⟩ := Kd.R_slice HO778.out; subst eo24) | ((with_reducible refine gate_callee (f := 18) rfl ?_); refine goesQ (some 29) Tryd.func18 #[.agg #[.int .i64 t775, .slice Ao24 t776.length co24]] ?_; (with_reducible refine (impl_TraceOf.calls k t775 _ _ t776 t780 t783 _ ?side1 ?side2 ?side3 A10.out).mono ?_); (case side1 => refine (Kd.R_reads' (e := 3) (base := w.heap.size) (ok := fun k_ => ((True ∧ some k_ ≠ (.slice Ao17 t768.length co17 : Value).ownBlock) ∧ some k_ ≠ (v772 : Value).ownBlock)) (n := t776.length) (c := co24) ?_).2.2; exact (Kd.R_g ((Kd.R_mono (Kd.R_far (p := ⟨gb779, 1, none⟩) (Kd.R_far (p := ⟨gb779, 0, none⟩) (Kd.R_types HO778.out BK779.out (by decide)) (fun _ hk => hk.2) (.int .i64 t775)) (fun _ hk => hk.2) (.slice Ao24 t776.length co24)) (fun _ h_ => h_.1))))); (case side2 => exact (Kd.R_reads' HO778.out).2.1); (case side3 => first | exact HTAB.out | exact Tab.drewN HTAB.out _ | exact Tab.below HTAB.out (bel_g HB.out) | exact Tab.below HTAB.out (by repeat (first | exact Below.refl _ _ | apply below_alloc | apply pw_below_drewN | apply below_drew1))); rintro e w25 ⟨v781, rfl, ho0, hb⟩; refine ⟨_, rfl, ?_⟩; have HO782 := Aside0.mk (Kd.R_lower (Kd.R_new' (Kd.R_new' (Kd.R_new' ho0 (Kd.R_lt (Kd.R_g ((Kd.R_mono (Kd.R_far (p := ⟨gb779, 1, none⟩) (Kd.R_far (p := ⟨gb779, 0, none⟩) (Kd.R_types HO770.out BK779.out (by decide)) (fun _ hk => hk.2) (.int .i64 t775)) (fun _ hk => hk.2) (.slice Ao24 t776.length co24)) (fun _ h_ => h_.1)))))) (Kd.R_lt (Kd.R_g ((Kd.R_mono (Kd.R_far (p := ⟨gb779, 1, none⟩) (Kd.R_far (p := ⟨gb779, 0, none⟩) (Kd.R_types HO773.out BK779.out (by decide)) (fun _ hk => hk.2) (.int .i64 t775)) (fun _ hk => hk.2) (.slice Ao24 t776.length co24)) (fun _ h_ => h_.1)))))) (Kd.R_lt (Kd.R_g ((Kd.R_mono (Kd.R_far (p := ⟨gb779, 1, none⟩) (Kd.R_far (p := ⟨gb779, 0, none⟩) (Kd.R_types HO778.out BK779.out (by decide)) (fun _ hk => hk.2) (.int .i64 t775)) (fun _ hk => hk.2) (.slice Ao24 t776.length co24)) (fun _ h_ => h_.1)))))) (below_size (bel_g HB.out))); replace HO770 := Aside0.mk (Kd.R_elder' (Kd.R_g ((Kd.R_mono (Kd.R_far (p := ⟨gb779, 1, none⟩) (Kd.R_far (p := ⟨gb779, 0, none⟩) (Kd.R_types HO770.out BK779.out (by decide)) (fun _ hk => hk.2) (.int .i64 t775)) (fun _ hk => hk.2) (.slice Ao24 t776.length co24)) (fun _ h_ => h_.1)))) (Kd.R_base ho0) hb); replace HO773 := Aside0.mk (Kd.R_elder' (Kd.R_g ((Kd.R_mono (Kd.R_far (p := ⟨gb779, 1, none⟩) (Kd.R_far (p := ⟨gb779, 0, none⟩) (Kd.R_types HO773.out BK779.out (by decide)) (fun _ hk => hk.2) (.int .i64 t775)) (fun _ hk => hk.2) (.slice Ao24 t776.length co24)) (fun _ h_ => h_.1)))) (Kd.R_base ho0) hb); replace HO778 := Aside0.mk (Kd.R_elder' (Kd.R_g ((Kd.R_mono (Kd.R_far (p := ⟨gb779, 1, none⟩) (Kd.R_far (p := ⟨gb779, 0, none⟩) (Kd.R_types HO778.out BK779.out (by decide)) (fun _ hk => hk.2) (.int .i64 t775)) (fun _ hk => hk.2) (.slice Ao24 t776.length co24)) (fun _ h_ => h_.1)))) (Kd.R_base ho0) hb); replace BK765 := Aside0.mk (blk_below (g := gb765) (o := .cells #[.int .i64 a0_0, .slice A0_1 l0_1.length c0_1] 24 (0, 0)) (by (with_reducible repeat (first | refine blk_drewN ?_ _ | refine blk_drew ?_ | refine blk_alloc ?_ _)); refine blk_far ?_ NB765_779.out _; (with_reducible repeat (first | refine blk_drewN ?_ _ | refine blk_drew ?_ | refine blk_alloc ?_ _)); refine blk_far ?_ NB765_779.out _; (with_reducible repeat (first | refine blk_drewN ?_ _ | refine blk_drew ?_ | refine blk_alloc ?_ _)); exact BK765.out) hb); replace BK779 := Aside0.mk (blk_below (g := gb779) (o := .cells #[.int .i64 t775, .slice Ao24 t776.length co24] 28 (0, 0)) (by (with_reducible repeat (first | refine blk_drewN ?_ _ | refine blk_drew ?_ | refine blk_alloc ?_ _)); refine blk_put (cs := #[.int .i64 t775, .slice none 0 0]) ?_ 1 _ rfl; (with_reducible repeat (first | refine blk_drewN ?_ _ | refine blk_drew ?_ | refine blk_alloc ?_ _)); refine blk_put (cs := #[.int .i64 0, .slice none 0 0]) ?_ 0 _ rfl; (with_reducible repeat (first | refine blk_drewN ?_ _ | refine blk_drew ?_ | refine blk_alloc ?_ _)); exact BK779.out) hb); replace HB := bst HB hb; (try clear hb); (try clear hk); (try clear ho0)))
  (try simp only [Act.put, List.setIfInBounds_toArray, List.set_cons_zero, List.set_cons_succ])
  go_cut [40] (fun v40 wc => ∃ (kq : Nat) (x40_10 : Bool), v40 = .bool x40_10 ∧ Aside0 (laws_FnExactTraceOf.j0 kq t771 t774 t780 t783 x40_10 a0_0 l0_1 t775 t776 = some r) ∧ Aside0 (kq ≤ k) ∧ Aside0 (Kd.R (Kd.int .i64) 3 wc w.heap.size (fun k_ => some k_ ≠ (v781 : Value).ownBlock ∧ some k_ ≠ ((.slice Ao24 t776.length co24) : Value).ownBlock) v772 t771) ∧ Aside0 (Kd.R (Kd.int .i64) 3 wc w.heap.size (fun k_ => some k_ ≠ (v772 : Value).ownBlock ∧ some k_ ≠ ((.slice Ao24 t776.length co24) : Value).ownBlock) v781 t780) ∧ Aside0 (Kd.R (Kd.int .i64) 3 wc w.heap.size (fun k_ => some k_ ≠ (v772 : Value).ownBlock ∧ some k_ ≠ (v781 : Value).ownBlock) (.slice Ao24 t776.length co24) t776) ∧ Aside0 (wc.heap[gb765]? = some (.cells #[.int .i64 a0_0, (.slice A0_1 l0_1.length c0_1)] 24 (0, 0))) ∧ Aside0 (wc.heap[gb779]? = some (.cells #[.int .i64 t775, (.slice Ao24 t776.length co24)] 28 (0, 0))) ∧ Aside0 (Below w.heap.size w wc))
  case first =>
   have H := HC11.out
   clear HC11
   obtain ⟨t784, A26, H⟩ := obE H
   by_cases c27 : t784 = true
   ·subst c27
    replace H := ifT H
    have H' := Aside0.mk H
    clear H
    obtain ⟨Ao28, co28, eo28⟩ := Kd.R_slice HO782.out
    subst eo28
    obtain ⟨Ao29, co29, eo29⟩ := Kd.R_slice HO773.out
    subst eo29
    go_wp2_with (first | ((with_reducible refine gate_callee (f := 10) rfl ?_); refine goesQ (some 34) Tryd.func10 #[.slice Ao28 t780.length co28, .slice Ao29 t771.length co29] ?_; (with_reducible refine (laws_eqIntS.calls k _ _ t780 _ _ t771 true _ ?side1 ?side2 ?side3 ?side4 A26.out).mono ?_); (case side1 => repeat (first | exact (Kd.R_reads' HO782.out).2.2 | (with_reducible refine Kd.C_alloc ?_ _) | (with_reducible refine Kd.C_drewN ?_ _) | (with_reducible refine Kd.C_drew ?_))); (case side2 => exact (Kd.R_reads' HO782.out).2.1); (case side3 => repeat (first | exact (Kd.R_reads' HO773.out).2.2 | (with_reducible refine Kd.C_alloc ?_ _) | (with_reducible refine Kd.C_drewN ?_ _) | (with_reducible refine Kd.C_drew ?_))); (case side4 => exact (Kd.R_reads' HO773.out).2.1); rintro e w' ⟨rfl, ⟨nd, rfl⟩⟩; refine ⟨_, rfl, ?_⟩))
    go_meet
    case rel => exact ⟨_, ((t783 != t774)), eqS, H', ⟨by first | omega | exact Nat.le_refl _⟩, ⟨Kd.R_g (Kd.R_mono HO773.out (fun _ hk => ⟨hk.2, hk.1.2⟩))⟩, ⟨Kd.R_g (Kd.R_mono HO782.out (fun _ hk => ⟨hk.1.2, hk.2⟩))⟩, ⟨Kd.R_g (Kd.R_mono HO778.out (fun _ hk => ⟨hk.1.2, hk.2⟩))⟩, ⟨blk_g BK765.out⟩, ⟨blk_g BK779.out⟩, ⟨bel_g HB.out⟩⟩
   ·replace c27 := Bool.eq_false_iff.mpr c27
    subst c27
    replace H := ifF H
    have H' := Aside0.mk H
    clear H
    obtain ⟨Ao30, co30, eo30⟩ := Kd.R_slice HO782.out
    subst eo30
    obtain ⟨Ao31, co31, eo31⟩ := Kd.R_slice HO773.out
    subst eo31
    go_wp2_with (first | ((with_reducible refine gate_callee (f := 10) rfl ?_); refine goesQ (some 34) Tryd.func10 #[.slice Ao30 t780.length co30, .slice Ao31 t771.length co31] ?_; (with_reducible refine (laws_eqIntS.calls k _ _ t780 _ _ t771 false _ ?side1 ?side2 ?side3 ?side4 A26.out).mono ?_); (case side1 => repeat (first | exact (Kd.R_reads' HO782.out).2.2 | (with_reducible refine Kd.C_alloc ?_ _) | (with_reducible refine Kd.C_drewN ?_ _) | (with_reducible refine Kd.C_drew ?_))); (case side2 => exact (Kd.R_reads' HO782.out).2.1); (case side3 => repeat (first | exact (Kd.R_reads' HO773.out).2.2 | (with_reducible refine Kd.C_alloc ?_ _) | (with_reducible refine Kd.C_drewN ?_ _) | (with_reducible refine Kd.C_drew ?_))); (case side4 => exact (Kd.R_reads' HO773.out).2.1); rintro e w' ⟨rfl, ⟨nd, rfl⟩⟩; refine ⟨_, rfl, ?_⟩))
    go_meet
    case rel => exact ⟨_, (true), eqS, H', ⟨by first | omega | exact Nat.le_refl _⟩, ⟨Kd.R_g (Kd.R_mono HO773.out (fun _ hk => ⟨hk.2, hk.1.2⟩))⟩, ⟨Kd.R_g (Kd.R_mono HO782.out (fun _ hk => ⟨hk.1.2, hk.2⟩))⟩, ⟨Kd.R_g (Kd.R_mono HO778.out (fun _ hk => ⟨hk.1.2, hk.2⟩))⟩, ⟨blk_g BK765.out⟩, ⟨blk_g BK779.out⟩, ⟨bel_g HB.out⟩⟩
  case rest =>
   clear HC11
   try clear c3b0
   try clear c27
   try clear hcz13_0
   try clear hcz13_1
   try clear hcz15_0
   try clear hcz15_1
   try clear hcz19_0
   try clear hcz19_1
   try clear hcz23_0
   try clear hcz23_1
   try clear hcz5_0
   try clear hcz5_1
   try clear hfz13_0
   try clear hfz13_1
   try clear hfz15_0
   try clear hfz15_1
   try clear hfz19_0
   try clear hfz19_1
   try clear hfz23_0
   try clear hfz23_1
   try clear hfz5_0
   try clear hfz5_1
   obtain ⟨kq, x40_10, rfl, HA, HJ10, HO_4, HO_7, HO_780001, BK765, BK779, HB⟩ := hcut
   cases kq with
   | zero => exact absurd HA.out (by simp [laws_FnExactTraceOf.j0])
   | succ kj10 =>
    have H := HA.out
    clear HA
    simp only [laws_FnExactTraceOf.j0] at H
    by_cases c32 : x40_10 = true
    ·subst c32
     replace H := ifT H
     obtain rfl := Option.some.inj H
     go_wp2
     go_ret
     exact ⟨eqE, bel_g HB.out⟩
    ·replace c32 := Bool.eq_false_iff.mpr c32
     subst c32
     replace H := ifF H
     obtain ⟨⟨t785, t786⟩, A33, H⟩ := obE H
     dsimp only at H
     obtain ⟨t789, A34, H⟩ := obE H
     by_cases c35 : t789 = true
     ·subst c35
      replace H := ifT H
      obtain ⟨⟨t790, t791⟩, A36, H⟩ := obE H
      dsimp only at H
      have HC37 := Aside0.mk H
      clear H
      try go_wp2
      replace HO_4 := Aside0.mk (Kd.R_drew HO_4.out)
      replace HO_7 := Aside0.mk (Kd.R_drew HO_7.out)
      replace HO_780001 := Aside0.mk (Kd.R_drew HO_780001.out)
      replace BK765 := Aside0.mk (blk_drew BK765.out)
      replace BK779 := Aside0.mk (blk_drew BK779.out)
      replace HB := Aside0.mk (below_drew1 HB.out)
      refine start_ (n := 5) (S := fun w' => w'.cell? ⟨gb779, 0, none⟩ = some (.int .i64 t775) ∧ w'.cell? ⟨gb779, 1, none⟩ = some (.slice Ao24 t776.length co24) ∧ w'.cell? ⟨gb765, 0, none⟩ = some (.int .i64 a0_0) ∧ w'.cell? ⟨gb765, 1, none⟩ = some (.slice A0_1 l0_1.length c0_1)) (ds := []) (bm 5 0) (by kernel_rfl) rfl (by kernel_rfl) ⟨(blk_cell BK779.out 0).trans rfl, (blk_cell BK779.out 1).trans rfl, (blk_cell BK765.out 0).trans rfl, (blk_cell BK765.out 1).trans rfl⟩ (fun hHeld => ?_)
      generalize wc.drew = w38 at HO_4 HO_7 HO_780001 BK765 BK779 HB hHeld ⊢
      refine take_ (i := 0) (N := some 41) (v := ?_) (a' := ?_) (bm 5 1) rfl rfl (by kernel_rfl) (fun _ _ _ h => h) (Or.inl ⟨by rfl, ?_⟩) hHeld ?_ ?_
      rotate_left
      ·rintro w' ⟨s0, s1, s2, s3⟩
       go_simp
       with_reducible rfl
      rotate_left
      ·simp only [Act.put, List.setIfInBounds_toArray, List.set_cons_zero, List.set_cons_succ, i64_w, i32_w]
       rfl
      refine take_ (i := 1) (N := some 42) (v := ?_) (a' := ?_) (bm 5 3) rfl rfl (by kernel_rfl) (fun _ _ _ h => h) (Or.inl ⟨by rfl, ?_⟩) hHeld ?_ ?_
      rotate_left
      ·rintro w' ⟨s0, s1, s2, s3⟩
       go_simp
       with_reducible rfl
      rotate_left
      ·simp only [Act.put, List.setIfInBounds_toArray, List.set_cons_zero, List.set_cons_succ, i64_w, i32_w]
       rfl
      refine one_ (i := 2) (N := some 43) (bm 5 7) rfl rfl (by kernel_rfl) (by decide) (fun K hK => ?_)
      refine goesR Tryd.func8 #[.agg #[.int .i64 a0_0, .slice A0_1 l0_1.length c0_1]] ?_
      with_reducible refine (laws_toOrder.calls kj10 a0_0 _ _ l0_1 t785 t786 _ ?side1 ?side2 A33.out).mono ?_
      (case side1 => exact C_g HR0_1 HB)
      (case side2 => exact HC0_1.out)
      rintro e w39 ⟨v787, rfl, ho0, hb⟩
      refine ⟨_, rfl, ?_⟩
      have HO788 := Aside0.mk (Kd.R_lower (Kd.R_new' (Kd.R_new' (Kd.R_new' ho0 (Kd.R_lt (Kd.R_g HO_4.out))) (Kd.R_lt (Kd.R_g HO_7.out))) (Kd.R_lt (Kd.R_g HO_780001.out))) (below_size (bel_g HB.out)))
      replace HO_4 := Aside0.mk (Kd.R_elder' (Kd.R_g HO_4.out) (Kd.R_base ho0) hb)
      replace HO_7 := Aside0.mk (Kd.R_elder' (Kd.R_g HO_7.out) (Kd.R_base ho0) hb)
      replace HO_780001 := Aside0.mk (Kd.R_elder' (Kd.R_g HO_780001.out) (Kd.R_base ho0) hb)
      replace BK765 := blkB BK765 hb
      replace BK779 := blkB BK779 hb
      replace HB := bst HB hb
      (try clear hb)
      (try clear hb2)
      (try clear hk)
      (try clear hi)
      (try clear ho0)
      obtain ⟨Ao40, co40, eo40⟩ := Kd.R_slice HO788.out
      (first | subst eo40 | (injection eo40 with f1_ f2_ f3_; have f4_ := f1_.symm; have f5_ := f3_.symm; clear f1_ f2_ f3_; subst f4_; subst f5_))
      refine hK.out _ _ ⟨(blk_cell BK779.out 0).trans rfl, (blk_cell BK779.out 1).trans rfl, (blk_cell BK765.out 0).trans rfl, (blk_cell BK765.out 1).trans rfl⟩ (fun hHeld => ?_)
      clear hK K
      refine normW 43 ?_
      refine one_ (i := 3) (N := some 44) (bm 5 15) rfl rfl (by kernel_rfl) (by decide) (fun K hK => ?_)
      refine goesR Tryd.func11 #[.agg #[.int .i64 t775, .slice Ao24 t776.length co24], .agg #[.int .i64 t785, .slice Ao40 t786.length co40]] ?_
      with_reducible refine (laws_eqOrder.calls kj10 t775 _ _ t776 t785 _ _ t786 true _ ?side1 ?side2 ?side3 ?side4 A34.out).mono ?_
      (case side1 => repeat (first | exact (Kd.R_reads' HO_780001.out).2.2 | (with_reducible refine Kd.C_alloc ?_ _) | (with_reducible refine Kd.C_drewN ?_ _) | (with_reducible refine Kd.C_drew ?_)))
      (case side2 => exact (Kd.R_reads' HO_780001.out).2.1)
      (case side3 => repeat (first | exact (Kd.R_reads' HO788.out).2.2 | (with_reducible refine Kd.C_alloc ?_ _) | (with_reducible refine Kd.C_drewN ?_ _) | (with_reducible refine Kd.C_drew ?_)))
      (case side4 => exact (Kd.R_reads' HO788.out).2.1)
      rintro e w41 ⟨rfl, hb⟩
      refine ⟨_, rfl, ?_⟩
      replace HO_4 := Aside0.mk (Kd.R_below (Kd.R_g HO_4.out) hb)
      replace HO_7 := Aside0.mk (Kd.R_below (Kd.R_g HO_7.out) hb)
      replace HO_780001 := Aside0.mk (Kd.R_below (Kd.R_g HO_780001.out) hb)
      replace HO788 := Aside0.mk (Kd.R_below (Kd.R_g HO788.out) hb)
      replace BK765 := blkB BK765 hb
      replace BK779 := blkB BK779 hb
      replace HB := bst HB hb
      (try clear hb)
      (try clear hb2)
      (try clear hk)
      (try clear hi)
      refine hK.out _ _ ⟨(blk_cell BK779.out 0).trans rfl, (blk_cell BK779.out 1).trans rfl, (blk_cell BK765.out 0).trans rfl, (blk_cell BK765.out 1).trans rfl⟩ (fun hHeld => ?_)
      clear hK K
      refine normW 44 ?_
      refine pure_ (i := 4) (N := some 45) (v := ?_) (a' := ?_) (bm 5 31) rfl rfl (by kernel_rfl) (fun _ _ _ h => h) (Or.inl ⟨by rfl, ?_⟩) ?_ ?_
      rotate_left
      ·intro w'
       go_simp
       with_reducible rfl
      rotate_left
      ·simp only [Act.put, List.setIfInBounds_toArray, List.set_cons_zero, List.set_cons_succ, i64_w, i32_w]
       rfl
      refine done_ (by kernel_rfl) ?_
      have hnb42 := NB779_765.out
      have hnc42 := NB765_779.out
      obtain ⟨hcz43_0, hcz43_1, hfz43_0, hfz43_1⟩ := blk2 BK779
      go_upto_region 14 with (first | ((with_reducible refine gate_callee (f := 12) rfl ?_); refine goesQ (some 48) Tryd.func12 #[.agg #[.int .i64 t775, .slice Ao24 t776.length co24], .int .i64 1] ?_; (with_reducible refine (laws_markOrder.calls kj10 t775 (fun k_ => some k_ = (.slice Ao24 t776.length co24 : Value).ownBlock) (.slice Ao24 t776.length co24) t776 1 t790 t791 w _ ?side1 ?side2 A36.out).mono ?_); (case side1 => exact bel_g HB.out); (case side2 => exact Kd.R_tight rfl HO_780001.out); rintro e w44 ⟨rfl, hy0, hb, hkp⟩; refine ⟨_, rfl, ?_⟩; replace HO_4 := Aside0.mk (Kd.R_mono (ok' := fun k_ => some k_ ≠ (v781 : Value).ownBlock ∧ some k_ ≠ (.slice Ao24 t776.length co24 : Value).ownBlock ∧ some k_ ≠ (.slice Ao40 t786.length co40 : Value).ownBlock) (Kd.R_keptB (HO_4.out) hkp (fun k_ hk_ hs_ => (hk_.1.2) hs_)) (fun k_ hk_ => ⟨hk_.1.1.1, hk_.1.1.2, hk_.1.2⟩)); replace HO_7 := Aside0.mk (Kd.R_mono (ok' := fun k_ => some k_ ≠ (v772 : Value).ownBlock ∧ some k_ ≠ (.slice Ao24 t776.length co24 : Value).ownBlock ∧ some k_ ≠ (.slice Ao40 t786.length co40 : Value).ownBlock) (Kd.R_keptB (HO_7.out) hkp (fun k_ hk_ hs_ => (hk_.1.2) hs_)) (fun k_ hk_ => ⟨hk_.1.1.1, hk_.1.1.2, hk_.1.2⟩)); replace BK765 := Aside0.mk (blk_kept (blk_g BK765.out) hkp (fun hs_ => (fun e_ => (Kd.R_ne HO_780001.out BK765.out (by decide)) e_) hs_)); replace BK779 := Aside0.mk (blk_kept (blk_g BK779.out) hkp (fun hs_ => (fun e_ => (Kd.R_ne HO_780001.out BK779.out (by decide)) e_) hs_)); replace HO_780001 := Aside0.mk (Kd.R_reok rfl hy0 (fun k_ e_ => HO_780001.out.1 k_ e_)); replace HO788 := Aside0.mk (Kd.R_mono (ok' := fun k_ => some k_ ≠ (v772 : Value).ownBlock ∧ some k_ ≠ (v781 : Value).ownBlock ∧ some k_ ≠ (.slice Ao24 t776.length co24 : Value).ownBlock) (Kd.R_keptB (HO788.out) hkp (fun k_ hk_ hs_ => (hk_.2) hs_)) (fun k_ hk_ => ⟨hk_.1.1.1.2, hk_.1.1.2, hk_.1.2⟩)); replace HB := Aside0.mk (hb); (try clear hb); (try clear hkp); (try clear hy0)))
      (try simp only [Act.put, List.setIfInBounds_toArray, List.set_cons_zero, List.set_cons_succ])
      go_cut [61] (fun v61 wc => ∃ (kq : Nat) (x61_36 : Bool), v61 = .bool x61_36 ∧ Aside0 (laws_FnExactTraceOf.j1 kq t771 t774 t780 x61_36 a0_0 l0_1 = some r) ∧ Aside0 (kq ≤ kj10) ∧ Aside0 (Kd.R (Kd.int .i64) 3 wc w.heap.size (fun k_ => some k_ ≠ (v781 : Value).ownBlock) v772 t771) ∧ Aside0 (Kd.R (Kd.int .i64) 3 wc w.heap.size (fun k_ => some k_ ≠ (v772 : Value).ownBlock) v781 t780) ∧ Aside0 (wc.heap[gb765]? = some (.cells #[.int .i64 a0_0, (.slice A0_1 l0_1.length c0_1)] 24 (0, 0))) ∧ Aside0 (Below w.heap.size w wc))
      case first =>
       have H := HC37.out
       clear HC37
       rcases iteE H with ⟨c45b0, H⟩ | ⟨c45b0, H⟩
       ·(first | rw [c45b0] | (simp only [i64_w, i32_w]; rw [c45b0]) | skip)
        have H' := Aside0.mk H
        clear H
        go_wp2
        go_meet
        case rel => exact ⟨_, (true), eqS, H', ⟨by have := HJ10.out; first | omega | exact Nat.le_refl _⟩, ⟨Kd.R_g (Kd.R_mono HO_4.out (fun _ hk => hk.1))⟩, ⟨Kd.R_g (Kd.R_mono HO_7.out (fun _ hk => hk.1))⟩, ⟨blk_g BK765.out⟩, ⟨bel_g HB.out⟩⟩
       ·(first | rw [c45b0] | (simp only [i64_w, i32_w]; rw [c45b0]) | skip)
        obtain ⟨t792, A46, H⟩ := obE H
        by_cases c47 : t792 = true
        ·subst c47
         replace H := ifT H
         have H' := Aside0.mk H
         clear H
         obtain ⟨Ao48, co48, eo48⟩ := Kd.R_slice HO_7.out
         subst eo48
         obtain ⟨Ao49, co49, eo49⟩ := Kd.R_slice HO_4.out
         subst eo49
         go_wp2_with (first | (go_at_call 10; (with_reducible refine (laws_eqIntS.calls kj10 _ _ t780 _ _ t771 true _ ?side1 ?side2 ?side3 ?side4 A46.out).mono ?_); (case side1 => repeat (first | exact (Kd.R_reads' HO_7.out).2.2 | (with_reducible refine Kd.C_alloc ?_ _) | (with_reducible refine Kd.C_drewN ?_ _) | (with_reducible refine Kd.C_drew ?_))); (case side2 => exact (Kd.R_reads' HO_7.out).2.1); (case side3 => repeat (first | exact (Kd.R_reads' HO_4.out).2.2 | (with_reducible refine Kd.C_alloc ?_ _) | (with_reducible refine Kd.C_drewN ?_ _) | (with_reducible refine Kd.C_drew ?_))); (case side4 => exact (Kd.R_reads' HO_4.out).2.1); rintro e w' ⟨rfl, ⟨nd, rfl⟩⟩))
         go_meet
         case rel => exact ⟨_, ((t783 != t774)), eqS, H', ⟨by have := HJ10.out; first | omega | exact Nat.le_refl _⟩, ⟨Kd.R_g (Kd.R_mono HO_4.out (fun _ hk => hk.1))⟩, ⟨Kd.R_g (Kd.R_mono HO_7.out (fun _ hk => hk.1))⟩, ⟨blk_g BK765.out⟩, ⟨bel_g HB.out⟩⟩
        ·replace c47 := Bool.eq_false_iff.mpr c47
         subst c47
         replace H := ifF H
         have H' := Aside0.mk H
         clear H
         obtain ⟨Ao50, co50, eo50⟩ := Kd.R_slice HO_7.out
         subst eo50
         obtain ⟨Ao51, co51, eo51⟩ := Kd.R_slice HO_4.out
         subst eo51
         go_wp2_with (first | (go_at_call 10; (with_reducible refine (laws_eqIntS.calls kj10 _ _ t780 _ _ t771 false _ ?side1 ?side2 ?side3 ?side4 A46.out).mono ?_); (case side1 => repeat (first | exact (Kd.R_reads' HO_7.out).2.2 | (with_reducible refine Kd.C_alloc ?_ _) | (with_reducible refine Kd.C_drewN ?_ _) | (with_reducible refine Kd.C_drew ?_))); (case side2 => exact (Kd.R_reads' HO_7.out).2.1); (case side3 => repeat (first | exact (Kd.R_reads' HO_4.out).2.2 | (with_reducible refine Kd.C_alloc ?_ _) | (with_reducible refine Kd.C_drewN ?_ _) | (with_reducible refine Kd.C_drew ?_))); (case side4 => exact (Kd.R_reads' HO_4.out).2.1); rintro e w' ⟨rfl, ⟨nd, rfl⟩⟩))
         go_meet
         case rel => exact ⟨_, (true), eqS, H', ⟨by have := HJ10.out; first | omega | exact Nat.le_refl _⟩, ⟨Kd.R_g (Kd.R_mono HO_4.out (fun _ hk => hk.1))⟩, ⟨Kd.R_g (Kd.R_mono HO_7.out (fun _ hk => hk.1))⟩, ⟨blk_g BK765.out⟩, ⟨bel_g HB.out⟩⟩
      case rest =>
       clear HC37
       try clear c3b0
       try clear c27
       try clear c32
       try clear c35
       try clear c45b0
       try clear c47
       try clear hcz13_0
       try clear hcz13_1
       try clear hcz15_0
       try clear hcz15_1
       try clear hcz19_0
       try clear hcz19_1
       try clear hcz23_0
       try clear hcz23_1
       try clear hcz43_0
       try clear hcz43_1
       try clear hcz5_0
       try clear hcz5_1
       try clear hfz13_0
       try clear hfz13_1
       try clear hfz15_0
       try clear hfz15_1
       try clear hfz19_0
       try clear hfz19_1
       try clear hfz23_0
       try clear hfz23_1
       try clear hfz43_0
       try clear hfz43_1
       try clear hfz5_0
       try clear hfz5_1
       obtain ⟨kq, x61_36, rfl, HA, HJ36, HO_4, HO_7, BK765, HB⟩ := hcut
       cases kq with
       | zero => exact absurd HA.out (by simp [laws_FnExactTraceOf.j1])
       | succ kj36 =>
        have H := HA.out
        clear HA
        simp only [laws_FnExactTraceOf.j1] at H
        by_cases c52 : x61_36 = true
        ·subst c52
         replace H := ifT H
         obtain rfl := Option.some.inj H
         go_wp2
         go_ret
         exact ⟨eqE, bel_g HB.out⟩
        ·replace c52 := Bool.eq_false_iff.mpr c52
         subst c52
         replace H := ifF H
         obtain ⟨⟨t793, t794⟩, A53, H⟩ := obE H
         dsimp only at H
         obtain ⟨t795, A54, H⟩ := obE H
         rcases iteE H with ⟨c55b0, H⟩ | ⟨c55b0, H⟩
         ·obtain rfl := Option.some.inj H
          obtain ⟨Ao56, co56, eo56⟩ := Kd.R_slice HO_7.out
          subst eo56
          go_wp2_with (first | ((with_reducible refine gate_callee (f := 13) rfl ?_); refine goesQ (some 64) Tryd.func13 #[.slice Ao56 t780.length co56, .int .i64 1] ?_; (with_reducible refine (laws_markIntS.calls kj36 (fun k_ => some k_ = (.slice Ao56 t780.length co56 : Value).ownBlock) (.slice Ao56 t780.length co56) t780 1 t793 t794 w _ ?side1 ?side2 A53.out).mono ?_); (case side1 => exact bel_g HB.out); (case side2 => exact Kd.R_tight rfl HO_7.out); rintro e w57 ⟨rfl, hy0, hb, hkp⟩; refine ⟨_, rfl, ?_⟩; replace HO_4 := Aside0.mk (Kd.R_mono (ok' := fun k_ => some k_ ≠ (.slice Ao56 t780.length co56 : Value).ownBlock) (Kd.R_keptB (HO_4.out) hkp (fun k_ hk_ hs_ => (hk_) hs_)) (fun k_ hk_ => hk_.1)); replace BK765 := Aside0.mk (blk_kept (blk_g BK765.out) hkp (fun hs_ => (fun e_ => (Kd.R_ne HO_7.out BK765.out (by decide)) e_) hs_)); replace HO_7 := Aside0.mk (Kd.R_reok rfl hy0 (fun k_ e_ => HO_7.out.1 k_ e_)); replace HB := Aside0.mk (hb); (try clear hb); (try clear hkp); (try clear hy0)) | ((with_reducible refine gate_callee (f := 14) rfl ?_); refine goesL_ (some 67) rfl rfl Tryd.func14 (by kernel_rfl) rfl #[.slice Ao56 t794.length co56, .int .i64 1] rfl (by (try simp only [List.map_toArray, List.map_cons, List.map_nil]); first | done | (rw [show t794.length = t780.length from (Kd.R_reads' HO_7.out).1.symm] <;> rfl) | rfl | (simp only [List.length_drop, List.length_take]; rfl)) ?_; (with_reducible refine (laws_heldIntS.calls kj36 _ _ t794 1 t795 _ ?side1 ?side2 A54.out).mono ?_); (case side1 => repeat (first | exact (Kd.R_reads' HO_7.out).2.2 | (with_reducible refine Kd.C_alloc ?_ _) | (with_reducible refine Kd.C_drewN ?_ _) | (with_reducible refine Kd.C_drew ?_))); (case side2 => rw [show t794.length = t780.length from (Kd.R_reads' HO_7.out).1.symm]; exact (Kd.R_reads' HO_7.out).2.1); rintro e w' ⟨rfl, ⟨nd, rfl⟩⟩; refine ⟨_, rfl, ?_⟩))
          go_ret
          exact ⟨eqE, bel_g HB.out⟩
         ·rcases iteP H with ⟨c58, H⟩ | ⟨c58, H⟩
          ·have c58b0 : (t795 == t793) = true := beq_iff_eq.mpr c58
           have c58b1 : (t795 != t793) = false := bne_eq_false_iff_eq.mpr c58
           clear c58
           obtain ⟨⟨t796, t797⟩, A59, H⟩ := obE H
           dsimp only at H
           obtain ⟨⟨t800, t803⟩, A60, H⟩ := obE H
           dsimp only at H
           have HC61 := Aside0.mk H
           clear H
           obtain ⟨Ao62, co62, eo62⟩ := Kd.R_slice HO_7.out
           subst eo62
           go_upto_region 25 with (first | ((with_reducible refine gate_callee (f := 13) rfl ?_); refine goesQ (some 64) Tryd.func13 #[.slice Ao62 t780.length co62, .int .i64 1] ?_; (with_reducible refine (laws_markIntS.calls kj36 (fun k_ => some k_ = (.slice Ao62 t780.length co62 : Value).ownBlock) (.slice Ao62 t780.length co62) t780 1 t793 t794 w _ ?side1 ?side2 A53.out).mono ?_); (case side1 => exact bel_g HB.out); (case side2 => exact Kd.R_tight rfl HO_7.out); rintro e w63 ⟨rfl, hy0, hb, hkp⟩; refine ⟨_, rfl, ?_⟩; replace HO_4 := Aside0.mk (Kd.R_mono (ok' := fun k_ => some k_ ≠ (.slice Ao62 t780.length co62 : Value).ownBlock) (Kd.R_keptB (HO_4.out) hkp (fun k_ hk_ hs_ => (hk_) hs_)) (fun k_ hk_ => hk_.1)); replace BK765 := Aside0.mk (blk_kept (blk_g BK765.out) hkp (fun hs_ => (fun e_ => (Kd.R_ne HO_7.out BK765.out (by decide)) e_) hs_)); replace HO_7 := Aside0.mk (Kd.R_reok rfl hy0 (fun k_ e_ => HO_7.out.1 k_ e_)); replace HB := Aside0.mk (hb); (try clear hb); (try clear hkp); (try clear hy0)) | ((with_reducible refine gate_callee (f := 14) rfl ?_); refine goesL_ (some 67) rfl rfl Tryd.func14 (by kernel_rfl) rfl #[.slice Ao62 t794.length co62, .int .i64 1] rfl (by (try simp only [List.map_toArray, List.map_cons, List.map_nil]); first | done | (rw [show t794.length = t780.length from (Kd.R_reads' HO_7.out).1.symm] <;> rfl) | rfl | (simp only [List.length_drop, List.length_take]; rfl)) ?_; (with_reducible refine (laws_heldIntS.calls kj36 _ _ t794 1 t795 _ ?side1 ?side2 A54.out).mono ?_); (case side1 => repeat (first | exact (Kd.R_reads' HO_7.out).2.2 | (with_reducible refine Kd.C_alloc ?_ _) | (with_reducible refine Kd.C_drewN ?_ _) | (with_reducible refine Kd.C_drew ?_))); (case side2 => rw [show t794.length = t780.length from (Kd.R_reads' HO_7.out).1.symm]; exact (Kd.R_reads' HO_7.out).2.1); rintro e w' ⟨rfl, ⟨nd, rfl⟩⟩; refine ⟨_, rfl, ?_⟩; obtain ⟨hcz64_0, hcz64_1, hfz64_0, hfz64_1⟩ := blk2 BK765) | ((with_reducible refine gate_callee (f := 8) rfl ?_); refine goesQ (some 75) Tryd.func8 #[.agg #[.int .i64 a0_0, .slice A0_1 l0_1.length c0_1]] ?_; (with_reducible refine (laws_toOrder.calls kj36 a0_0 _ _ l0_1 t796 t797 _ ?side1 ?side2 A59.out).mono ?_); (case side1 => repeat (first | exact (Kd.C_below HR0_1.out (bel_g HB.out)) | (with_reducible refine Kd.C_alloc ?_ _) | (with_reducible refine Kd.C_drewN ?_ _) | (with_reducible refine Kd.C_drew ?_))); (case side2 => exact HC0_1.out); rintro e w65 ⟨v798, rfl, ho0, hb⟩; refine ⟨_, rfl, ?_⟩; have HO799 := Aside0.mk (Kd.R_lower (Kd.R_new' (Kd.R_new' ho0 (Kd.R_lt (Kd.R_g HO_4.out))) (Kd.R_lt (Kd.R_g HO_7.out))) (below_size (bel_g HB.out))); replace HO_4 := Aside0.mk (Kd.R_elder' (Kd.R_g HO_4.out) (Kd.R_base ho0) hb); replace HO_7 := Aside0.mk (Kd.R_elder' (Kd.R_g HO_7.out) (Kd.R_base ho0) hb); replace BK765 := blkB BK765 hb; replace HB := bst HB hb; (try clear hb); (try clear hk); (try clear ho0); obtain ⟨Ao66, co66, eo66⟩ := Kd.R_slice HO799.out; subst eo66) | ((with_reducible refine gate_callee (f := 18) rfl ?_); refine goesQ (some 76) Tryd.func18 #[.agg #[.int .i64 t796, .slice Ao66 t797.length co66]] ?_; (with_reducible refine (impl_TraceOf.calls kj36 t796 _ _ t797 t800 t803 _ ?side1 ?side2 ?side3 A60.out).mono ?_); (case side1 => repeat (first | exact (Kd.R_reads' HO799.out).2.2 | (with_reducible refine Kd.C_alloc ?_ _) | (with_reducible refine Kd.C_drewN ?_ _) | (with_reducible refine Kd.C_drew ?_))); (case side2 => exact (Kd.R_reads' HO799.out).2.1); (case side3 => first | exact HTAB.out | exact Tab.drewN HTAB.out _ | exact Tab.below HTAB.out (bel_g HB.out) | exact Tab.below HTAB.out (by repeat (first | exact Below.refl _ _ | apply below_alloc | apply pw_below_drewN | apply below_drew1))); rintro e w67 ⟨v801, rfl, ho0, hb⟩; refine ⟨_, rfl, ?_⟩; have HO802 := Aside0.mk (Kd.R_lower (Kd.R_new' (Kd.R_new' (Kd.R_new' ho0 (Kd.R_lt (Kd.R_g HO_4.out))) (Kd.R_lt (Kd.R_g HO_7.out))) (Kd.R_lt (Kd.R_g HO799.out))) (below_size (bel_g HB.out))); replace HO_4 := Aside0.mk (Kd.R_elder' (Kd.R_g HO_4.out) (Kd.R_base ho0) hb); replace HO_7 := Aside0.mk (Kd.R_elder' (Kd.R_g HO_7.out) (Kd.R_base ho0) hb); replace HO799 := Aside0.mk (Kd.R_elder' (Kd.R_g HO799.out) (Kd.R_base ho0) hb); replace BK765 := blkB BK765 hb; replace HB := bst HB hb; (try clear hb); (try clear hk); (try clear ho0)))
           (try simp only [Act.put, List.setIfInBounds_toArray, List.set_cons_zero, List.set_cons_succ])
           go_cut [87] (fun v87 wc => ∃ (kq : Nat) (x87_60 : Bool), v87 = .bool x87_60 ∧ Aside0 (laws_FnExactTraceOf.j2 kq t794 t793 x87_60 = some r) ∧ Aside0 (kq ≤ kj36) ∧ Aside0 (Kd.R (Kd.int .i64) 3 wc w.heap.size (fun _ => True) (.slice Ao62 t780.length co62) t794) ∧ Aside0 (Below w.heap.size w wc))
           case first =>
            have H := HC61.out
            clear HC61
            obtain ⟨t804, A68, H⟩ := obE H
            by_cases c69 : t804 = true
            ·subst c69
             replace H := ifT H
             have H' := Aside0.mk H
             clear H
             obtain ⟨Ao70, co70, eo70⟩ := Kd.R_slice HO802.out
             subst eo70
             obtain ⟨Ao71, co71, eo71⟩ := Kd.R_slice HO_4.out
             subst eo71
             go_wp2_with (first | ((with_reducible refine gate_callee (f := 10) rfl ?_); refine goesQ (some 81) Tryd.func10 #[.slice Ao70 t800.length co70, .slice Ao71 t771.length co71] ?_; (with_reducible refine (laws_eqIntS.calls kj36 _ _ t800 _ _ t771 true _ ?side1 ?side2 ?side3 ?side4 A68.out).mono ?_); (case side1 => repeat (first | exact (Kd.R_reads' HO802.out).2.2 | (with_reducible refine Kd.C_alloc ?_ _) | (with_reducible refine Kd.C_drewN ?_ _) | (with_reducible refine Kd.C_drew ?_))); (case side2 => exact (Kd.R_reads' HO802.out).2.1); (case side3 => repeat (first | exact (Kd.R_reads' HO_4.out).2.2 | (with_reducible refine Kd.C_alloc ?_ _) | (with_reducible refine Kd.C_drewN ?_ _) | (with_reducible refine Kd.C_drew ?_))); (case side4 => exact (Kd.R_reads' HO_4.out).2.1); rintro e w' ⟨rfl, ⟨nd, rfl⟩⟩; refine ⟨_, rfl, ?_⟩))
             go_meet
             case rel => exact ⟨_, ((t803 != t774)), eqS, H', ⟨by have := HJ10.out; have := HJ36.out; first | omega | exact Nat.le_refl _⟩, ⟨Kd.R_g (Kd.R_mono HO_7.out (fun _ hk => trivial))⟩, ⟨bel_g HB.out⟩⟩
            ·replace c69 := Bool.eq_false_iff.mpr c69
             subst c69
             replace H := ifF H
             have H' := Aside0.mk H
             clear H
             obtain ⟨Ao72, co72, eo72⟩ := Kd.R_slice HO802.out
             subst eo72
             obtain ⟨Ao73, co73, eo73⟩ := Kd.R_slice HO_4.out
             subst eo73
             go_wp2_with (first | ((with_reducible refine gate_callee (f := 10) rfl ?_); refine goesQ (some 81) Tryd.func10 #[.slice Ao72 t800.length co72, .slice Ao73 t771.length co73] ?_; (with_reducible refine (laws_eqIntS.calls kj36 _ _ t800 _ _ t771 false _ ?side1 ?side2 ?side3 ?side4 A68.out).mono ?_); (case side1 => repeat (first | exact (Kd.R_reads' HO802.out).2.2 | (with_reducible refine Kd.C_alloc ?_ _) | (with_reducible refine Kd.C_drewN ?_ _) | (with_reducible refine Kd.C_drew ?_))); (case side2 => exact (Kd.R_reads' HO802.out).2.1); (case side3 => repeat (first | exact (Kd.R_reads' HO_4.out).2.2 | (with_reducible refine Kd.C_alloc ?_ _) | (with_reducible refine Kd.C_drewN ?_ _) | (with_reducible refine Kd.C_drew ?_))); (case side4 => exact (Kd.R_reads' HO_4.out).2.1); rintro e w' ⟨rfl, ⟨nd, rfl⟩⟩; refine ⟨_, rfl, ?_⟩))
             go_meet
             case rel => exact ⟨_, (true), eqS, H', ⟨by have := HJ10.out; have := HJ36.out; first | omega | exact Nat.le_refl _⟩, ⟨Kd.R_g (Kd.R_mono HO_7.out (fun _ hk => trivial))⟩, ⟨bel_g HB.out⟩⟩
           case rest =>
            clear HC61
            try clear c3b0
            try clear c27
            try clear c32
            try clear c35
            try clear c45b0
            try clear c47
            try clear c52
            try clear c55b0
            try clear c58
            try clear c58b0
            try clear c58b1
            try clear c69
            try clear hcz13_0
            try clear hcz13_1
            try clear hcz15_0
            try clear hcz15_1
            try clear hcz19_0
            try clear hcz19_1
            try clear hcz23_0
            try clear hcz23_1
            try clear hcz43_0
            try clear hcz43_1
            try clear hcz5_0
            try clear hcz5_1
            try clear hcz64_0
            try clear hcz64_1
            try clear hfz13_0
            try clear hfz13_1
            try clear hfz15_0
            try clear hfz15_1
            try clear hfz19_0
            try clear hfz19_1
            try clear hfz23_0
            try clear hfz23_1
            try clear hfz43_0
            try clear hfz43_1
            try clear hfz5_0
            try clear hfz5_1
            try clear hfz64_0
            try clear hfz64_1
            obtain ⟨kq, x87_60, rfl, HA, HJ60, HO_7, HB⟩ := hcut
            have hl7_60 := (Kd.R_reads' HO_7.out).1
            rw [hl7_60] at HO_7
            (try simp only [hl7_60])
            cases kq with
            | zero => exact absurd HA.out (by simp [laws_FnExactTraceOf.j2])
            | succ kj60 =>
             have H := HA.out
             clear HA
             simp only [laws_FnExactTraceOf.j2] at H
             by_cases c74 : x87_60 = true
             ·subst c74
              replace H := ifT H
              obtain rfl := Option.some.inj H
              go_wp2
              go_ret
              exact ⟨eqE, bel_g HB.out⟩
             ·replace c74 := Bool.eq_false_iff.mpr c74
              subst c74
              replace H := ifF H
              obtain ⟨t805, A75, H⟩ := obE H
              rcases iteE H with ⟨c76b0, H⟩ | ⟨c76b0, H⟩
              ·obtain rfl := Option.some.inj H
               go_wp2_with (first | ((with_reducible refine gate_callee (f := 14) rfl ?_); refine goesQ (some 90) Tryd.func14 #[.slice Ao62 t794.length co62, .int .i64 1] ?_; (with_reducible refine (laws_heldIntS.calls kj60 _ _ t794 1 t805 _ ?side1 ?side2 A75.out).mono ?_); (case side1 => repeat (first | exact (Kd.R_reads' HO_7.out).2.2 | (with_reducible refine Kd.C_alloc ?_ _) | (with_reducible refine Kd.C_drewN ?_ _) | (with_reducible refine Kd.C_drew ?_))); (case side2 => exact (Kd.R_reads' HO_7.out).2.1); rintro e w' ⟨rfl, ⟨nd, rfl⟩⟩; refine ⟨_, rfl, ?_⟩))
               go_ret
               exact ⟨eqE, bel_g HB.out⟩
              ·rcases iteP H with ⟨c77, H⟩ | ⟨c77, H⟩
               ·have c77b0 : (t805 == t793) = true := beq_iff_eq.mpr c77
                have c77b1 : (t805 != t793) = false := bne_eq_false_iff_eq.mpr c77
                clear c77
                obtain rfl := Option.some.inj H
                go_wp2_with (first | ((with_reducible refine gate_callee (f := 14) rfl ?_); refine goesQ (some 90) Tryd.func14 #[.slice Ao62 t794.length co62, .int .i64 1] ?_; (with_reducible refine (laws_heldIntS.calls kj60 _ _ t794 1 t805 _ ?side1 ?side2 A75.out).mono ?_); (case side1 => repeat (first | exact (Kd.R_reads' HO_7.out).2.2 | (with_reducible refine Kd.C_alloc ?_ _) | (with_reducible refine Kd.C_drewN ?_ _) | (with_reducible refine Kd.C_drew ?_))); (case side2 => exact (Kd.R_reads' HO_7.out).2.1); rintro e w' ⟨rfl, ⟨nd, rfl⟩⟩; refine ⟨_, rfl, ?_⟩))
                go_ret
                exact ⟨eqE, bel_g HB.out⟩
               ·have c77b0 : (t805 == t793) = false := beq_eq_false_iff_ne.mpr c77
                have c77b1 : (t805 != t793) = true := bne_iff_ne.mpr c77
                obtain rfl := Option.some.inj H
                go_wp2_with (first | ((with_reducible refine gate_callee (f := 14) rfl ?_); refine goesQ (some 90) Tryd.func14 #[.slice Ao62 t794.length co62, .int .i64 1] ?_; (with_reducible refine (laws_heldIntS.calls kj60 _ _ t794 1 t805 _ ?side1 ?side2 A75.out).mono ?_); (case side1 => repeat (first | exact (Kd.R_reads' HO_7.out).2.2 | (with_reducible refine Kd.C_alloc ?_ _) | (with_reducible refine Kd.C_drewN ?_ _) | (with_reducible refine Kd.C_drew ?_))); (case side2 => exact (Kd.R_reads' HO_7.out).2.1); rintro e w' ⟨rfl, ⟨nd, rfl⟩⟩; refine ⟨_, rfl, ?_⟩))
                go_ret
                exact ⟨eqE, bel_g HB.out⟩
          ·have c58b0 : (t795 == t793) = false := beq_eq_false_iff_ne.mpr c58
           have c58b1 : (t795 != t793) = true := bne_iff_ne.mpr c58
           obtain rfl := Option.some.inj H
           obtain ⟨Ao78, co78, eo78⟩ := Kd.R_slice HO_7.out
           subst eo78
           go_wp2_with (first | ((with_reducible refine gate_callee (f := 13) rfl ?_); refine goesQ (some 64) Tryd.func13 #[.slice Ao78 t780.length co78, .int .i64 1] ?_; (with_reducible refine (laws_markIntS.calls kj36 (fun k_ => some k_ = (.slice Ao78 t780.length co78 : Value).ownBlock) (.slice Ao78 t780.length co78) t780 1 t793 t794 w _ ?side1 ?side2 A53.out).mono ?_); (case side1 => exact bel_g HB.out); (case side2 => exact Kd.R_tight rfl HO_7.out); rintro e w79 ⟨rfl, hy0, hb, hkp⟩; refine ⟨_, rfl, ?_⟩; replace HO_4 := Aside0.mk (Kd.R_mono (ok' := fun k_ => some k_ ≠ (.slice Ao78 t780.length co78 : Value).ownBlock) (Kd.R_keptB (HO_4.out) hkp (fun k_ hk_ hs_ => (hk_) hs_)) (fun k_ hk_ => hk_.1)); replace BK765 := Aside0.mk (blk_kept (blk_g BK765.out) hkp (fun hs_ => (fun e_ => (Kd.R_ne HO_7.out BK765.out (by decide)) e_) hs_)); replace HO_7 := Aside0.mk (Kd.R_reok rfl hy0 (fun k_ e_ => HO_7.out.1 k_ e_)); replace HB := Aside0.mk (hb); (try clear hb); (try clear hkp); (try clear hy0)) | ((with_reducible refine gate_callee (f := 14) rfl ?_); refine goesL_ (some 67) rfl rfl Tryd.func14 (by kernel_rfl) rfl #[.slice Ao78 t794.length co78, .int .i64 1] rfl (by (try simp only [List.map_toArray, List.map_cons, List.map_nil]); first | done | (rw [show t794.length = t780.length from (Kd.R_reads' HO_7.out).1.symm] <;> rfl) | rfl | (simp only [List.length_drop, List.length_take]; rfl)) ?_; (with_reducible refine (laws_heldIntS.calls kj36 _ _ t794 1 t795 _ ?side1 ?side2 A54.out).mono ?_); (case side1 => repeat (first | exact (Kd.R_reads' HO_7.out).2.2 | (with_reducible refine Kd.C_alloc ?_ _) | (with_reducible refine Kd.C_drewN ?_ _) | (with_reducible refine Kd.C_drew ?_))); (case side2 => rw [show t794.length = t780.length from (Kd.R_reads' HO_7.out).1.symm]; exact (Kd.R_reads' HO_7.out).2.1); rintro e w' ⟨rfl, ⟨nd, rfl⟩⟩; refine ⟨_, rfl, ?_⟩))
           go_ret
           exact ⟨eqE, bel_g HB.out⟩
     ·replace c35 := Bool.eq_false_iff.mpr c35
      subst c35
      replace H := ifF H
      obtain rfl := Option.some.inj H
      try go_wp2
      replace HO_4 := Aside0.mk (Kd.R_drew HO_4.out)
      replace HO_7 := Aside0.mk (Kd.R_drew HO_7.out)
      replace HO_780001 := Aside0.mk (Kd.R_drew HO_780001.out)
      replace BK765 := Aside0.mk (blk_drew BK765.out)
      replace BK779 := Aside0.mk (blk_drew BK779.out)
      replace HB := Aside0.mk (below_drew1 HB.out)
      refine start_ (n := 5) (S := fun w' => w'.cell? ⟨gb779, 0, none⟩ = some (.int .i64 t775) ∧ w'.cell? ⟨gb779, 1, none⟩ = some (.slice Ao24 t776.length co24) ∧ w'.cell? ⟨gb765, 0, none⟩ = some (.int .i64 a0_0) ∧ w'.cell? ⟨gb765, 1, none⟩ = some (.slice A0_1 l0_1.length c0_1)) (ds := []) (bm 5 0) (by kernel_rfl) rfl (by kernel_rfl) ⟨(blk_cell BK779.out 0).trans rfl, (blk_cell BK779.out 1).trans rfl, (blk_cell BK765.out 0).trans rfl, (blk_cell BK765.out 1).trans rfl⟩ (fun hHeld => ?_)
      generalize wc.drew = w80 at HO_4 HO_7 HO_780001 BK765 BK779 HB hHeld ⊢
      refine take_ (i := 0) (N := some 41) (v := ?_) (a' := ?_) (bm 5 1) rfl rfl (by kernel_rfl) (fun _ _ _ h => h) (Or.inl ⟨by rfl, ?_⟩) hHeld ?_ ?_
      rotate_left
      ·rintro w' ⟨s0, s1, s2, s3⟩
       go_simp
       with_reducible rfl
      rotate_left
      ·simp only [Act.put, List.setIfInBounds_toArray, List.set_cons_zero, List.set_cons_succ, i64_w, i32_w]
       rfl
      refine take_ (i := 1) (N := some 42) (v := ?_) (a' := ?_) (bm 5 3) rfl rfl (by kernel_rfl) (fun _ _ _ h => h) (Or.inl ⟨by rfl, ?_⟩) hHeld ?_ ?_
      rotate_left
      ·rintro w' ⟨s0, s1, s2, s3⟩
       go_simp
       with_reducible rfl
      rotate_left
      ·simp only [Act.put, List.setIfInBounds_toArray, List.set_cons_zero, List.set_cons_succ, i64_w, i32_w]
       rfl
      refine one_ (i := 2) (N := some 43) (bm 5 7) rfl rfl (by kernel_rfl) (by decide) (fun K hK => ?_)
      refine goesR Tryd.func8 #[.agg #[.int .i64 a0_0, .slice A0_1 l0_1.length c0_1]] ?_
      with_reducible refine (laws_toOrder.calls kj10 a0_0 _ _ l0_1 t785 t786 _ ?side1 ?side2 A33.out).mono ?_
      (case side1 => exact C_g HR0_1 HB)
      (case side2 => exact HC0_1.out)
      rintro e w81 ⟨v787, rfl, ho0, hb⟩
      refine ⟨_, rfl, ?_⟩
      have HO788 := Aside0.mk (Kd.R_lower (Kd.R_new' (Kd.R_new' (Kd.R_new' ho0 (Kd.R_lt (Kd.R_g HO_4.out))) (Kd.R_lt (Kd.R_g HO_7.out))) (Kd.R_lt (Kd.R_g HO_780001.out))) (below_size (bel_g HB.out)))
      replace HO_4 := Aside0.mk (Kd.R_elder' (Kd.R_g HO_4.out) (Kd.R_base ho0) hb)
      replace HO_7 := Aside0.mk (Kd.R_elder' (Kd.R_g HO_7.out) (Kd.R_base ho0) hb)
      replace HO_780001 := Aside0.mk (Kd.R_elder' (Kd.R_g HO_780001.out) (Kd.R_base ho0) hb)
      replace BK765 := blkB BK765 hb
      replace BK779 := blkB BK779 hb
      replace HB := bst HB hb
      (try clear hb)
      (try clear hb2)
      (try clear hk)
      (try clear hi)
      (try clear ho0)
      obtain ⟨Ao82, co82, eo82⟩ := Kd.R_slice HO788.out
      (first | subst eo82 | (injection eo82 with f1_ f2_ f3_; have f4_ := f1_.symm; have f5_ := f3_.symm; clear f1_ f2_ f3_; subst f4_; subst f5_))
      refine hK.out _ _ ⟨(blk_cell BK779.out 0).trans rfl, (blk_cell BK779.out 1).trans rfl, (blk_cell BK765.out 0).trans rfl, (blk_cell BK765.out 1).trans rfl⟩ (fun hHeld => ?_)
      clear hK K
      refine normW 43 ?_
      refine one_ (i := 3) (N := some 44) (bm 5 15) rfl rfl (by kernel_rfl) (by decide) (fun K hK => ?_)
      refine goesR Tryd.func11 #[.agg #[.int .i64 t775, .slice Ao24 t776.length co24], .agg #[.int .i64 t785, .slice Ao82 t786.length co82]] ?_
      with_reducible refine (laws_eqOrder.calls kj10 t775 _ _ t776 t785 _ _ t786 false _ ?side1 ?side2 ?side3 ?side4 A34.out).mono ?_
      (case side1 => repeat (first | exact (Kd.R_reads' HO_780001.out).2.2 | (with_reducible refine Kd.C_alloc ?_ _) | (with_reducible refine Kd.C_drewN ?_ _) | (with_reducible refine Kd.C_drew ?_)))
      (case side2 => exact (Kd.R_reads' HO_780001.out).2.1)
      (case side3 => repeat (first | exact (Kd.R_reads' HO788.out).2.2 | (with_reducible refine Kd.C_alloc ?_ _) | (with_reducible refine Kd.C_drewN ?_ _) | (with_reducible refine Kd.C_drew ?_)))
      (case side4 => exact (Kd.R_reads' HO788.out).2.1)
      rintro e w83 ⟨rfl, hb⟩
      refine ⟨_, rfl, ?_⟩
      replace HO_4 := Aside0.mk (Kd.R_below (Kd.R_g HO_4.out) hb)
      replace HO_7 := Aside0.mk (Kd.R_below (Kd.R_g HO_7.out) hb)
      replace HO_780001 := Aside0.mk (Kd.R_below (Kd.R_g HO_780001.out) hb)
      replace HO788 := Aside0.mk (Kd.R_below (Kd.R_g HO788.out) hb)
      replace BK765 := blkB BK765 hb
      replace BK779 := blkB BK779 hb
      replace HB := bst HB hb
      (try clear hb)
      (try clear hb2)
      (try clear hk)
      (try clear hi)
      refine hK.out _ _ ⟨(blk_cell BK779.out 0).trans rfl, (blk_cell BK779.out 1).trans rfl, (blk_cell BK765.out 0).trans rfl, (blk_cell BK765.out 1).trans rfl⟩ (fun hHeld => ?_)
      clear hK K
      refine normW 44 ?_
      refine pure_ (i := 4) (N := some 45) (v := ?_) (a' := ?_) (bm 5 31) rfl rfl (by kernel_rfl) (fun _ _ _ h => h) (Or.inl ⟨by rfl, ?_⟩) ?_ ?_
      rotate_left
      ·intro w'
       go_simp
       with_reducible rfl
      rotate_left
      ·simp only [Act.put, List.setIfInBounds_toArray, List.set_cons_zero, List.set_cons_succ, i64_w, i32_w]
       rfl
      refine done_ (by kernel_rfl) ?_
      try go_wp2
      go_ret
      exact ⟨eqE, bel_g HB.out⟩

end Go.Proofs.YtjahodklmegglaaDoor.Q
