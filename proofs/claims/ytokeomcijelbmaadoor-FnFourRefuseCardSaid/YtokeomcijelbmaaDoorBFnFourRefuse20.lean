import Derived.Test.YtokeomcijelbmaaDoorBFnFourRefuse19
namespace Go.Proofs.YtokeomcijelbmaaDoor.Q
open Go.RowKit Go.Proofs.YtokeomcijelbmaaDoorW.PrintWords Go.Proofs.YtokeomcijelbmaaDoorW.PrintLast Go.Proofs.YtokeomcijelbmaaDoorW.PrintMore
attribute [local go_sem] max2_int min2_int max_two min_two max_three min_three max_four min_four neB_f
set_option linter.unusedVariables false
set_option maxHeartbeats 8000000
set_option maxRecDepth 100000
set_option linter.unusedSimpArgs false
def laws_FnFourRefuse.j0 : Nat → List Int → Bool → Bool → Int → List Int → Option (Bool)
 | 0, _, _, _, _, _ => none
 | k + 1, x6, x7, x108, x592000, x592001 => if x108 = true then (none) else (if x7 = true then (if 0 < (x6.length : Int) then (if 1 < (x6.length : Int) then (if 2 < (x6.length : Int) then (if 3 < (x6.length : Int) then (if 0 ≤ (rd x6 0) then (if (rd x6 0) < (x592001.length : Int) then ((laws_pIn.f (rd x592001 (rd x6 0)) (rd x6 1)).bind fun t623 => (if t623 = true then (if 0 ≤ (rd x6 2) then (if (rd x6 2) < (x592001.length : Int) then ((laws_pIn.f (rd x592001 (rd x6 2)) (rd x6 3)).bind fun t625 => (if t625 = true then ((laws_pIn.f (rd x592001 (rd x6 0)) (rd x6 3)).bind fun t627 => (if t627 = true then (none) else ((laws_pIn.f (rd x592001 (rd x6 2)) (rd x6 1)).bind fun t629 => (if t629 = true then (none) else ((impl_FindPattern.f k x592000 x592001 4 (([2, 0, 8, 0] : List Int))).bind fun bt634 => (if bt634.2 = true then ((laws_pSame.f k bt634.1 x6).bind fun t638 => (some t638)) else (none))))))) else (none))) else (none)) else (none)) else (none))) else (none)) else (none)) else (none)) else (none)) else (none)) else (none)) else (some true))
def laws_FnFourRefuse.f (k : Nat) (l0 : List Int) (l1 : List Int) : Option (Bool) := (laws_big.f l0 l1).bind fun t586 => (if t586 = true then (some true) else ((spec_DrawTwoTwoOf.f k l0).bind fun bt587 => ((impl_TwoTwoOf.f k bt587.1 bt587.2).bind fun bt592 => ((spec_TwoTwoOf.f k bt587.1 bt587.2).bind fun bt596 => (if (bt592.2 != bt596.2) = true then (none) else ((laws_pSame.f k bt592.1 bt596.1).bind fun t600 => (if t600 = true then ((impl_IsIntervalOrder.f k bt587.1 bt587.2).bind fun bt601 => ((impl_LowerLevels.f k bt587.1 bt587.2).bind fun bt603 => ((impl_EndsOf.f k bt587.1 bt587.2).bind fun bt607 => ((impl_MagnitudeOf.f k bt587.1 bt587.2).bind fun bt611 => ((impl_SetsAlong.f k bt587.1 bt587.2).bind fun bt613 => ((impl_IsOrder.f k bt587.1 bt587.2).bind fun t617 => (if (bt601.2 != t617) = true then (none) else (if bt601.2 = true then (if (bt592.2 != (!bt601.1)) = true then (none) else (if (bt603.2 != bt601.1) = true then (none) else (if (bt607.2 != bt601.1) = true then (none) else (if (bt611.2 != bt601.1) = true then (none) else (laws_FnFourRefuse.j0 k bt592.1 bt592.2 (bt613.2 != bt601.1) bt587.1 bt587.2))))) else (if (bt592.2 != false) = true then (none) else (if (bt603.2 != bt601.1) = true then (none) else (if (bt607.2 != bt601.1) = true then (none) else (if (bt611.2 != bt601.1) = true then (none) else (laws_FnFourRefuse.j0 k bt592.1 bt592.2 (bt613.2 != bt601.1) bt587.1 bt587.2))))))))))))) else (none))))))))
theorem laws_FnFourRefuse.mono_l : ∀ k, (∀ y0 y1 y2 y3 y4, LeO (laws_FnFourRefuse.j0 k y0 y1 y2 y3 y4) (laws_FnFourRefuse.j0 (k + 1) y0 y1 y2 y3 y4))
 | 0 => fun _ _ _ _ _ r h => by simp [laws_FnFourRefuse.j0] at h
 | k + 1 => by
  have ih0 := laws_FnFourRefuse.mono_l k
  ·intro y0 y1 y2 y3 y4
   unfold laws_FnFourRefuse.j0
   repeat' (with_reducible first|apply ih0|apply impl_EndsOf.mono|apply impl_FindPattern.mono|apply impl_IsIntervalOrder.mono|apply impl_IsOrder.mono|apply impl_LowerLevels.mono|apply impl_MagnitudeOf.mono|apply impl_SetsAlong.mono|apply impl_TwoTwoOf.mono|apply laws_pSame.mono|apply spec_DrawTwoTwoOf.mono|apply spec_TwoTwoOf.mono|apply LeO.refl|apply LeO.none|apply LeO.ite|apply LeO.bind|intro)
theorem laws_FnFourRefuse.mono : ∀ a0 a1 k, LeO (laws_FnFourRefuse.f k a0 a1) (laws_FnFourRefuse.f (k + 1) a0 a1) := by
 intro a0 a1 k
 have ih0 := laws_FnFourRefuse.mono_l k
 unfold laws_FnFourRefuse.f
 repeat' (with_reducible first|apply ih0|apply impl_EndsOf.mono|apply impl_FindPattern.mono|apply impl_IsIntervalOrder.mono|apply impl_IsOrder.mono|apply impl_LowerLevels.mono|apply impl_MagnitudeOf.mono|apply impl_SetsAlong.mono|apply impl_TwoTwoOf.mono|apply laws_pSame.mono|apply spec_DrawTwoTwoOf.mono|apply spec_TwoTwoOf.mono|apply LeO.refl|apply LeO.none|apply LeO.ite|apply LeO.bind|intro)
theorem laws_FnFourRefuse.calls (k : Nat) (A0 : Option Addr) (c0 : Nat) (l0 : List Int) (A1 : Option Addr) (c1 : Nat) (l1 : List Int) (r : Bool) (w : World) (hr0 : Kd.C (Kd.int .u8) w A0 l0.length l0) (hc0 : l0.length ≤ c0) (hr1 : Kd.C (Kd.int .u8) w A1 l1.length l1) (hc1 : l1.length ≤ c1) (hTAB : Tab w) (h : laws_FnFourRefuse.f k l0 l1 = some r) :
  Calls Tryd.prog 3 #[.slice A0 l0.length c0, .slice A1 l1.length c1] w fun e w' => e = .returned (.bool r) ∧ Below w.heap.size w w' := by
 have HTAB := mkA hTAB
 clear hTAB
 have hu26 := Tryd.underlying26
 have HR0 := mkA hr0
 have HC0 := mkA hc0
 clear hr0 hc0
 have HR1 := mkA hr1
 have HC1 := mkA hc1
 clear hr1 hc1
 have HB := mkA (Below.refl w.heap.size w)
 have H := h
 clear h
 unfold laws_FnFourRefuse.f at H
 obtain ⟨t586, A3, H⟩ := obE H
 by_cases c4 : t586 = true
 ·subst c4
  replace H := ifT H
  obtain rfl := Option.some.inj H
  go_enter Tryd.func3, Tryd.ntmps3
  go_wp2_with (first | (go_at_call 4; (with_reducible refine (laws_big.calls _ _ l0 _ _ l1 true _ ?s1 ?s2 ?s3 ?s4 A3.out).mono ?_); (case s1 => repeat (first | exact HR0.out | (with_reducible refine Kd.C_alloc ?_ _) | (with_reducible refine Kd.C_drewN ?_ _) | (with_reducible refine Kd.C_drew ?_))); (case s2 => exact HC0.out); (case s3 => repeat (first | exact HR1.out | (with_reducible refine Kd.C_alloc ?_ _) | (with_reducible refine Kd.C_drewN ?_ _) | (with_reducible refine Kd.C_drew ?_))); (case s4 => exact HC1.out); rintro e w' ⟨rfl, ⟨nd, rfl⟩⟩; (try first | exact ⟨rfl, _, World.drewN_drewN _ _ _⟩ | exact ⟨rfl, _, Eq.trans (World.drewN_drewN _ _ _) (congrArg (World.drewN _) (Nat.add_assoc _ _ _))⟩)))
  repeat (go_quiet (first | (go_at_call 4; (with_reducible refine (laws_big.calls _ _ l0 _ _ l1 true _ ?s1 ?s2 ?s3 ?s4 A3.out).mono ?_); (case s1 => repeat (first | exact HR0.out | (with_reducible refine Kd.C_alloc ?_ _) | (with_reducible refine Kd.C_drewN ?_ _) | (with_reducible refine Kd.C_drew ?_))); (case s2 => exact HC0.out); (case s3 => repeat (first | exact HR1.out | (with_reducible refine Kd.C_alloc ?_ _) | (with_reducible refine Kd.C_drewN ?_ _) | (with_reducible refine Kd.C_drew ?_))); (case s4 => exact HC1.out); rintro e w' ⟨rfl, ⟨nd, rfl⟩⟩; (try first | exact ⟨rfl, _, World.drewN_drewN _ _ _⟩ | exact ⟨rfl, _, Eq.trans (World.drewN_drewN _ _ _) (congrArg (World.drewN _) (Nat.add_assoc _ _ _))⟩))); try go_wp2_with (first | (go_at_call 4; (with_reducible refine (laws_big.calls _ _ l0 _ _ l1 true _ ?s1 ?s2 ?s3 ?s4 A3.out).mono ?_); (case s1 => repeat (first | exact HR0.out | (with_reducible refine Kd.C_alloc ?_ _) | (with_reducible refine Kd.C_drewN ?_ _) | (with_reducible refine Kd.C_drew ?_))); (case s2 => exact HC0.out); (case s3 => repeat (first | exact HR1.out | (with_reducible refine Kd.C_alloc ?_ _) | (with_reducible refine Kd.C_drewN ?_ _) | (with_reducible refine Kd.C_drew ?_))); (case s4 => exact HC1.out); rintro e w' ⟨rfl, ⟨nd, rfl⟩⟩; (try first | exact ⟨rfl, _, World.drewN_drewN _ _ _⟩ | exact ⟨rfl, _, Eq.trans (World.drewN_drewN _ _ _) (congrArg (World.drewN _) (Nat.add_assoc _ _ _))⟩))))
  go_ret
  exact ⟨eqE, bel_g HB.out⟩
 ·replace c4 := Bool.eq_false_iff.mpr c4
  subst c4
  replace H := ifF H
  obtain ⟨⟨t587, t588⟩, A5, H⟩ := obE H
  dsimp only at H
  obtain ⟨⟨t592, t595⟩, A6, H⟩ := obE H
  dsimp only at H
  obtain ⟨⟨t596, t599⟩, A7, H⟩ := obE H
  dsimp only at H
  obtain ⟨c8, H⟩ := itMP H
  have c8b0 : (t595 != t599) = false := by simpa using c8
  (try (have c8b1 : decide (t595 = t599) = true := by simpa using c8))
  (try (have c8b2 : (t595 == t599) = true := by simpa using c8))
  clear c8
  obtain ⟨t600, A9, H⟩ := obE H
  by_cases c10 : t600 = true
  ·subst c10
   replace H := ifT H
   obtain ⟨⟨t601, t602⟩, A11, H⟩ := obE H
   dsimp only at H
   obtain ⟨⟨t603, t606⟩, A12, H⟩ := obE H
   dsimp only at H
   obtain ⟨⟨t607, t610⟩, A13, H⟩ := obE H
   dsimp only at H
   obtain ⟨⟨t611, t612⟩, A14, H⟩ := obE H
   dsimp only at H
   obtain ⟨⟨t613, t616⟩, A15, H⟩ := obE H
   dsimp only at H
   have HC16 := mkA H
   clear H
   go_enter Tryd.func3, Tryd.ntmps3
   go_upto_region 13 with (first | (go_at_call 4; (with_reducible refine (laws_big.calls _ _ l0 _ _ l1 false _ ?s1 ?s2 ?s3 ?s4 A3.out).mono ?_); (case s1 => repeat (first | exact HR0.out | (with_reducible refine Kd.C_alloc ?_ _) | (with_reducible refine Kd.C_drewN ?_ _) | (with_reducible refine Kd.C_drew ?_))); (case s2 => exact HC0.out); (case s3 => repeat (first | exact HR1.out | (with_reducible refine Kd.C_alloc ?_ _) | (with_reducible refine Kd.C_drewN ?_ _) | (with_reducible refine Kd.C_drew ?_))); (case s4 => exact HC1.out); rintro e w' ⟨rfl, ⟨nd, rfl⟩⟩; (try first | exact ⟨rfl, _, World.drewN_drewN _ _ _⟩ | exact ⟨rfl, _, Eq.trans (World.drewN_drewN _ _ _) (congrArg (World.drewN _) (Nat.add_assoc _ _ _))⟩)) | (go_at_call 5; (with_reducible refine (spec_DrawTwoTwoOf.calls k _ _ l0 t587 t588 _ ?s1 ?s2 A5.out).mono ?_); (case s1 => repeat (first | exact HR0.out | (with_reducible refine Kd.C_alloc ?_ _) | (with_reducible refine Kd.C_drewN ?_ _) | (with_reducible refine Kd.C_drew ?_))); (case s2 => exact HC0.out); rintro e w17 ⟨v589, rfl, ho0, hb⟩; have HO590 := rLo ho0 HB; replace HB := bst HB hb; clear hb ho0) | ((with_reducible refine gate_dst (N := 5) rfl ?_); refine boxG HB #[.int .i64 0, .slice none 0 0] 26 ?_; intro gb591 hg w18 BK591 GE591 hb; replace HO590 := rB HO590 hb; replace HB := bst HB hb; clear hb hg; obtain ⟨hcz19_0, hcz19_1, hfz19_0, hfz19_1⟩ := blk2 BK591; obtain ⟨Ao20, co20, rfl⟩ := Kd.R_slice HO590.out) | (go_at_call 6; (with_reducible refine (impl_TwoTwoOf.calls k t587 _ _ t588 t592 t595 _ ?_ ?_ ?_ A6.out).mono ?_); exact rCF HO590 BK591; exact rL HO590; exact Tab.below HTAB.out (bel_g HB.out); rintro e w21 ⟨v593, rfl, ho0, hb⟩; have HO594 := rLo (rNF ho0 HO590 BK591) HB; replace HO590 := rEF HO590 BK591 ho0 hb; replace BK591 := blkS BK591 hb; replace HB := bst HB hb; clear hb ho0; obtain ⟨hcz22_0, hcz22_1, hfz22_0, hfz22_1⟩ := blk2 BK591) | (go_at_call 7; (with_reducible refine (spec_TwoTwoOf.calls k t587 _ _ t588 t596 t599 _ ?_ ?_ A7.out).mono ?_); exact rC HO590; exact rL HO590; rintro e w23 ⟨v597, rfl, ho0, hb⟩; have HO598 := rLo (rN (rN ho0 HO590) HO594) HB; replace HO590 := rE HO590 ho0 hb; replace HO594 := rE HO594 ho0 hb; replace BK591 := blkB BK591 hb; replace HB := bst HB hb; clear hb ho0; obtain ⟨Ao24, co24, rfl⟩ := Kd.R_slice HO594.out; obtain ⟨Ao25, co25, rfl⟩ := Kd.R_slice HO598.out) | (go_at_call 8; (with_reducible refine (laws_pSame.calls k _ _ t592 _ _ t596 true _ ?_ ?_ ?_ ?_ A9.out).mono ?_); exact rC HO594; exact rL HO594; exact rC HO598; exact rL HO598; rintro e w' ⟨rfl, ⟨nd, rfl⟩⟩; (try first | exact ⟨rfl, _, World.drewN_drewN _ _ _⟩ | exact ⟨rfl, _, Eq.trans (World.drewN_drewN _ _ _) (congrArg (World.drewN _) (Nat.add_assoc _ _ _))⟩); obtain ⟨hcz26_0, hcz26_1, hfz26_0, hfz26_1⟩ := blk2 BK591) | (go_at_call 9; (with_reducible refine (impl_IsIntervalOrder.calls k t587 _ _ t588 t601 t602 _ ?_ ?_ ?_ A11.out).mono ?_); exact rC HO590; exact rL HO590; exact Tab.below HTAB.out (bel_g HB.out); rintro e w27 ⟨rfl, hb⟩; replace HO590 := rB HO590 hb; replace HO594 := rB HO594 hb; replace HO598 := rB HO598 hb; replace BK591 := blkB BK591 hb; replace HB := bst HB hb; clear hb; obtain ⟨hcz28_0, hcz28_1, hfz28_0, hfz28_1⟩ := blk2 BK591) | (go_at_call 10; (with_reducible refine (impl_LowerLevels.calls k t587 _ _ t588 t603 t606 _ ?_ ?_ ?_ A12.out).mono ?_); exact rC HO590; exact rL HO590; exact Tab.below HTAB.out (bel_g HB.out); rintro e w29 ⟨v604, rfl, ho0, hb⟩; have HO605 := rLo (rN (rN (rN ho0 HO590) HO594) HO598) HB; replace HO590 := rE HO590 ho0 hb; replace HO594 := rE HO594 ho0 hb; replace HO598 := rE HO598 ho0 hb; replace BK591 := blkB BK591 hb; replace HB := bst HB hb; clear hb ho0; obtain ⟨hcz30_0, hcz30_1, hfz30_0, hfz30_1⟩ := blk2 BK591) | (go_at_call 11; (with_reducible refine (impl_EndsOf.calls k t587 _ _ t588 t607 t610 _ ?_ ?_ ?_ A13.out).mono ?_); exact rC HO590; exact rL HO590; exact Tab.below HTAB.out (bel_g HB.out); rintro e w31 ⟨v608, rfl, ho0, hb⟩; replace HO590 := rB HO590 hb; replace HO594 := rB HO594 hb; replace HO598 := rB HO598 hb; replace HO605 := rB HO605 hb; have HO609 := rLo ho0 HB; replace BK591 := blkB BK591 hb; replace HB := bst HB hb; clear hb ho0; obtain ⟨hcz32_0, hcz32_1, hfz32_0, hfz32_1⟩ := blk2 BK591) | (go_at_call 12; (with_reducible refine (impl_MagnitudeOf.calls k t587 _ _ t588 t611 t612 _ ?_ ?_ ?_ A14.out).mono ?_); exact rC HO590; exact rL HO590; exact Tab.below HTAB.out (bel_g HB.out); rintro e w33 ⟨rfl, hb⟩; replace HO590 := rB HO590 hb; replace HO594 := rB HO594 hb; replace HO598 := rB HO598 hb; replace HO605 := rB HO605 hb; replace HO609 := rB HO609 hb; replace BK591 := blkB BK591 hb; replace HB := bst HB hb; clear hb; obtain ⟨hcz34_0, hcz34_1, hfz34_0, hfz34_1⟩ := blk2 BK591) | (go_at_call 13; (with_reducible refine (impl_SetsAlong.calls k t587 _ _ t588 t613 t616 _ ?_ ?_ ?_ A15.out).mono ?_); exact rC HO590; exact rL HO590; exact Tab.below HTAB.out (bel_g HB.out); rintro e w35 ⟨v614, rfl, ho0, hb⟩; replace HO609 := rB HO609 hb; have HO615 := rLo (rN (rN (rN (rN ho0 HO590) HO594) HO598) HO605) HB; replace HO590 := rE HO590 ho0 hb; replace HO594 := rE HO594 ho0 hb; replace HO598 := rE HO598 ho0 hb; replace HO605 := rE HO605 ho0 hb; replace BK591 := blkB BK591 hb; replace HB := bst HB hb; clear hb ho0))
   repeat (go_quiet (first | (go_at_call 4; (with_reducible refine (laws_big.calls _ _ l0 _ _ l1 false _ ?s1 ?s2 ?s3 ?s4 A3.out).mono ?_); (case s1 => repeat (first | exact HR0.out | (with_reducible refine Kd.C_alloc ?_ _) | (with_reducible refine Kd.C_drewN ?_ _) | (with_reducible refine Kd.C_drew ?_))); (case s2 => exact HC0.out); (case s3 => repeat (first | exact HR1.out | (with_reducible refine Kd.C_alloc ?_ _) | (with_reducible refine Kd.C_drewN ?_ _) | (with_reducible refine Kd.C_drew ?_))); (case s4 => exact HC1.out); rintro e w' ⟨rfl, ⟨nd, rfl⟩⟩; (try first | exact ⟨rfl, _, World.drewN_drewN _ _ _⟩ | exact ⟨rfl, _, Eq.trans (World.drewN_drewN _ _ _) (congrArg (World.drewN _) (Nat.add_assoc _ _ _))⟩)) | (go_at_call 5; (with_reducible refine (spec_DrawTwoTwoOf.calls k _ _ l0 t587 t588 _ ?s1 ?s2 A5.out).mono ?_); (case s1 => repeat (first | exact HR0.out | (with_reducible refine Kd.C_alloc ?_ _) | (with_reducible refine Kd.C_drewN ?_ _) | (with_reducible refine Kd.C_drew ?_))); (case s2 => exact HC0.out); rintro e w17 ⟨v589, rfl, ho0, hb⟩; have HO590 := rLo ho0 HB; replace HB := bst HB hb; clear hb ho0) | ((with_reducible refine gate_dst (N := 5) rfl ?_); refine boxG HB #[.int .i64 0, .slice none 0 0] 26 ?_; intro gb591 hg w18 BK591 GE591 hb; replace HO590 := rB HO590 hb; replace HB := bst HB hb; clear hb hg; obtain ⟨hcz19_0, hcz19_1, hfz19_0, hfz19_1⟩ := blk2 BK591; obtain ⟨Ao20, co20, rfl⟩ := Kd.R_slice HO590.out) | (go_at_call 6; (with_reducible refine (impl_TwoTwoOf.calls k t587 _ _ t588 t592 t595 _ ?_ ?_ ?_ A6.out).mono ?_); exact rCF HO590 BK591; exact rL HO590; exact Tab.below HTAB.out (bel_g HB.out); rintro e w21 ⟨v593, rfl, ho0, hb⟩; have HO594 := rLo (rNF ho0 HO590 BK591) HB; replace HO590 := rEF HO590 BK591 ho0 hb; replace BK591 := blkS BK591 hb; replace HB := bst HB hb; clear hb ho0; obtain ⟨hcz22_0, hcz22_1, hfz22_0, hfz22_1⟩ := blk2 BK591) | (go_at_call 7; (with_reducible refine (spec_TwoTwoOf.calls k t587 _ _ t588 t596 t599 _ ?_ ?_ A7.out).mono ?_); exact rC HO590; exact rL HO590; rintro e w23 ⟨v597, rfl, ho0, hb⟩; have HO598 := rLo (rN (rN ho0 HO590) HO594) HB; replace HO590 := rE HO590 ho0 hb; replace HO594 := rE HO594 ho0 hb; replace BK591 := blkB BK591 hb; replace HB := bst HB hb; clear hb ho0; obtain ⟨Ao24, co24, rfl⟩ := Kd.R_slice HO594.out; obtain ⟨Ao25, co25, rfl⟩ := Kd.R_slice HO598.out) | (go_at_call 8; (with_reducible refine (laws_pSame.calls k _ _ t592 _ _ t596 true _ ?_ ?_ ?_ ?_ A9.out).mono ?_); exact rC HO594; exact rL HO594; exact rC HO598; exact rL HO598; rintro e w' ⟨rfl, ⟨nd, rfl⟩⟩; (try first | exact ⟨rfl, _, World.drewN_drewN _ _ _⟩ | exact ⟨rfl, _, Eq.trans (World.drewN_drewN _ _ _) (congrArg (World.drewN _) (Nat.add_assoc _ _ _))⟩); obtain ⟨hcz26_0, hcz26_1, hfz26_0, hfz26_1⟩ := blk2 BK591) | (go_at_call 9; (with_reducible refine (impl_IsIntervalOrder.calls k t587 _ _ t588 t601 t602 _ ?_ ?_ ?_ A11.out).mono ?_); exact rC HO590; exact rL HO590; exact Tab.below HTAB.out (bel_g HB.out); rintro e w27 ⟨rfl, hb⟩; replace HO590 := rB HO590 hb; replace HO594 := rB HO594 hb; replace HO598 := rB HO598 hb; replace BK591 := blkB BK591 hb; replace HB := bst HB hb; clear hb; obtain ⟨hcz28_0, hcz28_1, hfz28_0, hfz28_1⟩ := blk2 BK591) | (go_at_call 10; (with_reducible refine (impl_LowerLevels.calls k t587 _ _ t588 t603 t606 _ ?_ ?_ ?_ A12.out).mono ?_); exact rC HO590; exact rL HO590; exact Tab.below HTAB.out (bel_g HB.out); rintro e w29 ⟨v604, rfl, ho0, hb⟩; have HO605 := rLo (rN (rN (rN ho0 HO590) HO594) HO598) HB; replace HO590 := rE HO590 ho0 hb; replace HO594 := rE HO594 ho0 hb; replace HO598 := rE HO598 ho0 hb; replace BK591 := blkB BK591 hb; replace HB := bst HB hb; clear hb ho0; obtain ⟨hcz30_0, hcz30_1, hfz30_0, hfz30_1⟩ := blk2 BK591) | (go_at_call 11; (with_reducible refine (impl_EndsOf.calls k t587 _ _ t588 t607 t610 _ ?_ ?_ ?_ A13.out).mono ?_); exact rC HO590; exact rL HO590; exact Tab.below HTAB.out (bel_g HB.out); rintro e w31 ⟨v608, rfl, ho0, hb⟩; replace HO590 := rB HO590 hb; replace HO594 := rB HO594 hb; replace HO598 := rB HO598 hb; replace HO605 := rB HO605 hb; have HO609 := rLo ho0 HB; replace BK591 := blkB BK591 hb; replace HB := bst HB hb; clear hb ho0; obtain ⟨hcz32_0, hcz32_1, hfz32_0, hfz32_1⟩ := blk2 BK591) | (go_at_call 12; (with_reducible refine (impl_MagnitudeOf.calls k t587 _ _ t588 t611 t612 _ ?_ ?_ ?_ A14.out).mono ?_); exact rC HO590; exact rL HO590; exact Tab.below HTAB.out (bel_g HB.out); rintro e w33 ⟨rfl, hb⟩; replace HO590 := rB HO590 hb; replace HO594 := rB HO594 hb; replace HO598 := rB HO598 hb; replace HO605 := rB HO605 hb; replace HO609 := rB HO609 hb; replace BK591 := blkB BK591 hb; replace HB := bst HB hb; clear hb; obtain ⟨hcz34_0, hcz34_1, hfz34_0, hfz34_1⟩ := blk2 BK591) | (go_at_call 13; (with_reducible refine (impl_SetsAlong.calls k t587 _ _ t588 t613 t616 _ ?_ ?_ ?_ A15.out).mono ?_); exact rC HO590; exact rL HO590; exact Tab.below HTAB.out (bel_g HB.out); rintro e w35 ⟨v614, rfl, ho0, hb⟩; replace HO609 := rB HO609 hb; have HO615 := rLo (rN (rN (rN (rN ho0 HO590) HO594) HO598) HO605) HB; replace HO590 := rE HO590 ho0 hb; replace HO594 := rE HO594 ho0 hb; replace HO598 := rE HO598 ho0 hb; replace HO605 := rE HO605 ho0 hb; replace BK591 := blkB BK591 hb; replace HB := bst HB hb; clear hb ho0)); go_upto_region 13 with (first | (go_at_call 4; (with_reducible refine (laws_big.calls _ _ l0 _ _ l1 false _ ?s1 ?s2 ?s3 ?s4 A3.out).mono ?_); (case s1 => repeat (first | exact HR0.out | (with_reducible refine Kd.C_alloc ?_ _) | (with_reducible refine Kd.C_drewN ?_ _) | (with_reducible refine Kd.C_drew ?_))); (case s2 => exact HC0.out); (case s3 => repeat (first | exact HR1.out | (with_reducible refine Kd.C_alloc ?_ _) | (with_reducible refine Kd.C_drewN ?_ _) | (with_reducible refine Kd.C_drew ?_))); (case s4 => exact HC1.out); rintro e w' ⟨rfl, ⟨nd, rfl⟩⟩; (try first | exact ⟨rfl, _, World.drewN_drewN _ _ _⟩ | exact ⟨rfl, _, Eq.trans (World.drewN_drewN _ _ _) (congrArg (World.drewN _) (Nat.add_assoc _ _ _))⟩)) | (go_at_call 5; (with_reducible refine (spec_DrawTwoTwoOf.calls k _ _ l0 t587 t588 _ ?s1 ?s2 A5.out).mono ?_); (case s1 => repeat (first | exact HR0.out | (with_reducible refine Kd.C_alloc ?_ _) | (with_reducible refine Kd.C_drewN ?_ _) | (with_reducible refine Kd.C_drew ?_))); (case s2 => exact HC0.out); rintro e w17 ⟨v589, rfl, ho0, hb⟩; have HO590 := rLo ho0 HB; replace HB := bst HB hb; clear hb ho0) | ((with_reducible refine gate_dst (N := 5) rfl ?_); refine boxG HB #[.int .i64 0, .slice none 0 0] 26 ?_; intro gb591 hg w18 BK591 GE591 hb; replace HO590 := rB HO590 hb; replace HB := bst HB hb; clear hb hg; obtain ⟨hcz19_0, hcz19_1, hfz19_0, hfz19_1⟩ := blk2 BK591; obtain ⟨Ao20, co20, rfl⟩ := Kd.R_slice HO590.out) | (go_at_call 6; (with_reducible refine (impl_TwoTwoOf.calls k t587 _ _ t588 t592 t595 _ ?_ ?_ ?_ A6.out).mono ?_); exact rCF HO590 BK591; exact rL HO590; exact Tab.below HTAB.out (bel_g HB.out); rintro e w21 ⟨v593, rfl, ho0, hb⟩; have HO594 := rLo (rNF ho0 HO590 BK591) HB; replace HO590 := rEF HO590 BK591 ho0 hb; replace BK591 := blkS BK591 hb; replace HB := bst HB hb; clear hb ho0; obtain ⟨hcz22_0, hcz22_1, hfz22_0, hfz22_1⟩ := blk2 BK591) | (go_at_call 7; (with_reducible refine (spec_TwoTwoOf.calls k t587 _ _ t588 t596 t599 _ ?_ ?_ A7.out).mono ?_); exact rC HO590; exact rL HO590; rintro e w23 ⟨v597, rfl, ho0, hb⟩; have HO598 := rLo (rN (rN ho0 HO590) HO594) HB; replace HO590 := rE HO590 ho0 hb; replace HO594 := rE HO594 ho0 hb; replace BK591 := blkB BK591 hb; replace HB := bst HB hb; clear hb ho0; obtain ⟨Ao24, co24, rfl⟩ := Kd.R_slice HO594.out; obtain ⟨Ao25, co25, rfl⟩ := Kd.R_slice HO598.out) | (go_at_call 8; (with_reducible refine (laws_pSame.calls k _ _ t592 _ _ t596 true _ ?_ ?_ ?_ ?_ A9.out).mono ?_); exact rC HO594; exact rL HO594; exact rC HO598; exact rL HO598; rintro e w' ⟨rfl, ⟨nd, rfl⟩⟩; (try first | exact ⟨rfl, _, World.drewN_drewN _ _ _⟩ | exact ⟨rfl, _, Eq.trans (World.drewN_drewN _ _ _) (congrArg (World.drewN _) (Nat.add_assoc _ _ _))⟩); obtain ⟨hcz26_0, hcz26_1, hfz26_0, hfz26_1⟩ := blk2 BK591) | (go_at_call 9; (with_reducible refine (impl_IsIntervalOrder.calls k t587 _ _ t588 t601 t602 _ ?_ ?_ ?_ A11.out).mono ?_); exact rC HO590; exact rL HO590; exact Tab.below HTAB.out (bel_g HB.out); rintro e w27 ⟨rfl, hb⟩; replace HO590 := rB HO590 hb; replace HO594 := rB HO594 hb; replace HO598 := rB HO598 hb; replace BK591 := blkB BK591 hb; replace HB := bst HB hb; clear hb; obtain ⟨hcz28_0, hcz28_1, hfz28_0, hfz28_1⟩ := blk2 BK591) | (go_at_call 10; (with_reducible refine (impl_LowerLevels.calls k t587 _ _ t588 t603 t606 _ ?_ ?_ ?_ A12.out).mono ?_); exact rC HO590; exact rL HO590; exact Tab.below HTAB.out (bel_g HB.out); rintro e w29 ⟨v604, rfl, ho0, hb⟩; have HO605 := rLo (rN (rN (rN ho0 HO590) HO594) HO598) HB; replace HO590 := rE HO590 ho0 hb; replace HO594 := rE HO594 ho0 hb; replace HO598 := rE HO598 ho0 hb; replace BK591 := blkB BK591 hb; replace HB := bst HB hb; clear hb ho0; obtain ⟨hcz30_0, hcz30_1, hfz30_0, hfz30_1⟩ := blk2 BK591) | (go_at_call 11; (with_reducible refine (impl_EndsOf.calls k t587 _ _ t588 t607 t610 _ ?_ ?_ ?_ A13.out).mono ?_); exact rC HO590; exact rL HO590; exact Tab.below HTAB.out (bel_g HB.out); rintro e w31 ⟨v608, rfl, ho0, hb⟩; replace HO590 := rB HO590 hb; replace HO594 := rB HO594 hb; replace HO598 := rB HO598 hb; replace HO605 := rB HO605 hb; have HO609 := rLo ho0 HB; replace BK591 := blkB BK591 hb; replace HB := bst HB hb; clear hb ho0; obtain ⟨hcz32_0, hcz32_1, hfz32_0, hfz32_1⟩ := blk2 BK591) | (go_at_call 12; (with_reducible refine (impl_MagnitudeOf.calls k t587 _ _ t588 t611 t612 _ ?_ ?_ ?_ A14.out).mono ?_); exact rC HO590; exact rL HO590; exact Tab.below HTAB.out (bel_g HB.out); rintro e w33 ⟨rfl, hb⟩; replace HO590 := rB HO590 hb; replace HO594 := rB HO594 hb; replace HO598 := rB HO598 hb; replace HO605 := rB HO605 hb; replace HO609 := rB HO609 hb; replace BK591 := blkB BK591 hb; replace HB := bst HB hb; clear hb; obtain ⟨hcz34_0, hcz34_1, hfz34_0, hfz34_1⟩ := blk2 BK591) | (go_at_call 13; (with_reducible refine (impl_SetsAlong.calls k t587 _ _ t588 t613 t616 _ ?_ ?_ ?_ A15.out).mono ?_); exact rC HO590; exact rL HO590; exact Tab.below HTAB.out (bel_g HB.out); rintro e w35 ⟨v614, rfl, ho0, hb⟩; replace HO609 := rB HO609 hb; have HO615 := rLo (rN (rN (rN (rN ho0 HO590) HO594) HO598) HO605) HB; replace HO590 := rE HO590 ho0 hb; replace HO594 := rE HO594 ho0 hb; replace HO598 := rE HO598 ho0 hb; replace HO605 := rE HO605 ho0 hb; replace BK591 := blkB BK591 hb; replace HB := bst HB hb; clear hb ho0)))
   (try simp only [Act.put, List.setIfInBounds_toArray, List.set_cons_zero, List.set_cons_succ])
   go_cut [108] (fun v108 wc => ∃ (kq : Nat) (x108_15 : Bool), v108 = .bool x108_15 ∧ Fc (laws_FnFourRefuse.j0 kq t592 t595 x108_15 t587 t588 = some r) ∧ Fc (kq ≤ k) ∧ Fc (Kd.R (Kd.int .i64) 3 wc w.heap.size (fun k_ => some k_ ≠ ((.slice Ao20 t588.length co20) : Value).ownBlock) (.slice Ao24 t592.length co24) t592) ∧ Fc (Kd.R (Kd.int .i64) 3 wc w.heap.size (fun k_ => some k_ ≠ ((.slice Ao24 t592.length co24) : Value).ownBlock) (.slice Ao20 t588.length co20) t588) ∧ Fc (wc.heap[gb591]? = some (.cells #[.int .i64 t587, (.slice Ao20 t588.length co20)] 26 (0, 0))) ∧ Fc (Below w.heap.size w wc))
   case first =>
    have H := HC16.out
    clear HC16
    obtain ⟨t617, A36, H⟩ := obE H
    obtain ⟨c37, H⟩ := itMP H
    have c37b0 : (t602 != t617) = false := by simpa using c37
    (try (have c37b1 : decide (t602 = t617) = true := by simpa using c37))
    (try (have c37b2 : (t602 == t617) = true := by simpa using c37))
    clear c37
    (first | rw [c37b0] | (simp only [i64_w, i32_w]; rw [c37b0]) | skip)
    by_cases c38 : t602 = true
    ·subst c38
     replace H := ifT H
     obtain ⟨c39, H⟩ := itMP H
     have c39b0 : (t595 != (!t601)) = false := by simpa using c39
     (try (have c39b1 : decide (t595 = (!t601)) = true := by simpa using c39))
     (try (have c39b2 : (t595 == (!t601)) = true := by simpa using c39))
     clear c39
     obtain ⟨c40, H⟩ := itMP H
     have c40b0 : (t606 != t601) = false := by simpa using c40
     (try (have c40b1 : decide (t606 = t601) = true := by simpa using c40))
     (try (have c40b2 : (t606 == t601) = true := by simpa using c40))
     clear c40
     obtain ⟨c41, H⟩ := itMP H
     have c41b0 : (t610 != t601) = false := by simpa using c41
     (try (have c41b1 : decide (t610 = t601) = true := by simpa using c41))
     (try (have c41b2 : (t610 == t601) = true := by simpa using c41))
     clear c41
     obtain ⟨c42, H⟩ := itMP H
     have c42b0 : (t612 != t601) = false := by simpa using c42
     (try (have c42b1 : decide (t612 = t601) = true := by simpa using c42))
     (try (have c42b2 : (t612 == t601) = true := by simpa using c42))
     clear c42
     have H' := mkA H
     clear H
     obtain ⟨_, _, _, _⟩ := blk2 BK591
     go_wp2_with (first | (go_at_call 14; (with_reducible refine (impl_IsOrder.calls k t587 _ _ t588 t617 _ ?_ ?_ ?_ A36.out).mono ?_); exact rC HO590; exact rL HO590; exact Tab.below HTAB.out (bel_g HB.out); rintro e w44 ⟨rfl, hb⟩; replace HO590 := rB HO590 hb; replace HO594 := rB HO594 hb; replace HO598 := rB HO598 hb; replace HO605 := rB HO605 hb; replace HO609 := rB HO609 hb; replace HO615 := rB HO615 hb; replace BK591 := blkB BK591 hb; replace HB := bst HB hb; clear hb))
     repeat (go_quiet (first | (go_at_call 14; (with_reducible refine (impl_IsOrder.calls k t587 _ _ t588 t617 _ ?_ ?_ ?_ A36.out).mono ?_); exact rC HO590; exact rL HO590; exact Tab.below HTAB.out (bel_g HB.out); rintro e w44 ⟨rfl, hb⟩; replace HO590 := rB HO590 hb; replace HO594 := rB HO594 hb; replace HO598 := rB HO598 hb; replace HO605 := rB HO605 hb; replace HO609 := rB HO609 hb; replace HO615 := rB HO615 hb; replace BK591 := blkB BK591 hb; replace HB := bst HB hb; clear hb)); try go_wp2_with (first | (go_at_call 14; (with_reducible refine (impl_IsOrder.calls k t587 _ _ t588 t617 _ ?_ ?_ ?_ A36.out).mono ?_); exact rC HO590; exact rL HO590; exact Tab.below HTAB.out (bel_g HB.out); rintro e w44 ⟨rfl, hb⟩; replace HO590 := rB HO590 hb; replace HO594 := rB HO594 hb; replace HO598 := rB HO598 hb; replace HO605 := rB HO605 hb; replace HO609 := rB HO609 hb; replace HO615 := rB HO615 hb; replace BK591 := blkB BK591 hb; replace HB := bst HB hb; clear hb)))
     (try (have e9_ : (!t601) = t595 := (by have h_ := c39b0; revert h_; cases t595 <;> cases t601 <;> simp); rw [e9_]))
     go_meet
     case rel => exact ⟨_, ((t616 != t601)), eqS, H', ⟨by first | omega | exact Nat.le_refl _⟩, ⟨Kd.R_g (Kd.R_mono HO594.out (fun _ hk => hk.1.1.1.2))⟩, ⟨Kd.R_g (Kd.R_mono HO590.out (fun _ hk => hk.1.1.1.2))⟩, bg BK591, hbg HB⟩
     all_goals (exfalso; rename_i h_; revert h_; have h2_ := c39b0; revert h2_; cases t595 <;> cases t601 <;> simp)
    ·replace c38 := Bool.eq_false_iff.mpr c38
     subst c38
     replace H := ifF H
     obtain ⟨c45, H⟩ := itMP H
     have c45b0 : (t595 != false) = false := by simpa using c45
     (try (have c45b1 : decide (t595 = false) = true := by simpa using c45))
     (try (have c45b2 : (t595 == false) = true := by simpa using c45))
     clear c45
     obtain ⟨c46, H⟩ := itMP H
     have c46b0 : (t606 != t601) = false := by simpa using c46
     (try (have c46b1 : decide (t606 = t601) = true := by simpa using c46))
     (try (have c46b2 : (t606 == t601) = true := by simpa using c46))
     clear c46
     obtain ⟨c47, H⟩ := itMP H
     have c47b0 : (t610 != t601) = false := by simpa using c47
     (try (have c47b1 : decide (t610 = t601) = true := by simpa using c47))
     (try (have c47b2 : (t610 == t601) = true := by simpa using c47))
     clear c47
     obtain ⟨c48, H⟩ := itMP H
     have c48b0 : (t612 != t601) = false := by simpa using c48
     (try (have c48b1 : decide (t612 = t601) = true := by simpa using c48))
     (try (have c48b2 : (t612 == t601) = true := by simpa using c48))
     clear c48
     have H' := mkA H
     clear H
     obtain ⟨_, _, _, _⟩ := blk2 BK591
     go_wp2_with (first | (go_at_call 14; (with_reducible refine (impl_IsOrder.calls k t587 _ _ t588 t617 _ ?_ ?_ ?_ A36.out).mono ?_); exact rC HO590; exact rL HO590; exact Tab.below HTAB.out (bel_g HB.out); rintro e w50 ⟨rfl, hb⟩; replace HO590 := rB HO590 hb; replace HO594 := rB HO594 hb; replace HO598 := rB HO598 hb; replace HO605 := rB HO605 hb; replace HO609 := rB HO609 hb; replace HO615 := rB HO615 hb; replace BK591 := blkB BK591 hb; replace HB := bst HB hb; clear hb))
     repeat (go_quiet (first | (go_at_call 14; (with_reducible refine (impl_IsOrder.calls k t587 _ _ t588 t617 _ ?_ ?_ ?_ A36.out).mono ?_); exact rC HO590; exact rL HO590; exact Tab.below HTAB.out (bel_g HB.out); rintro e w50 ⟨rfl, hb⟩; replace HO590 := rB HO590 hb; replace HO594 := rB HO594 hb; replace HO598 := rB HO598 hb; replace HO605 := rB HO605 hb; replace HO609 := rB HO609 hb; replace HO615 := rB HO615 hb; replace BK591 := blkB BK591 hb; replace HB := bst HB hb; clear hb)); try go_wp2_with (first | (go_at_call 14; (with_reducible refine (impl_IsOrder.calls k t587 _ _ t588 t617 _ ?_ ?_ ?_ A36.out).mono ?_); exact rC HO590; exact rL HO590; exact Tab.below HTAB.out (bel_g HB.out); rintro e w50 ⟨rfl, hb⟩; replace HO590 := rB HO590 hb; replace HO594 := rB HO594 hb; replace HO598 := rB HO598 hb; replace HO605 := rB HO605 hb; replace HO609 := rB HO609 hb; replace HO615 := rB HO615 hb; replace BK591 := blkB BK591 hb; replace HB := bst HB hb; clear hb)))
     go_meet
     case rel => exact ⟨_, ((t616 != t601)), eqS, H', ⟨by first | omega | exact Nat.le_refl _⟩, ⟨Kd.R_g (Kd.R_mono HO594.out (fun _ hk => hk.1.1.1.2))⟩, ⟨Kd.R_g (Kd.R_mono HO590.out (fun _ hk => hk.1.1.1.2))⟩, bg BK591, hbg HB⟩
   case rest =>
    clear HC16
    try clear c1
    try clear c4
    try clear c8
    try clear c8b0
    try clear c8b1
    try clear c8b2
    try clear c10
    try clear c37
    try clear c37b0
    try clear c37b1
    try clear c37b2
    try clear c38
    try clear c39
    try clear c39b0
    try clear c39b1
    try clear c39b2
    try clear c40
    try clear c40b0
    try clear c40b1
    try clear c40b2
    try clear c41
    try clear c41b0
    try clear c41b1
    try clear c41b2
    try clear c42
    try clear c42b0
    try clear c42b1
    try clear c42b2
    try clear c45
    try clear c45b0
    try clear c45b1
    try clear c45b2
    try clear c46
    try clear c46b0
    try clear c46b1
    try clear c46b2
    try clear c47
    try clear c47b0
    try clear c47b1
    try clear c47b2
    try clear c48
    try clear c48b0
    try clear c48b1
    try clear c48b2
    obtain ⟨kq, x108_15, rfl, HA, HJ15, HO_6, HO_592001, BK591, HB⟩ := hcut
    cases kq with
    | zero => exact absurd HA.out (by simp [laws_FnFourRefuse.j0])
    | succ kj15 =>
     have H := HA.out
     clear HA
     simp only [laws_FnFourRefuse.j0] at H
     by_cases c51 : x108_15 = true
     ·subst c51
      replace H := ifT H
      exact absurd H (by simp)
     ·replace c51 := Bool.eq_false_iff.mpr c51
      subst c51
      replace H := ifF H
      by_cases c52 : t595 = true
      ·subst c52
       replace H := ifT H
       obtain ⟨c53, H⟩ := itNP H
       have c53b0 := decide_eq_true c53
       have c53b1 : decide (0 < t592.length) = true := decide_eq_true (by omega)
       clear c53
       obtain ⟨c54, H⟩ := itNP H
       have c54b0 := decide_eq_true c54
       have c54b1 : decide (1 < t592.length) = true := decide_eq_true (by omega)
       clear c54
       obtain ⟨c55, H⟩ := itNP H
       have c55b0 := decide_eq_true c55
       have c55b1 : decide (2 < t592.length) = true := decide_eq_true (by omega)
       clear c55
       obtain ⟨c56, H⟩ := itNP H
       have c56b0 := decide_eq_true c56
       have c56b1 : decide (3 < t592.length) = true := decide_eq_true (by omega)
       clear c56
       obtain ⟨c57b0, H⟩ := itND H
       obtain ⟨c58b0, H⟩ := itND H
       obtain ⟨t623, A59, H⟩ := obE H
       by_cases c60 : t623 = true
       ·subst c60
        replace H := ifT H
        obtain ⟨c61b0, H⟩ := itND H
        obtain ⟨c62b0, H⟩ := itND H
        obtain ⟨t625, A63, H⟩ := obE H
        by_cases c64 : t625 = true
        ·subst c64
         replace H := ifT H
         obtain ⟨t627, A65, H⟩ := obE H
         by_cases c66 : t627 = true
         ·subst c66
          replace H := ifT H
          exact absurd H (by simp)
         ·replace c66 := Bool.eq_false_iff.mpr c66
          subst c66
          replace H := ifF H
          obtain ⟨t629, A67, H⟩ := obE H
          by_cases c68 : t629 = true
          ·subst c68
           replace H := ifT H
           exact absurd H (by simp)
          ·replace c68 := Bool.eq_false_iff.mpr c68
           subst c68
           replace H := ifF H
           obtain ⟨y630, hy630⟩ : ∃ y_ : List Int, y_ = (([2, 0, 8, 0] : List Int)) := ⟨_, rfl⟩
           rw [← hy630] at H
           have Ny630 := mkA hy630
           clear hy630
           obtain ⟨⟨t634, t637⟩, A69, H⟩ := obE H
           dsimp only at H
           by_cases c70 : t637 = true
           ·subst c70
            replace H := ifT H
            obtain ⟨t638, A71, H⟩ := obE H
            obtain rfl := Option.some.inj H
            have p618 : 0 ≤ (0 : Int) := (by omega)
            have q618 : 0 < (t592.length : Int) := ofd
            obtain ⟨ad618, e618, hx618_0⟩ := Kd.at_int (Kd.R_reads' HO_6.out).2.2 0 p618 q618
            cases e618
            have qi618 : (0 < t592.length) = True := eq_true (by omega)
            (try rw [show ((0 : Int)).toNat = 0 from rfl] at hx618_0)
            (try rw [Addr.add_zero'] at hx618_0)
            replace p618 := eq_true p618
            replace q618 := eq_true q618
            have p619 : 0 ≤ (1 : Int) := (by omega)
            have q619 : 1 < (t592.length : Int) := ofd
            obtain ⟨ad619, e619, hx619_0⟩ := Kd.at_int (Kd.R_reads' HO_6.out).2.2 1 p619 q619
            obtain rfl : ad618 = ad619 := (by injection e619)
            (try simp only [show (1 : Int).toNat = 1 from rfl, Nat.reduceMul, Nat.reduceEqDiff, Go.Addr.add, ↓reduceIte] at hx619_0)
            have qi619 : (1 < t592.length) = True := eq_true (by omega)
            (try rw [show ((1 : Int)).toNat = 1 from rfl] at hx619_0)
            replace p619 := eq_true p619
            replace q619 := eq_true q619
            have p620 : 0 ≤ (2 : Int) := (by omega)
            have q620 : 2 < (t592.length : Int) := ofd
            obtain ⟨ad620, e620, hx620_0⟩ := Kd.at_int (Kd.R_reads' HO_6.out).2.2 2 p620 q620
            obtain rfl : ad618 = ad620 := (by injection e620)
            (try simp only [show (2 : Int).toNat = 2 from rfl, Nat.reduceMul, Nat.reduceEqDiff, Go.Addr.add, ↓reduceIte] at hx620_0)
            have qi620 : (2 < t592.length) = True := eq_true (by omega)
            (try rw [show ((2 : Int)).toNat = 2 from rfl] at hx620_0)
            replace p620 := eq_true p620
            replace q620 := eq_true q620
            have p621 : 0 ≤ (3 : Int) := (by omega)
            have q621 : 3 < (t592.length : Int) := ofd
            obtain ⟨ad621, e621, hx621_0⟩ := Kd.at_int (Kd.R_reads' HO_6.out).2.2 3 p621 q621
            obtain rfl : ad618 = ad621 := (by injection e621)
            (try simp only [show (3 : Int).toNat = 3 from rfl, Nat.reduceMul, Nat.reduceEqDiff, Go.Addr.add, ↓reduceIte] at hx621_0)
            have qi621 : (3 < t592.length) = True := eq_true (by omega)
            (try rw [show ((3 : Int)).toNat = 3 from rfl] at hx621_0)
            replace p621 := eq_true p621
            replace q621 := eq_true q621
            obtain ⟨_, _, _, _⟩ := blk2 BK591
            obtain ⟨p622, q622, ad622, e622, hx622_0⟩ := atI (Kd.R_reads' HO_592001.out).2.2 (rd t592 0)
            cases e622
            go_wp2_with (first | (go_at_call 15; (with_reducible refine (laws_pIn.calls (rd t588 (rd t592 0)) (rd t592 1) true _ A59.out).mono ?_); rintro e w' ⟨rfl, ⟨nd, rfl⟩⟩; (try first | exact ⟨rfl, _, World.drewN_drewN _ _ _⟩ | exact ⟨rfl, _, Eq.trans (World.drewN_drewN _ _ _) (congrArg (World.drewN _) (Nat.add_assoc _ _ _))⟩); have p624 : 0 ≤ ((rd t592 2) : Int) := ofd; have q624 : (rd t592 2) < (t588.length : Int) := ofd; obtain ⟨ad624, e624, hx624_0⟩ := Kd.at_int (Kd.R_reads' HO_592001.out).2.2 (rd t592 2) p624 q624; obtain rfl : ad622 = ad624 := (by injection e624); replace p624 := eq_true p624; replace q624 := eq_true q624) | (go_at_call 15; (with_reducible refine (laws_pIn.calls (rd t588 (rd t592 2)) (rd t592 3) true _ A63.out).mono ?_); rintro e w' ⟨rfl, ⟨nd, rfl⟩⟩; (try first | exact ⟨rfl, _, World.drewN_drewN _ _ _⟩ | exact ⟨rfl, _, Eq.trans (World.drewN_drewN _ _ _) (congrArg (World.drewN _) (Nat.add_assoc _ _ _))⟩); have p626 : 0 ≤ ((rd t592 0) : Int) := ofd; have q626 : (rd t592 0) < (t588.length : Int) := ofd; obtain ⟨ad626, e626, hx626_0⟩ := Kd.at_int (Kd.R_reads' HO_592001.out).2.2 (rd t592 0) p626 q626; obtain rfl : ad622 = ad626 := (by injection e626); replace p626 := eq_true p626; replace q626 := eq_true q626) | (go_at_call 15; (with_reducible refine (laws_pIn.calls (rd t588 (rd t592 0)) (rd t592 3) false _ A65.out).mono ?_); rintro e w' ⟨rfl, ⟨nd, rfl⟩⟩; (try first | exact ⟨rfl, _, World.drewN_drewN _ _ _⟩ | exact ⟨rfl, _, Eq.trans (World.drewN_drewN _ _ _) (congrArg (World.drewN _) (Nat.add_assoc _ _ _))⟩); have p628 : 0 ≤ ((rd t592 2) : Int) := ofd; have q628 : (rd t592 2) < (t588.length : Int) := ofd; obtain ⟨ad628, e628, hx628_0⟩ := Kd.at_int (Kd.R_reads' HO_592001.out).2.2 (rd t592 2) p628 q628; obtain rfl : ad622 = ad628 := (by injection e628); replace p628 := eq_true p628; replace q628 := eq_true q628) | (go_at_call 15; (with_reducible refine (laws_pIn.calls (rd t588 (rd t592 2)) (rd t592 1) false _ A67.out).mono ?_); rintro e w' ⟨rfl, ⟨nd, rfl⟩⟩; (try first | exact ⟨rfl, _, World.drewN_drewN _ _ _⟩ | exact ⟨rfl, _, Eq.trans (World.drewN_drewN _ _ _) (congrArg (World.drewN _) (Nat.add_assoc _ _ _))⟩)) | ((with_reducible refine gate_dst (N := 159) rfl ?_); refine litE (Kd.int .i64) 3 ([2, 0, 8, 0] : List Int) [.int .i64 2, .int .i64 0, .int .i64 8, .int .i64 0] ?hp ?_; (case hp => exact (Reps.one (show Kd.M (Kd.int .i64) _ _ _ 2 [.int .i64 2] from rfl) (Reps.one (show Kd.M (Kd.int .i64) _ _ _ 0 [.int .i64 0] from rfl) (Reps.one (show Kd.M (Kd.int .i64) _ _ _ 8 [.int .i64 8] from rfl) (Reps.one (show Kd.M (Kd.int .i64) _ _ _ 0 [.int .i64 0] from rfl) (Reps.none _ _)))))); intro v631 w73 ho74 hb hg_ hnew_; clear hg_ hnew_; (first | rw [← Ny630.out] at ho74 | (simp only [Int.reduceToNat] at ho74; rw [← Ny630.out] at ho74)); have HO632 := rLo (rN (rN ho74 HO_6) HO_592001) HB; replace HO_6 := rE HO_6 ho74 hb; replace HO_592001 := rE HO_592001 ho74 hb; replace BK591 := blkB BK591 hb; replace HB := bst HB hb; clear hb ho74; obtain ⟨Ao75, co75, rfl⟩ := Kd.R_slice HO632.out) | ((with_reducible refine gate_dst (N := 24) rfl ?_); refine boxG HB #[.int .i64 0, .slice none 0 0] 26 ?_; intro gb633 hg w76 BK633 GE633 hb; replace HO_6 := rB HO_6 hb; replace HO_592001 := rB HO_592001 hb; replace HO632 := rB HO632 hb; have NB591_633 := neL7 BK591 hg; have NB633_591 := neR7 BK591 hg; replace BK591 := blkB BK591 hb; replace HB := bst HB hb; clear hb hg; obtain ⟨hcz78_0, hcz78_1, hfz78_0, hfz78_1⟩ := blk2 BK633; obtain ⟨hcz79_0, hcz79_1, hfz79_0, hfz79_1⟩ := blk2 BK591) | (go_at_call 16; (with_reducible refine (impl_FindPattern.calls kj15 t587 _ _ t588 4 _ _ y630 t634 true _ ?_ ?_ ?_ ?_ A69.out).mono ?_); exact rCF HO_592001 BK633; exact rL HO_592001; exact rCF HO632 BK633; exact rL HO632; rintro e w80 ⟨v635, rfl, ho0, hb⟩; have HO636 := rLo (rNF (rNF (rNF ho0 HO_6 BK633) HO_592001 BK633) HO632 BK633) HB; replace HO_6 := rEF HO_6 BK633 ho0 hb; replace HO_592001 := rEF HO_592001 BK633 ho0 hb; replace HO632 := rEF HO632 BK633 ho0 hb; replace BK591 := blkS BK591 hb; replace BK633 := blkS BK633 hb; replace HB := bst HB hb; clear hb ho0; obtain ⟨Ao81, co81, rfl⟩ := Kd.R_slice HO636.out) | (go_at_call 8; (with_reducible refine (laws_pSame.calls kj15 _ _ t634 _ _ t592 t638 _ ?_ ?_ ?_ ?_ A71.out).mono ?_); exact rC HO636; exact rL HO636; exact rC HO_6; exact rL HO_6; rintro e w' ⟨rfl, ⟨nd, rfl⟩⟩; (try first | exact ⟨rfl, _, World.drewN_drewN _ _ _⟩ | exact ⟨rfl, _, Eq.trans (World.drewN_drewN _ _ _) (congrArg (World.drewN _) (Nat.add_assoc _ _ _))⟩)))
            repeat (go_quiet (first | (go_at_call 15; (with_reducible refine (laws_pIn.calls (rd t588 (rd t592 0)) (rd t592 1) true _ A59.out).mono ?_); rintro e w' ⟨rfl, ⟨nd, rfl⟩⟩; (try first | exact ⟨rfl, _, World.drewN_drewN _ _ _⟩ | exact ⟨rfl, _, Eq.trans (World.drewN_drewN _ _ _) (congrArg (World.drewN _) (Nat.add_assoc _ _ _))⟩); have p624 : 0 ≤ ((rd t592 2) : Int) := ofd; have q624 : (rd t592 2) < (t588.length : Int) := ofd; obtain ⟨ad624, e624, hx624_0⟩ := Kd.at_int (Kd.R_reads' HO_592001.out).2.2 (rd t592 2) p624 q624; obtain rfl : ad622 = ad624 := (by injection e624); replace p624 := eq_true p624; replace q624 := eq_true q624) | (go_at_call 15; (with_reducible refine (laws_pIn.calls (rd t588 (rd t592 2)) (rd t592 3) true _ A63.out).mono ?_); rintro e w' ⟨rfl, ⟨nd, rfl⟩⟩; (try first | exact ⟨rfl, _, World.drewN_drewN _ _ _⟩ | exact ⟨rfl, _, Eq.trans (World.drewN_drewN _ _ _) (congrArg (World.drewN _) (Nat.add_assoc _ _ _))⟩); have p626 : 0 ≤ ((rd t592 0) : Int) := ofd; have q626 : (rd t592 0) < (t588.length : Int) := ofd; obtain ⟨ad626, e626, hx626_0⟩ := Kd.at_int (Kd.R_reads' HO_592001.out).2.2 (rd t592 0) p626 q626; obtain rfl : ad622 = ad626 := (by injection e626); replace p626 := eq_true p626; replace q626 := eq_true q626) | (go_at_call 15; (with_reducible refine (laws_pIn.calls (rd t588 (rd t592 0)) (rd t592 3) false _ A65.out).mono ?_); rintro e w' ⟨rfl, ⟨nd, rfl⟩⟩; (try first | exact ⟨rfl, _, World.drewN_drewN _ _ _⟩ | exact ⟨rfl, _, Eq.trans (World.drewN_drewN _ _ _) (congrArg (World.drewN _) (Nat.add_assoc _ _ _))⟩); have p628 : 0 ≤ ((rd t592 2) : Int) := ofd; have q628 : (rd t592 2) < (t588.length : Int) := ofd; obtain ⟨ad628, e628, hx628_0⟩ := Kd.at_int (Kd.R_reads' HO_592001.out).2.2 (rd t592 2) p628 q628; obtain rfl : ad622 = ad628 := (by injection e628); replace p628 := eq_true p628; replace q628 := eq_true q628) | (go_at_call 15; (with_reducible refine (laws_pIn.calls (rd t588 (rd t592 2)) (rd t592 1) false _ A67.out).mono ?_); rintro e w' ⟨rfl, ⟨nd, rfl⟩⟩; (try first | exact ⟨rfl, _, World.drewN_drewN _ _ _⟩ | exact ⟨rfl, _, Eq.trans (World.drewN_drewN _ _ _) (congrArg (World.drewN _) (Nat.add_assoc _ _ _))⟩)) | ((with_reducible refine gate_dst (N := 159) rfl ?_); refine litE (Kd.int .i64) 3 ([2, 0, 8, 0] : List Int) [.int .i64 2, .int .i64 0, .int .i64 8, .int .i64 0] ?hp ?_; (case hp => exact (Reps.one (show Kd.M (Kd.int .i64) _ _ _ 2 [.int .i64 2] from rfl) (Reps.one (show Kd.M (Kd.int .i64) _ _ _ 0 [.int .i64 0] from rfl) (Reps.one (show Kd.M (Kd.int .i64) _ _ _ 8 [.int .i64 8] from rfl) (Reps.one (show Kd.M (Kd.int .i64) _ _ _ 0 [.int .i64 0] from rfl) (Reps.none _ _)))))); intro v631 w73 ho74 hb hg_ hnew_; clear hg_ hnew_; (first | rw [← Ny630.out] at ho74 | (simp only [Int.reduceToNat] at ho74; rw [← Ny630.out] at ho74)); have HO632 := rLo (rN (rN ho74 HO_6) HO_592001) HB; replace HO_6 := rE HO_6 ho74 hb; replace HO_592001 := rE HO_592001 ho74 hb; replace BK591 := blkB BK591 hb; replace HB := bst HB hb; clear hb ho74; obtain ⟨Ao75, co75, rfl⟩ := Kd.R_slice HO632.out) | ((with_reducible refine gate_dst (N := 24) rfl ?_); refine boxG HB #[.int .i64 0, .slice none 0 0] 26 ?_; intro gb633 hg w76 BK633 GE633 hb; replace HO_6 := rB HO_6 hb; replace HO_592001 := rB HO_592001 hb; replace HO632 := rB HO632 hb; have NB591_633 := neL7 BK591 hg; have NB633_591 := neR7 BK591 hg; replace BK591 := blkB BK591 hb; replace HB := bst HB hb; clear hb hg; obtain ⟨hcz78_0, hcz78_1, hfz78_0, hfz78_1⟩ := blk2 BK633; obtain ⟨hcz79_0, hcz79_1, hfz79_0, hfz79_1⟩ := blk2 BK591) | (go_at_call 16; (with_reducible refine (impl_FindPattern.calls kj15 t587 _ _ t588 4 _ _ y630 t634 true _ ?_ ?_ ?_ ?_ A69.out).mono ?_); exact rCF HO_592001 BK633; exact rL HO_592001; exact rCF HO632 BK633; exact rL HO632; rintro e w80 ⟨v635, rfl, ho0, hb⟩; have HO636 := rLo (rNF (rNF (rNF ho0 HO_6 BK633) HO_592001 BK633) HO632 BK633) HB; replace HO_6 := rEF HO_6 BK633 ho0 hb; replace HO_592001 := rEF HO_592001 BK633 ho0 hb; replace HO632 := rEF HO632 BK633 ho0 hb; replace BK591 := blkS BK591 hb; replace BK633 := blkS BK633 hb; replace HB := bst HB hb; clear hb ho0; obtain ⟨Ao81, co81, rfl⟩ := Kd.R_slice HO636.out) | (go_at_call 8; (with_reducible refine (laws_pSame.calls kj15 _ _ t634 _ _ t592 t638 _ ?_ ?_ ?_ ?_ A71.out).mono ?_); exact rC HO636; exact rL HO636; exact rC HO_6; exact rL HO_6; rintro e w' ⟨rfl, ⟨nd, rfl⟩⟩; (try first | exact ⟨rfl, _, World.drewN_drewN _ _ _⟩ | exact ⟨rfl, _, Eq.trans (World.drewN_drewN _ _ _) (congrArg (World.drewN _) (Nat.add_assoc _ _ _))⟩))); try go_wp2_with (first | (go_at_call 15; (with_reducible refine (laws_pIn.calls (rd t588 (rd t592 0)) (rd t592 1) true _ A59.out).mono ?_); rintro e w' ⟨rfl, ⟨nd, rfl⟩⟩; (try first | exact ⟨rfl, _, World.drewN_drewN _ _ _⟩ | exact ⟨rfl, _, Eq.trans (World.drewN_drewN _ _ _) (congrArg (World.drewN _) (Nat.add_assoc _ _ _))⟩); have p624 : 0 ≤ ((rd t592 2) : Int) := ofd; have q624 : (rd t592 2) < (t588.length : Int) := ofd; obtain ⟨ad624, e624, hx624_0⟩ := Kd.at_int (Kd.R_reads' HO_592001.out).2.2 (rd t592 2) p624 q624; obtain rfl : ad622 = ad624 := (by injection e624); replace p624 := eq_true p624; replace q624 := eq_true q624) | (go_at_call 15; (with_reducible refine (laws_pIn.calls (rd t588 (rd t592 2)) (rd t592 3) true _ A63.out).mono ?_); rintro e w' ⟨rfl, ⟨nd, rfl⟩⟩; (try first | exact ⟨rfl, _, World.drewN_drewN _ _ _⟩ | exact ⟨rfl, _, Eq.trans (World.drewN_drewN _ _ _) (congrArg (World.drewN _) (Nat.add_assoc _ _ _))⟩); have p626 : 0 ≤ ((rd t592 0) : Int) := ofd; have q626 : (rd t592 0) < (t588.length : Int) := ofd; obtain ⟨ad626, e626, hx626_0⟩ := Kd.at_int (Kd.R_reads' HO_592001.out).2.2 (rd t592 0) p626 q626; obtain rfl : ad622 = ad626 := (by injection e626); replace p626 := eq_true p626; replace q626 := eq_true q626) | (go_at_call 15; (with_reducible refine (laws_pIn.calls (rd t588 (rd t592 0)) (rd t592 3) false _ A65.out).mono ?_); rintro e w' ⟨rfl, ⟨nd, rfl⟩⟩; (try first | exact ⟨rfl, _, World.drewN_drewN _ _ _⟩ | exact ⟨rfl, _, Eq.trans (World.drewN_drewN _ _ _) (congrArg (World.drewN _) (Nat.add_assoc _ _ _))⟩); have p628 : 0 ≤ ((rd t592 2) : Int) := ofd; have q628 : (rd t592 2) < (t588.length : Int) := ofd; obtain ⟨ad628, e628, hx628_0⟩ := Kd.at_int (Kd.R_reads' HO_592001.out).2.2 (rd t592 2) p628 q628; obtain rfl : ad622 = ad628 := (by injection e628); replace p628 := eq_true p628; replace q628 := eq_true q628) | (go_at_call 15; (with_reducible refine (laws_pIn.calls (rd t588 (rd t592 2)) (rd t592 1) false _ A67.out).mono ?_); rintro e w' ⟨rfl, ⟨nd, rfl⟩⟩; (try first | exact ⟨rfl, _, World.drewN_drewN _ _ _⟩ | exact ⟨rfl, _, Eq.trans (World.drewN_drewN _ _ _) (congrArg (World.drewN _) (Nat.add_assoc _ _ _))⟩)) | ((with_reducible refine gate_dst (N := 159) rfl ?_); refine litE (Kd.int .i64) 3 ([2, 0, 8, 0] : List Int) [.int .i64 2, .int .i64 0, .int .i64 8, .int .i64 0] ?hp ?_; (case hp => exact (Reps.one (show Kd.M (Kd.int .i64) _ _ _ 2 [.int .i64 2] from rfl) (Reps.one (show Kd.M (Kd.int .i64) _ _ _ 0 [.int .i64 0] from rfl) (Reps.one (show Kd.M (Kd.int .i64) _ _ _ 8 [.int .i64 8] from rfl) (Reps.one (show Kd.M (Kd.int .i64) _ _ _ 0 [.int .i64 0] from rfl) (Reps.none _ _)))))); intro v631 w73 ho74 hb hg_ hnew_; clear hg_ hnew_; (first | rw [← Ny630.out] at ho74 | (simp only [Int.reduceToNat] at ho74; rw [← Ny630.out] at ho74)); have HO632 := rLo (rN (rN ho74 HO_6) HO_592001) HB; replace HO_6 := rE HO_6 ho74 hb; replace HO_592001 := rE HO_592001 ho74 hb; replace BK591 := blkB BK591 hb; replace HB := bst HB hb; clear hb ho74; obtain ⟨Ao75, co75, rfl⟩ := Kd.R_slice HO632.out) | ((with_reducible refine gate_dst (N := 24) rfl ?_); refine boxG HB #[.int .i64 0, .slice none 0 0] 26 ?_; intro gb633 hg w76 BK633 GE633 hb; replace HO_6 := rB HO_6 hb; replace HO_592001 := rB HO_592001 hb; replace HO632 := rB HO632 hb; have NB591_633 := neL7 BK591 hg; have NB633_591 := neR7 BK591 hg; replace BK591 := blkB BK591 hb; replace HB := bst HB hb; clear hb hg; obtain ⟨hcz78_0, hcz78_1, hfz78_0, hfz78_1⟩ := blk2 BK633; obtain ⟨hcz79_0, hcz79_1, hfz79_0, hfz79_1⟩ := blk2 BK591) | (go_at_call 16; (with_reducible refine (impl_FindPattern.calls kj15 t587 _ _ t588 4 _ _ y630 t634 true _ ?_ ?_ ?_ ?_ A69.out).mono ?_); exact rCF HO_592001 BK633; exact rL HO_592001; exact rCF HO632 BK633; exact rL HO632; rintro e w80 ⟨v635, rfl, ho0, hb⟩; have HO636 := rLo (rNF (rNF (rNF ho0 HO_6 BK633) HO_592001 BK633) HO632 BK633) HB; replace HO_6 := rEF HO_6 BK633 ho0 hb; replace HO_592001 := rEF HO_592001 BK633 ho0 hb; replace HO632 := rEF HO632 BK633 ho0 hb; replace BK591 := blkS BK591 hb; replace BK633 := blkS BK633 hb; replace HB := bst HB hb; clear hb ho0; obtain ⟨Ao81, co81, rfl⟩ := Kd.R_slice HO636.out) | (go_at_call 8; (with_reducible refine (laws_pSame.calls kj15 _ _ t634 _ _ t592 t638 _ ?_ ?_ ?_ ?_ A71.out).mono ?_); exact rC HO636; exact rL HO636; exact rC HO_6; exact rL HO_6; rintro e w' ⟨rfl, ⟨nd, rfl⟩⟩; (try first | exact ⟨rfl, _, World.drewN_drewN _ _ _⟩ | exact ⟨rfl, _, Eq.trans (World.drewN_drewN _ _ _) (congrArg (World.drewN _) (Nat.add_assoc _ _ _))⟩))))
            go_ret
            exact ⟨eqE, bel_g HB.out⟩
           ·replace c70 := Bool.eq_false_iff.mpr c70
            subst c70
            replace H := ifF H
            exact absurd H (by simp)
        ·replace c64 := Bool.eq_false_iff.mpr c64
         subst c64
         replace H := ifF H
         exact absurd H (by simp)
       ·replace c60 := Bool.eq_false_iff.mpr c60
        subst c60
        replace H := ifF H
        exact absurd H (by simp)
      ·replace c52 := Bool.eq_false_iff.mpr c52
       subst c52
       replace H := ifF H
       obtain rfl := Option.some.inj H
       go_wp2
       repeat (go_quiet (fail); try go_wp2)
       go_ret
       exact ⟨eqE, bel_g HB.out⟩
  ·replace c10 := Bool.eq_false_iff.mpr c10
   subst c10
   replace H := ifF H
   exact absurd H (by simp)
end Go.Proofs.YtokeomcijelbmaaDoor.Q
