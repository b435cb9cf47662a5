import Derived.Test.YtdpmoehmbjmkpaaDoorBFnPatterns10
import Derived.Test.YtdpmoehmbjmkpaaDoorBFnPatterns18
import Derived.Test.YtdpmoehmbjmkpaaDoorBFnPatterns19
import Derived.Test.YtdpmoehmbjmkpaaDoorBFnPatterns20
namespace Go.Proofs.YtdpmoehmbjmkpaaDoor.Q
open Go.RowKit Go.Proofs.YtdpmoehmbjmkpaaDoorW.PrintWords Go.Proofs.YtdpmoehmbjmkpaaDoorW.PrintLast Go.Proofs.YtdpmoehmbjmkpaaDoorW.PrintMore
attribute [local go_sem] max2_int min2_int max_two min_two max_three min_three max_four min_four neB_f
set_option linter.unusedVariables false
set_option maxHeartbeats 8000000
set_option maxRecDepth 100000
set_option linter.unusedSimpArgs false
mutual
def laws_FnPatterns.j2 : Nat → List Int → Option (Bool)
 | 0, _ => none
 | k + 1, x1 => (spec_DrawRenameOf.f k x1).bind fun bt498 => ((impl_RenameOf.f k bt498.1 bt498.2.1 bt498.2.2).bind fun bt506 => ((spec_RenameOf.f k bt498.1 bt498.2.1 bt498.2.2).bind fun bt512 => (if (bt506.2.2 != bt512.2.2) = true then (none) else ((laws_pSameOrder.f k bt506.1 bt506.2.1 bt512.1 bt512.2.1).bind fun t518 => (if t518 = true then (if bt506.2.2 = true then (laws_FnPatterns.l2 k bt498.2.2 (bt498.2.2.length : Int) 0 bt498.1 bt498.2.1 bt506.1 bt506.2.1) else (some true)) else (none))))))
def laws_FnPatterns.l2 : Nat → List Int → Int → Int → Int → List Int → Int → List Int → Option (Bool)
 | 0, _, _, _, _, _, _, _ => none
 | k + 1, x16, x130, x131, x506000, x506001, x512000, x512001 => if x131 < x130 then (laws_FnPatterns.l3 k x16 x131 x130 x131 (x16.length : Int) 0 x506000 x506001 x512000 x512001) else ((impl_IsSameKind.f k x506000 x506001 x512000 x512001).bind fun bt519 => (if (bt519.2 == (decide (x506000 ≤ 6))) = true then (some (bt519.1 == bt519.2)) else (none)))
def laws_FnPatterns.l3 : Nat → List Int → Int → Int → Int → Int → Int → Int → List Int → Int → List Int → Option (Bool)
 | 0, _, _, _, _, _, _, _, _, _, _ => none
 | k + 1, x16, x21, x130, x131, x135, x136, x506000, x506001, x512000, x512001 => if x136 < x135 then (if 0 ≤ x21 then (if x21 < (x506001.length : Int) then ((laws_pIn.f (rd x506001 x21) x136).bind fun t522 => (if x21 < (x16.length : Int) then (if 0 ≤ (rd x16 x21) then (if (rd x16 x21) < (x512001.length : Int) then (if 0 ≤ x136 then (if x136 < (x16.length : Int) then ((laws_pIn.f (rd x512001 (rd x16 x21)) (rd x16 x136)).bind fun t526 => (if (t522 != t526) = true then (none) else (laws_FnPatterns.l3 k x16 x21 x130 x131 x135 (wrap64 (x136 + 1)) x506000 x506001 x512000 x512001))) else (none)) else (none)) else (none)) else (none)) else (none))) else (none)) else (none)) else (laws_FnPatterns.l2 k x16 x130 (wrap64 (x131 + 1)) x506000 x506001 x512000 x512001)
def laws_FnPatterns.l0 : Nat → List Int → List Int → List Int → Int → Int → Int → List Int → Int → List Int → Option (Bool)
 | 0, _, _, _, _, _, _, _, _, _ => none
 | k + 1, x1, x7, x55, x56, x57, x478000, x478001, x479000, x479001 => if x57 < x56 then (if 0 ≤ x57 then (if x57 < (x55.length : Int) then (laws_FnPatterns.l1 k x1 x7 x57 (rd x55 x57) x55 x56 x57 x7 (x7.length : Int) 0 x478000 x478001 x479000 x479001) else (none)) else (none)) else (if (x7.length : Int) = x479000 then (laws_FnPatterns.j2 k x1) else (none))
def laws_FnPatterns.l1 : Nat → List Int → List Int → Int → Int → List Int → Int → Int → List Int → Int → Int → Int → List Int → Int → List Int → Option (Bool)
 | 0, _, _, _, _, _, _, _, _, _, _, _, _, _, _ => none
 | k + 1, x1, x7, x11, x12, x55, x56, x57, x62, x63, x64, x478000, x478001, x479000, x479001 => if x64 < x63 then (if 0 ≤ x64 then (if x64 < (x62.length : Int) then (if x11 = x64 then (if 0 ≤ x12 then (if x12 < (x478001.length : Int) then ((laws_pIn.f (rd x478001 x12) (rd x62 x64)).bind fun t491 => (if 0 ≤ x11 then (if x11 < (x479001.length : Int) then ((laws_pIn.f (rd x479001 x11) x64).bind fun t493 => (if (t491 != t493) = true then (none) else (laws_FnPatterns.l1 k x1 x7 x11 x12 x55 x56 x57 x62 x63 (wrap64 (x64 + 1)) x478000 x478001 x479000 x479001))) else (none)) else (none))) else (none)) else (none)) else (if x12 = (rd x62 x64) then (none) else (if 0 ≤ x12 then (if x12 < (x478001.length : Int) then ((laws_pIn.f (rd x478001 x12) (rd x62 x64)).bind fun t495 => (if 0 ≤ x11 then (if x11 < (x479001.length : Int) then ((laws_pIn.f (rd x479001 x11) x64).bind fun t497 => (if (t495 != t497) = true then (none) else (laws_FnPatterns.l1 k x1 x7 x11 x12 x55 x56 x57 x62 x63 (wrap64 (x64 + 1)) x478000 x478001 x479000 x479001))) else (none)) else (none))) else (none)) else (none)))) else (none)) else (none)) else (laws_FnPatterns.l0 k x1 x7 x55 x56 (wrap64 (x57 + 1)) x478000 x478001 x479000 x479001)
end
def laws_FnPatterns.f (k : Nat) (l0 : List Int) (l1 : List Int) : Option (Bool) := (laws_big.f l0 l1).bind fun t468 => (if t468 = true then (some true) else ((spec_DrawFindPattern.f k l0).bind fun bt469 => ((impl_FindPattern.f k bt469.1 bt469.2.1 bt469.2.2.1 bt469.2.2.2).bind fun bt479 => ((spec_FindPattern.f k bt469.1 bt469.2.1 bt469.2.2.1 bt469.2.2.2).bind fun bt483 => (if (bt479.2 != bt483.2) = true then (none) else ((laws_pSame.f k bt479.1 bt483.1).bind fun t487 => (if t487 = true then (if bt483.2 = true then (laws_FnPatterns.l0 k l1 bt479.1 bt479.1 (bt479.1.length : Int) 0 bt469.1 bt469.2.1 bt469.2.2.1 bt469.2.2.2) else (laws_FnPatterns.j2 k l1)) else (none))))))))
theorem laws_FnPatterns.mono_l : ∀ k, (∀ y0, LeO (laws_FnPatterns.j2 k y0) (laws_FnPatterns.j2 (k + 1) y0)) ∧ (∀ y0 y1 y2 y3 y4 y5 y6, LeO (laws_FnPatterns.l2 k y0 y1 y2 y3 y4 y5 y6) (laws_FnPatterns.l2 (k + 1) y0 y1 y2 y3 y4 y5 y6)) ∧ (∀ y0 y1 y2 y3 y4 y5 y6 y7 y8 y9, LeO (laws_FnPatterns.l3 k y0 y1 y2 y3 y4 y5 y6 y7 y8 y9) (laws_FnPatterns.l3 (k + 1) y0 y1 y2 y3 y4 y5 y6 y7 y8 y9)) ∧ (∀ y0 y1 y2 y3 y4 y5 y6 y7 y8, LeO (laws_FnPatterns.l0 k y0 y1 y2 y3 y4 y5 y6 y7 y8) (laws_FnPatterns.l0 (k + 1) y0 y1 y2 y3 y4 y5 y6 y7 y8)) ∧ (∀ y0 y1 y2 y3 y4 y5 y6 y7 y8 y9 y10 y11 y12 y13, LeO (laws_FnPatterns.l1 k y0 y1 y2 y3 y4 y5 y6 y7 y8 y9 y10 y11 y12 y13) (laws_FnPatterns.l1 (k + 1) y0 y1 y2 y3 y4 y5 y6 y7 y8 y9 y10 y11 y12 y13))
 | 0 => ⟨fun _ r h => by simp [laws_FnPatterns.j2] at h, fun _ _ _ _ _ _ _ r h => by simp [laws_FnPatterns.l2] at h, fun _ _ _ _ _ _ _ _ _ _ r h => by simp [laws_FnPatterns.l3] at h, fun _ _ _ _ _ _ _ _ _ r h => by simp [laws_FnPatterns.l0] at h, fun _ _ _ _ _ _ _ _ _ _ _ _ _ _ r h => by simp [laws_FnPatterns.l1] at h⟩
 | k + 1 => by
  obtain ⟨ih0, ih1, ih2, ih3, ih4⟩ := laws_FnPatterns.mono_l k
  refine ⟨?_, ?_, ?_, ?_, ?_⟩ <;> intros
  unfold laws_FnPatterns.j2
  rotate_left
  unfold laws_FnPatterns.l2
  rotate_left
  unfold laws_FnPatterns.l3
  rotate_left
  unfold laws_FnPatterns.l0
  rotate_left
  unfold laws_FnPatterns.l1
  rotate_left
  all_goals repeat' (with_reducible first|apply ih0|apply ih1|apply ih2|apply ih3|apply ih4|apply impl_FindPattern.mono|apply impl_IsSameKind.mono|apply impl_RenameOf.mono|apply laws_pSame.mono|apply laws_pSameOrder.mono|apply spec_DrawFindPattern.mono|apply spec_DrawRenameOf.mono|apply spec_FindPattern.mono|apply spec_RenameOf.mono|apply LeO.refl|apply LeO.none|apply LeO.ite|apply LeO.bind|intro)
theorem laws_FnPatterns.mono : ∀ a0 a1 k, LeO (laws_FnPatterns.f k a0 a1) (laws_FnPatterns.f (k + 1) a0 a1) := by
 intro a0 a1 k
 obtain ⟨ih0, ih1, ih2, ih3, ih4⟩ := laws_FnPatterns.mono_l k
 unfold laws_FnPatterns.f
 repeat' (with_reducible first|apply ih0|apply ih1|apply ih2|apply ih3|apply ih4|apply impl_FindPattern.mono|apply impl_IsSameKind.mono|apply impl_RenameOf.mono|apply laws_pSame.mono|apply laws_pSameOrder.mono|apply spec_DrawFindPattern.mono|apply spec_DrawRenameOf.mono|apply spec_FindPattern.mono|apply spec_RenameOf.mono|apply LeO.refl|apply LeO.none|apply LeO.ite|apply LeO.bind|intro)
theorem laws_FnPatterns.calls (k : Nat) (A0 : Option Addr) (c0 : Nat) (l0 : List Int) (A1 : Option Addr) (c1 : Nat) (l1 : List Int) (r : Bool) (w : World) (hr0 : Kd.C (Kd.int .u8) w A0 l0.length l0) (hc0 : l0.length ≤ c0) (hr1 : Kd.C (Kd.int .u8) w A1 l1.length l1) (hc1 : l1.length ≤ c1) (hTAB : Tab w) (h : laws_FnPatterns.f k l0 l1 = some r) :
  Calls Tryd.prog 3 #[.slice A0 l0.length c0, .slice A1 l1.length c1] w fun e w' => e = .returned (.bool r) ∧ Below w.heap.size w w' := by
 have HTAB := mkA hTAB
 clear hTAB
 have hu26 := Tryd.underlying26
 have HR0 := mkA hr0
 have HC0 := mkA hc0
 clear hr0 hc0
 have HR1 := mkA hr1
 have HC1 := mkA hc1
 clear hr1 hc1
 have HB := mkA (Below.refl w.heap.size w)
 have H := h
 clear h
 unfold laws_FnPatterns.f at H
 obtain ⟨t468, A3, H⟩ := obE H
 by_cases c4 : t468 = true
 ·subst c4
  replace H := ifT H
  obtain rfl := Option.some.inj H
  go_enter Tryd.func3, Tryd.ntmps3
  go_wp2_with (first | (go_at_call 4; (with_reducible refine (laws_big.calls _ _ l0 _ _ l1 true _ ?s1 ?s2 ?s3 ?s4 A3.out).mono ?_); (case s1 => repeat (first | exact HR0.out | (with_reducible refine Kd.C_alloc ?_ _) | (with_reducible refine Kd.C_drewN ?_ _) | (with_reducible refine Kd.C_drew ?_))); (case s2 => exact HC0.out); (case s3 => repeat (first | exact HR1.out | (with_reducible refine Kd.C_alloc ?_ _) | (with_reducible refine Kd.C_drewN ?_ _) | (with_reducible refine Kd.C_drew ?_))); (case s4 => exact HC1.out); rintro e w' ⟨rfl, ⟨nd, rfl⟩⟩; (try first | exact ⟨rfl, _, World.drewN_drewN _ _ _⟩ | exact ⟨rfl, _, Eq.trans (World.drewN_drewN _ _ _) (congrArg (World.drewN _) (Nat.add_assoc _ _ _))⟩)))
  repeat (go_quiet (first | (go_at_call 4; (with_reducible refine (laws_big.calls _ _ l0 _ _ l1 true _ ?s1 ?s2 ?s3 ?s4 A3.out).mono ?_); (case s1 => repeat (first | exact HR0.out | (with_reducible refine Kd.C_alloc ?_ _) | (with_reducible refine Kd.C_drewN ?_ _) | (with_reducible refine Kd.C_drew ?_))); (case s2 => exact HC0.out); (case s3 => repeat (first | exact HR1.out | (with_reducible refine Kd.C_alloc ?_ _) | (with_reducible refine Kd.C_drewN ?_ _) | (with_reducible refine Kd.C_drew ?_))); (case s4 => exact HC1.out); rintro e w' ⟨rfl, ⟨nd, rfl⟩⟩; (try first | exact ⟨rfl, _, World.drewN_drewN _ _ _⟩ | exact ⟨rfl, _, Eq.trans (World.drewN_drewN _ _ _) (congrArg (World.drewN _) (Nat.add_assoc _ _ _))⟩))); try go_wp2_with (first | (go_at_call 4; (with_reducible refine (laws_big.calls _ _ l0 _ _ l1 true _ ?s1 ?s2 ?s3 ?s4 A3.out).mono ?_); (case s1 => repeat (first | exact HR0.out | (with_reducible refine Kd.C_alloc ?_ _) | (with_reducible refine Kd.C_drewN ?_ _) | (with_reducible refine Kd.C_drew ?_))); (case s2 => exact HC0.out); (case s3 => repeat (first | exact HR1.out | (with_reducible refine Kd.C_alloc ?_ _) | (with_reducible refine Kd.C_drewN ?_ _) | (with_reducible refine Kd.C_drew ?_))); (case s4 => exact HC1.out); rintro e w' ⟨rfl, ⟨nd, rfl⟩⟩; (try first | exact ⟨rfl, _, World.drewN_drewN _ _ _⟩ | exact ⟨rfl, _, Eq.trans (World.drewN_drewN _ _ _) (congrArg (World.drewN _) (Nat.add_assoc _ _ _))⟩))))
  go_ret
  exact ⟨eqE, bel_g HB.out⟩
 ·replace c4 := Bool.eq_false_iff.mpr c4
  subst c4
  replace H := ifF H
  obtain ⟨⟨t469, t470, t473, t474⟩, A5, H⟩ := obE H
  dsimp only at H
  obtain ⟨⟨t479, t482⟩, A6, H⟩ := obE H
  dsimp only at H
  obtain ⟨⟨t483, t486⟩, A7, H⟩ := obE H
  dsimp only at H
  obtain ⟨c8, H⟩ := itMP H
  have c8b0 : (t482 != t486) = false := by simpa using c8
  (try (have c8b1 : decide (t482 = t486) = true := by simpa using c8))
  (try (have c8b2 : (t482 == t486) = true := by simpa using c8))
  clear c8
  obtain ⟨t487, A9, H⟩ := obE H
  by_cases c10 : t487 = true
  ·subst c10
   replace H := ifT H
   have HC11 := mkA H
   clear H
   go_enter Tryd.func3, Tryd.ntmps3
   go_upto_if 54 with (first | (go_at_call 4; (with_reducible refine (laws_big.calls _ _ l0 _ _ l1 false _ ?s1 ?s2 ?s3 ?s4 A3.out).mono ?_); (case s1 => repeat (first | exact HR0.out | (with_reducible refine Kd.C_alloc ?_ _) | (with_reducible refine Kd.C_drewN ?_ _) | (with_reducible refine Kd.C_drew ?_))); (case s2 => exact HC0.out); (case s3 => repeat (first | exact HR1.out | (with_reducible refine Kd.C_alloc ?_ _) | (with_reducible refine Kd.C_drewN ?_ _) | (with_reducible refine Kd.C_drew ?_))); (case s4 => exact HC1.out); rintro e w' ⟨rfl, ⟨nd, rfl⟩⟩; (try first | exact ⟨rfl, _, World.drewN_drewN _ _ _⟩ | exact ⟨rfl, _, Eq.trans (World.drewN_drewN _ _ _) (congrArg (World.drewN _) (Nat.add_assoc _ _ _))⟩)) | (go_at_call 5; (with_reducible refine (spec_DrawFindPattern.calls k _ _ l0 t469 t470 t473 t474 _ ?s1 ?s2 A5.out).mono ?_); (case s1 => repeat (first | exact HR0.out | (with_reducible refine Kd.C_alloc ?_ _) | (with_reducible refine Kd.C_drewN ?_ _) | (with_reducible refine Kd.C_drew ?_))); (case s2 => exact HC0.out); rintro e w12 ⟨v471, v475, rfl, ho0, ho1, hb⟩; have HO472 := rLo ho0 HB; have HO476 := rLo ho1 HB; replace HB := bst HB hb; clear hb ho0 ho1) | ((with_reducible refine gate_dst (N := 5) rfl ?_); refine boxG HB #[.int .i64 0, .slice none 0 0] 26 ?_; intro gb477 hg w13 BK477 GE477 hb; replace HO472 := rB HO472 hb; replace HO476 := rB HO476 hb; replace HB := bst HB hb; clear hb hg) | ((with_reducible refine gate_dst (N := 6) rfl ?_); refine boxG HB #[.int .i64 0, .slice none 0 0] 26 ?_; intro gb478 hg w14 BK478 GE478 hb; replace HO472 := rB HO472 hb; replace HO476 := rB HO476 hb; have NB477_478 := neL7 BK477 hg; have NB478_477 := neR7 BK477 hg; replace BK477 := blkB BK477 hb; replace HB := bst HB hb; clear hb hg; obtain ⟨hcz16_0, hcz16_1, hfz16_0, hfz16_1⟩ := blk2 BK477; obtain ⟨Ao17, co17, rfl⟩ := Kd.R_slice HO472.out; obtain ⟨hcz18_0, hcz18_1, hfz18_0, hfz18_1⟩ := blk2 BK478; obtain ⟨Ao19, co19, rfl⟩ := Kd.R_slice HO476.out) | (go_at_call 6; (with_reducible refine (impl_FindPattern.calls k t469 _ _ t470 t473 _ _ t474 t479 t482 _ ?_ ?_ ?_ ?_ A6.out).mono ?_); exact rDF HO472 BK477 BK478; exact rL HO472; exact rDF HO476 BK477 BK478; exact rL HO476; rintro e w20 ⟨v480, rfl, ho0, hb⟩; have HO481 := rLo (Kd.R_new' (Kd.R_new' ho0 (Kd.R_lt (rGg HO472 BK477 BK478))) (Kd.R_lt (rGg HO476 BK477 BK478))) HB; replace HO472 := mkA (Kd.R_elder' (rGg HO472 BK477 BK478) (Kd.R_base ho0) hb); replace HO476 := mkA (Kd.R_elder' (rGg HO476 BK477 BK478) (Kd.R_base ho0) hb); replace BK477 := blkS BK477 hb; replace BK478 := blkS BK478 hb; replace HB := bst HB hb; clear hb ho0; obtain ⟨hcz21_0, hcz21_1, hfz21_0, hfz21_1⟩ := blk2 BK477; obtain ⟨hcz22_0, hcz22_1, hfz22_0, hfz22_1⟩ := blk2 BK478) | (go_at_call 7; (with_reducible refine (spec_FindPattern.calls k t469 _ _ t470 t473 _ _ t474 t483 t486 _ ?_ ?_ ?_ ?_ A7.out).mono ?_); exact rC HO472; exact rL HO472; exact rC HO476; exact rL HO476; rintro e w23 ⟨v484, rfl, ho0, hb⟩; have HO485 := rLo (rN (rN (rN ho0 HO472) HO476) HO481) HB; replace HO472 := rE HO472 ho0 hb; replace HO476 := rE HO476 ho0 hb; replace HO481 := rE HO481 ho0 hb; replace BK477 := blkB BK477 hb; replace BK478 := blkB BK478 hb; replace HB := bst HB hb; clear hb ho0; obtain ⟨Ao24, co24, rfl⟩ := Kd.R_slice HO481.out; obtain ⟨Ao25, co25, rfl⟩ := Kd.R_slice HO485.out) | (go_at_call 8; (with_reducible refine (laws_pSame.calls k _ _ t479 _ _ t483 true _ ?_ ?_ ?_ ?_ A9.out).mono ?_); exact rC HO481; exact rL HO481; exact rC HO485; exact rL HO485; rintro e w' ⟨rfl, ⟨nd, rfl⟩⟩; (try first | exact ⟨rfl, _, World.drewN_drewN _ _ _⟩ | exact ⟨rfl, _, Eq.trans (World.drewN_drewN _ _ _) (congrArg (World.drewN _) (Nat.add_assoc _ _ _))⟩)))
   repeat (go_quiet (first | (go_at_call 4; (with_reducible refine (laws_big.calls _ _ l0 _ _ l1 false _ ?s1 ?s2 ?s3 ?s4 A3.out).mono ?_); (case s1 => repeat (first | exact HR0.out | (with_reducible refine Kd.C_alloc ?_ _) | (with_reducible refine Kd.C_drewN ?_ _) | (with_reducible refine Kd.C_drew ?_))); (case s2 => exact HC0.out); (case s3 => repeat (first | exact HR1.out | (with_reducible refine Kd.C_alloc ?_ _) | (with_reducible refine Kd.C_drewN ?_ _) | (with_reducible refine Kd.C_drew ?_))); (case s4 => exact HC1.out); rintro e w' ⟨rfl, ⟨nd, rfl⟩⟩; (try first | exact ⟨rfl, _, World.drewN_drewN _ _ _⟩ | exact ⟨rfl, _, Eq.trans (World.drewN_drewN _ _ _) (congrArg (World.drewN _) (Nat.add_assoc _ _ _))⟩)) | (go_at_call 5; (with_reducible refine (spec_DrawFindPattern.calls k _ _ l0 t469 t470 t473 t474 _ ?s1 ?s2 A5.out).mono ?_); (case s1 => repeat (first | exact HR0.out | (with_reducible refine Kd.C_alloc ?_ _) | (with_reducible refine Kd.C_drewN ?_ _) | (with_reducible refine Kd.C_drew ?_))); (case s2 => exact HC0.out); rintro e w12 ⟨v471, v475, rfl, ho0, ho1, hb⟩; have HO472 := rLo ho0 HB; have HO476 := rLo ho1 HB; replace HB := bst HB hb; clear hb ho0 ho1) | ((with_reducible refine gate_dst (N := 5) rfl ?_); refine boxG HB #[.int .i64 0, .slice none 0 0] 26 ?_; intro gb477 hg w13 BK477 GE477 hb; replace HO472 := rB HO472 hb; replace HO476 := rB HO476 hb; replace HB := bst HB hb; clear hb hg) | ((with_reducible refine gate_dst (N := 6) rfl ?_); refine boxG HB #[.int .i64 0, .slice none 0 0] 26 ?_; intro gb478 hg w14 BK478 GE478 hb; replace HO472 := rB HO472 hb; replace HO476 := rB HO476 hb; have NB477_478 := neL7 BK477 hg; have NB478_477 := neR7 BK477 hg; replace BK477 := blkB BK477 hb; replace HB := bst HB hb; clear hb hg; obtain ⟨hcz16_0, hcz16_1, hfz16_0, hfz16_1⟩ := blk2 BK477; obtain ⟨Ao17, co17, rfl⟩ := Kd.R_slice HO472.out; obtain ⟨hcz18_0, hcz18_1, hfz18_0, hfz18_1⟩ := blk2 BK478; obtain ⟨Ao19, co19, rfl⟩ := Kd.R_slice HO476.out) | (go_at_call 6; (with_reducible refine (impl_FindPattern.calls k t469 _ _ t470 t473 _ _ t474 t479 t482 _ ?_ ?_ ?_ ?_ A6.out).mono ?_); exact rDF HO472 BK477 BK478; exact rL HO472; exact rDF HO476 BK477 BK478; exact rL HO476; rintro e w20 ⟨v480, rfl, ho0, hb⟩; have HO481 := rLo (Kd.R_new' (Kd.R_new' ho0 (Kd.R_lt (rGg HO472 BK477 BK478))) (Kd.R_lt (rGg HO476 BK477 BK478))) HB; replace HO472 := mkA (Kd.R_elder' (rGg HO472 BK477 BK478) (Kd.R_base ho0) hb); replace HO476 := mkA (Kd.R_elder' (rGg HO476 BK477 BK478) (Kd.R_base ho0) hb); replace BK477 := blkS BK477 hb; replace BK478 := blkS BK478 hb; replace HB := bst HB hb; clear hb ho0; obtain ⟨hcz21_0, hcz21_1, hfz21_0, hfz21_1⟩ := blk2 BK477; obtain ⟨hcz22_0, hcz22_1, hfz22_0, hfz22_1⟩ := blk2 BK478) | (go_at_call 7; (with_reducible refine (spec_FindPattern.calls k t469 _ _ t470 t473 _ _ t474 t483 t486 _ ?_ ?_ ?_ ?_ A7.out).mono ?_); exact rC HO472; exact rL HO472; exact rC HO476; exact rL HO476; rintro e w23 ⟨v484, rfl, ho0, hb⟩; have HO485 := rLo (rN (rN (rN ho0 HO472) HO476) HO481) HB; replace HO472 := rE HO472 ho0 hb; replace HO476 := rE HO476 ho0 hb; replace HO481 := rE HO481 ho0 hb; replace BK477 := blkB BK477 hb; replace BK478 := blkB BK478 hb; replace HB := bst HB hb; clear hb ho0; obtain ⟨Ao24, co24, rfl⟩ := Kd.R_slice HO481.out; obtain ⟨Ao25, co25, rfl⟩ := Kd.R_slice HO485.out) | (go_at_call 8; (with_reducible refine (laws_pSame.calls k _ _ t479 _ _ t483 true _ ?_ ?_ ?_ ?_ A9.out).mono ?_); exact rC HO481; exact rL HO481; exact rC HO485; exact rL HO485; rintro e w' ⟨rfl, ⟨nd, rfl⟩⟩; (try first | exact ⟨rfl, _, World.drewN_drewN _ _ _⟩ | exact ⟨rfl, _, Eq.trans (World.drewN_drewN _ _ _) (congrArg (World.drewN _) (Nat.add_assoc _ _ _))⟩))); go_upto_if 54 with (first | (go_at_call 4; (with_reducible refine (laws_big.calls _ _ l0 _ _ l1 false _ ?s1 ?s2 ?s3 ?s4 A3.out).mono ?_); (case s1 => repeat (first | exact HR0.out | (with_reducible refine Kd.C_alloc ?_ _) | (with_reducible refine Kd.C_drewN ?_ _) | (with_reducible refine Kd.C_drew ?_))); (case s2 => exact HC0.out); (case s3 => repeat (first | exact HR1.out | (with_reducible refine Kd.C_alloc ?_ _) | (with_reducible refine Kd.C_drewN ?_ _) | (with_reducible refine Kd.C_drew ?_))); (case s4 => exact HC1.out); rintro e w' ⟨rfl, ⟨nd, rfl⟩⟩; (try first | exact ⟨rfl, _, World.drewN_drewN _ _ _⟩ | exact ⟨rfl, _, Eq.trans (World.drewN_drewN _ _ _) (congrArg (World.drewN _) (Nat.add_assoc _ _ _))⟩)) | (go_at_call 5; (with_reducible refine (spec_DrawFindPattern.calls k _ _ l0 t469 t470 t473 t474 _ ?s1 ?s2 A5.out).mono ?_); (case s1 => repeat (first | exact HR0.out | (with_reducible refine Kd.C_alloc ?_ _) | (with_reducible refine Kd.C_drewN ?_ _) | (with_reducible refine Kd.C_drew ?_))); (case s2 => exact HC0.out); rintro e w12 ⟨v471, v475, rfl, ho0, ho1, hb⟩; have HO472 := rLo ho0 HB; have HO476 := rLo ho1 HB; replace HB := bst HB hb; clear hb ho0 ho1) | ((with_reducible refine gate_dst (N := 5) rfl ?_); refine boxG HB #[.int .i64 0, .slice none 0 0] 26 ?_; intro gb477 hg w13 BK477 GE477 hb; replace HO472 := rB HO472 hb; replace HO476 := rB HO476 hb; replace HB := bst HB hb; clear hb hg) | ((with_reducible refine gate_dst (N := 6) rfl ?_); refine boxG HB #[.int .i64 0, .slice none 0 0] 26 ?_; intro gb478 hg w14 BK478 GE478 hb; replace HO472 := rB HO472 hb; replace HO476 := rB HO476 hb; have NB477_478 := neL7 BK477 hg; have NB478_477 := neR7 BK477 hg; replace BK477 := blkB BK477 hb; replace HB := bst HB hb; clear hb hg; obtain ⟨hcz16_0, hcz16_1, hfz16_0, hfz16_1⟩ := blk2 BK477; obtain ⟨Ao17, co17, rfl⟩ := Kd.R_slice HO472.out; obtain ⟨hcz18_0, hcz18_1, hfz18_0, hfz18_1⟩ := blk2 BK478; obtain ⟨Ao19, co19, rfl⟩ := Kd.R_slice HO476.out) | (go_at_call 6; (with_reducible refine (impl_FindPattern.calls k t469 _ _ t470 t473 _ _ t474 t479 t482 _ ?_ ?_ ?_ ?_ A6.out).mono ?_); exact rDF HO472 BK477 BK478; exact rL HO472; exact rDF HO476 BK477 BK478; exact rL HO476; rintro e w20 ⟨v480, rfl, ho0, hb⟩; have HO481 := rLo (Kd.R_new' (Kd.R_new' ho0 (Kd.R_lt (rGg HO472 BK477 BK478))) (Kd.R_lt (rGg HO476 BK477 BK478))) HB; replace HO472 := mkA (Kd.R_elder' (rGg HO472 BK477 BK478) (Kd.R_base ho0) hb); replace HO476 := mkA (Kd.R_elder' (rGg HO476 BK477 BK478) (Kd.R_base ho0) hb); replace BK477 := blkS BK477 hb; replace BK478 := blkS BK478 hb; replace HB := bst HB hb; clear hb ho0; obtain ⟨hcz21_0, hcz21_1, hfz21_0, hfz21_1⟩ := blk2 BK477; obtain ⟨hcz22_0, hcz22_1, hfz22_0, hfz22_1⟩ := blk2 BK478) | (go_at_call 7; (with_reducible refine (spec_FindPattern.calls k t469 _ _ t470 t473 _ _ t474 t483 t486 _ ?_ ?_ ?_ ?_ A7.out).mono ?_); exact rC HO472; exact rL HO472; exact rC HO476; exact rL HO476; rintro e w23 ⟨v484, rfl, ho0, hb⟩; have HO485 := rLo (rN (rN (rN ho0 HO472) HO476) HO481) HB; replace HO472 := rE HO472 ho0 hb; replace HO476 := rE HO476 ho0 hb; replace HO481 := rE HO481 ho0 hb; replace BK477 := blkB BK477 hb; replace BK478 := blkB BK478 hb; replace HB := bst HB hb; clear hb ho0; obtain ⟨Ao24, co24, rfl⟩ := Kd.R_slice HO481.out; obtain ⟨Ao25, co25, rfl⟩ := Kd.R_slice HO485.out) | (go_at_call 8; (with_reducible refine (laws_pSame.calls k _ _ t479 _ _ t483 true _ ?_ ?_ ?_ ?_ A9.out).mono ?_); exact rC HO481; exact rL HO481; exact rC HO485; exact rL HO485; rintro e w' ⟨rfl, ⟨nd, rfl⟩⟩; (try first | exact ⟨rfl, _, World.drewN_drewN _ _ _⟩ | exact ⟨rfl, _, Eq.trans (World.drewN_drewN _ _ _) (congrArg (World.drewN _) (Nat.add_assoc _ _ _))⟩))))
   (try simp only [Act.put, List.setIfInBounds_toArray, List.set_cons_zero, List.set_cons_succ])
   go_cut [] (fun wc => ∃ (kq : Nat), Fc (laws_FnPatterns.j2 kq l1 = some r) ∧ Fc (kq ≤ k) ∧ Fc (Kd.R (Kd.int .i64) 3 wc w.heap.size (fun k_ => some k_ ≠ ((.slice Ao19 t474.length co19) : Value).ownBlock) (.slice Ao17 t470.length co17) t470) ∧ Fc (Kd.R (Kd.int .i64) 3 wc w.heap.size (fun k_ => some k_ ≠ ((.slice Ao17 t470.length co17) : Value).ownBlock) (.slice Ao19 t474.length co19) t474) ∧ Fc (wc.heap[gb477]? = some (.cells #[.int .i64 t469, (.slice Ao17 t470.length co17)] 26 (0, 0))) ∧ Fc (wc.heap[gb478]? = some (.cells #[.int .i64 t473, (.slice Ao19 t474.length co19)] 26 (0, 0))) ∧ Fc (Below w.heap.size w wc))
   case first =>
    have H := HC11.out
    clear HC11
    by_cases c26 : t486 = true
    ·subst c26
     replace H := ifT H
     have H' := mkA H
     clear H
     go_wp2
     repeat (go_quiet (fail); try go_wp2)
     go_loopg [57] k (fun kq v57 w' => ∃ (x57_1 : Int), v57 = .int .i64 x57_1 ∧ Fc (laws_FnPatterns.l0 kq l1 t479 t479 (t479.length : Int) x57_1 t469 t470 t473 t474 = some r) ∧ Fc (kq ≤ k) ∧ Fc (Kd.R (Kd.int .i64) 3 w' w.heap.size (fun k_ => some k_ ≠ ((.slice Ao17 t470.length co17) : Value).ownBlock ∧ some k_ ≠ ((.slice Ao19 t474.length co19) : Value).ownBlock) (.slice Ao24 t479.length co24) t479) ∧ Fc (Kd.R (Kd.int .i64) 3 w' w.heap.size (fun k_ => some k_ ≠ ((.slice Ao17 t470.length co17) : Value).ownBlock ∧ some k_ ≠ ((.slice Ao19 t474.length co19) : Value).ownBlock) (.slice Ao24 t479.length co24) t479) ∧ Fc (Kd.R (Kd.int .i64) 3 w' w.heap.size (fun k_ => some k_ ≠ ((.slice Ao24 t479.length co24) : Value).ownBlock ∧ some k_ ≠ ((.slice Ao24 t479.length co24) : Value).ownBlock ∧ some k_ ≠ ((.slice Ao19 t474.length co19) : Value).ownBlock) (.slice Ao17 t470.length co17) t470) ∧ Fc (Kd.R (Kd.int .i64) 3 w' w.heap.size (fun k_ => some k_ ≠ ((.slice Ao24 t479.length co24) : Value).ownBlock ∧ some k_ ≠ ((.slice Ao24 t479.length co24) : Value).ownBlock ∧ some k_ ≠ ((.slice Ao17 t470.length co17) : Value).ownBlock) (.slice Ao19 t474.length co19) t474) ∧ Fc (w'.heap[gb477]? = some (.cells #[.int .i64 t469, (.slice Ao17 t470.length co17)] 26 (0, 0))) ∧ Fc (w'.heap[gb478]? = some (.cells #[.int .i64 t473, (.slice Ao19 t474.length co19)] 26 (0, 0))) ∧ Fc (Below w.heap.size w w'))
     case atStart => exact ⟨(0), eqS, H', ⟨Nat.le_refl _⟩, ⟨Kd.R_g (Kd.R_mono HO481.out (fun _ hk => ⟨hk.1.1.2, hk.1.2⟩))⟩, ⟨Kd.R_g (Kd.R_mono HO481.out (fun _ hk => ⟨hk.1.1.2, hk.1.2⟩))⟩, ⟨Kd.R_g (Kd.R_mono HO472.out (fun _ hk => ⟨hk.1.2, ⟨hk.1.2, hk.1.1⟩⟩))⟩, ⟨Kd.R_g (Kd.R_mono HO476.out (fun _ hk => ⟨hk.1.2, ⟨hk.1.2, hk.1.1⟩⟩))⟩, bg BK477, bg BK478, hbg HB⟩
     case round =>
      clear H'
      try clear c1
      try clear c4
      try clear c8
      try clear c8b0
      try clear c8b1
      try clear c8b2
      try clear c10
      try clear c26
      obtain ⟨x57_1, rfl, HA, HK1, HO_7, HO_55, HO_478001, HO_479001, BK477, BK478, HB⟩ := hrel
      cases gk with
      | zero => exact absurd HA.out (by simp [laws_FnPatterns.l0])
      | succ k1 =>
       have H := HA.out
       clear HA
       simp only [laws_FnPatterns.l0] at H
       rcases iteE H with ⟨c27b0, H⟩ | ⟨c27b0, H⟩
       ·(first | rw [c27b0] | (simp only [i64_w, i32_w]; rw [c27b0]) | skip)
        obtain ⟨c28b0, H⟩ := itND H
        obtain ⟨c29b0, H⟩ := itND H
        have H' := mkA H
        clear H
        obtain ⟨p488, q488, ad488, e488, hx488_0⟩ := atI (Kd.R_reads' HO_55.out).2.2 x57_1
        cases e488
        go_wp2
        repeat (go_quiet (fail); try go_wp2)
        go_loopg [64] k1 (fun kq v64 w' => ∃ (x64_2 : Int), v64 = .int .i64 x64_2 ∧ Fc (laws_FnPatterns.l1 kq l1 t479 x57_1 (rd t479 x57_1) t479 (t479.length : Int) x57_1 t479 (t479.length : Int) x64_2 t469 t470 t473 t474 = some r) ∧ Fc (kq ≤ k1) ∧ Fc (Kd.R (Kd.int .i64) 3 w' w.heap.size (fun k_ => some k_ ≠ ((.slice Ao17 t470.length co17) : Value).ownBlock ∧ some k_ ≠ ((.slice Ao19 t474.length co19) : Value).ownBlock) (.slice (some ad488) t479.length co24) t479) ∧ Fc (Kd.R (Kd.int .i64) 3 w' w.heap.size (fun k_ => some k_ ≠ ((.slice Ao17 t470.length co17) : Value).ownBlock ∧ some k_ ≠ ((.slice Ao19 t474.length co19) : Value).ownBlock) (.slice (some ad488) t479.length co24) t479) ∧ Fc (Kd.R (Kd.int .i64) 3 w' w.heap.size (fun k_ => some k_ ≠ ((.slice Ao17 t470.length co17) : Value).ownBlock ∧ some k_ ≠ ((.slice Ao19 t474.length co19) : Value).ownBlock) (.slice (some ad488) t479.length co24) t479) ∧ Fc (Kd.R (Kd.int .i64) 3 w' w.heap.size (fun k_ => some k_ ≠ ((.slice (some ad488) t479.length co24) : Value).ownBlock ∧ some k_ ≠ ((.slice (some ad488) t479.length co24) : Value).ownBlock ∧ some k_ ≠ ((.slice (some ad488) t479.length co24) : Value).ownBlock ∧ some k_ ≠ ((.slice Ao19 t474.length co19) : Value).ownBlock) (.slice Ao17 t470.length co17) t470) ∧ Fc (Kd.R (Kd.int .i64) 3 w' w.heap.size (fun k_ => some k_ ≠ ((.slice (some ad488) t479.length co24) : Value).ownBlock ∧ some k_ ≠ ((.slice (some ad488) t479.length co24) : Value).ownBlock ∧ some k_ ≠ ((.slice (some ad488) t479.length co24) : Value).ownBlock ∧ some k_ ≠ ((.slice Ao17 t470.length co17) : Value).ownBlock) (.slice Ao19 t474.length co19) t474) ∧ Fc (w'.heap[gb477]? = some (.cells #[.int .i64 t469, (.slice Ao17 t470.length co17)] 26 (0, 0))) ∧ Fc (w'.heap[gb478]? = some (.cells #[.int .i64 t473, (.slice Ao19 t474.length co19)] 26 (0, 0))) ∧ Fc (Below w.heap.size w w'))
        case atStart => exact ⟨(0), eqS, H', ⟨Nat.le_refl _⟩, rg HO_7, rg HO_55, rg HO_7, ⟨Kd.R_g (Kd.R_mono HO_478001.out (fun _ hk => ⟨hk.1, ⟨hk.2.1, ⟨hk.1, hk.2.2⟩⟩⟩))⟩, ⟨Kd.R_g (Kd.R_mono HO_479001.out (fun _ hk => ⟨hk.1, ⟨hk.2.1, ⟨hk.1, hk.2.2⟩⟩⟩))⟩, bg BK477, bg BK478, hbg HB⟩
        case round =>
         clear H'
         try clear c1
         try clear c4
         try clear c8
         try clear c8b0
         try clear c8b1
         try clear c8b2
         try clear c10
         try clear c26
         try clear c27b0
         try clear c28
         try clear c28b0
         try clear c29
         try clear c29b0
         try clear hx488_0
         try clear p488
         try clear q488
         obtain ⟨x64_2, rfl, HA, HK2, HO_7, HO_55, HO_62, HO_478001, HO_479001, BK477, BK478, HB⟩ := hrel
         cases gk with
         | zero => exact absurd HA.out (by simp [laws_FnPatterns.l1])
         | succ k2 =>
          have H := HA.out
          clear HA
          simp only [laws_FnPatterns.l1] at H
          rcases iteE H with ⟨c30b0, H⟩ | ⟨c30b0, H⟩
          ·obtain ⟨c31b0, H⟩ := itND H
           obtain ⟨c32b0, H⟩ := itND H
           rcases iteP H with ⟨c33, H⟩ | ⟨c33, H⟩
           ·have c33b0 := beq_iff_eq.mpr c33
            have c33b1 := bne_eq_false_iff_eq.mpr c33
            clear c33
            obtain ⟨c34b0, H⟩ := itND H
            obtain ⟨c35b0, H⟩ := itND H
            obtain ⟨t491, A36, H⟩ := obE H
            obtain ⟨c37b0, H⟩ := itND H
            obtain ⟨c38b0, H⟩ := itND H
            obtain ⟨t493, A39, H⟩ := obE H
            obtain ⟨c40, H⟩ := itMP H
            have c40b0 : (t491 != t493) = false := by simpa using c40
            (try (have c40b1 : decide (t491 = t493) = true := by simpa using c40))
            (try (have c40b2 : (t491 == t493) = true := by simpa using c40))
            clear c40
            have H' := mkA H
            clear H
            obtain ⟨p489, q489, ad489, e489, hx489_0⟩ := atI (Kd.R_reads' HO_62.out).2.2 x64_2
            obtain rfl : ad488 = ad489 := (by injection e489)
            obtain ⟨_, _, _, _⟩ := blk2 BK477
            obtain ⟨p490, q490, ad490, e490, hx490_0⟩ := atI (Kd.R_reads' HO_478001.out).2.2 (rd t479 x57_1)
            cases e490
            go_wp2_with (first | (go_at_call 9; (with_reducible refine (laws_pIn.calls (rd t470 (rd t479 x57_1)) (rd t479 x64_2) t491 _ A36.out).mono ?_); rintro e w' ⟨rfl, ⟨nd, rfl⟩⟩; (try first | exact ⟨rfl, _, World.drewN_drewN _ _ _⟩ | exact ⟨rfl, _, Eq.trans (World.drewN_drewN _ _ _) (congrArg (World.drewN _) (Nat.add_assoc _ _ _))⟩); obtain ⟨hcz43_0, hcz43_1, hfz43_0, hfz43_1⟩ := blk2 BK478; have p492 : 0 ≤ (x57_1 : Int) := ofd; have q492 : x57_1 < (t474.length : Int) := ofd; obtain ⟨ad492, e492, hx492_0⟩ := Kd.at_int (Kd.R_reads' HO_479001.out).2.2 x57_1 p492 q492; cases e492; replace p492 := eq_true p492; replace q492 := eq_true q492) | (go_at_call 9; (with_reducible refine (laws_pIn.calls (rd t474 x57_1) x64_2 t493 _ A39.out).mono ?_); rintro e w' ⟨rfl, ⟨nd, rfl⟩⟩; (try first | exact ⟨rfl, _, World.drewN_drewN _ _ _⟩ | exact ⟨rfl, _, Eq.trans (World.drewN_drewN _ _ _) (congrArg (World.drewN _) (Nat.add_assoc _ _ _))⟩)))
            repeat (go_quiet (first | (go_at_call 9; (with_reducible refine (laws_pIn.calls (rd t470 (rd t479 x57_1)) (rd t479 x64_2) t491 _ A36.out).mono ?_); rintro e w' ⟨rfl, ⟨nd, rfl⟩⟩; (try first | exact ⟨rfl, _, World.drewN_drewN _ _ _⟩ | exact ⟨rfl, _, Eq.trans (World.drewN_drewN _ _ _) (congrArg (World.drewN _) (Nat.add_assoc _ _ _))⟩); obtain ⟨hcz43_0, hcz43_1, hfz43_0, hfz43_1⟩ := blk2 BK478; have p492 : 0 ≤ (x57_1 : Int) := ofd; have q492 : x57_1 < (t474.length : Int) := ofd; obtain ⟨ad492, e492, hx492_0⟩ := Kd.at_int (Kd.R_reads' HO_479001.out).2.2 x57_1 p492 q492; cases e492; replace p492 := eq_true p492; replace q492 := eq_true q492) | (go_at_call 9; (with_reducible refine (laws_pIn.calls (rd t474 x57_1) x64_2 t493 _ A39.out).mono ?_); rintro e w' ⟨rfl, ⟨nd, rfl⟩⟩; (try first | exact ⟨rfl, _, World.drewN_drewN _ _ _⟩ | exact ⟨rfl, _, Eq.trans (World.drewN_drewN _ _ _) (congrArg (World.drewN _) (Nat.add_assoc _ _ _))⟩))); try go_wp2_with (first | (go_at_call 9; (with_reducible refine (laws_pIn.calls (rd t470 (rd t479 x57_1)) (rd t479 x64_2) t491 _ A36.out).mono ?_); rintro e w' ⟨rfl, ⟨nd, rfl⟩⟩; (try first | exact ⟨rfl, _, World.drewN_drewN _ _ _⟩ | exact ⟨rfl, _, Eq.trans (World.drewN_drewN _ _ _) (congrArg (World.drewN _) (Nat.add_assoc _ _ _))⟩); obtain ⟨hcz43_0, hcz43_1, hfz43_0, hfz43_1⟩ := blk2 BK478; have p492 : 0 ≤ (x57_1 : Int) := ofd; have q492 : x57_1 < (t474.length : Int) := ofd; obtain ⟨ad492, e492, hx492_0⟩ := Kd.at_int (Kd.R_reads' HO_479001.out).2.2 x57_1 p492 q492; cases e492; replace p492 := eq_true p492; replace q492 := eq_true q492) | (go_at_call 9; (with_reducible refine (laws_pIn.calls (rd t474 x57_1) x64_2 t493 _ A39.out).mono ?_); rintro e w' ⟨rfl, ⟨nd, rfl⟩⟩; (try first | exact ⟨rfl, _, World.drewN_drewN _ _ _⟩ | exact ⟨rfl, _, Eq.trans (World.drewN_drewN _ _ _) (congrArg (World.drewN _) (Nat.add_assoc _ _ _))⟩))))
            go_roundg k2
            case measure => have := HK1.out; have := HK2.out; omega
            case rel => exact ⟨(wrap64 (x64_2 + 1)), eqS, H', ⟨by have := HK1.out; have := HK2.out; omega⟩, rg HO_7, rg HO_55, rg HO_62, rg HO_478001, rg HO_479001, bg BK477, bg BK478, hbg HB⟩
           ·have c33b0 := beq_eq_false_iff_ne.mpr c33
            have c33b1 := bne_iff_ne.mpr c33
            obtain ⟨c44, H⟩ := itMP H
            have c44b0 := beq_eq_false_iff_ne.mpr c44
            have c44b1 := bne_iff_ne.mpr c44
            obtain ⟨c45b0, H⟩ := itND H
            obtain ⟨c46b0, H⟩ := itND H
            obtain ⟨t495, A47, H⟩ := obE H
            obtain ⟨c48b0, H⟩ := itND H
            obtain ⟨c49b0, H⟩ := itND H
            obtain ⟨t497, A50, H⟩ := obE H
            obtain ⟨c51, H⟩ := itMP H
            have c51b0 : (t495 != t497) = false := by simpa using c51
            (try (have c51b1 : decide (t495 = t497) = true := by simpa using c51))
            (try (have c51b2 : (t495 == t497) = true := by simpa using c51))
            clear c51
            have H' := mkA H
            clear H
            obtain ⟨p489, q489, ad489, e489, hx489_0⟩ := atI (Kd.R_reads' HO_62.out).2.2 x64_2
            obtain rfl : ad488 = ad489 := (by injection e489)
            obtain ⟨_, _, _, _⟩ := blk2 BK477
            obtain ⟨p494, q494, ad494, e494, hx494_0⟩ := atI (Kd.R_reads' HO_478001.out).2.2 (rd t479 x57_1)
            cases e494
            go_wp2_with (first | (go_at_call 9; (with_reducible refine (laws_pIn.calls (rd t470 (rd t479 x57_1)) (rd t479 x64_2) t495 _ A47.out).mono ?_); rintro e w' ⟨rfl, ⟨nd, rfl⟩⟩; (try first | exact ⟨rfl, _, World.drewN_drewN _ _ _⟩ | exact ⟨rfl, _, Eq.trans (World.drewN_drewN _ _ _) (congrArg (World.drewN _) (Nat.add_assoc _ _ _))⟩); obtain ⟨hcz54_0, hcz54_1, hfz54_0, hfz54_1⟩ := blk2 BK478; have p496 : 0 ≤ (x57_1 : Int) := ofd; have q496 : x57_1 < (t474.length : Int) := ofd; obtain ⟨ad496, e496, hx496_0⟩ := Kd.at_int (Kd.R_reads' HO_479001.out).2.2 x57_1 p496 q496; cases e496; replace p496 := eq_true p496; replace q496 := eq_true q496) | (go_at_call 9; (with_reducible refine (laws_pIn.calls (rd t474 x57_1) x64_2 t497 _ A50.out).mono ?_); rintro e w' ⟨rfl, ⟨nd, rfl⟩⟩; (try first | exact ⟨rfl, _, World.drewN_drewN _ _ _⟩ | exact ⟨rfl, _, Eq.trans (World.drewN_drewN _ _ _) (congrArg (World.drewN _) (Nat.add_assoc _ _ _))⟩)))
            repeat (go_quiet (first | (go_at_call 9; (with_reducible refine (laws_pIn.calls (rd t470 (rd t479 x57_1)) (rd t479 x64_2) t495 _ A47.out).mono ?_); rintro e w' ⟨rfl, ⟨nd, rfl⟩⟩; (try first | exact ⟨rfl, _, World.drewN_drewN _ _ _⟩ | exact ⟨rfl, _, Eq.trans (World.drewN_drewN _ _ _) (congrArg (World.drewN _) (Nat.add_assoc _ _ _))⟩); obtain ⟨hcz54_0, hcz54_1, hfz54_0, hfz54_1⟩ := blk2 BK478; have p496 : 0 ≤ (x57_1 : Int) := ofd; have q496 : x57_1 < (t474.length : Int) := ofd; obtain ⟨ad496, e496, hx496_0⟩ := Kd.at_int (Kd.R_reads' HO_479001.out).2.2 x57_1 p496 q496; cases e496; replace p496 := eq_true p496; replace q496 := eq_true q496) | (go_at_call 9; (with_reducible refine (laws_pIn.calls (rd t474 x57_1) x64_2 t497 _ A50.out).mono ?_); rintro e w' ⟨rfl, ⟨nd, rfl⟩⟩; (try first | exact ⟨rfl, _, World.drewN_drewN _ _ _⟩ | exact ⟨rfl, _, Eq.trans (World.drewN_drewN _ _ _) (congrArg (World.drewN _) (Nat.add_assoc _ _ _))⟩))); try go_wp2_with (first | (go_at_call 9; (with_reducible refine (laws_pIn.calls (rd t470 (rd t479 x57_1)) (rd t479 x64_2) t495 _ A47.out).mono ?_); rintro e w' ⟨rfl, ⟨nd, rfl⟩⟩; (try first | exact ⟨rfl, _, World.drewN_drewN _ _ _⟩ | exact ⟨rfl, _, Eq.trans (World.drewN_drewN _ _ _) (congrArg (World.drewN _) (Nat.add_assoc _ _ _))⟩); obtain ⟨hcz54_0, hcz54_1, hfz54_0, hfz54_1⟩ := blk2 BK478; have p496 : 0 ≤ (x57_1 : Int) := ofd; have q496 : x57_1 < (t474.length : Int) := ofd; obtain ⟨ad496, e496, hx496_0⟩ := Kd.at_int (Kd.R_reads' HO_479001.out).2.2 x57_1 p496 q496; cases e496; replace p496 := eq_true p496; replace q496 := eq_true q496) | (go_at_call 9; (with_reducible refine (laws_pIn.calls (rd t474 x57_1) x64_2 t497 _ A50.out).mono ?_); rintro e w' ⟨rfl, ⟨nd, rfl⟩⟩; (try first | exact ⟨rfl, _, World.drewN_drewN _ _ _⟩ | exact ⟨rfl, _, Eq.trans (World.drewN_drewN _ _ _) (congrArg (World.drewN _) (Nat.add_assoc _ _ _))⟩))))
            go_roundg k2
            case measure => have := HK1.out; have := HK2.out; omega
            case rel => exact ⟨(wrap64 (x64_2 + 1)), eqS, H', ⟨by have := HK1.out; have := HK2.out; omega⟩, rg HO_7, rg HO_55, rg HO_62, rg HO_478001, rg HO_479001, bg BK477, bg BK478, hbg HB⟩
          ·have H' := mkA H
           clear H
           go_wp2
           repeat (go_quiet (fail); try go_wp2)
           go_roundg k2
           case measure => have := HK1.out; have := HK2.out; omega
           case rel => exact ⟨(wrap64 (x57_1 + 1)), eqS, H', ⟨by have := HK1.out; have := HK2.out; omega⟩, rg HO_7, rg HO_55, ⟨Kd.R_g (Kd.R_mono HO_478001.out (fun _ hk => ⟨hk.1, ⟨hk.2.1, hk.2.2.2⟩⟩))⟩, ⟨Kd.R_g (Kd.R_mono HO_479001.out (fun _ hk => ⟨hk.1, ⟨hk.2.1, hk.2.2.2⟩⟩))⟩, bg BK477, bg BK478, hbg HB⟩
       ·(first | rw [c27b0] | (simp only [i64_w, i32_w]; rw [c27b0]) | skip)
        obtain ⟨c55, H⟩ := itNP H
        have c55b0 := beq_iff_eq.mpr c55
        have c55b1 := bne_eq_false_iff_eq.mpr c55
        clear c55
        have H' := mkA H
        clear H
        obtain ⟨_, _, _, _⟩ := blk2 BK478
        go_wp2
        repeat (go_quiet (fail); try go_wp2)
        go_meet
        case rel => exact ⟨_, H', ⟨by have := HK1.out; first | omega | exact Nat.le_refl _⟩, ⟨Kd.R_g (Kd.R_mono HO_478001.out (fun _ hk => hk.2.2))⟩, ⟨Kd.R_g (Kd.R_mono HO_479001.out (fun _ hk => hk.2.2))⟩, bg BK477, bg BK478, hbg HB⟩
    ·replace c26 := Bool.eq_false_iff.mpr c26
     subst c26
     replace H := ifF H
     have H' := mkA H
     clear H
     go_wp2
     repeat (go_quiet (fail); try go_wp2)
     go_meet
     case rel => exact ⟨_, H', ⟨by first | omega | exact Nat.le_refl _⟩, ⟨Kd.R_g (Kd.R_mono HO472.out (fun _ hk => hk.1.1))⟩, ⟨Kd.R_g (Kd.R_mono HO476.out (fun _ hk => hk.1.1))⟩, bg BK477, bg BK478, hbg HB⟩
   case rest =>
    clear HC11
    try clear c1
    try clear c4
    try clear c8
    try clear c8b0
    try clear c8b1
    try clear c8b2
    try clear c10
    try clear c26
    try clear c27b0
    try clear c28
    try clear c28b0
    try clear c29
    try clear c29b0
    try clear c30b0
    try clear c31
    try clear c31b0
    try clear c32
    try clear c32b0
    try clear c33
    try clear c33b0
    try clear c33b1
    try clear c34
    try clear c34b0
    try clear c35
    try clear c35b0
    try clear c37
    try clear c37b0
    try clear c38
    try clear c38b0
    try clear c40
    try clear c40b0
    try clear c40b1
    try clear c40b2
    try clear c44
    try clear c44b0
    try clear c44b1
    try clear c45
    try clear c45b0
    try clear c46
    try clear c46b0
    try clear c48
    try clear c48b0
    try clear c49
    try clear c49b0
    try clear c51
    try clear c51b0
    try clear c51b1
    try clear c51b2
    try clear c55
    try clear c55b0
    try clear c55b1
    try clear hx488_0
    try clear hx489_0
    try clear hx490_0
    try clear hx492_0
    try clear hx494_0
    try clear hx496_0
    try clear p488
    try clear p489
    try clear p490
    try clear p492
    try clear p494
    try clear p496
    try clear q488
    try clear q489
    try clear q490
    try clear q492
    try clear q494
    try clear q496
    obtain ⟨kq, HA, HJ10, HO_478001, HO_479001, BK477, BK478, HB⟩ := hcut
    cases kq with
    | zero => exact absurd HA.out (by simp [laws_FnPatterns.j2])
    | succ kj10 =>
     have H := HA.out
     clear HA
     simp only [laws_FnPatterns.j2] at H
     obtain ⟨⟨t498, t499, t502⟩, A58, H⟩ := obE H
     dsimp only at H
     obtain ⟨⟨t506, t507, t510⟩, A59, H⟩ := obE H
     dsimp only at H
     obtain ⟨⟨t512, t513, t516⟩, A60, H⟩ := obE H
     dsimp only at H
     obtain ⟨c61, H⟩ := itMP H
     have c61b0 : (t510 != t516) = false := by simpa using c61
     (try (have c61b1 : decide (t510 = t516) = true := by simpa using c61))
     (try (have c61b2 : (t510 == t516) = true := by simpa using c61))
     clear c61
     obtain ⟨t518, A62, H⟩ := obE H
     by_cases c63 : t518 = true
     ·subst c63
      replace H := ifT H
      by_cases c64 : t510 = true
      ·subst c64
       replace H := ifT H
       have H' := mkA H
       clear H
       go_wp2_with (first | (go_at_call 10; (with_reducible refine (spec_DrawRenameOf.calls kj10 _ _ l1 t498 t499 t502 _ ?_ ?_ A58.out).mono ?_); exact C_g HR1 HB; exact HC1.out; rintro e w65 ⟨v500, v503, rfl, ho0, ho1, hb⟩; have HO501 := rLo (rN (rN ho0 HO_478001) HO_479001) HB; have HO504 := rLo (rN (rN ho1 HO_478001) HO_479001) HB; replace HO_478001 := mkA (Kd.R_mono (Kd.R_told (Kd.R_told (Kd.R_old (Kd.R_g HO_478001.out) hb) (Kd.R_base ho0)) (Kd.R_base ho1)) (fun _ h_ => h_.1)); replace HO_479001 := mkA (Kd.R_mono (Kd.R_told (Kd.R_told (Kd.R_old (Kd.R_g HO_479001.out) hb) (Kd.R_base ho0)) (Kd.R_base ho1)) (fun _ h_ => h_.1)); replace BK477 := blkB BK477 hb; replace BK478 := blkB BK478 hb; replace HB := bst HB hb; clear hb ho0 ho1) | ((with_reducible refine gate_dst (N := 15) rfl ?_); refine boxG HB #[.int .i64 0, .slice none 0 0] 26 ?_; intro gb505 hg w66 BK505 GE505 hb; replace HO_478001 := rB HO_478001 hb; replace HO_479001 := rB HO_479001 hb; replace HO501 := rB HO501 hb; replace HO504 := rB HO504 hb; have NB477_505 := neL7 BK477 hg; have NB505_477 := neR7 BK477 hg; replace BK477 := blkB BK477 hb; have NB478_505 := neL7 BK478 hg; have NB505_478 := neR7 BK478 hg; replace BK478 := blkB BK478 hb; replace HB := bst HB hb; clear hb hg; obtain ⟨hcz69_0, hcz69_1, hfz69_0, hfz69_1⟩ := blk2 BK505; obtain ⟨Ao70, co70, rfl⟩ := Kd.R_slice HO501.out; obtain ⟨Ao71, co71, rfl⟩ := Kd.R_slice HO504.out) | (go_at_call 11; (with_reducible refine (impl_RenameOf.calls kj10 t498 _ _ t499 _ _ t502 t506 t507 true _ ?_ ?_ ?_ ?_ ?_ A59.out).mono ?_); exact rCF HO501 BK505; exact rL HO501; exact rCF HO504 BK505; exact rL HO504; exact Tab.below HTAB.out (bel_g HB.out); rintro e w72 ⟨v508, rfl, ho0, hb⟩; have HO509 := rLo (rNF (rNF (rNF (rNF ho0 HO_478001 BK505) HO_479001 BK505) HO501 BK505) HO504 BK505) HB; replace HO_478001 := rEF HO_478001 BK505 ho0 hb; replace HO_479001 := rEF HO_479001 BK505 ho0 hb; replace HO501 := rEF HO501 BK505 ho0 hb; replace HO504 := rEF HO504 BK505 ho0 hb; replace BK477 := blkS BK477 hb; replace BK478 := blkS BK478 hb; replace BK505 := blkS BK505 hb; replace HB := bst HB hb; clear hb ho0) | ((with_reducible refine gate_dst (N := 17) rfl ?_); refine boxG HB #[.int .i64 0, .slice none 0 0] 26 ?_; intro gb511 hg w73 BK511 GE511 hb; replace HO_478001 := rB HO_478001 hb; replace HO_479001 := rB HO_479001 hb; replace HO501 := rB HO501 hb; replace HO504 := rB HO504 hb; replace HO509 := rB HO509 hb; have NB477_511 := neL7 BK477 hg; have NB511_477 := neR7 BK477 hg; replace BK477 := blkB BK477 hb; have NB478_511 := neL7 BK478 hg; have NB511_478 := neR7 BK478 hg; replace BK478 := blkB BK478 hb; have NB505_511 := neL7 BK505 hg; have NB511_505 := neR7 BK505 hg; replace BK505 := blkB BK505 hb; replace HB := bst HB hb; clear hb hg; obtain ⟨hcz77_0, hcz77_1, hfz77_0, hfz77_1⟩ := blk2 BK511; obtain ⟨Ao78, co78, rfl⟩ := Kd.R_slice HO509.out; obtain ⟨hcz79_0, hcz79_1, hfz79_0, hfz79_1⟩ := blk2 BK505) | (go_at_call 12; (with_reducible refine (spec_RenameOf.calls kj10 t498 _ _ t499 _ _ t502 t512 t513 t516 _ ?_ ?_ ?_ ?_ A60.out).mono ?_); exact rCF HO501 BK511; exact rL HO501; exact rCF HO504 BK511; exact rL HO504; rintro e w80 ⟨v514, rfl, ho0, hb⟩; have HO515 := rLo (rNF (rNF (rNF (rNF (rNF ho0 HO_478001 BK511) HO_479001 BK511) HO501 BK511) HO504 BK511) HO509 BK511) HB; replace HO_478001 := rEF HO_478001 BK511 ho0 hb; replace HO_479001 := rEF HO_479001 BK511 ho0 hb; replace HO501 := rEF HO501 BK511 ho0 hb; replace HO504 := rEF HO504 BK511 ho0 hb; replace HO509 := rEF HO509 BK511 ho0 hb; replace BK477 := blkS BK477 hb; replace BK478 := blkS BK478 hb; replace BK505 := blkS BK505 hb; replace BK511 := blkS BK511 hb; replace HB := bst HB hb; clear hb ho0) | ((with_reducible refine gate_dst (N := 19) rfl ?_); refine boxG HB #[.int .i64 0, .slice none 0 0] 26 ?_; intro gb517 hg w81 BK517 GE517 hb; replace HO_478001 := rB HO_478001 hb; replace HO_479001 := rB HO_479001 hb; replace HO501 := rB HO501 hb; replace HO504 := rB HO504 hb; replace HO509 := rB HO509 hb; replace HO515 := rB HO515 hb; have NB477_517 := neL7 BK477 hg; have NB517_477 := neR7 BK477 hg; replace BK477 := blkB BK477 hb; have NB478_517 := neL7 BK478 hg; have NB517_478 := neR7 BK478 hg; replace BK478 := blkB BK478 hb; have NB505_517 := neL7 BK505 hg; have NB517_505 := neR7 BK505 hg; replace BK505 := blkB BK505 hb; have NB511_517 := neL7 BK511 hg; have NB517_511 := neR7 BK511 hg; replace BK511 := blkB BK511 hb; replace HB := bst HB hb; clear hb hg; obtain ⟨hcz86_0, hcz86_1, hfz86_0, hfz86_1⟩ := blk2 BK517; obtain ⟨Ao87, co87, rfl⟩ := Kd.R_slice HO515.out; obtain ⟨hcz88_0, hcz88_1, hfz88_0, hfz88_1⟩ := blk2 BK511) | (go_at_call 13; (with_reducible refine (laws_pSameOrder.calls kj10 t506 _ _ t507 t512 _ _ t513 true _ ?_ ?_ ?_ ?_ A62.out).mono ?_); exact rCF HO509 BK517; exact rL HO509; exact rCF HO515 BK517; exact rL HO515; rintro e w89 ⟨rfl, hb⟩; replace HO_478001 := mkA (Kd.R_below (rFg HO_478001 BK517) hb); replace HO_479001 := mkA (Kd.R_below (rFg HO_479001 BK517) hb); replace HO501 := mkA (Kd.R_below (rFg HO501 BK517) hb); replace HO504 := mkA (Kd.R_below (rFg HO504 BK517) hb); replace HO509 := mkA (Kd.R_below (rFg HO509 BK517) hb); replace HO515 := mkA (Kd.R_below (rFg HO515 BK517) hb); replace BK477 := blkS BK477 hb; replace BK478 := blkS BK478 hb; replace BK505 := blkS BK505 hb; replace BK511 := blkS BK511 hb; replace BK517 := blkS BK517 hb; replace HB := bst HB hb; clear hb))
       repeat (go_quiet (first | (go_at_call 10; (with_reducible refine (spec_DrawRenameOf.calls kj10 _ _ l1 t498 t499 t502 _ ?_ ?_ A58.out).mono ?_); exact C_g HR1 HB; exact HC1.out; rintro e w65 ⟨v500, v503, rfl, ho0, ho1, hb⟩; have HO501 := rLo (rN (rN ho0 HO_478001) HO_479001) HB; have HO504 := rLo (rN (rN ho1 HO_478001) HO_479001) HB; replace HO_478001 := mkA (Kd.R_mono (Kd.R_told (Kd.R_told (Kd.R_old (Kd.R_g HO_478001.out) hb) (Kd.R_base ho0)) (Kd.R_base ho1)) (fun _ h_ => h_.1)); replace HO_479001 := mkA (Kd.R_mono (Kd.R_told (Kd.R_told (Kd.R_old (Kd.R_g HO_479001.out) hb) (Kd.R_base ho0)) (Kd.R_base ho1)) (fun _ h_ => h_.1)); replace BK477 := blkB BK477 hb; replace BK478 := blkB BK478 hb; replace HB := bst HB hb; clear hb ho0 ho1) | ((with_reducible refine gate_dst (N := 15) rfl ?_); refine boxG HB #[.int .i64 0, .slice none 0 0] 26 ?_; intro gb505 hg w66 BK505 GE505 hb; replace HO_478001 := rB HO_478001 hb; replace HO_479001 := rB HO_479001 hb; replace HO501 := rB HO501 hb; replace HO504 := rB HO504 hb; have NB477_505 := neL7 BK477 hg; have NB505_477 := neR7 BK477 hg; replace BK477 := blkB BK477 hb; have NB478_505 := neL7 BK478 hg; have NB505_478 := neR7 BK478 hg; replace BK478 := blkB BK478 hb; replace HB := bst HB hb; clear hb hg; obtain ⟨hcz69_0, hcz69_1, hfz69_0, hfz69_1⟩ := blk2 BK505; obtain ⟨Ao70, co70, rfl⟩ := Kd.R_slice HO501.out; obtain ⟨Ao71, co71, rfl⟩ := Kd.R_slice HO504.out) | (go_at_call 11; (with_reducible refine (impl_RenameOf.calls kj10 t498 _ _ t499 _ _ t502 t506 t507 true _ ?_ ?_ ?_ ?_ ?_ A59.out).mono ?_); exact rCF HO501 BK505; exact rL HO501; exact rCF HO504 BK505; exact rL HO504; exact Tab.below HTAB.out (bel_g HB.out); rintro e w72 ⟨v508, rfl, ho0, hb⟩; have HO509 := rLo (rNF (rNF (rNF (rNF ho0 HO_478001 BK505) HO_479001 BK505) HO501 BK505) HO504 BK505) HB; replace HO_478001 := rEF HO_478001 BK505 ho0 hb; replace HO_479001 := rEF HO_479001 BK505 ho0 hb; replace HO501 := rEF HO501 BK505 ho0 hb; replace HO504 := rEF HO504 BK505 ho0 hb; replace BK477 := blkS BK477 hb; replace BK478 := blkS BK478 hb; replace BK505 := blkS BK505 hb; replace HB := bst HB hb; clear hb ho0) | ((with_reducible refine gate_dst (N := 17) rfl ?_); refine boxG HB #[.int .i64 0, .slice none 0 0] 26 ?_; intro gb511 hg w73 BK511 GE511 hb; replace HO_478001 := rB HO_478001 hb; replace HO_479001 := rB HO_479001 hb; replace HO501 := rB HO501 hb; replace HO504 := rB HO504 hb; replace HO509 := rB HO509 hb; have NB477_511 := neL7 BK477 hg; have NB511_477 := neR7 BK477 hg; replace BK477 := blkB BK477 hb; have NB478_511 := neL7 BK478 hg; have NB511_478 := neR7 BK478 hg; replace BK478 := blkB BK478 hb; have NB505_511 := neL7 BK505 hg; have NB511_505 := neR7 BK505 hg; replace BK505 := blkB BK505 hb; replace HB := bst HB hb; clear hb hg; obtain ⟨hcz77_0, hcz77_1, hfz77_0, hfz77_1⟩ := blk2 BK511; obtain ⟨Ao78, co78, rfl⟩ := Kd.R_slice HO509.out; obtain ⟨hcz79_0, hcz79_1, hfz79_0, hfz79_1⟩ := blk2 BK505) | (go_at_call 12; (with_reducible refine (spec_RenameOf.calls kj10 t498 _ _ t499 _ _ t502 t512 t513 t516 _ ?_ ?_ ?_ ?_ A60.out).mono ?_); exact rCF HO501 BK511; exact rL HO501; exact rCF HO504 BK511; exact rL HO504; rintro e w80 ⟨v514, rfl, ho0, hb⟩; have HO515 := rLo (rNF (rNF (rNF (rNF (rNF ho0 HO_478001 BK511) HO_479001 BK511) HO501 BK511) HO504 BK511) HO509 BK511) HB; replace HO_478001 := rEF HO_478001 BK511 ho0 hb; replace HO_479001 := rEF HO_479001 BK511 ho0 hb; replace HO501 := rEF HO501 BK511 ho0 hb; replace HO504 := rEF HO504 BK511 ho0 hb; replace HO509 := rEF HO509 BK511 ho0 hb; replace BK477 := blkS BK477 hb; replace BK478 := blkS BK478 hb; replace BK505 := blkS BK505 hb; replace BK511 := blkS BK511 hb; replace HB := bst HB hb; clear hb ho0) | ((with_reducible refine gate_dst (N := 19) rfl ?_); refine boxG HB #[.int .i64 0, .slice none 0 0] 26 ?_; intro gb517 hg w81 BK517 GE517 hb; replace HO_478001 := rB HO_478001 hb; replace HO_479001 := rB HO_479001 hb; replace HO501 := rB HO501 hb; replace HO504 := rB HO504 hb; replace HO509 := rB HO509 hb; replace HO515 := rB HO515 hb; have NB477_517 := neL7 BK477 hg; have NB517_477 := neR7 BK477 hg; replace BK477 := blkB BK477 hb; have NB478_517 := neL7 BK478 hg; have NB517_478 := neR7 BK478 hg; replace BK478 := blkB BK478 hb; have NB505_517 := neL7 BK505 hg; have NB517_505 := neR7 BK505 hg; replace BK505 := blkB BK505 hb; have NB511_517 := neL7 BK511 hg; have NB517_511 := neR7 BK511 hg; replace BK511 := blkB BK511 hb; replace HB := bst HB hb; clear hb hg; obtain ⟨hcz86_0, hcz86_1, hfz86_0, hfz86_1⟩ := blk2 BK517; obtain ⟨Ao87, co87, rfl⟩ := Kd.R_slice HO515.out; obtain ⟨hcz88_0, hcz88_1, hfz88_0, hfz88_1⟩ := blk2 BK511) | (go_at_call 13; (with_reducible refine (laws_pSameOrder.calls kj10 t506 _ _ t507 t512 _ _ t513 true _ ?_ ?_ ?_ ?_ A62.out).mono ?_); exact rCF HO509 BK517; exact rL HO509; exact rCF HO515 BK517; exact rL HO515; rintro e w89 ⟨rfl, hb⟩; replace HO_478001 := mkA (Kd.R_below (rFg HO_478001 BK517) hb); replace HO_479001 := mkA (Kd.R_below (rFg HO_479001 BK517) hb); replace HO501 := mkA (Kd.R_below (rFg HO501 BK517) hb); replace HO504 := mkA (Kd.R_below (rFg HO504 BK517) hb); replace HO509 := mkA (Kd.R_below (rFg HO509 BK517) hb); replace HO515 := mkA (Kd.R_below (rFg HO515 BK517) hb); replace BK477 := blkS BK477 hb; replace BK478 := blkS BK478 hb; replace BK505 := blkS BK505 hb; replace BK511 := blkS BK511 hb; replace BK517 := blkS BK517 hb; replace HB := bst HB hb; clear hb)); try go_wp2_with (first | (go_at_call 10; (with_reducible refine (spec_DrawRenameOf.calls kj10 _ _ l1 t498 t499 t502 _ ?_ ?_ A58.out).mono ?_); exact C_g HR1 HB; exact HC1.out; rintro e w65 ⟨v500, v503, rfl, ho0, ho1, hb⟩; have HO501 := rLo (rN (rN ho0 HO_478001) HO_479001) HB; have HO504 := rLo (rN (rN ho1 HO_478001) HO_479001) HB; replace HO_478001 := mkA (Kd.R_mono (Kd.R_told (Kd.R_told (Kd.R_old (Kd.R_g HO_478001.out) hb) (Kd.R_base ho0)) (Kd.R_base ho1)) (fun _ h_ => h_.1)); replace HO_479001 := mkA (Kd.R_mono (Kd.R_told (Kd.R_told (Kd.R_old (Kd.R_g HO_479001.out) hb) (Kd.R_base ho0)) (Kd.R_base ho1)) (fun _ h_ => h_.1)); replace BK477 := blkB BK477 hb; replace BK478 := blkB BK478 hb; replace HB := bst HB hb; clear hb ho0 ho1) | ((with_reducible refine gate_dst (N := 15) rfl ?_); refine boxG HB #[.int .i64 0, .slice none 0 0] 26 ?_; intro gb505 hg w66 BK505 GE505 hb; replace HO_478001 := rB HO_478001 hb; replace HO_479001 := rB HO_479001 hb; replace HO501 := rB HO501 hb; replace HO504 := rB HO504 hb; have NB477_505 := neL7 BK477 hg; have NB505_477 := neR7 BK477 hg; replace BK477 := blkB BK477 hb; have NB478_505 := neL7 BK478 hg; have NB505_478 := neR7 BK478 hg; replace BK478 := blkB BK478 hb; replace HB := bst HB hb; clear hb hg; obtain ⟨hcz69_0, hcz69_1, hfz69_0, hfz69_1⟩ := blk2 BK505; obtain ⟨Ao70, co70, rfl⟩ := Kd.R_slice HO501.out; obtain ⟨Ao71, co71, rfl⟩ := Kd.R_slice HO504.out) | (go_at_call 11; (with_reducible refine (impl_RenameOf.calls kj10 t498 _ _ t499 _ _ t502 t506 t507 true _ ?_ ?_ ?_ ?_ ?_ A59.out).mono ?_); exact rCF HO501 BK505; exact rL HO501; exact rCF HO504 BK505; exact rL HO504; exact Tab.below HTAB.out (bel_g HB.out); rintro e w72 ⟨v508, rfl, ho0, hb⟩; have HO509 := rLo (rNF (rNF (rNF (rNF ho0 HO_478001 BK505) HO_479001 BK505) HO501 BK505) HO504 BK505) HB; replace HO_478001 := rEF HO_478001 BK505 ho0 hb; replace HO_479001 := rEF HO_479001 BK505 ho0 hb; replace HO501 := rEF HO501 BK505 ho0 hb; replace HO504 := rEF HO504 BK505 ho0 hb; replace BK477 := blkS BK477 hb; replace BK478 := blkS BK478 hb; replace BK505 := blkS BK505 hb; replace HB := bst HB hb; clear hb ho0) | ((with_reducible refine gate_dst (N := 17) rfl ?_); refine boxG HB #[.int .i64 0, .slice none 0 0] 26 ?_; intro gb511 hg w73 BK511 GE511 hb; replace HO_478001 := rB HO_478001 hb; replace HO_479001 := rB HO_479001 hb; replace HO501 := rB HO501 hb; replace HO504 := rB HO504 hb; replace HO509 := rB HO509 hb; have NB477_511 := neL7 BK477 hg; have NB511_477 := neR7 BK477 hg; replace BK477 := blkB BK477 hb; have NB478_511 := neL7 BK478 hg; have NB511_478 := neR7 BK478 hg; replace BK478 := blkB BK478 hb; have NB505_511 := neL7 BK505 hg; have NB511_505 := neR7 BK505 hg; replace BK505 := blkB BK505 hb; replace HB := bst HB hb; clear hb hg; obtain ⟨hcz77_0, hcz77_1, hfz77_0, hfz77_1⟩ := blk2 BK511; obtain ⟨Ao78, co78, rfl⟩ := Kd.R_slice HO509.out; obtain ⟨hcz79_0, hcz79_1, hfz79_0, hfz79_1⟩ := blk2 BK505) | (go_at_call 12; (with_reducible refine (spec_RenameOf.calls kj10 t498 _ _ t499 _ _ t502 t512 t513 t516 _ ?_ ?_ ?_ ?_ A60.out).mono ?_); exact rCF HO501 BK511; exact rL HO501; exact rCF HO504 BK511; exact rL HO504; rintro e w80 ⟨v514, rfl, ho0, hb⟩; have HO515 := rLo (rNF (rNF (rNF (rNF (rNF ho0 HO_478001 BK511) HO_479001 BK511) HO501 BK511) HO504 BK511) HO509 BK511) HB; replace HO_478001 := rEF HO_478001 BK511 ho0 hb; replace HO_479001 := rEF HO_479001 BK511 ho0 hb; replace HO501 := rEF HO501 BK511 ho0 hb; replace HO504 := rEF HO504 BK511 ho0 hb; replace HO509 := rEF HO509 BK511 ho0 hb; replace BK477 := blkS BK477 hb; replace BK478 := blkS BK478 hb; replace BK505 := blkS BK505 hb; replace BK511 := blkS BK511 hb; replace HB := bst HB hb; clear hb ho0) | ((with_reducible refine gate_dst (N := 19) rfl ?_); refine boxG HB #[.int .i64 0, .slice none 0 0] 26 ?_; intro gb517 hg w81 BK517 GE517 hb; replace HO_478001 := rB HO_478001 hb; replace HO_479001 := rB HO_479001 hb; replace HO501 := rB HO501 hb; replace HO504 := rB HO504 hb; replace HO509 := rB HO509 hb; replace HO515 := rB HO515 hb; have NB477_517 := neL7 BK477 hg; have NB517_477 := neR7 BK477 hg; replace BK477 := blkB BK477 hb; have NB478_517 := neL7 BK478 hg; have NB517_478 := neR7 BK478 hg; replace BK478 := blkB BK478 hb; have NB505_517 := neL7 BK505 hg; have NB517_505 := neR7 BK505 hg; replace BK505 := blkB BK505 hb; have NB511_517 := neL7 BK511 hg; have NB517_511 := neR7 BK511 hg; replace BK511 := blkB BK511 hb; replace HB := bst HB hb; clear hb hg; obtain ⟨hcz86_0, hcz86_1, hfz86_0, hfz86_1⟩ := blk2 BK517; obtain ⟨Ao87, co87, rfl⟩ := Kd.R_slice HO515.out; obtain ⟨hcz88_0, hcz88_1, hfz88_0, hfz88_1⟩ := blk2 BK511) | (go_at_call 13; (with_reducible refine (laws_pSameOrder.calls kj10 t506 _ _ t507 t512 _ _ t513 true _ ?_ ?_ ?_ ?_ A62.out).mono ?_); exact rCF HO509 BK517; exact rL HO509; exact rCF HO515 BK517; exact rL HO515; rintro e w89 ⟨rfl, hb⟩; replace HO_478001 := mkA (Kd.R_below (rFg HO_478001 BK517) hb); replace HO_479001 := mkA (Kd.R_below (rFg HO_479001 BK517) hb); replace HO501 := mkA (Kd.R_below (rFg HO501 BK517) hb); replace HO504 := mkA (Kd.R_below (rFg HO504 BK517) hb); replace HO509 := mkA (Kd.R_below (rFg HO509 BK517) hb); replace HO515 := mkA (Kd.R_below (rFg HO515 BK517) hb); replace BK477 := blkS BK477 hb; replace BK478 := blkS BK478 hb; replace BK505 := blkS BK505 hb; replace BK511 := blkS BK511 hb; replace BK517 := blkS BK517 hb; replace HB := bst HB hb; clear hb)))
       go_loopg [131] kj10 (fun kq v131 w' => ∃ (x131_2 : Int), v131 = .int .i64 x131_2 ∧ Fc (laws_FnPatterns.l2 kq t502 (t502.length : Int) x131_2 t498 t499 t506 t507 = some r) ∧ Fc (kq ≤ kj10) ∧ Fc (Kd.R (Kd.int .i64) 3 w' w.heap.size (fun k_ => some k_ ≠ ((.slice Ao17 t470.length co17) : Value).ownBlock ∧ some k_ ≠ ((.slice Ao19 t474.length co19) : Value).ownBlock ∧ some k_ ≠ ((.slice Ao70 t499.length co70) : Value).ownBlock ∧ some k_ ≠ ((.slice Ao78 t507.length co78) : Value).ownBlock ∧ some k_ ≠ ((.slice Ao87 t513.length co87) : Value).ownBlock) (.slice Ao71 t502.length co71) t502) ∧ Fc (Kd.R (Kd.int .i64) 3 w' w.heap.size (fun k_ => some k_ ≠ ((.slice Ao71 t502.length co71) : Value).ownBlock ∧ some k_ ≠ ((.slice Ao19 t474.length co19) : Value).ownBlock ∧ some k_ ≠ ((.slice Ao70 t499.length co70) : Value).ownBlock ∧ some k_ ≠ ((.slice Ao78 t507.length co78) : Value).ownBlock ∧ some k_ ≠ ((.slice Ao87 t513.length co87) : Value).ownBlock) (.slice Ao17 t470.length co17) t470) ∧ Fc (Kd.R (Kd.int .i64) 3 w' w.heap.size (fun k_ => some k_ ≠ ((.slice Ao71 t502.length co71) : Value).ownBlock ∧ some k_ ≠ ((.slice Ao17 t470.length co17) : Value).ownBlock ∧ some k_ ≠ ((.slice Ao70 t499.length co70) : Value).ownBlock ∧ some k_ ≠ ((.slice Ao78 t507.length co78) : Value).ownBlock ∧ some k_ ≠ ((.slice Ao87 t513.length co87) : Value).ownBlock) (.slice Ao19 t474.length co19) t474) ∧ Fc (Kd.R (Kd.int .i64) 3 w' w.heap.size (fun k_ => some k_ ≠ ((.slice Ao71 t502.length co71) : Value).ownBlock ∧ some k_ ≠ ((.slice Ao17 t470.length co17) : Value).ownBlock ∧ some k_ ≠ ((.slice Ao19 t474.length co19) : Value).ownBlock ∧ some k_ ≠ ((.slice Ao78 t507.length co78) : Value).ownBlock ∧ some k_ ≠ ((.slice Ao87 t513.length co87) : Value).ownBlock) (.slice Ao70 t499.length co70) t499) ∧ Fc (Kd.R (Kd.int .i64) 3 w' w.heap.size (fun k_ => some k_ ≠ ((.slice Ao71 t502.length co71) : Value).ownBlock ∧ some k_ ≠ ((.slice Ao17 t470.length co17) : Value).ownBlock ∧ some k_ ≠ ((.slice Ao19 t474.length co19) : Value).ownBlock ∧ some k_ ≠ ((.slice Ao70 t499.length co70) : Value).ownBlock ∧ some k_ ≠ ((.slice Ao87 t513.length co87) : Value).ownBlock) (.slice Ao78 t507.length co78) t507) ∧ Fc (Kd.R (Kd.int .i64) 3 w' w.heap.size (fun k_ => some k_ ≠ ((.slice Ao71 t502.length co71) : Value).ownBlock ∧ some k_ ≠ ((.slice Ao17 t470.length co17) : Value).ownBlock ∧ some k_ ≠ ((.slice Ao19 t474.length co19) : Value).ownBlock ∧ some k_ ≠ ((.slice Ao70 t499.length co70) : Value).ownBlock ∧ some k_ ≠ ((.slice Ao78 t507.length co78) : Value).ownBlock) (.slice Ao87 t513.length co87) t513) ∧ Fc (w'.heap[gb477]? = some (.cells #[.int .i64 t469, (.slice Ao17 t470.length co17)] 26 (0, 0))) ∧ Fc (w'.heap[gb478]? = some (.cells #[.int .i64 t473, (.slice Ao19 t474.length co19)] 26 (0, 0))) ∧ Fc (w'.heap[gb505]? = some (.cells #[.int .i64 t498, (.slice Ao70 t499.length co70)] 26 (0, 0))) ∧ Fc (w'.heap[gb511]? = some (.cells #[.int .i64 t506, (.slice Ao78 t507.length co78)] 26 (0, 0))) ∧ Fc (w'.heap[gb517]? = some (.cells #[.int .i64 t512, (.slice Ao87 t513.length co87)] 26 (0, 0))) ∧ Fc (Below w.heap.size w w'))
       case atStart => exact ⟨(0), eqS, H', ⟨Nat.le_refl _⟩, ⟨Kd.R_g (Kd.R_mono HO504.out (fun _ hk => ⟨hk.1.1.1.2, ⟨hk.1.1.2, ⟨hk.1.1.1.1, ⟨hk.1.2, hk.2⟩⟩⟩⟩))⟩, ⟨Kd.R_g (Kd.R_mono HO_478001.out (fun _ hk => ⟨hk.1.1.2, ⟨hk.1.1.1.1, ⟨hk.1.1.1.2, ⟨hk.1.2, hk.2⟩⟩⟩⟩))⟩, ⟨Kd.R_g (Kd.R_mono HO_479001.out (fun _ hk => ⟨hk.1.1.2, ⟨hk.1.1.1.1, ⟨hk.1.1.1.2, ⟨hk.1.2, hk.2⟩⟩⟩⟩))⟩, ⟨Kd.R_g (Kd.R_mono HO501.out (fun _ hk => ⟨hk.1.1.1.1, ⟨hk.1.1.1.2, ⟨hk.1.1.2, ⟨hk.1.2, hk.2⟩⟩⟩⟩))⟩, ⟨Kd.R_g (Kd.R_mono HO509.out (fun _ hk => ⟨hk.1.2, ⟨hk.1.1.1.1.2, ⟨hk.1.1.1.2, ⟨hk.1.1.2, hk.2⟩⟩⟩⟩))⟩, ⟨Kd.R_g (Kd.R_mono HO515.out (fun _ hk => ⟨hk.1.2, ⟨hk.1.1.1.1.2, ⟨hk.1.1.1.2, ⟨hk.1.1.2, hk.2⟩⟩⟩⟩))⟩, bg BK477, bg BK478, bg BK505, bg BK511, bg BK517, hbg HB⟩
       case round =>
        clear H'
        try clear c1
        try clear c4
        try clear c8
        try clear c8b0
        try clear c8b1
        try clear c8b2
        try clear c10
        try clear c26
        try clear c27b0
        try clear c28
        try clear c28b0
        try clear c29
        try clear c29b0
        try clear c30b0
        try clear c31
        try clear c31b0
        try clear c32
        try clear c32b0
        try clear c33
        try clear c33b0
        try clear c33b1
        try clear c34
        try clear c34b0
        try clear c35
        try clear c35b0
        try clear c37
        try clear c37b0
        try clear c38
        try clear c38b0
        try clear c40
        try clear c40b0
        try clear c40b1
        try clear c40b2
        try clear c44
        try clear c44b0
        try clear c44b1
        try clear c45
        try clear c45b0
        try clear c46
        try clear c46b0
        try clear c48
        try clear c48b0
        try clear c49
        try clear c49b0
        try clear c51
        try clear c51b0
        try clear c51b1
        try clear c51b2
        try clear c55
        try clear c55b0
        try clear c55b1
        try clear c61
        try clear c61b0
        try clear c61b1
        try clear c61b2
        try clear c63
        try clear c64
        try clear hx488_0
        try clear hx489_0
        try clear hx490_0
        try clear hx492_0
        try clear hx494_0
        try clear hx496_0
        try clear p488
        try clear p489
        try clear p490
        try clear p492
        try clear p494
        try clear p496
        try clear q488
        try clear q489
        try clear q490
        try clear q492
        try clear q494
        try clear q496
        obtain ⟨x131_2, rfl, HA, HK2, HO_16, HO_478001, HO_479001, HO_506001, HO_512001, HO_518001, BK477, BK478, BK505, BK511, BK517, HB⟩ := hrel
        cases gk with
        | zero => exact absurd HA.out (by simp [laws_FnPatterns.l2])
        | succ k2 =>
         have H := HA.out
         clear HA
         simp only [laws_FnPatterns.l2] at H
         rcases iteE H with ⟨c90b0, H⟩ | ⟨c90b0, H⟩
         ·have H' := mkA H
          clear H
          go_wp2
          repeat (go_quiet (fail); try go_wp2)
          go_loopg [136] k2 (fun kq v136 w' => ∃ (x136_3 : Int), v136 = .int .i64 x136_3 ∧ Fc (laws_FnPatterns.l3 kq t502 x131_2 (t502.length : Int) x131_2 (t502.length : Int) x136_3 t498 t499 t506 t507 = some r) ∧ Fc (kq ≤ k2) ∧ Fc (Kd.R (Kd.int .i64) 3 w' w.heap.size (fun k_ => some k_ ≠ ((.slice Ao17 t470.length co17) : Value).ownBlock ∧ some k_ ≠ ((.slice Ao19 t474.length co19) : Value).ownBlock ∧ some k_ ≠ ((.slice Ao70 t499.length co70) : Value).ownBlock ∧ some k_ ≠ ((.slice Ao78 t507.length co78) : Value).ownBlock ∧ some k_ ≠ ((.slice Ao87 t513.length co87) : Value).ownBlock) (.slice Ao71 t502.length co71) t502) ∧ Fc (Kd.R (Kd.int .i64) 3 w' w.heap.size (fun k_ => some k_ ≠ ((.slice Ao71 t502.length co71) : Value).ownBlock ∧ some k_ ≠ ((.slice Ao19 t474.length co19) : Value).ownBlock ∧ some k_ ≠ ((.slice Ao70 t499.length co70) : Value).ownBlock ∧ some k_ ≠ ((.slice Ao78 t507.length co78) : Value).ownBlock ∧ some k_ ≠ ((.slice Ao87 t513.length co87) : Value).ownBlock) (.slice Ao17 t470.length co17) t470) ∧ Fc (Kd.R (Kd.int .i64) 3 w' w.heap.size (fun k_ => some k_ ≠ ((.slice Ao71 t502.length co71) : Value).ownBlock ∧ some k_ ≠ ((.slice Ao17 t470.length co17) : Value).ownBlock ∧ some k_ ≠ ((.slice Ao70 t499.length co70) : Value).ownBlock ∧ some k_ ≠ ((.slice Ao78 t507.length co78) : Value).ownBlock ∧ some k_ ≠ ((.slice Ao87 t513.length co87) : Value).ownBlock) (.slice Ao19 t474.length co19) t474) ∧ Fc (Kd.R (Kd.int .i64) 3 w' w.heap.size (fun k_ => some k_ ≠ ((.slice Ao71 t502.length co71) : Value).ownBlock ∧ some k_ ≠ ((.slice Ao17 t470.length co17) : Value).ownBlock ∧ some k_ ≠ ((.slice Ao19 t474.length co19) : Value).ownBlock ∧ some k_ ≠ ((.slice Ao78 t507.length co78) : Value).ownBlock ∧ some k_ ≠ ((.slice Ao87 t513.length co87) : Value).ownBlock) (.slice Ao70 t499.length co70) t499) ∧ Fc (Kd.R (Kd.int .i64) 3 w' w.heap.size (fun k_ => some k_ ≠ ((.slice Ao71 t502.length co71) : Value).ownBlock ∧ some k_ ≠ ((.slice Ao17 t470.length co17) : Value).ownBlock ∧ some k_ ≠ ((.slice Ao19 t474.length co19) : Value).ownBlock ∧ some k_ ≠ ((.slice Ao70 t499.length co70) : Value).ownBlock ∧ some k_ ≠ ((.slice Ao87 t513.length co87) : Value).ownBlock) (.slice Ao78 t507.length co78) t507) ∧ Fc (Kd.R (Kd.int .i64) 3 w' w.heap.size (fun k_ => some k_ ≠ ((.slice Ao71 t502.length co71) : Value).ownBlock ∧ some k_ ≠ ((.slice Ao17 t470.length co17) : Value).ownBlock ∧ some k_ ≠ ((.slice Ao19 t474.length co19) : Value).ownBlock ∧ some k_ ≠ ((.slice Ao70 t499.length co70) : Value).ownBlock ∧ some k_ ≠ ((.slice Ao78 t507.length co78) : Value).ownBlock) (.slice Ao87 t513.length co87) t513) ∧ Fc (w'.heap[gb477]? = some (.cells #[.int .i64 t469, (.slice Ao17 t470.length co17)] 26 (0, 0))) ∧ Fc (w'.heap[gb478]? = some (.cells #[.int .i64 t473, (.slice Ao19 t474.length co19)] 26 (0, 0))) ∧ Fc (w'.heap[gb505]? = some (.cells #[.int .i64 t498, (.slice Ao70 t499.length co70)] 26 (0, 0))) ∧ Fc (w'.heap[gb511]? = some (.cells #[.int .i64 t506, (.slice Ao78 t507.length co78)] 26 (0, 0))) ∧ Fc (w'.heap[gb517]? = some (.cells #[.int .i64 t512, (.slice Ao87 t513.length co87)] 26 (0, 0))) ∧ Fc (Below w.heap.size w w'))
          case atStart => exact ⟨(0), eqS, H', ⟨Nat.le_refl _⟩, rg HO_16, rg HO_478001, rg HO_479001, rg HO_506001, rg HO_512001, rg HO_518001, bg BK477, bg BK478, bg BK505, bg BK511, bg BK517, hbg HB⟩
          case round =>
           clear H'
           try clear c1
           try clear c4
           try clear c8
           try clear c8b0
           try clear c8b1
           try clear c8b2
           try clear c10
           try clear c26
           try clear c27b0
           try clear c28
           try clear c28b0
           try clear c29
           try clear c29b0
           try clear c30b0
           try clear c31
           try clear c31b0
           try clear c32
           try clear c32b0
           try clear c33
           try clear c33b0
           try clear c33b1
           try clear c34
           try clear c34b0
           try clear c35
           try clear c35b0
           try clear c37
           try clear c37b0
           try clear c38
           try clear c38b0
           try clear c40
           try clear c40b0
           try clear c40b1
           try clear c40b2
           try clear c44
           try clear c44b0
           try clear c44b1
           try clear c45
           try clear c45b0
           try clear c46
           try clear c46b0
           try clear c48
           try clear c48b0
           try clear c49
           try clear c49b0
           try clear c51
           try clear c51b0
           try clear c51b1
           try clear c51b2
           try clear c55
           try clear c55b0
           try clear c55b1
           try clear c61
           try clear c61b0
           try clear c61b1
           try clear c61b2
           try clear c63
           try clear c64
           try clear c90b0
           try clear hx488_0
           try clear hx489_0
           try clear hx490_0
           try clear hx492_0
           try clear hx494_0
           try clear hx496_0
           try clear p488
           try clear p489
           try clear p490
           try clear p492
           try clear p494
           try clear p496
           try clear q488
           try clear q489
           try clear q490
           try clear q492
           try clear q494
           try clear q496
           obtain ⟨x136_3, rfl, HA, HK3, HO_16, HO_478001, HO_479001, HO_506001, HO_512001, HO_518001, BK477, BK478, BK505, BK511, BK517, HB⟩ := hrel
           cases gk with
           | zero => exact absurd HA.out (by simp [laws_FnPatterns.l3])
           | succ k3 =>
            have H := HA.out
            clear HA
            simp only [laws_FnPatterns.l3] at H
            rcases iteE H with ⟨c91b0, H⟩ | ⟨c91b0, H⟩
            ·obtain ⟨c92b0, H⟩ := itND H
             obtain ⟨c93b0, H⟩ := itND H
             obtain ⟨t522, A94, H⟩ := obE H
             obtain ⟨c95b0, H⟩ := itND H
             obtain ⟨c96b0, H⟩ := itND H
             obtain ⟨c97b0, H⟩ := itND H
             obtain ⟨c98b0, H⟩ := itND H
             obtain ⟨c99b0, H⟩ := itND H
             obtain ⟨t526, A100, H⟩ := obE H
             obtain ⟨c101, H⟩ := itMP H
             have c101b0 : (t522 != t526) = false := by simpa using c101
             (try (have c101b1 : decide (t522 = t526) = true := by simpa using c101))
             (try (have c101b2 : (t522 == t526) = true := by simpa using c101))
             clear c101
             have H' := mkA H
             clear H
             obtain ⟨_, _, _, _⟩ := blk2 BK505
             obtain ⟨p521, q521, ad521, e521, hx521_0⟩ := atI (Kd.R_reads' HO_506001.out).2.2 x131_2
             cases e521
             go_wp2_with (first | (go_at_call 9; (with_reducible refine (laws_pIn.calls (rd t499 x131_2) x136_3 t522 _ A94.out).mono ?_); rintro e w' ⟨rfl, ⟨nd, rfl⟩⟩; (try first | exact ⟨rfl, _, World.drewN_drewN _ _ _⟩ | exact ⟨rfl, _, Eq.trans (World.drewN_drewN _ _ _) (congrArg (World.drewN _) (Nat.add_assoc _ _ _))⟩); obtain ⟨hcz110_0, hcz110_1, hfz110_0, hfz110_1⟩ := blk2 BK511; have p523 : 0 ≤ (x131_2 : Int) := ofd; have q523 : x131_2 < (t502.length : Int) := ofd; obtain ⟨ad523, e523, hx523_0⟩ := Kd.at_int (Kd.R_reads' HO_16.out).2.2 x131_2 p523 q523; cases e523; replace p523 := eq_true p523; replace q523 := eq_true q523; have p524 : 0 ≤ ((rd t502 x131_2) : Int) := ofd; have q524 : (rd t502 x131_2) < (t507.length : Int) := ofd; obtain ⟨ad524, e524, hx524_0⟩ := Kd.at_int (Kd.R_reads' HO_512001.out).2.2 (rd t502 x131_2) p524 q524; cases e524; replace p524 := eq_true p524; replace q524 := eq_true q524; have p525 : 0 ≤ (x136_3 : Int) := ofd; have q525 : x136_3 < (t502.length : Int) := ofd; obtain ⟨ad525, e525, hx525_0⟩ := Kd.at_int (Kd.R_reads' HO_16.out).2.2 x136_3 p525 q525; obtain rfl : ad523 = ad525 := (by injection e525); replace p525 := eq_true p525; replace q525 := eq_true q525) | (go_at_call 9; (with_reducible refine (laws_pIn.calls (rd t507 (rd t502 x131_2)) (rd t502 x136_3) t526 _ A100.out).mono ?_); rintro e w' ⟨rfl, ⟨nd, rfl⟩⟩; (try first | exact ⟨rfl, _, World.drewN_drewN _ _ _⟩ | exact ⟨rfl, _, Eq.trans (World.drewN_drewN _ _ _) (congrArg (World.drewN _) (Nat.add_assoc _ _ _))⟩)))
             repeat (go_quiet (first | (go_at_call 9; (with_reducible refine (laws_pIn.calls (rd t499 x131_2) x136_3 t522 _ A94.out).mono ?_); rintro e w' ⟨rfl, ⟨nd, rfl⟩⟩; (try first | exact ⟨rfl, _, World.drewN_drewN _ _ _⟩ | exact ⟨rfl, _, Eq.trans (World.drewN_drewN _ _ _) (congrArg (World.drewN _) (Nat.add_assoc _ _ _))⟩); obtain ⟨hcz110_0, hcz110_1, hfz110_0, hfz110_1⟩ := blk2 BK511; have p523 : 0 ≤ (x131_2 : Int) := ofd; have q523 : x131_2 < (t502.length : Int) := ofd; obtain ⟨ad523, e523, hx523_0⟩ := Kd.at_int (Kd.R_reads' HO_16.out).2.2 x131_2 p523 q523; cases e523; replace p523 := eq_true p523; replace q523 := eq_true q523; have p524 : 0 ≤ ((rd t502 x131_2) : Int) := ofd; have q524 : (rd t502 x131_2) < (t507.length : Int) := ofd; obtain ⟨ad524, e524, hx524_0⟩ := Kd.at_int (Kd.R_reads' HO_512001.out).2.2 (rd t502 x131_2) p524 q524; cases e524; replace p524 := eq_true p524; replace q524 := eq_true q524; have p525 : 0 ≤ (x136_3 : Int) := ofd; have q525 : x136_3 < (t502.length : Int) := ofd; obtain ⟨ad525, e525, hx525_0⟩ := Kd.at_int (Kd.R_reads' HO_16.out).2.2 x136_3 p525 q525; obtain rfl : ad523 = ad525 := (by injection e525); replace p525 := eq_true p525; replace q525 := eq_true q525) | (go_at_call 9; (with_reducible refine (laws_pIn.calls (rd t507 (rd t502 x131_2)) (rd t502 x136_3) t526 _ A100.out).mono ?_); rintro e w' ⟨rfl, ⟨nd, rfl⟩⟩; (try first | exact ⟨rfl, _, World.drewN_drewN _ _ _⟩ | exact ⟨rfl, _, Eq.trans (World.drewN_drewN _ _ _) (congrArg (World.drewN _) (Nat.add_assoc _ _ _))⟩))); try go_wp2_with (first | (go_at_call 9; (with_reducible refine (laws_pIn.calls (rd t499 x131_2) x136_3 t522 _ A94.out).mono ?_); rintro e w' ⟨rfl, ⟨nd, rfl⟩⟩; (try first | exact ⟨rfl, _, World.drewN_drewN _ _ _⟩ | exact ⟨rfl, _, Eq.trans (World.drewN_drewN _ _ _) (congrArg (World.drewN _) (Nat.add_assoc _ _ _))⟩); obtain ⟨hcz110_0, hcz110_1, hfz110_0, hfz110_1⟩ := blk2 BK511; have p523 : 0 ≤ (x131_2 : Int) := ofd; have q523 : x131_2 < (t502.length : Int) := ofd; obtain ⟨ad523, e523, hx523_0⟩ := Kd.at_int (Kd.R_reads' HO_16.out).2.2 x131_2 p523 q523; cases e523; replace p523 := eq_true p523; replace q523 := eq_true q523; have p524 : 0 ≤ ((rd t502 x131_2) : Int) := ofd; have q524 : (rd t502 x131_2) < (t507.length : Int) := ofd; obtain ⟨ad524, e524, hx524_0⟩ := Kd.at_int (Kd.R_reads' HO_512001.out).2.2 (rd t502 x131_2) p524 q524; cases e524; replace p524 := eq_true p524; replace q524 := eq_true q524; have p525 : 0 ≤ (x136_3 : Int) := ofd; have q525 : x136_3 < (t502.length : Int) := ofd; obtain ⟨ad525, e525, hx525_0⟩ := Kd.at_int (Kd.R_reads' HO_16.out).2.2 x136_3 p525 q525; obtain rfl : ad523 = ad525 := (by injection e525); replace p525 := eq_true p525; replace q525 := eq_true q525) | (go_at_call 9; (with_reducible refine (laws_pIn.calls (rd t507 (rd t502 x131_2)) (rd t502 x136_3) t526 _ A100.out).mono ?_); rintro e w' ⟨rfl, ⟨nd, rfl⟩⟩; (try first | exact ⟨rfl, _, World.drewN_drewN _ _ _⟩ | exact ⟨rfl, _, Eq.trans (World.drewN_drewN _ _ _) (congrArg (World.drewN _) (Nat.add_assoc _ _ _))⟩))))
             go_roundg k3
             case measure => have := HJ10.out; have := HK2.out; have := HK3.out; omega
             case rel => exact ⟨(wrap64 (x136_3 + 1)), eqS, H', ⟨by have := HJ10.out; have := HK2.out; have := HK3.out; omega⟩, rg HO_16, rg HO_478001, rg HO_479001, rg HO_506001, rg HO_512001, rg HO_518001, bg BK477, bg BK478, bg BK505, bg BK511, bg BK517, hbg HB⟩
            ·have H' := mkA H
             clear H
             go_wp2
             repeat (go_quiet (fail); try go_wp2)
             go_roundg k3
             case measure => have := HJ10.out; have := HK2.out; have := HK3.out; omega
             case rel => exact ⟨(wrap64 (x131_2 + 1)), eqS, H', ⟨by have := HJ10.out; have := HK2.out; have := HK3.out; omega⟩, rg HO_16, rg HO_478001, rg HO_479001, rg HO_506001, rg HO_512001, rg HO_518001, bg BK477, bg BK478, bg BK505, bg BK511, bg BK517, hbg HB⟩
         ·obtain ⟨⟨t519, t520⟩, A111, H⟩ := obE H
          dsimp only at H
          obtain ⟨c112, H⟩ := itNP H
          have c112b0 : (t520 == (decide (t498 ≤ 6))) = true := c112
          (try (have c112b1 : decide (t520 = (decide (t498 ≤ 6))) = true := by simpa using c112))
          (try (have c112b2 : (t520 == (decide (t498 ≤ 6))) = true := by simpa using c112))
          clear c112
          obtain rfl := Option.some.inj H
          obtain ⟨_, _, _, _⟩ := blk2 BK505
          obtain ⟨_, _, _, _⟩ := blk2 BK511
          go_wp2_with (first | (go_at_call 14; (with_reducible refine (impl_IsSameKind.calls k2 t498 _ _ t499 t506 _ _ t507 t519 t520 _ ?_ ?_ ?_ ?_ A111.out).mono ?_); exact rC HO_506001; exact rL HO_506001; exact rC HO_512001; exact rL HO_512001; rintro e w122 ⟨rfl, hb⟩; replace HO_16 := rB HO_16 hb; replace HO_478001 := rB HO_478001 hb; replace HO_479001 := rB HO_479001 hb; replace HO_506001 := rB HO_506001 hb; replace HO_512001 := rB HO_512001 hb; replace HO_518001 := rB HO_518001 hb; replace BK477 := blkB BK477 hb; replace BK478 := blkB BK478 hb; replace BK505 := blkB BK505 hb; replace BK511 := blkB BK511 hb; replace BK517 := blkB BK517 hb; replace HB := bst HB hb; clear hb; obtain ⟨hcz123_0, hcz123_1, hfz123_0, hfz123_1⟩ := blk2 BK505))
          repeat (go_quiet (first | (go_at_call 14; (with_reducible refine (impl_IsSameKind.calls k2 t498 _ _ t499 t506 _ _ t507 t519 t520 _ ?_ ?_ ?_ ?_ A111.out).mono ?_); exact rC HO_506001; exact rL HO_506001; exact rC HO_512001; exact rL HO_512001; rintro e w122 ⟨rfl, hb⟩; replace HO_16 := rB HO_16 hb; replace HO_478001 := rB HO_478001 hb; replace HO_479001 := rB HO_479001 hb; replace HO_506001 := rB HO_506001 hb; replace HO_512001 := rB HO_512001 hb; replace HO_518001 := rB HO_518001 hb; replace BK477 := blkB BK477 hb; replace BK478 := blkB BK478 hb; replace BK505 := blkB BK505 hb; replace BK511 := blkB BK511 hb; replace BK517 := blkB BK517 hb; replace HB := bst HB hb; clear hb; obtain ⟨hcz123_0, hcz123_1, hfz123_0, hfz123_1⟩ := blk2 BK505)); try go_wp2_with (first | (go_at_call 14; (with_reducible refine (impl_IsSameKind.calls k2 t498 _ _ t499 t506 _ _ t507 t519 t520 _ ?_ ?_ ?_ ?_ A111.out).mono ?_); exact rC HO_506001; exact rL HO_506001; exact rC HO_512001; exact rL HO_512001; rintro e w122 ⟨rfl, hb⟩; replace HO_16 := rB HO_16 hb; replace HO_478001 := rB HO_478001 hb; replace HO_479001 := rB HO_479001 hb; replace HO_506001 := rB HO_506001 hb; replace HO_512001 := rB HO_512001 hb; replace HO_518001 := rB HO_518001 hb; replace BK477 := blkB BK477 hb; replace BK478 := blkB BK478 hb; replace BK505 := blkB BK505 hb; replace BK511 := blkB BK511 hb; replace BK517 := blkB BK517 hb; replace HB := bst HB hb; clear hb; obtain ⟨hcz123_0, hcz123_1, hfz123_0, hfz123_1⟩ := blk2 BK505)))
          go_ret
          exact ⟨eqE, bel_g HB.out⟩
      ·replace c64 := Bool.eq_false_iff.mpr c64
       subst c64
       replace H := ifF H
       obtain rfl := Option.some.inj H
       go_wp2_with (first | (go_at_call 10; (with_reducible refine (spec_DrawRenameOf.calls kj10 _ _ l1 t498 t499 t502 _ ?_ ?_ A58.out).mono ?_); exact C_g HR1 HB; exact HC1.out; rintro e w124 ⟨v500, v503, rfl, ho0, ho1, hb⟩; have HO501 := rLo (rN (rN ho0 HO_478001) HO_479001) HB; have HO504 := rLo (rN (rN ho1 HO_478001) HO_479001) HB; replace HO_478001 := mkA (Kd.R_mono (Kd.R_told (Kd.R_told (Kd.R_old (Kd.R_g HO_478001.out) hb) (Kd.R_base ho0)) (Kd.R_base ho1)) (fun _ h_ => h_.1)); replace HO_479001 := mkA (Kd.R_mono (Kd.R_told (Kd.R_told (Kd.R_old (Kd.R_g HO_479001.out) hb) (Kd.R_base ho0)) (Kd.R_base ho1)) (fun _ h_ => h_.1)); replace BK477 := blkB BK477 hb; replace BK478 := blkB BK478 hb; replace HB := bst HB hb; clear hb ho0 ho1) | ((with_reducible refine gate_dst (N := 15) rfl ?_); refine boxG HB #[.int .i64 0, .slice none 0 0] 26 ?_; intro gb505 hg w125 BK505 GE505 hb; replace HO_478001 := rB HO_478001 hb; replace HO_479001 := rB HO_479001 hb; replace HO501 := rB HO501 hb; replace HO504 := rB HO504 hb; have NB477_505 := neL7 BK477 hg; have NB505_477 := neR7 BK477 hg; replace BK477 := blkB BK477 hb; have NB478_505 := neL7 BK478 hg; have NB505_478 := neR7 BK478 hg; replace BK478 := blkB BK478 hb; replace HB := bst HB hb; clear hb hg; obtain ⟨hcz128_0, hcz128_1, hfz128_0, hfz128_1⟩ := blk2 BK505; obtain ⟨Ao129, co129, rfl⟩ := Kd.R_slice HO501.out; obtain ⟨Ao130, co130, rfl⟩ := Kd.R_slice HO504.out) | (go_at_call 11; (with_reducible refine (impl_RenameOf.calls kj10 t498 _ _ t499 _ _ t502 t506 t507 false _ ?_ ?_ ?_ ?_ ?_ A59.out).mono ?_); exact rCF HO501 BK505; exact rL HO501; exact rCF HO504 BK505; exact rL HO504; exact Tab.below HTAB.out (bel_g HB.out); rintro e w131 ⟨v508, rfl, ho0, hb⟩; have HO509 := rLo (rNF (rNF (rNF (rNF ho0 HO_478001 BK505) HO_479001 BK505) HO501 BK505) HO504 BK505) HB; replace HO_478001 := rEF HO_478001 BK505 ho0 hb; replace HO_479001 := rEF HO_479001 BK505 ho0 hb; replace HO501 := rEF HO501 BK505 ho0 hb; replace HO504 := rEF HO504 BK505 ho0 hb; replace BK477 := blkS BK477 hb; replace BK478 := blkS BK478 hb; replace BK505 := blkS BK505 hb; replace HB := bst HB hb; clear hb ho0) | ((with_reducible refine gate_dst (N := 17) rfl ?_); refine boxG HB #[.int .i64 0, .slice none 0 0] 26 ?_; intro gb511 hg w132 BK511 GE511 hb; replace HO_478001 := rB HO_478001 hb; replace HO_479001 := rB HO_479001 hb; replace HO501 := rB HO501 hb; replace HO504 := rB HO504 hb; replace HO509 := rB HO509 hb; have NB477_511 := neL7 BK477 hg; have NB511_477 := neR7 BK477 hg; replace BK477 := blkB BK477 hb; have NB478_511 := neL7 BK478 hg; have NB511_478 := neR7 BK478 hg; replace BK478 := blkB BK478 hb; have NB505_511 := neL7 BK505 hg; have NB511_505 := neR7 BK505 hg; replace BK505 := blkB BK505 hb; replace HB := bst HB hb; clear hb hg; obtain ⟨hcz136_0, hcz136_1, hfz136_0, hfz136_1⟩ := blk2 BK511; obtain ⟨Ao137, co137, rfl⟩ := Kd.R_slice HO509.out; obtain ⟨hcz138_0, hcz138_1, hfz138_0, hfz138_1⟩ := blk2 BK505) | (go_at_call 12; (with_reducible refine (spec_RenameOf.calls kj10 t498 _ _ t499 _ _ t502 t512 t513 t516 _ ?_ ?_ ?_ ?_ A60.out).mono ?_); exact rCF HO501 BK511; exact rL HO501; exact rCF HO504 BK511; exact rL HO504; rintro e w139 ⟨v514, rfl, ho0, hb⟩; have HO515 := rLo (rNF (rNF (rNF (rNF (rNF ho0 HO_478001 BK511) HO_479001 BK511) HO501 BK511) HO504 BK511) HO509 BK511) HB; replace HO_478001 := rEF HO_478001 BK511 ho0 hb; replace HO_479001 := rEF HO_479001 BK511 ho0 hb; replace HO501 := rEF HO501 BK511 ho0 hb; replace HO504 := rEF HO504 BK511 ho0 hb; replace HO509 := rEF HO509 BK511 ho0 hb; replace BK477 := blkS BK477 hb; replace BK478 := blkS BK478 hb; replace BK505 := blkS BK505 hb; replace BK511 := blkS BK511 hb; replace HB := bst HB hb; clear hb ho0) | ((with_reducible refine gate_dst (N := 19) rfl ?_); refine boxG HB #[.int .i64 0, .slice none 0 0] 26 ?_; intro gb517 hg w140 BK517 GE517 hb; replace HO_478001 := rB HO_478001 hb; replace HO_479001 := rB HO_479001 hb; replace HO501 := rB HO501 hb; replace HO504 := rB HO504 hb; replace HO509 := rB HO509 hb; replace HO515 := rB HO515 hb; have NB477_517 := neL7 BK477 hg; have NB517_477 := neR7 BK477 hg; replace BK477 := blkB BK477 hb; have NB478_517 := neL7 BK478 hg; have NB517_478 := neR7 BK478 hg; replace BK478 := blkB BK478 hb; have NB505_517 := neL7 BK505 hg; have NB517_505 := neR7 BK505 hg; replace BK505 := blkB BK505 hb; have NB511_517 := neL7 BK511 hg; have NB517_511 := neR7 BK511 hg; replace BK511 := blkB BK511 hb; replace HB := bst HB hb; clear hb hg; obtain ⟨hcz145_0, hcz145_1, hfz145_0, hfz145_1⟩ := blk2 BK517; obtain ⟨Ao146, co146, rfl⟩ := Kd.R_slice HO515.out; obtain ⟨hcz147_0, hcz147_1, hfz147_0, hfz147_1⟩ := blk2 BK511) | (go_at_call 13; (with_reducible refine (laws_pSameOrder.calls kj10 t506 _ _ t507 t512 _ _ t513 true _ ?_ ?_ ?_ ?_ A62.out).mono ?_); exact rCF HO509 BK517; exact rL HO509; exact rCF HO515 BK517; exact rL HO515; rintro e w148 ⟨rfl, hb⟩; replace HO_478001 := mkA (Kd.R_below (rFg HO_478001 BK517) hb); replace HO_479001 := mkA (Kd.R_below (rFg HO_479001 BK517) hb); replace HO501 := mkA (Kd.R_below (rFg HO501 BK517) hb); replace HO504 := mkA (Kd.R_below (rFg HO504 BK517) hb); replace HO509 := mkA (Kd.R_below (rFg HO509 BK517) hb); replace HO515 := mkA (Kd.R_below (rFg HO515 BK517) hb); replace BK477 := blkS BK477 hb; replace BK478 := blkS BK478 hb; replace BK505 := blkS BK505 hb; replace BK511 := blkS BK511 hb; replace BK517 := blkS BK517 hb; replace HB := bst HB hb; clear hb))
       repeat (go_quiet (first | (go_at_call 10; (with_reducible refine (spec_DrawRenameOf.calls kj10 _ _ l1 t498 t499 t502 _ ?_ ?_ A58.out).mono ?_); exact C_g HR1 HB; exact HC1.out; rintro e w124 ⟨v500, v503, rfl, ho0, ho1, hb⟩; have HO501 := rLo (rN (rN ho0 HO_478001) HO_479001) HB; have HO504 := rLo (rN (rN ho1 HO_478001) HO_479001) HB; replace HO_478001 := mkA (Kd.R_mono (Kd.R_told (Kd.R_told (Kd.R_old (Kd.R_g HO_478001.out) hb) (Kd.R_base ho0)) (Kd.R_base ho1)) (fun _ h_ => h_.1)); replace HO_479001 := mkA (Kd.R_mono (Kd.R_told (Kd.R_told (Kd.R_old (Kd.R_g HO_479001.out) hb) (Kd.R_base ho0)) (Kd.R_base ho1)) (fun _ h_ => h_.1)); replace BK477 := blkB BK477 hb; replace BK478 := blkB BK478 hb; replace HB := bst HB hb; clear hb ho0 ho1) | ((with_reducible refine gate_dst (N := 15) rfl ?_); refine boxG HB #[.int .i64 0, .slice none 0 0] 26 ?_; intro gb505 hg w125 BK505 GE505 hb; replace HO_478001 := rB HO_478001 hb; replace HO_479001 := rB HO_479001 hb; replace HO501 := rB HO501 hb; replace HO504 := rB HO504 hb; have NB477_505 := neL7 BK477 hg; have NB505_477 := neR7 BK477 hg; replace BK477 := blkB BK477 hb; have NB478_505 := neL7 BK478 hg; have NB505_478 := neR7 BK478 hg; replace BK478 := blkB BK478 hb; replace HB := bst HB hb; clear hb hg; obtain ⟨hcz128_0, hcz128_1, hfz128_0, hfz128_1⟩ := blk2 BK505; obtain ⟨Ao129, co129, rfl⟩ := Kd.R_slice HO501.out; obtain ⟨Ao130, co130, rfl⟩ := Kd.R_slice HO504.out) | (go_at_call 11; (with_reducible refine (impl_RenameOf.calls kj10 t498 _ _ t499 _ _ t502 t506 t507 false _ ?_ ?_ ?_ ?_ ?_ A59.out).mono ?_); exact rCF HO501 BK505; exact rL HO501; exact rCF HO504 BK505; exact rL HO504; exact Tab.below HTAB.out (bel_g HB.out); rintro e w131 ⟨v508, rfl, ho0, hb⟩; have HO509 := rLo (rNF (rNF (rNF (rNF ho0 HO_478001 BK505) HO_479001 BK505) HO501 BK505) HO504 BK505) HB; replace HO_478001 := rEF HO_478001 BK505 ho0 hb; replace HO_479001 := rEF HO_479001 BK505 ho0 hb; replace HO501 := rEF HO501 BK505 ho0 hb; replace HO504 := rEF HO504 BK505 ho0 hb; replace BK477 := blkS BK477 hb; replace BK478 := blkS BK478 hb; replace BK505 := blkS BK505 hb; replace HB := bst HB hb; clear hb ho0) | ((with_reducible refine gate_dst (N := 17) rfl ?_); refine boxG HB #[.int .i64 0, .slice none 0 0] 26 ?_; intro gb511 hg w132 BK511 GE511 hb; replace HO_478001 := rB HO_478001 hb; replace HO_479001 := rB HO_479001 hb; replace HO501 := rB HO501 hb; replace HO504 := rB HO504 hb; replace HO509 := rB HO509 hb; have NB477_511 := neL7 BK477 hg; have NB511_477 := neR7 BK477 hg; replace BK477 := blkB BK477 hb; have NB478_511 := neL7 BK478 hg; have NB511_478 := neR7 BK478 hg; replace BK478 := blkB BK478 hb; have NB505_511 := neL7 BK505 hg; have NB511_505 := neR7 BK505 hg; replace BK505 := blkB BK505 hb; replace HB := bst HB hb; clear hb hg; obtain ⟨hcz136_0, hcz136_1, hfz136_0, hfz136_1⟩ := blk2 BK511; obtain ⟨Ao137, co137, rfl⟩ := Kd.R_slice HO509.out; obtain ⟨hcz138_0, hcz138_1, hfz138_0, hfz138_1⟩ := blk2 BK505) | (go_at_call 12; (with_reducible refine (spec_RenameOf.calls kj10 t498 _ _ t499 _ _ t502 t512 t513 t516 _ ?_ ?_ ?_ ?_ A60.out).mono ?_); exact rCF HO501 BK511; exact rL HO501; exact rCF HO504 BK511; exact rL HO504; rintro e w139 ⟨v514, rfl, ho0, hb⟩; have HO515 := rLo (rNF (rNF (rNF (rNF (rNF ho0 HO_478001 BK511) HO_479001 BK511) HO501 BK511) HO504 BK511) HO509 BK511) HB; replace HO_478001 := rEF HO_478001 BK511 ho0 hb; replace HO_479001 := rEF HO_479001 BK511 ho0 hb; replace HO501 := rEF HO501 BK511 ho0 hb; replace HO504 := rEF HO504 BK511 ho0 hb; replace HO509 := rEF HO509 BK511 ho0 hb; replace BK477 := blkS BK477 hb; replace BK478 := blkS BK478 hb; replace BK505 := blkS BK505 hb; replace BK511 := blkS BK511 hb; replace HB := bst HB hb; clear hb ho0) | ((with_reducible refine gate_dst (N := 19) rfl ?_); refine boxG HB #[.int .i64 0, .slice none 0 0] 26 ?_; intro gb517 hg w140 BK517 GE517 hb; replace HO_478001 := rB HO_478001 hb; replace HO_479001 := rB HO_479001 hb; replace HO501 := rB HO501 hb; replace HO504 := rB HO504 hb; replace HO509 := rB HO509 hb; replace HO515 := rB HO515 hb; have NB477_517 := neL7 BK477 hg; have NB517_477 := neR7 BK477 hg; replace BK477 := blkB BK477 hb; have NB478_517 := neL7 BK478 hg; have NB517_478 := neR7 BK478 hg; replace BK478 := blkB BK478 hb; have NB505_517 := neL7 BK505 hg; have NB517_505 := neR7 BK505 hg; replace BK505 := blkB BK505 hb; have NB511_517 := neL7 BK511 hg; have NB517_511 := neR7 BK511 hg; replace BK511 := blkB BK511 hb; replace HB := bst HB hb; clear hb hg; obtain ⟨hcz145_0, hcz145_1, hfz145_0, hfz145_1⟩ := blk2 BK517; obtain ⟨Ao146, co146, rfl⟩ := Kd.R_slice HO515.out; obtain ⟨hcz147_0, hcz147_1, hfz147_0, hfz147_1⟩ := blk2 BK511) | (go_at_call 13; (with_reducible refine (laws_pSameOrder.calls kj10 t506 _ _ t507 t512 _ _ t513 true _ ?_ ?_ ?_ ?_ A62.out).mono ?_); exact rCF HO509 BK517; exact rL HO509; exact rCF HO515 BK517; exact rL HO515; rintro e w148 ⟨rfl, hb⟩; replace HO_478001 := mkA (Kd.R_below (rFg HO_478001 BK517) hb); replace HO_479001 := mkA (Kd.R_below (rFg HO_479001 BK517) hb); replace HO501 := mkA (Kd.R_below (rFg HO501 BK517) hb); replace HO504 := mkA (Kd.R_below (rFg HO504 BK517) hb); replace HO509 := mkA (Kd.R_below (rFg HO509 BK517) hb); replace HO515 := mkA (Kd.R_below (rFg HO515 BK517) hb); replace BK477 := blkS BK477 hb; replace BK478 := blkS BK478 hb; replace BK505 := blkS BK505 hb; replace BK511 := blkS BK511 hb; replace BK517 := blkS BK517 hb; replace HB := bst HB hb; clear hb)); try go_wp2_with (first | (go_at_call 10; (with_reducible refine (spec_DrawRenameOf.calls kj10 _ _ l1 t498 t499 t502 _ ?_ ?_ A58.out).mono ?_); exact C_g HR1 HB; exact HC1.out; rintro e w124 ⟨v500, v503, rfl, ho0, ho1, hb⟩; have HO501 := rLo (rN (rN ho0 HO_478001) HO_479001) HB; have HO504 := rLo (rN (rN ho1 HO_478001) HO_479001) HB; replace HO_478001 := mkA (Kd.R_mono (Kd.R_told (Kd.R_told (Kd.R_old (Kd.R_g HO_478001.out) hb) (Kd.R_base ho0)) (Kd.R_base ho1)) (fun _ h_ => h_.1)); replace HO_479001 := mkA (Kd.R_mono (Kd.R_told (Kd.R_told (Kd.R_old (Kd.R_g HO_479001.out) hb) (Kd.R_base ho0)) (Kd.R_base ho1)) (fun _ h_ => h_.1)); replace BK477 := blkB BK477 hb; replace BK478 := blkB BK478 hb; replace HB := bst HB hb; clear hb ho0 ho1) | ((with_reducible refine gate_dst (N := 15) rfl ?_); refine boxG HB #[.int .i64 0, .slice none 0 0] 26 ?_; intro gb505 hg w125 BK505 GE505 hb; replace HO_478001 := rB HO_478001 hb; replace HO_479001 := rB HO_479001 hb; replace HO501 := rB HO501 hb; replace HO504 := rB HO504 hb; have NB477_505 := neL7 BK477 hg; have NB505_477 := neR7 BK477 hg; replace BK477 := blkB BK477 hb; have NB478_505 := neL7 BK478 hg; have NB505_478 := neR7 BK478 hg; replace BK478 := blkB BK478 hb; replace HB := bst HB hb; clear hb hg; obtain ⟨hcz128_0, hcz128_1, hfz128_0, hfz128_1⟩ := blk2 BK505; obtain ⟨Ao129, co129, rfl⟩ := Kd.R_slice HO501.out; obtain ⟨Ao130, co130, rfl⟩ := Kd.R_slice HO504.out) | (go_at_call 11; (with_reducible refine (impl_RenameOf.calls kj10 t498 _ _ t499 _ _ t502 t506 t507 false _ ?_ ?_ ?_ ?_ ?_ A59.out).mono ?_); exact rCF HO501 BK505; exact rL HO501; exact rCF HO504 BK505; exact rL HO504; exact Tab.below HTAB.out (bel_g HB.out); rintro e w131 ⟨v508, rfl, ho0, hb⟩; have HO509 := rLo (rNF (rNF (rNF (rNF ho0 HO_478001 BK505) HO_479001 BK505) HO501 BK505) HO504 BK505) HB; replace HO_478001 := rEF HO_478001 BK505 ho0 hb; replace HO_479001 := rEF HO_479001 BK505 ho0 hb; replace HO501 := rEF HO501 BK505 ho0 hb; replace HO504 := rEF HO504 BK505 ho0 hb; replace BK477 := blkS BK477 hb; replace BK478 := blkS BK478 hb; replace BK505 := blkS BK505 hb; replace HB := bst HB hb; clear hb ho0) | ((with_reducible refine gate_dst (N := 17) rfl ?_); refine boxG HB #[.int .i64 0, .slice none 0 0] 26 ?_; intro gb511 hg w132 BK511 GE511 hb; replace HO_478001 := rB HO_478001 hb; replace HO_479001 := rB HO_479001 hb; replace HO501 := rB HO501 hb; replace HO504 := rB HO504 hb; replace HO509 := rB HO509 hb; have NB477_511 := neL7 BK477 hg; have NB511_477 := neR7 BK477 hg; replace BK477 := blkB BK477 hb; have NB478_511 := neL7 BK478 hg; have NB511_478 := neR7 BK478 hg; replace BK478 := blkB BK478 hb; have NB505_511 := neL7 BK505 hg; have NB511_505 := neR7 BK505 hg; replace BK505 := blkB BK505 hb; replace HB := bst HB hb; clear hb hg; obtain ⟨hcz136_0, hcz136_1, hfz136_0, hfz136_1⟩ := blk2 BK511; obtain ⟨Ao137, co137, rfl⟩ := Kd.R_slice HO509.out; obtain ⟨hcz138_0, hcz138_1, hfz138_0, hfz138_1⟩ := blk2 BK505) | (go_at_call 12; (with_reducible refine (spec_RenameOf.calls kj10 t498 _ _ t499 _ _ t502 t512 t513 t516 _ ?_ ?_ ?_ ?_ A60.out).mono ?_); exact rCF HO501 BK511; exact rL HO501; exact rCF HO504 BK511; exact rL HO504; rintro e w139 ⟨v514, rfl, ho0, hb⟩; have HO515 := rLo (rNF (rNF (rNF (rNF (rNF ho0 HO_478001 BK511) HO_479001 BK511) HO501 BK511) HO504 BK511) HO509 BK511) HB; replace HO_478001 := rEF HO_478001 BK511 ho0 hb; replace HO_479001 := rEF HO_479001 BK511 ho0 hb; replace HO501 := rEF HO501 BK511 ho0 hb; replace HO504 := rEF HO504 BK511 ho0 hb; replace HO509 := rEF HO509 BK511 ho0 hb; replace BK477 := blkS BK477 hb; replace BK478 := blkS BK478 hb; replace BK505 := blkS BK505 hb; replace BK511 := blkS BK511 hb; replace HB := bst HB hb; clear hb ho0) | ((with_reducible refine gate_dst (N := 19) rfl ?_); refine boxG HB #[.int .i64 0, .slice none 0 0] 26 ?_; intro gb517 hg w140 BK517 GE517 hb; replace HO_478001 := rB HO_478001 hb; replace HO_479001 := rB HO_479001 hb; replace HO501 := rB HO501 hb; replace HO504 := rB HO504 hb; replace HO509 := rB HO509 hb; replace HO515 := rB HO515 hb; have NB477_517 := neL7 BK477 hg; have NB517_477 := neR7 BK477 hg; replace BK477 := blkB BK477 hb; have NB478_517 := neL7 BK478 hg; have NB517_478 := neR7 BK478 hg; replace BK478 := blkB BK478 hb; have NB505_517 := neL7 BK505 hg; have NB517_505 := neR7 BK505 hg; replace BK505 := blkB BK505 hb; have NB511_517 := neL7 BK511 hg; have NB517_511 := neR7 BK511 hg; replace BK511 := blkB BK511 hb; replace HB := bst HB hb; clear hb hg; obtain ⟨hcz145_0, hcz145_1, hfz145_0, hfz145_1⟩ := blk2 BK517; obtain ⟨Ao146, co146, rfl⟩ := Kd.R_slice HO515.out; obtain ⟨hcz147_0, hcz147_1, hfz147_0, hfz147_1⟩ := blk2 BK511) | (go_at_call 13; (with_reducible refine (laws_pSameOrder.calls kj10 t506 _ _ t507 t512 _ _ t513 true _ ?_ ?_ ?_ ?_ A62.out).mono ?_); exact rCF HO509 BK517; exact rL HO509; exact rCF HO515 BK517; exact rL HO515; rintro e w148 ⟨rfl, hb⟩; replace HO_478001 := mkA (Kd.R_below (rFg HO_478001 BK517) hb); replace HO_479001 := mkA (Kd.R_below (rFg HO_479001 BK517) hb); replace HO501 := mkA (Kd.R_below (rFg HO501 BK517) hb); replace HO504 := mkA (Kd.R_below (rFg HO504 BK517) hb); replace HO509 := mkA (Kd.R_below (rFg HO509 BK517) hb); replace HO515 := mkA (Kd.R_below (rFg HO515 BK517) hb); replace BK477 := blkS BK477 hb; replace BK478 := blkS BK478 hb; replace BK505 := blkS BK505 hb; replace BK511 := blkS BK511 hb; replace BK517 := blkS BK517 hb; replace HB := bst HB hb; clear hb)))
       go_ret
       exact ⟨eqE, bel_g HB.out⟩
     ·replace c63 := Bool.eq_false_iff.mpr c63
      subst c63
      replace H := ifF H
      exact absurd H (by simp)
  ·replace c10 := Bool.eq_false_iff.mpr c10
   subst c10
   replace H := ifF H
   exact absurd H (by simp)
end Go.Proofs.YtdpmoehmbjmkpaaDoor.Q
