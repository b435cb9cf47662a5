import Derived.Test.YtdmheeenoklijaaDoorBFnSetsAlong16
import Derived.Test.YtdmheeenoklijaaDoorBFnSetsAlong25
import Derived.Test.YtdmheeenoklijaaDoorBFnSetsAlong26
namespace Go.Proofs.YtdmheeenoklijaaDoor.Q
open Go.RowKit Go.Proofs.YtdmheeenoklijaaDoorW.PrintWords Go.Proofs.YtdmheeenoklijaaDoorW.PrintLast Go.Proofs.YtdmheeenoklijaaDoorW.PrintMore
attribute [local go_sem] max2_int min2_int max_two min_two max_three min_three max_four min_four neB_f
set_option linter.unusedVariables false
set_option maxHeartbeats 8000000
set_option maxRecDepth 100000
set_option linter.unusedSimpArgs false
mutual
def laws_FnSetsAlong.j0 : Nat → List Int → Bool → Bool → Int → List Int → Option (Bool)
 | 0, _, _, _, _, _ => none
 | k + 1, x6, x9, x47, x923000, x923001 => if x47 = true then (some false) else (if x9 = true then ((impl_EndsOf.f k x923000 x923001).bind fun bt932 => ((impl_MagnitudeOf.f k x923000 x923001).bind fun bt936 => ((impl_LargestAntichain.f k x923000 x923001).bind fun bt938 => (if bt932.2 = true then (if bt936.2 = true then (if bt938.2 = true then (laws_FnSetsAlong.j1 k x6 bt932.1 bt938.1 ((x6.length : Int) != bt936.1) x923000 x923001) else (laws_FnSetsAlong.j1 k x6 bt932.1 bt938.1 true x923000 x923001)) else (laws_FnSetsAlong.j1 k x6 bt932.1 bt938.1 true x923000 x923001)) else (laws_FnSetsAlong.j1 k x6 bt932.1 bt938.1 true x923000 x923001))))) else (some true))
def laws_FnSetsAlong.j1 : Nat → List Int → List (S39) → List Int → Bool → Int → List Int → Option (Bool)
 | 0, _, _, _, _, _, _ => none
 | k + 1, x6, x10, x14, x80, x923000, x923001 => if x80 = true then (some false) else (laws_FnSetsAlong.l0 k x10 x14 0 x6 (x6.length : Int) 0 x923000 x923001)
def laws_FnSetsAlong.l0 : Nat → List (S39) → List Int → Int → List Int → Int → Int → Int → List Int → Option (Bool)
 | 0, _, _, _, _, _, _, _, _ => none
 | k + 1, x10, x14, x16, x81, x82, x83, x923000, x923001 => if x83 < x82 then (if 0 ≤ x83 then (if x83 < (x81.length : Int) then ((laws_pMany.f k (rd x81 x83)).bind fun t943 => (if t943 > x16 then ((laws_pMany.f k (rd x81 x83)).bind fun t944 => (laws_FnSetsAlong.j3 k x10 x14 t944 x83 (rd x81 x83) x81 x82 x83 x923000 x923001)) else (laws_FnSetsAlong.j3 k x10 x14 x16 x83 (rd x81 x83) x81 x82 x83 x923000 x923001))) else (none)) else (none)) else (some (x16 == (x14.length : Int)))
def laws_FnSetsAlong.j3 : Nat → List (S39) → List Int → Int → Int → Int → List Int → Int → Int → Int → List Int → Option (Bool)
 | 0, _, _, _, _, _, _, _, _, _, _ => none
 | k + 1, x10, x14, x16, x17, x18, x81, x82, x83, x923000, x923001 => laws_FnSetsAlong.l1 k x10 x14 x16 x17 x18 x81 x82 x83 x10 (x10.length : Int) 0 x923000 x923001
def laws_FnSetsAlong.l1 : Nat → List (S39) → List Int → Int → Int → Int → List Int → Int → Int → List (S39) → Int → Int → Int → List Int → Option (Bool)
 | 0, _, _, _, _, _, _, _, _, _, _, _, _, _ => none
 | k + 1, x10, x14, x16, x17, x18, x81, x82, x83, x94, x95, x96, x923000, x923001 => if x96 < x95 then (if 0 ≤ x96 then (if x96 < (x94.length : Int) then ((impl_IndifferentTo.f k x923000 x923001 x96).bind fun bt947 => (if bt947.2 = true then ((laws_pIn.f x18 x96).bind fun t949 => (if ((rd_T39 x94 x96).f0) ≤ x17 then (laws_FnSetsAlong.j5 k x10 x14 x16 x17 x18 x96 bt947.1 x81 x82 x83 x94 x95 x96 (t949 != (decide (x17 ≤ ((rd_T39 x94 x96).f1)))) x923000 x923001) else (laws_FnSetsAlong.j5 k x10 x14 x16 x17 x18 x96 bt947.1 x81 x82 x83 x94 x95 x96 (t949 != false) x923000 x923001))) else (laws_FnSetsAlong.j5 k x10 x14 x16 x17 x18 x96 bt947.1 x81 x82 x83 x94 x95 x96 true x923000 x923001))) else (none)) else (none)) else (laws_FnSetsAlong.l0 k x10 x14 x16 x81 x82 (wrap64 (x83 + 1)) x923000 x923001)
def laws_FnSetsAlong.j5 : Nat → List (S39) → List Int → Int → Int → Int → Int → Int → List Int → Int → Int → List (S39) → Int → Int → Bool → Int → List Int → Option (Bool)
 | 0, _, _, _, _, _, _, _, _, _, _, _, _, _, _, _, _ => none
 | k + 1, x10, x14, x16, x17, x18, x19, x21, x81, x82, x83, x94, x95, x96, x124, x923000, x923001 => if x124 = true then (some false) else (if 0 ≤ x19 then ((laws_pIn.f x18 x19).bind fun t950 => (if (((Go.bits .andNot .i64 (Go.bits .andNot .i64 x18 x21) (shl .i64 1 x19)) == 0) != t950) = true then (some false) else (laws_FnSetsAlong.l1 k x10 x14 x16 x17 x18 x81 x82 x83 x94 x95 (wrap64 (x96 + 1)) x923000 x923001))) else (none))
end
def laws_FnSetsAlong.f (k : Nat) (l0 : List Int) (l1 : List Int) : Option (Bool) := (laws_big.f l0 l1).bind fun t917 => (if t917 = true then (some true) else ((spec_DrawSetsAlong.f k l0).bind fun bt918 => ((impl_SetsAlong.f k bt918.1 bt918.2).bind fun bt923 => ((spec_SetsAlong.f k bt918.1 bt918.2).bind fun bt927 => (if (bt923.2 != bt927.2) = true then (laws_FnSetsAlong.j0 k bt923.1 bt927.2 true bt918.1 bt918.2) else ((laws_pSame.f k bt923.1 bt927.1).bind fun t931 => (laws_FnSetsAlong.j0 k bt923.1 bt927.2 (!t931) bt918.1 bt918.2)))))))
theorem laws_FnSetsAlong.mono_l : ∀ k, (∀ y0 y1 y2 y3 y4, LeO (laws_FnSetsAlong.j0 k y0 y1 y2 y3 y4) (laws_FnSetsAlong.j0 (k + 1) y0 y1 y2 y3 y4)) ∧ (∀ y0 y1 y2 y3 y4 y5, LeO (laws_FnSetsAlong.j1 k y0 y1 y2 y3 y4 y5) (laws_FnSetsAlong.j1 (k + 1) y0 y1 y2 y3 y4 y5)) ∧ (∀ y0 y1 y2 y3 y4 y5 y6 y7, LeO (laws_FnSetsAlong.l0 k y0 y1 y2 y3 y4 y5 y6 y7) (laws_FnSetsAlong.l0 (k + 1) y0 y1 y2 y3 y4 y5 y6 y7)) ∧ (∀ y0 y1 y2 y3 y4 y5 y6 y7 y8 y9, LeO (laws_FnSetsAlong.j3 k y0 y1 y2 y3 y4 y5 y6 y7 y8 y9) (laws_FnSetsAlong.j3 (k + 1) y0 y1 y2 y3 y4 y5 y6 y7 y8 y9)) ∧ (∀ y0 y1 y2 y3 y4 y5 y6 y7 y8 y9 y10 y11 y12, LeO (laws_FnSetsAlong.l1 k y0 y1 y2 y3 y4 y5 y6 y7 y8 y9 y10 y11 y12) (laws_FnSetsAlong.l1 (k + 1) y0 y1 y2 y3 y4 y5 y6 y7 y8 y9 y10 y11 y12)) ∧ (∀ y0 y1 y2 y3 y4 y5 y6 y7 y8 y9 y10 y11 y12 y13 y14 y15, LeO (laws_FnSetsAlong.j5 k y0 y1 y2 y3 y4 y5 y6 y7 y8 y9 y10 y11 y12 y13 y14 y15) (laws_FnSetsAlong.j5 (k + 1) y0 y1 y2 y3 y4 y5 y6 y7 y8 y9 y10 y11 y12 y13 y14 y15))
 | 0 => ⟨fun _ _ _ _ _ r h => by simp [laws_FnSetsAlong.j0] at h, fun _ _ _ _ _ _ r h => by simp [laws_FnSetsAlong.j1] at h, fun _ _ _ _ _ _ _ _ r h => by simp [laws_FnSetsAlong.l0] at h, fun _ _ _ _ _ _ _ _ _ _ r h => by simp [laws_FnSetsAlong.j3] at h, fun _ _ _ _ _ _ _ _ _ _ _ _ _ r h => by simp [laws_FnSetsAlong.l1] at h, fun _ _ _ _ _ _ _ _ _ _ _ _ _ _ _ _ r h => by simp [laws_FnSetsAlong.j5] at h⟩
 | k + 1 => by
  obtain ⟨ih0, ih1, ih2, ih3, ih4, ih5⟩ := laws_FnSetsAlong.mono_l k
  refine ⟨?_, ?_, ?_, ?_, ?_, ?_⟩ <;> intros
  unfold laws_FnSetsAlong.j0
  rotate_left
  unfold laws_FnSetsAlong.j1
  rotate_left
  unfold laws_FnSetsAlong.l0
  rotate_left
  unfold laws_FnSetsAlong.j3
  rotate_left
  unfold laws_FnSetsAlong.l1
  rotate_left
  unfold laws_FnSetsAlong.j5
  rotate_left
  all_goals repeat' (with_reducible first|apply ih0|apply ih1|apply ih2|apply ih3|apply ih4|apply ih5|apply impl_EndsOf.mono|apply impl_IndifferentTo.mono|apply impl_LargestAntichain.mono|apply impl_MagnitudeOf.mono|apply impl_SetsAlong.mono|apply laws_pMany.mono|apply laws_pSame.mono|apply spec_DrawSetsAlong.mono|apply spec_SetsAlong.mono|apply LeO.refl|apply LeO.none|apply LeO.ite|apply LeO.bind|intro)
theorem laws_FnSetsAlong.mono : ∀ a0 a1 k, LeO (laws_FnSetsAlong.f k a0 a1) (laws_FnSetsAlong.f (k + 1) a0 a1) := by
 intro a0 a1 k
 obtain ⟨ih0, ih1, ih2, ih3, ih4, ih5⟩ := laws_FnSetsAlong.mono_l k
 unfold laws_FnSetsAlong.f
 repeat' (with_reducible first|apply ih0|apply ih1|apply ih2|apply ih3|apply ih4|apply ih5|apply impl_EndsOf.mono|apply impl_IndifferentTo.mono|apply impl_LargestAntichain.mono|apply impl_MagnitudeOf.mono|apply impl_SetsAlong.mono|apply laws_pMany.mono|apply laws_pSame.mono|apply spec_DrawSetsAlong.mono|apply spec_SetsAlong.mono|apply LeO.refl|apply LeO.none|apply LeO.ite|apply LeO.bind|intro)
theorem laws_FnSetsAlong.calls (k : Nat) (A0 : Option Addr) (c0 : Nat) (l0 : List Int) (A1 : Option Addr) (c1 : Nat) (l1 : List Int) (r : Bool) (w : World) (hr0 : Kd.C (Kd.int .u8) w A0 l0.length l0) (hc0 : l0.length ≤ c0) (hr1 : Kd.C (Kd.int .u8) w A1 l1.length l1) (hc1 : l1.length ≤ c1) (hTAB : Tab w) (h : laws_FnSetsAlong.f k l0 l1 = some r) :
  Calls Tryd.prog 5 #[.slice A0 l0.length c0, .slice A1 l1.length c1] w fun e w' => e = .returned (.bool r) ∧ Below w.heap.size w w' := by
 have HTAB := mkA hTAB
 clear hTAB
 have hu26 := Tryd.underlying26
 have hu39 := Tryd.underlying39
 have HR0 := mkA hr0
 have HC0 := mkA hc0
 clear hr0 hc0
 have HR1 := mkA hr1
 have HC1 := mkA hc1
 clear hr1 hc1
 have HB := mkA (Below.refl w.heap.size w)
 have H := h
 clear h
 unfold laws_FnSetsAlong.f at H
 obtain ⟨t917, A3, H⟩ := obE H
 by_cases c4 : t917 = true
 ·subst c4
  replace H := ifT H
  obtain rfl := Option.some.inj H
  go_enter Tryd.func5, Tryd.ntmps5
  go_wp2_with (first | (go_at_call 6; (with_reducible refine (laws_big.calls _ _ l0 _ _ l1 true _ ?s1 ?s2 ?s3 ?s4 A3.out).mono ?_); (case s1 => repeat (first | exact HR0.out | (with_reducible refine Kd.C_alloc ?_ _) | (with_reducible refine Kd.C_drewN ?_ _) | (with_reducible refine Kd.C_drew ?_))); (case s2 => exact HC0.out); (case s3 => repeat (first | exact HR1.out | (with_reducible refine Kd.C_alloc ?_ _) | (with_reducible refine Kd.C_drewN ?_ _) | (with_reducible refine Kd.C_drew ?_))); (case s4 => exact HC1.out); rintro e w' ⟨rfl, ⟨nd, rfl⟩⟩; (try first | exact ⟨rfl, _, World.drewN_drewN _ _ _⟩ | exact ⟨rfl, _, Eq.trans (World.drewN_drewN _ _ _) (congrArg (World.drewN _) (Nat.add_assoc _ _ _))⟩)))
  repeat (go_quiet (first | (go_at_call 6; (with_reducible refine (laws_big.calls _ _ l0 _ _ l1 true _ ?s1 ?s2 ?s3 ?s4 A3.out).mono ?_); (case s1 => repeat (first | exact HR0.out | (with_reducible refine Kd.C_alloc ?_ _) | (with_reducible refine Kd.C_drewN ?_ _) | (with_reducible refine Kd.C_drew ?_))); (case s2 => exact HC0.out); (case s3 => repeat (first | exact HR1.out | (with_reducible refine Kd.C_alloc ?_ _) | (with_reducible refine Kd.C_drewN ?_ _) | (with_reducible refine Kd.C_drew ?_))); (case s4 => exact HC1.out); rintro e w' ⟨rfl, ⟨nd, rfl⟩⟩; (try first | exact ⟨rfl, _, World.drewN_drewN _ _ _⟩ | exact ⟨rfl, _, Eq.trans (World.drewN_drewN _ _ _) (congrArg (World.drewN _) (Nat.add_assoc _ _ _))⟩))); try go_wp2_with (first | (go_at_call 6; (with_reducible refine (laws_big.calls _ _ l0 _ _ l1 true _ ?s1 ?s2 ?s3 ?s4 A3.out).mono ?_); (case s1 => repeat (first | exact HR0.out | (with_reducible refine Kd.C_alloc ?_ _) | (with_reducible refine Kd.C_drewN ?_ _) | (with_reducible refine Kd.C_drew ?_))); (case s2 => exact HC0.out); (case s3 => repeat (first | exact HR1.out | (with_reducible refine Kd.C_alloc ?_ _) | (with_reducible refine Kd.C_drewN ?_ _) | (with_reducible refine Kd.C_drew ?_))); (case s4 => exact HC1.out); rintro e w' ⟨rfl, ⟨nd, rfl⟩⟩; (try first | exact ⟨rfl, _, World.drewN_drewN _ _ _⟩ | exact ⟨rfl, _, Eq.trans (World.drewN_drewN _ _ _) (congrArg (World.drewN _) (Nat.add_assoc _ _ _))⟩))))
  go_ret
  exact ⟨eqE, bel_g HB.out⟩
 ·replace c4 := Bool.eq_false_iff.mpr c4
  subst c4
  replace H := ifF H
  obtain ⟨⟨t918, t919⟩, A5, H⟩ := obE H
  dsimp only at H
  obtain ⟨⟨t923, t926⟩, A6, H⟩ := obE H
  dsimp only at H
  obtain ⟨⟨t927, t930⟩, A7, H⟩ := obE H
  dsimp only at H
  have HC8 := mkA H
  clear H
  go_enter Tryd.func5, Tryd.ntmps5
  go_upto_region 6 with (first | (go_at_call 6; (with_reducible refine (laws_big.calls _ _ l0 _ _ l1 false _ ?s1 ?s2 ?s3 ?s4 A3.out).mono ?_); (case s1 => repeat (first | exact HR0.out | (with_reducible refine Kd.C_alloc ?_ _) | (with_reducible refine Kd.C_drewN ?_ _) | (with_reducible refine Kd.C_drew ?_))); (case s2 => exact HC0.out); (case s3 => repeat (first | exact HR1.out | (with_reducible refine Kd.C_alloc ?_ _) | (with_reducible refine Kd.C_drewN ?_ _) | (with_reducible refine Kd.C_drew ?_))); (case s4 => exact HC1.out); rintro e w' ⟨rfl, ⟨nd, rfl⟩⟩; (try first | exact ⟨rfl, _, World.drewN_drewN _ _ _⟩ | exact ⟨rfl, _, Eq.trans (World.drewN_drewN _ _ _) (congrArg (World.drewN _) (Nat.add_assoc _ _ _))⟩)) | (go_at_call 22; (with_reducible refine (spec_DrawSetsAlong.calls k _ _ l0 t918 t919 _ ?s1 ?s2 A5.out).mono ?_); (case s1 => repeat (first | exact HR0.out | (with_reducible refine Kd.C_alloc ?_ _) | (with_reducible refine Kd.C_drewN ?_ _) | (with_reducible refine Kd.C_drew ?_))); (case s2 => exact HC0.out); rintro e w9 ⟨v920, rfl, ho0, hb⟩; have HO921 := rLo ho0 HB; replace HB := bst HB hb; clear hb ho0) | ((with_reducible refine gate_dst (N := 5) rfl ?_); (try (refine gate_guard (by rfl) ?_; dsimp only)); refine boxG HB #[.int .i64 0, .slice none 0 0] 26 ?_; intro gb922 hg w10 BK922 GE922 hb; replace HO921 := rB HO921 hb; replace HB := bst HB hb; clear hb hg; obtain ⟨hcz11_0, hcz11_1, hfz11_0, hfz11_1⟩ := blk2 BK922; obtain ⟨Ao12, co12, rfl⟩ := Kd.R_slice HO921.out) | (go_at_call 23; (with_reducible refine (impl_SetsAlong.calls k t918 _ _ t919 t923 t926 _ ?_ ?_ ?_ A6.out).mono ?_); exact rCF HO921 BK922; exact rL HO921; exact Tab.below HTAB.out (bel_g HB.out); rintro e w13 ⟨v924, rfl, ho0, hb⟩; have HO925 := rLo (rNF ho0 HO921 BK922) HB; replace HO921 := rEF HO921 BK922 ho0 hb; replace BK922 := blkS BK922 hb; replace HB := bst HB hb; clear hb ho0; obtain ⟨hcz14_0, hcz14_1, hfz14_0, hfz14_1⟩ := blk2 BK922) | (go_at_call 24; (with_reducible refine (spec_SetsAlong.calls k t918 _ _ t919 t927 t930 _ ?_ ?_ A7.out).mono ?_); exact rC HO921; exact rL HO921; rintro e w15 ⟨v928, rfl, ho0, hb⟩; have HO929 := rLo (rN (rN ho0 HO921) HO925) HB; replace HO921 := rE HO921 ho0 hb; replace HO925 := rE HO925 ho0 hb; replace BK922 := blkB BK922 hb; replace HB := bst HB hb; clear hb ho0))
  repeat (go_quiet (first | (go_at_call 6; (with_reducible refine (laws_big.calls _ _ l0 _ _ l1 false _ ?s1 ?s2 ?s3 ?s4 A3.out).mono ?_); (case s1 => repeat (first | exact HR0.out | (with_reducible refine Kd.C_alloc ?_ _) | (with_reducible refine Kd.C_drewN ?_ _) | (with_reducible refine Kd.C_drew ?_))); (case s2 => exact HC0.out); (case s3 => repeat (first | exact HR1.out | (with_reducible refine Kd.C_alloc ?_ _) | (with_reducible refine Kd.C_drewN ?_ _) | (with_reducible refine Kd.C_drew ?_))); (case s4 => exact HC1.out); rintro e w' ⟨rfl, ⟨nd, rfl⟩⟩; (try first | exact ⟨rfl, _, World.drewN_drewN _ _ _⟩ | exact ⟨rfl, _, Eq.trans (World.drewN_drewN _ _ _) (congrArg (World.drewN _) (Nat.add_assoc _ _ _))⟩)) | (go_at_call 22; (with_reducible refine (spec_DrawSetsAlong.calls k _ _ l0 t918 t919 _ ?s1 ?s2 A5.out).mono ?_); (case s1 => repeat (first | exact HR0.out | (with_reducible refine Kd.C_alloc ?_ _) | (with_reducible refine Kd.C_drewN ?_ _) | (with_reducible refine Kd.C_drew ?_))); (case s2 => exact HC0.out); rintro e w9 ⟨v920, rfl, ho0, hb⟩; have HO921 := rLo ho0 HB; replace HB := bst HB hb; clear hb ho0) | ((with_reducible refine gate_dst (N := 5) rfl ?_); (try (refine gate_guard (by rfl) ?_; dsimp only)); refine boxG HB #[.int .i64 0, .slice none 0 0] 26 ?_; intro gb922 hg w10 BK922 GE922 hb; replace HO921 := rB HO921 hb; replace HB := bst HB hb; clear hb hg; obtain ⟨hcz11_0, hcz11_1, hfz11_0, hfz11_1⟩ := blk2 BK922; obtain ⟨Ao12, co12, rfl⟩ := Kd.R_slice HO921.out) | (go_at_call 23; (with_reducible refine (impl_SetsAlong.calls k t918 _ _ t919 t923 t926 _ ?_ ?_ ?_ A6.out).mono ?_); exact rCF HO921 BK922; exact rL HO921; exact Tab.below HTAB.out (bel_g HB.out); rintro e w13 ⟨v924, rfl, ho0, hb⟩; have HO925 := rLo (rNF ho0 HO921 BK922) HB; replace HO921 := rEF HO921 BK922 ho0 hb; replace BK922 := blkS BK922 hb; replace HB := bst HB hb; clear hb ho0; obtain ⟨hcz14_0, hcz14_1, hfz14_0, hfz14_1⟩ := blk2 BK922) | (go_at_call 24; (with_reducible refine (spec_SetsAlong.calls k t918 _ _ t919 t927 t930 _ ?_ ?_ A7.out).mono ?_); exact rC HO921; exact rL HO921; rintro e w15 ⟨v928, rfl, ho0, hb⟩; have HO929 := rLo (rN (rN ho0 HO921) HO925) HB; replace HO921 := rE HO921 ho0 hb; replace HO925 := rE HO925 ho0 hb; replace BK922 := blkB BK922 hb; replace HB := bst HB hb; clear hb ho0)); go_upto_region 6 with (first | (go_at_call 6; (with_reducible refine (laws_big.calls _ _ l0 _ _ l1 false _ ?s1 ?s2 ?s3 ?s4 A3.out).mono ?_); (case s1 => repeat (first | exact HR0.out | (with_reducible refine Kd.C_alloc ?_ _) | (with_reducible refine Kd.C_drewN ?_ _) | (with_reducible refine Kd.C_drew ?_))); (case s2 => exact HC0.out); (case s3 => repeat (first | exact HR1.out | (with_reducible refine Kd.C_alloc ?_ _) | (with_reducible refine Kd.C_drewN ?_ _) | (with_reducible refine Kd.C_drew ?_))); (case s4 => exact HC1.out); rintro e w' ⟨rfl, ⟨nd, rfl⟩⟩; (try first | exact ⟨rfl, _, World.drewN_drewN _ _ _⟩ | exact ⟨rfl, _, Eq.trans (World.drewN_drewN _ _ _) (congrArg (World.drewN _) (Nat.add_assoc _ _ _))⟩)) | (go_at_call 22; (with_reducible refine (spec_DrawSetsAlong.calls k _ _ l0 t918 t919 _ ?s1 ?s2 A5.out).mono ?_); (case s1 => repeat (first | exact HR0.out | (with_reducible refine Kd.C_alloc ?_ _) | (with_reducible refine Kd.C_drewN ?_ _) | (with_reducible refine Kd.C_drew ?_))); (case s2 => exact HC0.out); rintro e w9 ⟨v920, rfl, ho0, hb⟩; have HO921 := rLo ho0 HB; replace HB := bst HB hb; clear hb ho0) | ((with_reducible refine gate_dst (N := 5) rfl ?_); (try (refine gate_guard (by rfl) ?_; dsimp only)); refine boxG HB #[.int .i64 0, .slice none 0 0] 26 ?_; intro gb922 hg w10 BK922 GE922 hb; replace HO921 := rB HO921 hb; replace HB := bst HB hb; clear hb hg; obtain ⟨hcz11_0, hcz11_1, hfz11_0, hfz11_1⟩ := blk2 BK922; obtain ⟨Ao12, co12, rfl⟩ := Kd.R_slice HO921.out) | (go_at_call 23; (with_reducible refine (impl_SetsAlong.calls k t918 _ _ t919 t923 t926 _ ?_ ?_ ?_ A6.out).mono ?_); exact rCF HO921 BK922; exact rL HO921; exact Tab.below HTAB.out (bel_g HB.out); rintro e w13 ⟨v924, rfl, ho0, hb⟩; have HO925 := rLo (rNF ho0 HO921 BK922) HB; replace HO921 := rEF HO921 BK922 ho0 hb; replace BK922 := blkS BK922 hb; replace HB := bst HB hb; clear hb ho0; obtain ⟨hcz14_0, hcz14_1, hfz14_0, hfz14_1⟩ := blk2 BK922) | (go_at_call 24; (with_reducible refine (spec_SetsAlong.calls k t918 _ _ t919 t927 t930 _ ?_ ?_ A7.out).mono ?_); exact rC HO921; exact rL HO921; rintro e w15 ⟨v928, rfl, ho0, hb⟩; have HO929 := rLo (rN (rN ho0 HO921) HO925) HB; replace HO921 := rE HO921 ho0 hb; replace HO925 := rE HO925 ho0 hb; replace BK922 := blkB BK922 hb; replace HB := bst HB hb; clear hb ho0)))
  (try simp only [Act.put, List.setIfInBounds_toArray, List.set_cons_zero, List.set_cons_succ])
  go_cut [47] (fun v47 wc => ∃ (kq : Nat) (x47_7 : Bool), v47 = .bool x47_7 ∧ Fc (laws_FnSetsAlong.j0 kq t923 t930 x47_7 t918 t919 = some r) ∧ Fc (kq ≤ k) ∧ Fc (Kd.R (Kd.int .i64) 3 wc w.heap.size (fun k_ => some k_ ≠ ((.slice Ao12 t919.length co12) : Value).ownBlock) v924 t923) ∧ Fc (Kd.R (Kd.int .i64) 3 wc w.heap.size (fun k_ => some k_ ≠ (v924 : Value).ownBlock) (.slice Ao12 t919.length co12) t919) ∧ Fc (wc.heap[gb922]? = some (.cells #[.int .i64 t918, (.slice Ao12 t919.length co12)] 26 (0, 0))) ∧ Fc (Below w.heap.size w wc))
  case first =>
   have H := HC8.out
   clear HC8
   rcases iteP H with ⟨c16, H⟩ | ⟨c16, H⟩
   ·have c16b0 : (t926 != t930) = true := c16
    (try (have c16b1 : decide (t926 = t930) = false := by simpa using c16))
    (try (have c16b2 : (t926 == t930) = false := by simpa using c16))
    (try (have c16b3 : ¬ (t926 = t930) := by simpa using c16))
    clear c16
    (first | rw [c16b0] | (simp only [i64_w, i32_w]; rw [c16b0]) | skip)
    have H' := mkA H
    clear H
    as_aux_lemma =>
     go_wp2
     repeat (go_quiet (fail); try go_wp2)
     go_meet
     case rel => exact ⟨_, (true), eqS, H', ⟨by first | omega | exact Nat.le_refl _⟩, ⟨Kd.R_g (Kd.R_mono HO925.out (fun _ hk => hk.1.2))⟩, ⟨Kd.R_g (Kd.R_mono HO921.out (fun _ hk => hk.1.2))⟩, bg BK922, hbg HB⟩
   ·have c16b0 : (t926 != t930) = false := by simpa using c16
    (try (have c16b1 : decide (t926 = t930) = true := by simpa using c16))
    (try (have c16b2 : (t926 == t930) = true := by simpa using c16))
    clear c16
    (first | rw [c16b0] | (simp only [i64_w, i32_w]; rw [c16b0]) | skip)
    obtain ⟨t931, A17, H⟩ := obE H
    have H' := mkA H
    clear H
    obtain ⟨Ao18, co18, rfl⟩ := Kd.R_slice HO925.out
    obtain ⟨Ao19, co19, rfl⟩ := Kd.R_slice HO929.out
    as_aux_lemma =>
     go_wp2_with (first | (go_at_call 25; (with_reducible refine (laws_pSame.calls k _ _ t923 _ _ t927 t931 _ ?_ ?_ ?_ ?_ A17.out).mono ?_); exact rC HO925; exact rL HO925; exact rC HO929; exact rL HO929; rintro e w' ⟨rfl, ⟨nd, rfl⟩⟩; (try first | exact ⟨rfl, _, World.drewN_drewN _ _ _⟩ | exact ⟨rfl, _, Eq.trans (World.drewN_drewN _ _ _) (congrArg (World.drewN _) (Nat.add_assoc _ _ _))⟩)))
     repeat (go_quiet (first | (go_at_call 25; (with_reducible refine (laws_pSame.calls k _ _ t923 _ _ t927 t931 _ ?_ ?_ ?_ ?_ A17.out).mono ?_); exact rC HO925; exact rL HO925; exact rC HO929; exact rL HO929; rintro e w' ⟨rfl, ⟨nd, rfl⟩⟩; (try first | exact ⟨rfl, _, World.drewN_drewN _ _ _⟩ | exact ⟨rfl, _, Eq.trans (World.drewN_drewN _ _ _) (congrArg (World.drewN _) (Nat.add_assoc _ _ _))⟩))); try go_wp2_with (first | (go_at_call 25; (with_reducible refine (laws_pSame.calls k _ _ t923 _ _ t927 t931 _ ?_ ?_ ?_ ?_ A17.out).mono ?_); exact rC HO925; exact rL HO925; exact rC HO929; exact rL HO929; rintro e w' ⟨rfl, ⟨nd, rfl⟩⟩; (try first | exact ⟨rfl, _, World.drewN_drewN _ _ _⟩ | exact ⟨rfl, _, Eq.trans (World.drewN_drewN _ _ _) (congrArg (World.drewN _) (Nat.add_assoc _ _ _))⟩))))
     go_meet
     case rel => exact ⟨_, (!t931), eqS, H', ⟨by first | omega | exact Nat.le_refl _⟩, ⟨Kd.R_g (Kd.R_mono HO925.out (fun _ hk => hk.1.2))⟩, ⟨Kd.R_g (Kd.R_mono HO921.out (fun _ hk => hk.1.2))⟩, bg BK922, hbg HB⟩
  case rest =>
   clear HC8
   try clear c1
   try clear c4
   try clear c16
   try clear c16b0
   try clear c16b1
   try clear c16b2
   obtain ⟨kq, x47_7, rfl, HA, HJ7, HO_6, HO_923001, BK922, HB⟩ := hcut
   cases kq with
   | zero => exact absurd HA.out (by simp [laws_FnSetsAlong.j0])
   | succ kj7 =>
    have H := HA.out
    clear HA
    simp only [laws_FnSetsAlong.j0] at H
    by_cases c20 : x47_7 = true
    ·subst c20
     replace H := ifT H
     obtain rfl := Option.some.inj H
     go_wp2
     repeat (go_quiet (fail); try go_wp2)
     go_ret
     exact ⟨eqE, bel_g HB.out⟩
    ·replace c20 := Bool.eq_false_iff.mpr c20
     subst c20
     replace H := ifF H
     by_cases c21 : t930 = true
     ·subst c21
      replace H := ifT H
      obtain ⟨⟨t932, t935⟩, A22, H⟩ := obE H
      dsimp only at H
      obtain ⟨⟨t936, t937⟩, A23, H⟩ := obE H
      dsimp only at H
      obtain ⟨⟨t938, t941⟩, A24, H⟩ := obE H
      dsimp only at H
      have HC25 := mkA H
      clear H
      obtain ⟨_, _, _, _⟩ := blk2 BK922
      go_upto_region 13 with (first | (go_at_call 8; (with_reducible refine (impl_EndsOf.calls kj7 t918 _ _ t919 t932 t935 _ ?_ ?_ ?_ A22.out).mono ?_); exact rC HO_923001; exact rL HO_923001; exact Tab.below HTAB.out (bel_g HB.out); rintro e w27 ⟨v933, rfl, ho0, hb⟩; replace HO_6 := rB HO_6 hb; replace HO_923001 := rB HO_923001 hb; have HO934 := rLo ho0 HB; replace BK922 := blkB BK922 hb; replace HB := bst HB hb; clear hb ho0; obtain ⟨hcz28_0, hcz28_1, hfz28_0, hfz28_1⟩ := blk2 BK922) | (go_at_call 12; (with_reducible refine (impl_MagnitudeOf.calls kj7 t918 _ _ t919 t936 t937 _ ?_ ?_ ?_ A23.out).mono ?_); exact rC HO_923001; exact rL HO_923001; exact Tab.below HTAB.out (bel_g HB.out); rintro e w29 ⟨rfl, hb⟩; replace HO_6 := rB HO_6 hb; replace HO_923001 := rB HO_923001 hb; replace HO934 := rB HO934 hb; replace BK922 := blkB BK922 hb; replace HB := bst HB hb; clear hb; obtain ⟨hcz30_0, hcz30_1, hfz30_0, hfz30_1⟩ := blk2 BK922) | (go_at_call 26; (with_reducible refine (impl_LargestAntichain.calls kj7 t918 _ _ t919 t938 t941 _ ?_ ?_ ?_ A24.out).mono ?_); exact rC HO_923001; exact rL HO_923001; exact Tab.below HTAB.out (bel_g HB.out); rintro e w31 ⟨v939, rfl, ho0, hb⟩; replace HO934 := rB HO934 hb; have HO940 := rLo (rN (rN ho0 HO_6) HO_923001) HB; replace HO_6 := rE HO_6 ho0 hb; replace HO_923001 := rE HO_923001 ho0 hb; replace BK922 := blkB BK922 hb; replace HB := bst HB hb; clear hb ho0))
      repeat (go_quiet (first | (go_at_call 8; (with_reducible refine (impl_EndsOf.calls kj7 t918 _ _ t919 t932 t935 _ ?_ ?_ ?_ A22.out).mono ?_); exact rC HO_923001; exact rL HO_923001; exact Tab.below HTAB.out (bel_g HB.out); rintro e w27 ⟨v933, rfl, ho0, hb⟩; replace HO_6 := rB HO_6 hb; replace HO_923001 := rB HO_923001 hb; have HO934 := rLo ho0 HB; replace BK922 := blkB BK922 hb; replace HB := bst HB hb; clear hb ho0; obtain ⟨hcz28_0, hcz28_1, hfz28_0, hfz28_1⟩ := blk2 BK922) | (go_at_call 12; (with_reducible refine (impl_MagnitudeOf.calls kj7 t918 _ _ t919 t936 t937 _ ?_ ?_ ?_ A23.out).mono ?_); exact rC HO_923001; exact rL HO_923001; exact Tab.below HTAB.out (bel_g HB.out); rintro e w29 ⟨rfl, hb⟩; replace HO_6 := rB HO_6 hb; replace HO_923001 := rB HO_923001 hb; replace HO934 := rB HO934 hb; replace BK922 := blkB BK922 hb; replace HB := bst HB hb; clear hb; obtain ⟨hcz30_0, hcz30_1, hfz30_0, hfz30_1⟩ := blk2 BK922) | (go_at_call 26; (with_reducible refine (impl_LargestAntichain.calls kj7 t918 _ _ t919 t938 t941 _ ?_ ?_ ?_ A24.out).mono ?_); exact rC HO_923001; exact rL HO_923001; exact Tab.below HTAB.out (bel_g HB.out); rintro e w31 ⟨v939, rfl, ho0, hb⟩; replace HO934 := rB HO934 hb; have HO940 := rLo (rN (rN ho0 HO_6) HO_923001) HB; replace HO_6 := rE HO_6 ho0 hb; replace HO_923001 := rE HO_923001 ho0 hb; replace BK922 := blkB BK922 hb; replace HB := bst HB hb; clear hb ho0)); go_upto_region 13 with (first | (go_at_call 8; (with_reducible refine (impl_EndsOf.calls kj7 t918 _ _ t919 t932 t935 _ ?_ ?_ ?_ A22.out).mono ?_); exact rC HO_923001; exact rL HO_923001; exact Tab.below HTAB.out (bel_g HB.out); rintro e w27 ⟨v933, rfl, ho0, hb⟩; replace HO_6 := rB HO_6 hb; replace HO_923001 := rB HO_923001 hb; have HO934 := rLo ho0 HB; replace BK922 := blkB BK922 hb; replace HB := bst HB hb; clear hb ho0; obtain ⟨hcz28_0, hcz28_1, hfz28_0, hfz28_1⟩ := blk2 BK922) | (go_at_call 12; (with_reducible refine (impl_MagnitudeOf.calls kj7 t918 _ _ t919 t936 t937 _ ?_ ?_ ?_ A23.out).mono ?_); exact rC HO_923001; exact rL HO_923001; exact Tab.below HTAB.out (bel_g HB.out); rintro e w29 ⟨rfl, hb⟩; replace HO_6 := rB HO_6 hb; replace HO_923001 := rB HO_923001 hb; replace HO934 := rB HO934 hb; replace BK922 := blkB BK922 hb; replace HB := bst HB hb; clear hb; obtain ⟨hcz30_0, hcz30_1, hfz30_0, hfz30_1⟩ := blk2 BK922) | (go_at_call 26; (with_reducible refine (impl_LargestAntichain.calls kj7 t918 _ _ t919 t938 t941 _ ?_ ?_ ?_ A24.out).mono ?_); exact rC HO_923001; exact rL HO_923001; exact Tab.below HTAB.out (bel_g HB.out); rintro e w31 ⟨v939, rfl, ho0, hb⟩; replace HO934 := rB HO934 hb; have HO940 := rLo (rN (rN ho0 HO_6) HO_923001) HB; replace HO_6 := rE HO_6 ho0 hb; replace HO_923001 := rE HO_923001 ho0 hb; replace BK922 := blkB BK922 hb; replace HB := bst HB hb; clear hb ho0)))
      (try simp only [Act.put, List.setIfInBounds_toArray, List.set_cons_zero, List.set_cons_succ])
      go_cut [80] (fun v80 wc => ∃ (kq : Nat) (x80_24 : Bool), v80 = .bool x80_24 ∧ Fc (laws_FnSetsAlong.j1 kq t923 t932 t938 x80_24 t918 t919 = some r) ∧ Fc (kq ≤ kj7) ∧ Fc (Kd.R (Kd.int .i64) 3 wc w.heap.size (fun k_ => some k_ ≠ (v939 : Value).ownBlock ∧ some k_ ≠ ((.slice Ao12 t919.length co12) : Value).ownBlock) v924 t923) ∧ Fc (Kd.R k39 39 wc w.heap.size (fun _ => True) v933 t932) ∧ Fc (Kd.R (Kd.int .i64) 3 wc w.heap.size (fun k_ => some k_ ≠ (v924 : Value).ownBlock ∧ some k_ ≠ ((.slice Ao12 t919.length co12) : Value).ownBlock) v939 t938) ∧ Fc (Kd.R (Kd.int .i64) 3 wc w.heap.size (fun k_ => some k_ ≠ (v924 : Value).ownBlock ∧ some k_ ≠ (v939 : Value).ownBlock) (.slice Ao12 t919.length co12) t919) ∧ Fc (wc.heap[gb922]? = some (.cells #[.int .i64 t918, (.slice Ao12 t919.length co12)] 26 (0, 0))) ∧ Fc (Below w.heap.size w wc))
      case first =>
       have H := HC25.out
       clear HC25
       by_cases c32 : t935 = true
       ·subst c32
        replace H := ifT H
        by_cases c33 : t937 = true
        ·subst c33
         replace H := ifT H
         by_cases c34 : t941 = true
         ·subst c34
          replace H := ifT H
          have H' := mkA H
          clear H
          obtain ⟨Ao35, co35, rfl⟩ := Kd.R_slice HO_6.out
          as_aux_lemma =>
           go_wp2
           repeat (go_quiet (fail); try go_wp2)
           go_meet
           case rel => exact ⟨_, (((t923.length : Int) != t936)), eqS, H', ⟨by have := HJ7.out; first | omega | exact Nat.le_refl _⟩, ⟨Kd.R_g (Kd.R_mono HO_6.out (fun _ hk => ⟨hk.2, hk.1⟩))⟩, rg HO934, ⟨Kd.R_g (Kd.R_mono HO940.out (fun _ hk => ⟨hk.1.2, hk.2⟩))⟩, rg HO_923001, bg BK922, hbg HB⟩
         ·replace c34 := Bool.eq_false_iff.mpr c34
          subst c34
          replace H := ifF H
          have H' := mkA H
          clear H
          as_aux_lemma =>
           go_wp2
           repeat (go_quiet (fail); try go_wp2)
           go_meet
           case rel => exact ⟨_, (true), eqS, H', ⟨by have := HJ7.out; first | omega | exact Nat.le_refl _⟩, ⟨Kd.R_g (Kd.R_mono HO_6.out (fun _ hk => ⟨hk.2, hk.1⟩))⟩, rg HO934, ⟨Kd.R_g (Kd.R_mono HO940.out (fun _ hk => ⟨hk.1.2, hk.2⟩))⟩, rg HO_923001, bg BK922, hbg HB⟩
        ·replace c33 := Bool.eq_false_iff.mpr c33
         subst c33
         replace H := ifF H
         have H' := mkA H
         clear H
         as_aux_lemma =>
          go_wp2
          repeat (go_quiet (fail); try go_wp2)
          go_meet
          case rel => exact ⟨_, (true), eqS, H', ⟨by have := HJ7.out; first | omega | exact Nat.le_refl _⟩, ⟨Kd.R_g (Kd.R_mono HO_6.out (fun _ hk => ⟨hk.2, hk.1⟩))⟩, rg HO934, ⟨Kd.R_g (Kd.R_mono HO940.out (fun _ hk => ⟨hk.1.2, hk.2⟩))⟩, rg HO_923001, bg BK922, hbg HB⟩
       ·replace c32 := Bool.eq_false_iff.mpr c32
        subst c32
        replace H := ifF H
        have H' := mkA H
        clear H
        as_aux_lemma =>
         go_wp2
         repeat (go_quiet (fail); try go_wp2)
         go_meet
         case rel => exact ⟨_, (true), eqS, H', ⟨by have := HJ7.out; first | omega | exact Nat.le_refl _⟩, ⟨Kd.R_g (Kd.R_mono HO_6.out (fun _ hk => ⟨hk.2, hk.1⟩))⟩, rg HO934, ⟨Kd.R_g (Kd.R_mono HO940.out (fun _ hk => ⟨hk.1.2, hk.2⟩))⟩, rg HO_923001, bg BK922, hbg HB⟩
      case rest =>
       clear HC25
       try clear c1
       try clear c4
       try clear c16
       try clear c16b0
       try clear c16b1
       try clear c16b2
       try clear c20
       try clear c21
       try clear c32
       try clear c33
       try clear c34
       obtain ⟨kq, x80_24, rfl, HA, HJ24, HO_6, HO_10, HO_14, HO_923001, BK922, HB⟩ := hcut
       cases kq with
       | zero => exact absurd HA.out (by simp [laws_FnSetsAlong.j1])
       | succ kj24 =>
        have H := HA.out
        clear HA
        simp only [laws_FnSetsAlong.j1] at H
        by_cases c36 : x80_24 = true
        ·subst c36
         replace H := ifT H
         obtain rfl := Option.some.inj H
         go_wp2
         repeat (go_quiet (fail); try go_wp2)
         go_ret
         exact ⟨eqE, bel_g HB.out⟩
        ·replace c36 := Bool.eq_false_iff.mpr c36
         subst c36
         replace H := ifF H
         have H' := mkA H
         clear H
         obtain ⟨Ao37, co37, rfl⟩ := Kd.R_slice HO_6.out
         as_aux_lemma =>
          go_wp2
          repeat (go_quiet (fail); try go_wp2)
          go_loopg [16, 83] kj24 (fun kq v16 v83 w' => ∃ (x16_3 : Int) (x83_3 : Int), v16 = .int .i64 x16_3 ∧ v83 = .int .i64 x83_3 ∧ Fc (laws_FnSetsAlong.l0 kq t932 t938 x16_3 t923 (t923.length : Int) x83_3 t918 t919 = some r) ∧ Fc (kq ≤ kj24) ∧ Fc (Kd.R k39 39 w' w.heap.size (fun _ => True) v933 t932) ∧ Fc (Kd.R (Kd.int .i64) 3 w' w.heap.size (fun k_ => some k_ ≠ ((.slice Ao37 t923.length co37) : Value).ownBlock ∧ some k_ ≠ ((.slice Ao12 t919.length co12) : Value).ownBlock) v939 t938) ∧ Fc (Kd.R (Kd.int .i64) 3 w' w.heap.size (fun k_ => some k_ ≠ (v939 : Value).ownBlock ∧ some k_ ≠ ((.slice Ao12 t919.length co12) : Value).ownBlock) (.slice Ao37 t923.length co37) t923) ∧ Fc (Kd.R (Kd.int .i64) 3 w' w.heap.size (fun k_ => some k_ ≠ (v939 : Value).ownBlock ∧ some k_ ≠ ((.slice Ao37 t923.length co37) : Value).ownBlock) (.slice Ao12 t919.length co12) t919) ∧ Fc (w'.heap[gb922]? = some (.cells #[.int .i64 t918, (.slice Ao12 t919.length co12)] 26 (0, 0))) ∧ Fc (Below w.heap.size w w'))
          case atStart => exact ⟨(0), (0), eqS, eqS, H', ⟨Nat.le_refl _⟩, rg HO_10, rg HO_14, rg HO_6, ⟨Kd.R_g (Kd.R_mono HO_923001.out (fun _ hk => ⟨hk.2, hk.1⟩))⟩, bg BK922, hbg HB⟩
          case round =>
           clear H'
           try clear c1
           try clear c4
           try clear c16
           try clear c16b0
           try clear c16b1
           try clear c16b2
           try clear c20
           try clear c21
           try clear c32
           try clear c33
           try clear c34
           try clear c36
           obtain ⟨x16_3, x83_3, rfl, rfl, HA, HK3, HO_10, HO_14, HO_81, HO_923001, BK922, HB⟩ := hrel
           cases gk with
           | zero => exact absurd HA.out (by simp [laws_FnSetsAlong.l0])
           | succ k3 =>
            have H := HA.out
            clear HA
            simp only [laws_FnSetsAlong.l0] at H
            rcases iteE H with ⟨c38b0, H⟩ | ⟨c38b0, H⟩
            ·obtain ⟨c39b0, H⟩ := itND H
             obtain ⟨c40b0, H⟩ := itND H
             obtain ⟨t943, A41, H⟩ := obE H
             have HC42 := mkA H
             clear H
             obtain ⟨p942, q942, ad942, e942, hx942_0⟩ := atI (Kd.R_reads' HO_81.out).2.2 x83_3
             cases e942
             go_upto_if 91 with (first | (go_at_call 27; (with_reducible refine (laws_pMany.calls k3 (rd t923 x83_3) t943 _ A41.out).mono ?_); rintro e w' ⟨rfl, ⟨nd, rfl⟩⟩; (try first | exact ⟨rfl, _, World.drewN_drewN _ _ _⟩ | exact ⟨rfl, _, Eq.trans (World.drewN_drewN _ _ _) (congrArg (World.drewN _) (Nat.add_assoc _ _ _))⟩)))
             repeat (go_quiet (first | (go_at_call 27; (with_reducible refine (laws_pMany.calls k3 (rd t923 x83_3) t943 _ A41.out).mono ?_); rintro e w' ⟨rfl, ⟨nd, rfl⟩⟩; (try first | exact ⟨rfl, _, World.drewN_drewN _ _ _⟩ | exact ⟨rfl, _, Eq.trans (World.drewN_drewN _ _ _) (congrArg (World.drewN _) (Nat.add_assoc _ _ _))⟩))); go_upto_if 91 with (first | (go_at_call 27; (with_reducible refine (laws_pMany.calls k3 (rd t923 x83_3) t943 _ A41.out).mono ?_); rintro e w' ⟨rfl, ⟨nd, rfl⟩⟩; (try first | exact ⟨rfl, _, World.drewN_drewN _ _ _⟩ | exact ⟨rfl, _, Eq.trans (World.drewN_drewN _ _ _) (congrArg (World.drewN _) (Nat.add_assoc _ _ _))⟩))))
             (try simp only [Act.put, List.setIfInBounds_toArray, List.set_cons_zero, List.set_cons_succ])
             go_cut [16] (fun v16 wc => ∃ (kq : Nat) (x16_41 : Int), v16 = .int .i64 x16_41 ∧ Fc (laws_FnSetsAlong.j3 kq t932 t938 x16_41 x83_3 (rd t923 x83_3) t923 (t923.length : Int) x83_3 t918 t919 = some r) ∧ Fc (kq ≤ k3) ∧ Fc (Kd.R k39 39 wc w.heap.size (fun _ => True) v933 t932) ∧ Fc (Kd.R (Kd.int .i64) 3 wc w.heap.size (fun k_ => some k_ ≠ ((.slice (some ad942) t923.length co37) : Value).ownBlock ∧ some k_ ≠ ((.slice Ao12 t919.length co12) : Value).ownBlock) v939 t938) ∧ Fc (Kd.R (Kd.int .i64) 3 wc w.heap.size (fun k_ => some k_ ≠ (v939 : Value).ownBlock ∧ some k_ ≠ ((.slice Ao12 t919.length co12) : Value).ownBlock) (.slice (some ad942) t923.length co37) t923) ∧ Fc (Kd.R (Kd.int .i64) 3 wc w.heap.size (fun k_ => some k_ ≠ (v939 : Value).ownBlock ∧ some k_ ≠ ((.slice (some ad942) t923.length co37) : Value).ownBlock) (.slice Ao12 t919.length co12) t919) ∧ Fc (wc.heap[gb922]? = some (.cells #[.int .i64 t918, (.slice Ao12 t919.length co12)] 26 (0, 0))) ∧ Fc (Below w.heap.size w wc))
             case first =>
              have H := HC42.out
              clear HC42
              rcases iteP H with ⟨c43, H⟩ | ⟨c43, H⟩
              ·have c43b0 := decide_eq_true c43
               clear c43
               (first | rw [c43b0] | (simp only [i64_w, i32_w]; rw [c43b0]) | skip)
               obtain ⟨t944, A44, H⟩ := obE H
               have H' := mkA H
               clear H
               go_wp2_with (first | (go_at_call 27; (with_reducible refine (laws_pMany.calls k3 (rd t923 x83_3) t944 _ A44.out).mono ?_); rintro e w' ⟨rfl, ⟨nd, rfl⟩⟩; (try first | exact ⟨rfl, _, World.drewN_drewN _ _ _⟩ | exact ⟨rfl, _, Eq.trans (World.drewN_drewN _ _ _) (congrArg (World.drewN _) (Nat.add_assoc _ _ _))⟩)))
               repeat (go_quiet (first | (go_at_call 27; (with_reducible refine (laws_pMany.calls k3 (rd t923 x83_3) t944 _ A44.out).mono ?_); rintro e w' ⟨rfl, ⟨nd, rfl⟩⟩; (try first | exact ⟨rfl, _, World.drewN_drewN _ _ _⟩ | exact ⟨rfl, _, Eq.trans (World.drewN_drewN _ _ _) (congrArg (World.drewN _) (Nat.add_assoc _ _ _))⟩))); try go_wp2_with (first | (go_at_call 27; (with_reducible refine (laws_pMany.calls k3 (rd t923 x83_3) t944 _ A44.out).mono ?_); rintro e w' ⟨rfl, ⟨nd, rfl⟩⟩; (try first | exact ⟨rfl, _, World.drewN_drewN _ _ _⟩ | exact ⟨rfl, _, Eq.trans (World.drewN_drewN _ _ _) (congrArg (World.drewN _) (Nat.add_assoc _ _ _))⟩))))
               go_meet
               case rel => exact ⟨_, (t944), eqS, H', ⟨by have := HJ7.out; have := HJ24.out; have := HK3.out; first | omega | exact Nat.le_refl _⟩, rg HO_10, rg HO_14, rg HO_81, rg HO_923001, bg BK922, hbg HB⟩
              ·have c43b0 := decide_eq_false c43
               clear c43
               (first | rw [c43b0] | (simp only [i64_w, i32_w]; rw [c43b0]) | skip)
               have H' := mkA H
               clear H
               go_wp2
               repeat (go_quiet (fail); try go_wp2)
               go_meet
               case rel => exact ⟨_, (x16_3), eqS, H', ⟨by have := HJ7.out; have := HJ24.out; have := HK3.out; first | omega | exact Nat.le_refl _⟩, rg HO_10, rg HO_14, rg HO_81, rg HO_923001, bg BK922, hbg HB⟩
             case rest =>
              clear HC42
              try clear c1
              try clear c4
              try clear c16
              try clear c16b0
              try clear c16b1
              try clear c16b2
              try clear c20
              try clear c21
              try clear c32
              try clear c33
              try clear c34
              try clear c36
              try clear c38b0
              try clear c39
              try clear c39b0
              try clear c40
              try clear c40b0
              try clear c43
              try clear c43b0
              try clear hx942_0
              try clear p942
              try clear q942
              obtain ⟨kq, x16_41, rfl, HA, HJ41, HO_10, HO_14, HO_81, HO_923001, BK922, HB⟩ := hcut
              cases kq with
              | zero => exact absurd HA.out (by simp [laws_FnSetsAlong.j3])
              | succ kj41 =>
               have H := HA.out
               clear HA
               simp only [laws_FnSetsAlong.j3] at H
               have H' := mkA H
               clear H
               obtain ⟨Ao45, co45, rfl⟩ := Kd.R_slice HO_10.out
               go_wp2
               repeat (go_quiet (fail); try go_wp2)
               go_loopg [96] kj41 (fun kq v96 w' => ∃ (x96_5 : Int), v96 = .int .i64 x96_5 ∧ Fc (laws_FnSetsAlong.l1 kq t932 t938 x16_41 x83_3 (rd t923 x83_3) t923 (t923.length : Int) x83_3 t932 (t932.length : Int) x96_5 t918 t919 = some r) ∧ Fc (kq ≤ kj41) ∧ Fc (Kd.R k39 39 w' w.heap.size (fun _ => True) (.slice Ao45 t932.length co45) t932) ∧ Fc (Kd.R (Kd.int .i64) 3 w' w.heap.size (fun k_ => some k_ ≠ ((.slice (some ad942) t923.length co37) : Value).ownBlock ∧ some k_ ≠ ((.slice Ao12 t919.length co12) : Value).ownBlock) v939 t938) ∧ Fc (Kd.R (Kd.int .i64) 3 w' w.heap.size (fun k_ => some k_ ≠ (v939 : Value).ownBlock ∧ some k_ ≠ ((.slice Ao12 t919.length co12) : Value).ownBlock) (.slice (some ad942) t923.length co37) t923) ∧ Fc (Kd.R k39 39 w' w.heap.size (fun _ => True) (.slice Ao45 t932.length co45) t932) ∧ Fc (Kd.R (Kd.int .i64) 3 w' w.heap.size (fun k_ => some k_ ≠ (v939 : Value).ownBlock ∧ some k_ ≠ ((.slice (some ad942) t923.length co37) : Value).ownBlock) (.slice Ao12 t919.length co12) t919) ∧ Fc (w'.heap[gb922]? = some (.cells #[.int .i64 t918, (.slice Ao12 t919.length co12)] 26 (0, 0))) ∧ Fc (Below w.heap.size w w'))
               case atStart => exact ⟨(0), eqS, H', ⟨Nat.le_refl _⟩, rg HO_10, rg HO_14, rg HO_81, rg HO_10, rg HO_923001, bg BK922, hbg HB⟩
               case round =>
                clear H'
                try clear c1
                try clear c4
                try clear c16
                try clear c16b0
                try clear c16b1
                try clear c16b2
                try clear c20
                try clear c21
                try clear c32
                try clear c33
                try clear c34
                try clear c36
                try clear c38b0
                try clear c39
                try clear c39b0
                try clear c40
                try clear c40b0
                try clear c43
                try clear c43b0
                try clear hx942_0
                try clear p942
                try clear q942
                obtain ⟨x96_5, rfl, HA, HK5, HO_10, HO_14, HO_81, HO_94, HO_923001, BK922, HB⟩ := hrel
                cases gk with
                | zero => exact absurd HA.out (by simp [laws_FnSetsAlong.l1])
                | succ k5 =>
                 have H := HA.out
                 clear HA
                 simp only [laws_FnSetsAlong.l1] at H
                 rcases iteE H with ⟨c46b0, H⟩ | ⟨c46b0, H⟩
                 ·obtain ⟨c47b0, H⟩ := itND H
                  obtain ⟨c48b0, H⟩ := itND H
                  obtain ⟨⟨t947, t948⟩, A49, H⟩ := obE H
                  dsimp only at H
                  have HC50 := mkA H
                  clear H
                  have p945 : 0 ≤ (x96_5 : Int) := ofd
                  have q945 : x96_5 < (t932.length : Int) := ofd
                  obtain ⟨ad945, e945, hx945_0, hx945_1⟩ := at_T39 (Kd.R_reads' HO_94.out).2.2 x96_5 p945 q945
                  cases e945
                  replace p945 := eq_true p945
                  replace q945 := eq_true q945
                  go_upto_region 25 with (first | ((with_reducible refine gate_dst (N := 20) rfl ?_); (try (refine gate_guard (by rfl) ?_; dsimp only)); refine boxE (N := 20) (cs := #[.int .i64 0, .int .i64 0]) (t := 39) ?_; intro gb946 hg w51 hbox hb; replace HO_10 := mkA (Kd.R_below (Kd.R_elderB (Kd.R_g HO_10.out) gb946 (Nat.le_of_eq hg.symm)) hb); replace HO_14 := rB HO_14 hb; replace HO_81 := rB HO_81 hb; replace HO_94 := mkA (Kd.R_below (Kd.R_elderB (Kd.R_g HO_94.out) gb946 (Nat.le_of_eq hg.symm)) hb); replace HO_923001 := rB HO_923001 hb; have BK946 := mkA (hbox); have GE946 := geB HB hg; have NB922_946 := neL7 BK922 hg; have NB946_922 := neR7 BK922 hg; replace BK922 := blkB BK922 hb; replace HB := bst HB hb; clear hb hbox hg; obtain ⟨hcz53_0, hcz53_1, hfz53_0, hfz53_1⟩ := blk2 BK946; obtain ⟨hcz54_0, hcz54_1, hfz54_0, hfz54_1⟩ := blk2 BK922) | (go_at_call 28; (with_reducible refine (impl_IndifferentTo.calls k5 t918 _ _ t919 x96_5 t947 t948 _ ?s1 ?s2 A49.out).mono ?_); (case s1 => refine (Kd.R_reads' (e := 3) (base := w.heap.size) (ok := fun k_ => (some k_ ≠ (v939 : Value).ownBlock ∧ some k_ ≠ (.slice (some ad942) t923.length co37 : Value).ownBlock)) (n := t919.length) (c := co12) ?_).2.2; exact (Kd.R_g ((Kd.R_mono (Kd.R_far (p := ⟨gb946, 1, none⟩) (Kd.R_far (p := ⟨gb946, 0, none⟩) (Kd.R_types HO_923001.out BK946.out (by decide)) (fun _ hk => hk.2) (.int .i64 ((rd_T39 t932 x96_5).f0))) (fun _ hk => hk.2) (.int .i64 ((rd_T39 t932 x96_5).f1))) (fun _ h_ => h_.1))))); (case s2 => exact rL HO_923001); rintro e w55 ⟨rfl, hb⟩; replace HO_10 := mkA (Kd.R_below (Kd.R_g ((Kd.R_mono (Kd.R_far (p := ⟨gb946, 1, none⟩) (Kd.R_far (p := ⟨gb946, 0, none⟩) (Kd.R_mono HO_10.out (fun k_ hk => (⟨hk, hk.2⟩ : _ ∧ k_ ≠ gb946))) (fun _ hk => hk.2) (.int .i64 ((rd_T39 t932 x96_5).f0))) (fun _ hk => hk.2) (.int .i64 ((rd_T39 t932 x96_5).f1))) (fun _ h_ => h_.1)))) hb); replace HO_14 := mkA (Kd.R_below (Kd.R_g ((Kd.R_mono (Kd.R_far (p := ⟨gb946, 1, none⟩) (Kd.R_far (p := ⟨gb946, 0, none⟩) (Kd.R_types HO_14.out BK946.out (by decide)) (fun _ hk => hk.2) (.int .i64 ((rd_T39 t932 x96_5).f0))) (fun _ hk => hk.2) (.int .i64 ((rd_T39 t932 x96_5).f1))) (fun _ h_ => h_.1)))) hb); replace HO_81 := mkA (Kd.R_below (Kd.R_g ((Kd.R_mono (Kd.R_far (p := ⟨gb946, 1, none⟩) (Kd.R_far (p := ⟨gb946, 0, none⟩) (Kd.R_types HO_81.out BK946.out (by decide)) (fun _ hk => hk.2) (.int .i64 ((rd_T39 t932 x96_5).f0))) (fun _ hk => hk.2) (.int .i64 ((rd_T39 t932 x96_5).f1))) (fun _ h_ => h_.1)))) hb); replace HO_94 := mkA (Kd.R_below (Kd.R_g ((Kd.R_mono (Kd.R_far (p := ⟨gb946, 1, none⟩) (Kd.R_far (p := ⟨gb946, 0, none⟩) (Kd.R_mono HO_94.out (fun k_ hk => (⟨hk, hk.2⟩ : _ ∧ k_ ≠ gb946))) (fun _ hk => hk.2) (.int .i64 ((rd_T39 t932 x96_5).f0))) (fun _ hk => hk.2) (.int .i64 ((rd_T39 t932 x96_5).f1))) (fun _ h_ => h_.1)))) hb); replace HO_923001 := mkA (Kd.R_below (Kd.R_g ((Kd.R_mono (Kd.R_far (p := ⟨gb946, 1, none⟩) (Kd.R_far (p := ⟨gb946, 0, none⟩) (Kd.R_types HO_923001.out BK946.out (by decide)) (fun _ hk => hk.2) (.int .i64 ((rd_T39 t932 x96_5).f0))) (fun _ hk => hk.2) (.int .i64 ((rd_T39 t932 x96_5).f1))) (fun _ h_ => h_.1)))) hb); replace BK922 := blkS BK922 hb; replace BK946 := blkS BK946 hb; replace HB := bst HB hb; clear hb))
                  repeat (go_quiet (first | ((with_reducible refine gate_dst (N := 20) rfl ?_); (try (refine gate_guard (by rfl) ?_; dsimp only)); refine boxE (N := 20) (cs := #[.int .i64 0, .int .i64 0]) (t := 39) ?_; intro gb946 hg w51 hbox hb; replace HO_10 := mkA (Kd.R_below (Kd.R_elderB (Kd.R_g HO_10.out) gb946 (Nat.le_of_eq hg.symm)) hb); replace HO_14 := rB HO_14 hb; replace HO_81 := rB HO_81 hb; replace HO_94 := mkA (Kd.R_below (Kd.R_elderB (Kd.R_g HO_94.out) gb946 (Nat.le_of_eq hg.symm)) hb); replace HO_923001 := rB HO_923001 hb; have BK946 := mkA (hbox); have GE946 := geB HB hg; have NB922_946 := neL7 BK922 hg; have NB946_922 := neR7 BK922 hg; replace BK922 := blkB BK922 hb; replace HB := bst HB hb; clear hb hbox hg; obtain ⟨hcz53_0, hcz53_1, hfz53_0, hfz53_1⟩ := blk2 BK946; obtain ⟨hcz54_0, hcz54_1, hfz54_0, hfz54_1⟩ := blk2 BK922) | (go_at_call 28; (with_reducible refine (impl_IndifferentTo.calls k5 t918 _ _ t919 x96_5 t947 t948 _ ?s1 ?s2 A49.out).mono ?_); (case s1 => refine (Kd.R_reads' (e := 3) (base := w.heap.size) (ok := fun k_ => (some k_ ≠ (v939 : Value).ownBlock ∧ some k_ ≠ (.slice (some ad942) t923.length co37 : Value).ownBlock)) (n := t919.length) (c := co12) ?_).2.2; exact (Kd.R_g ((Kd.R_mono (Kd.R_far (p := ⟨gb946, 1, none⟩) (Kd.R_far (p := ⟨gb946, 0, none⟩) (Kd.R_types HO_923001.out BK946.out (by decide)) (fun _ hk => hk.2) (.int .i64 ((rd_T39 t932 x96_5).f0))) (fun _ hk => hk.2) (.int .i64 ((rd_T39 t932 x96_5).f1))) (fun _ h_ => h_.1))))); (case s2 => exact rL HO_923001); rintro e w55 ⟨rfl, hb⟩; replace HO_10 := mkA (Kd.R_below (Kd.R_g ((Kd.R_mono (Kd.R_far (p := ⟨gb946, 1, none⟩) (Kd.R_far (p := ⟨gb946, 0, none⟩) (Kd.R_mono HO_10.out (fun k_ hk => (⟨hk, hk.2⟩ : _ ∧ k_ ≠ gb946))) (fun _ hk => hk.2) (.int .i64 ((rd_T39 t932 x96_5).f0))) (fun _ hk => hk.2) (.int .i64 ((rd_T39 t932 x96_5).f1))) (fun _ h_ => h_.1)))) hb); replace HO_14 := mkA (Kd.R_below (Kd.R_g ((Kd.R_mono (Kd.R_far (p := ⟨gb946, 1, none⟩) (Kd.R_far (p := ⟨gb946, 0, none⟩) (Kd.R_types HO_14.out BK946.out (by decide)) (fun _ hk => hk.2) (.int .i64 ((rd_T39 t932 x96_5).f0))) (fun _ hk => hk.2) (.int .i64 ((rd_T39 t932 x96_5).f1))) (fun _ h_ => h_.1)))) hb); replace HO_81 := mkA (Kd.R_below (Kd.R_g ((Kd.R_mono (Kd.R_far (p := ⟨gb946, 1, none⟩) (Kd.R_far (p := ⟨gb946, 0, none⟩) (Kd.R_types HO_81.out BK946.out (by decide)) (fun _ hk => hk.2) (.int .i64 ((rd_T39 t932 x96_5).f0))) (fun _ hk => hk.2) (.int .i64 ((rd_T39 t932 x96_5).f1))) (fun _ h_ => h_.1)))) hb); replace HO_94 := mkA (Kd.R_below (Kd.R_g ((Kd.R_mono (Kd.R_far (p := ⟨gb946, 1, none⟩) (Kd.R_far (p := ⟨gb946, 0, none⟩) (Kd.R_mono HO_94.out (fun k_ hk => (⟨hk, hk.2⟩ : _ ∧ k_ ≠ gb946))) (fun _ hk => hk.2) (.int .i64 ((rd_T39 t932 x96_5).f0))) (fun _ hk => hk.2) (.int .i64 ((rd_T39 t932 x96_5).f1))) (fun _ h_ => h_.1)))) hb); replace HO_923001 := mkA (Kd.R_below (Kd.R_g ((Kd.R_mono (Kd.R_far (p := ⟨gb946, 1, none⟩) (Kd.R_far (p := ⟨gb946, 0, none⟩) (Kd.R_types HO_923001.out BK946.out (by decide)) (fun _ hk => hk.2) (.int .i64 ((rd_T39 t932 x96_5).f0))) (fun _ hk => hk.2) (.int .i64 ((rd_T39 t932 x96_5).f1))) (fun _ h_ => h_.1)))) hb); replace BK922 := blkS BK922 hb; replace BK946 := blkS BK946 hb; replace HB := bst HB hb; clear hb)); go_upto_region 25 with (first | ((with_reducible refine gate_dst (N := 20) rfl ?_); (try (refine gate_guard (by rfl) ?_; dsimp only)); refine boxE (N := 20) (cs := #[.int .i64 0, .int .i64 0]) (t := 39) ?_; intro gb946 hg w51 hbox hb; replace HO_10 := mkA (Kd.R_below (Kd.R_elderB (Kd.R_g HO_10.out) gb946 (Nat.le_of_eq hg.symm)) hb); replace HO_14 := rB HO_14 hb; replace HO_81 := rB HO_81 hb; replace HO_94 := mkA (Kd.R_below (Kd.R_elderB (Kd.R_g HO_94.out) gb946 (Nat.le_of_eq hg.symm)) hb); replace HO_923001 := rB HO_923001 hb; have BK946 := mkA (hbox); have GE946 := geB HB hg; have NB922_946 := neL7 BK922 hg; have NB946_922 := neR7 BK922 hg; replace BK922 := blkB BK922 hb; replace HB := bst HB hb; clear hb hbox hg; obtain ⟨hcz53_0, hcz53_1, hfz53_0, hfz53_1⟩ := blk2 BK946; obtain ⟨hcz54_0, hcz54_1, hfz54_0, hfz54_1⟩ := blk2 BK922) | (go_at_call 28; (with_reducible refine (impl_IndifferentTo.calls k5 t918 _ _ t919 x96_5 t947 t948 _ ?s1 ?s2 A49.out).mono ?_); (case s1 => refine (Kd.R_reads' (e := 3) (base := w.heap.size) (ok := fun k_ => (some k_ ≠ (v939 : Value).ownBlock ∧ some k_ ≠ (.slice (some ad942) t923.length co37 : Value).ownBlock)) (n := t919.length) (c := co12) ?_).2.2; exact (Kd.R_g ((Kd.R_mono (Kd.R_far (p := ⟨gb946, 1, none⟩) (Kd.R_far (p := ⟨gb946, 0, none⟩) (Kd.R_types HO_923001.out BK946.out (by decide)) (fun _ hk => hk.2) (.int .i64 ((rd_T39 t932 x96_5).f0))) (fun _ hk => hk.2) (.int .i64 ((rd_T39 t932 x96_5).f1))) (fun _ h_ => h_.1))))); (case s2 => exact rL HO_923001); rintro e w55 ⟨rfl, hb⟩; replace HO_10 := mkA (Kd.R_below (Kd.R_g ((Kd.R_mono (Kd.R_far (p := ⟨gb946, 1, none⟩) (Kd.R_far (p := ⟨gb946, 0, none⟩) (Kd.R_mono HO_10.out (fun k_ hk => (⟨hk, hk.2⟩ : _ ∧ k_ ≠ gb946))) (fun _ hk => hk.2) (.int .i64 ((rd_T39 t932 x96_5).f0))) (fun _ hk => hk.2) (.int .i64 ((rd_T39 t932 x96_5).f1))) (fun _ h_ => h_.1)))) hb); replace HO_14 := mkA (Kd.R_below (Kd.R_g ((Kd.R_mono (Kd.R_far (p := ⟨gb946, 1, none⟩) (Kd.R_far (p := ⟨gb946, 0, none⟩) (Kd.R_types HO_14.out BK946.out (by decide)) (fun _ hk => hk.2) (.int .i64 ((rd_T39 t932 x96_5).f0))) (fun _ hk => hk.2) (.int .i64 ((rd_T39 t932 x96_5).f1))) (fun _ h_ => h_.1)))) hb); replace HO_81 := mkA (Kd.R_below (Kd.R_g ((Kd.R_mono (Kd.R_far (p := ⟨gb946, 1, none⟩) (Kd.R_far (p := ⟨gb946, 0, none⟩) (Kd.R_types HO_81.out BK946.out (by decide)) (fun _ hk => hk.2) (.int .i64 ((rd_T39 t932 x96_5).f0))) (fun _ hk => hk.2) (.int .i64 ((rd_T39 t932 x96_5).f1))) (fun _ h_ => h_.1)))) hb); replace HO_94 := mkA (Kd.R_below (Kd.R_g ((Kd.R_mono (Kd.R_far (p := ⟨gb946, 1, none⟩) (Kd.R_far (p := ⟨gb946, 0, none⟩) (Kd.R_mono HO_94.out (fun k_ hk => (⟨hk, hk.2⟩ : _ ∧ k_ ≠ gb946))) (fun _ hk => hk.2) (.int .i64 ((rd_T39 t932 x96_5).f0))) (fun _ hk => hk.2) (.int .i64 ((rd_T39 t932 x96_5).f1))) (fun _ h_ => h_.1)))) hb); replace HO_923001 := mkA (Kd.R_below (Kd.R_g ((Kd.R_mono (Kd.R_far (p := ⟨gb946, 1, none⟩) (Kd.R_far (p := ⟨gb946, 0, none⟩) (Kd.R_types HO_923001.out BK946.out (by decide)) (fun _ hk => hk.2) (.int .i64 ((rd_T39 t932 x96_5).f0))) (fun _ hk => hk.2) (.int .i64 ((rd_T39 t932 x96_5).f1))) (fun _ h_ => h_.1)))) hb); replace BK922 := blkS BK922 hb; replace BK946 := blkS BK946 hb; replace HB := bst HB hb; clear hb)))
                  (try simp only [Act.put, List.setIfInBounds_toArray, List.set_cons_zero, List.set_cons_succ])
                  go_cut [124] (fun v124 wc => ∃ (kq : Nat) (x124_49 : Bool), v124 = .bool x124_49 ∧ Fc (laws_FnSetsAlong.j5 kq t932 t938 x16_41 x83_3 (rd t923 x83_3) x96_5 t947 t923 (t923.length : Int) x83_3 t932 (t932.length : Int) x96_5 x124_49 t918 t919 = some r) ∧ Fc (kq ≤ k5) ∧ Fc (Kd.R k39 39 wc w.heap.size (fun k_ => k_ ≠ gb946) (.slice (some ad945) t932.length co45) t932) ∧ Fc (Kd.R (Kd.int .i64) 3 wc w.heap.size (fun k_ => some k_ ≠ ((.slice (some ad942) t923.length co37) : Value).ownBlock ∧ some k_ ≠ ((.slice Ao12 t919.length co12) : Value).ownBlock) v939 t938) ∧ Fc (Kd.R (Kd.int .i64) 3 wc w.heap.size (fun k_ => some k_ ≠ (v939 : Value).ownBlock ∧ some k_ ≠ ((.slice Ao12 t919.length co12) : Value).ownBlock) (.slice (some ad942) t923.length co37) t923) ∧ Fc (Kd.R k39 39 wc w.heap.size (fun k_ => k_ ≠ gb946) (.slice (some ad945) t932.length co45) t932) ∧ Fc (Kd.R (Kd.int .i64) 3 wc w.heap.size (fun k_ => some k_ ≠ (v939 : Value).ownBlock ∧ some k_ ≠ ((.slice (some ad942) t923.length co37) : Value).ownBlock) (.slice Ao12 t919.length co12) t919) ∧ Fc (wc.heap[gb922]? = some (.cells #[.int .i64 t918, (.slice Ao12 t919.length co12)] 26 (0, 0))) ∧ Fc (wc.heap[gb946]? = some (.cells #[.int .i64 ((rd_T39 t932 x96_5).f0), .int .i64 ((rd_T39 t932 x96_5).f1)] 39 (0, 0))) ∧ Fc (Below w.heap.size w wc))
                  case first =>
                   have H := HC50.out
                   clear HC50
                   by_cases c56 : t948 = true
                   ·subst c56
                    replace H := ifT H
                    obtain ⟨t949, A57, H⟩ := obE H
                    rcases iteE H with ⟨c58b0, H⟩ | ⟨c58b0, H⟩
                    ·(first | rw [c58b0] | (simp only [i64_w, i32_w]; rw [c58b0]) | skip)
                     have H' := mkA H
                     clear H
                     go_wp2_with (first | (go_at_call 29; (with_reducible refine (laws_pIn.calls (rd t923 x83_3) x96_5 t949 _ A57.out).mono ?_); rintro e w' ⟨rfl, ⟨nd, rfl⟩⟩; (try first | exact ⟨rfl, _, World.drewN_drewN _ _ _⟩ | exact ⟨rfl, _, Eq.trans (World.drewN_drewN _ _ _) (congrArg (World.drewN _) (Nat.add_assoc _ _ _))⟩); obtain ⟨hcz60_0, hcz60_1, hfz60_0, hfz60_1⟩ := blk2 BK946))
                     repeat (go_quiet (first | (go_at_call 29; (with_reducible refine (laws_pIn.calls (rd t923 x83_3) x96_5 t949 _ A57.out).mono ?_); rintro e w' ⟨rfl, ⟨nd, rfl⟩⟩; (try first | exact ⟨rfl, _, World.drewN_drewN _ _ _⟩ | exact ⟨rfl, _, Eq.trans (World.drewN_drewN _ _ _) (congrArg (World.drewN _) (Nat.add_assoc _ _ _))⟩); obtain ⟨hcz60_0, hcz60_1, hfz60_0, hfz60_1⟩ := blk2 BK946)); try go_wp2_with (first | (go_at_call 29; (with_reducible refine (laws_pIn.calls (rd t923 x83_3) x96_5 t949 _ A57.out).mono ?_); rintro e w' ⟨rfl, ⟨nd, rfl⟩⟩; (try first | exact ⟨rfl, _, World.drewN_drewN _ _ _⟩ | exact ⟨rfl, _, Eq.trans (World.drewN_drewN _ _ _) (congrArg (World.drewN _) (Nat.add_assoc _ _ _))⟩); obtain ⟨hcz60_0, hcz60_1, hfz60_0, hfz60_1⟩ := blk2 BK946)))
                     go_meet
                     case rel => exact ⟨_, ((t949 != (decide (x83_3 ≤ ((rd_T39 t932 x96_5).f1))))), eqS, H', ⟨by have := HJ7.out; have := HJ24.out; have := HK3.out; have := HJ41.out; have := HK5.out; first | omega | exact Nat.le_refl _⟩, ⟨Kd.R_g (Kd.R_mono HO_10.out (fun _ hk => hk.2))⟩, rg HO_14, rg HO_81, ⟨Kd.R_g (Kd.R_mono HO_94.out (fun _ hk => hk.2))⟩, rg HO_923001, bg BK922, bg BK946, hbg HB⟩
                    ·(first | rw [c58b0] | (simp only [i64_w, i32_w]; rw [c58b0]) | skip)
                     have H' := mkA H
                     clear H
                     go_wp2_with (first | (go_at_call 29; (with_reducible refine (laws_pIn.calls (rd t923 x83_3) x96_5 t949 _ A57.out).mono ?_); rintro e w' ⟨rfl, ⟨nd, rfl⟩⟩; (try first | exact ⟨rfl, _, World.drewN_drewN _ _ _⟩ | exact ⟨rfl, _, Eq.trans (World.drewN_drewN _ _ _) (congrArg (World.drewN _) (Nat.add_assoc _ _ _))⟩); obtain ⟨hcz62_0, hcz62_1, hfz62_0, hfz62_1⟩ := blk2 BK946))
                     repeat (go_quiet (first | (go_at_call 29; (with_reducible refine (laws_pIn.calls (rd t923 x83_3) x96_5 t949 _ A57.out).mono ?_); rintro e w' ⟨rfl, ⟨nd, rfl⟩⟩; (try first | exact ⟨rfl, _, World.drewN_drewN _ _ _⟩ | exact ⟨rfl, _, Eq.trans (World.drewN_drewN _ _ _) (congrArg (World.drewN _) (Nat.add_assoc _ _ _))⟩); obtain ⟨hcz62_0, hcz62_1, hfz62_0, hfz62_1⟩ := blk2 BK946)); try go_wp2_with (first | (go_at_call 29; (with_reducible refine (laws_pIn.calls (rd t923 x83_3) x96_5 t949 _ A57.out).mono ?_); rintro e w' ⟨rfl, ⟨nd, rfl⟩⟩; (try first | exact ⟨rfl, _, World.drewN_drewN _ _ _⟩ | exact ⟨rfl, _, Eq.trans (World.drewN_drewN _ _ _) (congrArg (World.drewN _) (Nat.add_assoc _ _ _))⟩); obtain ⟨hcz62_0, hcz62_1, hfz62_0, hfz62_1⟩ := blk2 BK946)))
                     go_meet
                     case rel => exact ⟨_, ((t949 != false)), eqS, H', ⟨by have := HJ7.out; have := HJ24.out; have := HK3.out; have := HJ41.out; have := HK5.out; first | omega | exact Nat.le_refl _⟩, ⟨Kd.R_g (Kd.R_mono HO_10.out (fun _ hk => hk.2))⟩, rg HO_14, rg HO_81, ⟨Kd.R_g (Kd.R_mono HO_94.out (fun _ hk => hk.2))⟩, rg HO_923001, bg BK922, bg BK946, hbg HB⟩
                   ·replace c56 := Bool.eq_false_iff.mpr c56
                    subst c56
                    replace H := ifF H
                    have H' := mkA H
                    clear H
                    go_wp2
                    repeat (go_quiet (fail); try go_wp2)
                    go_meet
                    case rel => exact ⟨_, (true), eqS, H', ⟨by have := HJ7.out; have := HJ24.out; have := HK3.out; have := HJ41.out; have := HK5.out; first | omega | exact Nat.le_refl _⟩, ⟨Kd.R_g (Kd.R_mono HO_10.out (fun _ hk => hk.2))⟩, rg HO_14, rg HO_81, ⟨Kd.R_g (Kd.R_mono HO_94.out (fun _ hk => hk.2))⟩, rg HO_923001, bg BK922, bg BK946, hbg HB⟩
                  case rest =>
                   clear HC50
                   try clear c1
                   try clear c4
                   try clear c16
                   try clear c16b0
                   try clear c16b1
                   try clear c16b2
                   try clear c20
                   try clear c21
                   try clear c32
                   try clear c33
                   try clear c34
                   try clear c36
                   try clear c38b0
                   try clear c39
                   try clear c39b0
                   try clear c40
                   try clear c40b0
                   try clear c43
                   try clear c43b0
                   try clear c46b0
                   try clear c47
                   try clear c47b0
                   try clear c48
                   try clear c48b0
                   try clear c56
                   try clear c58b0
                   try clear hx942_0
                   try clear hx945_0
                   try clear hx945_1
                   try clear p942
                   try clear p945
                   try clear q942
                   try clear q945
                   obtain ⟨kq, x124_49, rfl, HA, HJ49, HO_10, HO_14, HO_81, HO_94, HO_923001, BK922, BK946, HB⟩ := hcut
                   cases kq with
                   | zero => exact absurd HA.out (by simp [laws_FnSetsAlong.j5])
                   | succ kj49 =>
                    have H := HA.out
                    clear HA
                    simp only [laws_FnSetsAlong.j5] at H
                    by_cases c63 : x124_49 = true
                    ·subst c63
                     replace H := ifT H
                     obtain rfl := Option.some.inj H
                     go_wp2
                     repeat (go_quiet (fail); try go_wp2)
                     go_ret
                     exact ⟨eqE, bel_g HB.out⟩
                    ·replace c63 := Bool.eq_false_iff.mpr c63
                     subst c63
                     replace H := ifF H
                     obtain ⟨c64b0, c64b1, H⟩ := itNQ H
                     obtain ⟨ji65, hji65⟩ : ∃ j_ : Int, (shl .i64 1 x96_5) = j_ := ⟨_, rfl⟩
                     first | rw [hji65] at H | simp only [hji65] at H
                     have hji65_ : (IntKind.i64.wrap (1 * 2 ^ min x96_5.toNat 64)) = ji65 := hji65
                     have hji65z : x96_5 ≤ 64 → (IntKind.i64.wrap (1 * 2 ^ x96_5.toNat)) = ji65 := shl_small hji65
                     have hji65u : (IntKind.i64.wrap (2 ^ min x96_5.toNat 64)) = ji65 := by have h_ := hji65_; rw [Int.one_mul] at h_; exact h_
                     have hji65v : x96_5 ≤ 64 → (IntKind.i64.wrap (2 ^ x96_5.toNat)) = ji65 := fun hle_ => by have h_ := hji65z hle_; rw [Int.one_mul] at h_; exact h_
                     have hji65y : (wrap64 (1 * 2 ^ min x96_5.toNat 64)) = ji65 := (i64_w _).symm.trans hji65_
                     have hji65x : x96_5 ≤ 64 → (wrap64 (1 * 2 ^ x96_5.toNat)) = ji65 := fun h_ => (i64_w _).symm.trans (hji65z h_)
                     obtain ⟨t950, A66, H⟩ := obE H
                     rcases iteP H with ⟨c67, H⟩ | ⟨c67, H⟩
                     ·have c67b0 : (((Go.bits .andNot .i64 (Go.bits .andNot .i64 (rd t923 x83_3) t947) (ji65)) == 0) != t950) = true := c67
                      (try (have c67b1 : decide (((Go.bits .andNot .i64 (Go.bits .andNot .i64 (rd t923 x83_3) t947) (ji65)) == 0) = t950) = false := by simpa using c67))
                      (try (have c67b2 : (((Go.bits .andNot .i64 (Go.bits .andNot .i64 (rd t923 x83_3) t947) (ji65)) == 0) == t950) = false := by simpa using c67))
                      (try (have c67b3 : ¬ (((Go.bits .andNot .i64 (Go.bits .andNot .i64 (rd t923 x83_3) t947) (ji65)) == 0) = t950) := by simpa using c67))
                      clear c67
                      obtain rfl := Option.some.inj H
                      go_wp2_with (first | (go_at_call 29; (with_reducible refine (laws_pIn.calls (rd t923 x83_3) x96_5 t950 _ A66.out).mono ?_); rintro e w' ⟨rfl, ⟨nd, rfl⟩⟩; (try first | exact ⟨rfl, _, World.drewN_drewN _ _ _⟩ | exact ⟨rfl, _, Eq.trans (World.drewN_drewN _ _ _) (congrArg (World.drewN _) (Nat.add_assoc _ _ _))⟩)))
                      repeat (go_quiet (first | (go_at_call 29; (with_reducible refine (laws_pIn.calls (rd t923 x83_3) x96_5 t950 _ A66.out).mono ?_); rintro e w' ⟨rfl, ⟨nd, rfl⟩⟩; (try first | exact ⟨rfl, _, World.drewN_drewN _ _ _⟩ | exact ⟨rfl, _, Eq.trans (World.drewN_drewN _ _ _) (congrArg (World.drewN _) (Nat.add_assoc _ _ _))⟩))); try go_wp2_with (first | (go_at_call 29; (with_reducible refine (laws_pIn.calls (rd t923 x83_3) x96_5 t950 _ A66.out).mono ?_); rintro e w' ⟨rfl, ⟨nd, rfl⟩⟩; (try first | exact ⟨rfl, _, World.drewN_drewN _ _ _⟩ | exact ⟨rfl, _, Eq.trans (World.drewN_drewN _ _ _) (congrArg (World.drewN _) (Nat.add_assoc _ _ _))⟩))))
                      go_ret
                      exact ⟨by first | rfl | (simp [errW_none, errW_some] <;> rfl) | (simp only [← hji65]; first | rfl | (simp [errW_none, errW_some] <;> rfl)) | (simp [*, errW_none, errW_some] <;> rfl), bel_g HB.out⟩
                     ·have c67b0 : (((Go.bits .andNot .i64 (Go.bits .andNot .i64 (rd t923 x83_3) t947) (ji65)) == 0) != t950) = false := by simpa using c67
                      (try (have c67b1 : decide (((Go.bits .andNot .i64 (Go.bits .andNot .i64 (rd t923 x83_3) t947) (ji65)) == 0) = t950) = true := by simpa using c67))
                      (try (have c67b2 : (((Go.bits .andNot .i64 (Go.bits .andNot .i64 (rd t923 x83_3) t947) (ji65)) == 0) == t950) = true := by simpa using c67))
                      clear c67
                      have H' := mkA H
                      clear H
                      go_wp2_with (first | (go_at_call 29; (with_reducible refine (laws_pIn.calls (rd t923 x83_3) x96_5 t950 _ A66.out).mono ?_); rintro e w' ⟨rfl, ⟨nd, rfl⟩⟩; (try first | exact ⟨rfl, _, World.drewN_drewN _ _ _⟩ | exact ⟨rfl, _, Eq.trans (World.drewN_drewN _ _ _) (congrArg (World.drewN _) (Nat.add_assoc _ _ _))⟩)))
                      repeat (go_quiet (first | (go_at_call 29; (with_reducible refine (laws_pIn.calls (rd t923 x83_3) x96_5 t950 _ A66.out).mono ?_); rintro e w' ⟨rfl, ⟨nd, rfl⟩⟩; (try first | exact ⟨rfl, _, World.drewN_drewN _ _ _⟩ | exact ⟨rfl, _, Eq.trans (World.drewN_drewN _ _ _) (congrArg (World.drewN _) (Nat.add_assoc _ _ _))⟩))); try go_wp2_with (first | (go_at_call 29; (with_reducible refine (laws_pIn.calls (rd t923 x83_3) x96_5 t950 _ A66.out).mono ?_); rintro e w' ⟨rfl, ⟨nd, rfl⟩⟩; (try first | exact ⟨rfl, _, World.drewN_drewN _ _ _⟩ | exact ⟨rfl, _, Eq.trans (World.drewN_drewN _ _ _) (congrArg (World.drewN _) (Nat.add_assoc _ _ _))⟩))))
                      go_roundg kj49
                      case measure => have := HJ7.out; have := HJ24.out; have := HK3.out; have := HJ41.out; have := HK5.out; have := HJ49.out; omega
                      case rel => exact ⟨(wrap64 (x96_5 + 1)), eqS, H', ⟨by have := HJ7.out; have := HJ24.out; have := HK3.out; have := HJ41.out; have := HK5.out; have := HJ49.out; omega⟩, ⟨Kd.R_g (Kd.R_mono HO_10.out (fun _ hk => trivial))⟩, rg HO_14, rg HO_81, ⟨Kd.R_g (Kd.R_mono HO_94.out (fun _ hk => trivial))⟩, rg HO_923001, bg BK922, hbg HB⟩
                 ·have H' := mkA H
                  clear H
                  go_wp2
                  repeat (go_quiet (fail); try go_wp2)
                  go_roundg k5
                  case measure => have := HJ7.out; have := HJ24.out; have := HK3.out; have := HJ41.out; have := HK5.out; omega
                  case rel => exact ⟨(x16_41), (wrap64 (x83_3 + 1)), eqS, eqS, H', ⟨by have := HJ7.out; have := HJ24.out; have := HK3.out; have := HJ41.out; have := HK5.out; omega⟩, rg HO_10, rg HO_14, rg HO_81, rg HO_923001, bg BK922, hbg HB⟩
            ·obtain rfl := Option.some.inj H
             obtain ⟨Ao68, co68, rfl⟩ := Kd.R_slice HO_14.out
             go_wp2
             repeat (go_quiet (fail); try go_wp2)
             go_ret
             exact ⟨eqE, bel_g HB.out⟩
     ·replace c21 := Bool.eq_false_iff.mpr c21
      subst c21
      replace H := ifF H
      obtain rfl := Option.some.inj H
      go_wp2
      repeat (go_quiet (fail); try go_wp2)
      go_ret
      exact ⟨eqE, bel_g HB.out⟩
end Go.Proofs.YtdmheeenoklijaaDoor.Q
