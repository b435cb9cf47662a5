import Derived.Test.YtdmheeenoklijaaDoorBFnSetsAlong19
import Derived.Test.YtdmheeenoklijaaDoorBFnSetsAlong22
namespace Go.Proofs.YtdmheeenoklijaaDoor.Q
open Go.RowKit Go.Proofs.YtdmheeenoklijaaDoorW.PrintWords Go.Proofs.YtdmheeenoklijaaDoorW.PrintLast Go.Proofs.YtdmheeenoklijaaDoorW.PrintMore
attribute [local go_sem] max2_int min2_int max_two min_two max_three min_three max_four min_four neB_f
set_option linter.unusedVariables false
set_option maxHeartbeats 8000000
set_option maxRecDepth 100000
set_option linter.unusedSimpArgs false
mutual
def spec_SetsAlong.l0 : Nat → List Int → Int → Int → List Int → Option (List Int × Bool)
 | 0, _, _, _, _ => none
 | k + 1, x4, x5, x852000, x852001 => (spec_ivLevels.f k x852000 x852001).bind fun t853 => ((spec_ivMost.f k t853).bind fun t856 => (if x5 ≤ t856 then ((spec_ivEnds.f k x852000 x852001).bind fun t857 => (spec_SetsAlong.l1 k x4 x5 0 t857 (t857.length : Int) 0 x852000 x852001)) else (some (x4, true))))
def spec_SetsAlong.l1 : Nat → List Int → Int → Int → List (S39) → Int → Int → Int → List Int → Option (List Int × Bool)
 | 0, _, _, _, _, _, _, _, _ => none
 | k + 1, x4, x5, x6, x20, x21, x22, x852000, x852001 => if x22 < x21 then (if 0 ≤ x22 then (if x22 < (x20.length : Int) then ((spec_l1In.f x5 ((rd_T39 x20 x22).f0) ((rd_T39 x20 x22).f1)).bind fun t862 => (if t862 = true then (spec_SetsAlong.l1 k x4 x5 (Go.bits .or .i64 x6 (shl .i64 1 x22)) x20 x21 (wrap64 (x22 + 1)) x852000 x852001) else (spec_SetsAlong.l1 k x4 x5 x6 x20 x21 (wrap64 (x22 + 1)) x852000 x852001))) else (none)) else (none)) else (if x4.length < 17592186044416 then (spec_SetsAlong.l0 k (x4 ++ [x6]) (wrap64 (x5 + 1)) x852000 x852001) else (none))
end
def spec_SetsAlong.f (k : Nat) (a0_0 : Int) (l0_1 : List Int) : Option (List Int × Bool) := (spec_ivGoodOrder.f k a0_0 l0_1).bind fun t852 => (if t852 = true then (spec_SetsAlong.l0 k ([] : List Int) 0 a0_0 l0_1) else (some (([] : List Int), false)))
theorem spec_SetsAlong.mono_l : ∀ k, (∀ y0 y1 y2 y3, LeO (spec_SetsAlong.l0 k y0 y1 y2 y3) (spec_SetsAlong.l0 (k + 1) y0 y1 y2 y3)) ∧ (∀ y0 y1 y2 y3 y4 y5 y6 y7, LeO (spec_SetsAlong.l1 k y0 y1 y2 y3 y4 y5 y6 y7) (spec_SetsAlong.l1 (k + 1) y0 y1 y2 y3 y4 y5 y6 y7))
 | 0 => ⟨fun _ _ _ _ r h => by simp [spec_SetsAlong.l0] at h, fun _ _ _ _ _ _ _ _ r h => by simp [spec_SetsAlong.l1] at h⟩
 | k + 1 => by
  obtain ⟨ih0, ih1⟩ := spec_SetsAlong.mono_l k
  refine ⟨?_, ?_⟩ <;> intros
  unfold spec_SetsAlong.l0
  rotate_left
  unfold spec_SetsAlong.l1
  rotate_left
  all_goals repeat' (with_reducible first|apply ih0|apply ih1|apply spec_ivEnds.mono|apply spec_ivGoodOrder.mono|apply spec_ivLevels.mono|apply spec_ivMost.mono|apply LeO.refl|apply LeO.none|apply LeO.ite|apply LeO.bind|intro)
theorem spec_SetsAlong.mono : ∀ a0 a1 k, LeO (spec_SetsAlong.f k a0 a1) (spec_SetsAlong.f (k + 1) a0 a1) := by
 intro a0 a1 k
 obtain ⟨ih0, ih1⟩ := spec_SetsAlong.mono_l k
 unfold spec_SetsAlong.f
 repeat' (with_reducible first|apply ih0|apply ih1|apply spec_ivEnds.mono|apply spec_ivGoodOrder.mono|apply spec_ivLevels.mono|apply spec_ivMost.mono|apply LeO.refl|apply LeO.none|apply LeO.ite|apply LeO.bind|intro)
theorem spec_SetsAlong.calls (k : Nat) (a0_0 : Int) (A0_1 : Option Addr) (c0_1 : Nat) (l0_1 : List Int) (r1 : List Int) (r2 : Bool) (w : World) (hr0_1 : Kd.C (Kd.int .i64) w A0_1 l0_1.length l0_1) (hc0_1 : l0_1.length ≤ c0_1) (h : spec_SetsAlong.f k a0_0 l0_1 = some (r1, r2)) :
  Calls Tryd.prog 24 #[.agg #[.int .i64 a0_0, .slice A0_1 l0_1.length c0_1]] w fun e w' => ∃ v0_ : Value, e = .returned (.tuple #[v0_, .bool r2]) ∧ Kd.R (Kd.int .i64) 3 w' w.heap.size (fun _ => True) v0_ r1 ∧ Below w.heap.size w w' := by
 have hu26 := Tryd.underlying26
 have hu39 := Tryd.underlying39
 have HR0_1 := mkA hr0_1
 have HC0_1 := mkA hc0_1
 clear hr0_1 hc0_1
 have HB := mkA (Below.refl w.heap.size w)
 have H := h
 clear h
 unfold spec_SetsAlong.f at H
 obtain ⟨t852, A2, H⟩ := obE H
 by_cases c3 : t852 = true
 ·subst c3
  replace H := ifT H
  have H' := mkA H
  clear H
  go_enter Tryd.func24, Tryd.ntmps24
  go_wp2_with (first | ((with_reducible refine gate_dst (N := 1) rfl ?_); refine boxG HB #[.int .i64 a0_0, .slice A0_1 l0_1.length c0_1] 26 ?_; intro gb851 hg w4 BK851 GE851 hb; replace HB := bst HB hb; clear hb hg; obtain ⟨_, _, _, _⟩ := blk2 BK851) | ((with_reducible refine gate_callee (f := 33) rfl ?_); refine goesQ (some 10) Tryd.func33 #[.agg #[.int .i64 a0_0, .slice A0_1 l0_1.length c0_1]] ?_; (with_reducible refine (spec_ivGoodOrder.calls k a0_0 _ _ l0_1 true _ ?_ ?_ A2.out).mono ?_); exact C_g HR0_1 HB; exact HC0_1.out; rintro e w6 ⟨rfl, hb⟩; refine ⟨_, rfl, ?_⟩; replace BK851 := blkB BK851 hb; replace HB := bst HB hb; clear hb))
  go_loopg [4, 5] k (fun kq v4 v5 w' => ∃ (x4_1 : List Int) (x5_1 : Int), v5 = .int .i64 x5_1 ∧ Fc (spec_SetsAlong.l0 kq x4_1 x5_1 a0_0 l0_1 = some (r1, r2)) ∧ Fc (kq ≤ k) ∧ Fc (Kd.R (Kd.int .i64) 3 w' w.heap.size (fun _ => True) v4 x4_1) ∧ Fc (w'.heap[gb851]? = some (.cells #[.int .i64 a0_0, (.slice A0_1 l0_1.length c0_1)] 26 (0, 0))) ∧ Fc (Below w.heap.size w w'))
  case atStart => exact ⟨(([] : List Int)), (0), eqS, H', ⟨Nat.le_refl _⟩, ⟨nilE⟩, bg BK851, hbg HB⟩
  case round =>
   clear H'
   try clear c3
   obtain ⟨x4_1, x5_1, rfl, HA, HK1, HO_4, BK851, HB⟩ := hrel
   cases gk with
   | zero => exact absurd HA.out (by simp [spec_SetsAlong.l0])
   | succ k1 =>
    have H := HA.out
    clear HA
    simp only [spec_SetsAlong.l0] at H
    obtain ⟨t853, A7, H⟩ := obE H
    obtain ⟨t856, A8, H⟩ := obE H
    rcases iteE H with ⟨c9b0, H⟩ | ⟨c9b0, H⟩
    ·obtain ⟨t857, A10, H⟩ := obE H
     have H' := mkA H
     clear H
     obtain ⟨_, _, _, _⟩ := blk2 BK851
     go_wp2_with (first | ((with_reducible refine gate_callee (f := 49) rfl ?_); refine goesQ (some 14) Tryd.func49 #[.agg #[.int .i64 a0_0, .slice A0_1 l0_1.length c0_1]] ?_; (with_reducible refine (spec_ivLevels.calls k1 a0_0 _ _ l0_1 t853 _ ?_ ?_ A7.out).mono ?_); exact C_g HR0_1 HB; exact HC0_1.out; rintro e w12 ⟨v854, rfl, ho0, hb⟩; refine ⟨_, rfl, ?_⟩; have HO855 := rLo (rN ho0 HO_4) HB; replace HO_4 := rE HO_4 ho0 hb; replace BK851 := blkB BK851 hb; replace HB := bst HB hb; clear hb ho0; obtain ⟨Ao13, co13, rfl⟩ := Kd.R_slice HO855.out) | ((with_reducible refine gate_callee (f := 48) rfl ?_); refine goesQ (some 15) Tryd.func48 #[.slice Ao13 t853.length co13] ?_; (with_reducible refine (spec_ivMost.calls k1 _ _ t853 t856 _ ?_ ?_ A8.out).mono ?_); exact rC HO855; exact rL HO855; rintro e w' ⟨rfl, ⟨nd, rfl⟩⟩; refine ⟨_, rfl, ?_⟩; obtain ⟨_, _, _, _⟩ := blk2 BK851) | ((with_reducible refine gate_callee (f := 34) rfl ?_); refine goesQ (some 20) Tryd.func34 #[.agg #[.int .i64 a0_0, .slice A0_1 l0_1.length c0_1]] ?_; (with_reducible refine (spec_ivEnds.calls k1 a0_0 _ _ l0_1 t857 _ ?s1 ?s2 A10.out).mono ?_); (case s1 => repeat (first | exact (Kd.C_below HR0_1.out (bel_g HB.out)) | (with_reducible refine Kd.C_alloc ?_ _) | (with_reducible refine Kd.C_drewN ?_ _) | (with_reducible refine Kd.C_drew ?_))); (case s2 => exact HC0_1.out); rintro e w15 ⟨v858, rfl, ho0, hb⟩; refine ⟨_, rfl, ?_⟩; replace HO_4 := rB HO_4 hb; replace HO855 := rB HO855 hb; have HO859 := rLo ho0 HB; replace BK851 := blkB BK851 hb; replace HB := bst HB hb; clear hb ho0; obtain ⟨Ao16, co16, rfl⟩ := Kd.R_slice HO859.out))
     go_loopg [6, 22] k1 (fun kq v6 v22 w' => ∃ (x6_2 : Int) (x22_2 : Int), v6 = .int .i64 x6_2 ∧ v22 = .int .i64 x22_2 ∧ Fc (spec_SetsAlong.l1 kq x4_1 x5_1 x6_2 t857 (t857.length : Int) x22_2 a0_0 l0_1 = some (r1, r2)) ∧ Fc (kq ≤ k1) ∧ Fc (Kd.R (Kd.int .i64) 3 w' w.heap.size (fun _ => True) u4 x4_1) ∧ Fc (Kd.R k39 39 w' w.heap.size (fun _ => True) (.slice Ao16 t857.length co16) t857) ∧ Fc (w'.heap[gb851]? = some (.cells #[.int .i64 a0_0, (.slice A0_1 l0_1.length c0_1)] 26 (0, 0))) ∧ Fc (Below w.heap.size w w'))
     case atStart => exact ⟨(0), (0), eqS, eqS, H', ⟨Nat.le_refl _⟩, ⟨Kd.R_g (Kd.R_mono HO_4.out (fun _ hk => trivial))⟩, rg HO859, bg BK851, hbg HB⟩
     case round =>
      clear H'
      try clear c3
      try clear c9b0
      obtain ⟨x6_2, x22_2, rfl, rfl, HA, HK2, HO_4, HO_20, BK851, HB⟩ := hrel
      cases gk with
      | zero => exact absurd HA.out (by simp [spec_SetsAlong.l1])
      | succ k2 =>
       have H := HA.out
       clear HA
       simp only [spec_SetsAlong.l1] at H
       rcases iteE H with ⟨c17b0, H⟩ | ⟨c17b0, H⟩
       ·obtain ⟨c18b0, H⟩ := itND H
        obtain ⟨c19b0, H⟩ := itND H
        obtain ⟨t862, A20, H⟩ := obE H
        by_cases c21 : t862 = true
        ·subst c21
         replace H := ifT H
         have c22b0 := eq_true (ofd : 0 ≤ x22_2)
         obtain ⟨ji23, hji23⟩ : ∃ j_ : Int, (shl .i64 1 x22_2) = j_ := ⟨_, rfl⟩
         first | rw [hji23] at H | simp only [hji23] at H
         (try rw [hji23] at A20)
         have hji23_ : (IntKind.i64.wrap (1 * 2 ^ min x22_2.toNat 64)) = ji23 := hji23
         have hji23z : x22_2 ≤ 64 → (IntKind.i64.wrap (1 * 2 ^ x22_2.toNat)) = ji23 := shl_small hji23
         have hji23u : (IntKind.i64.wrap (2 ^ min x22_2.toNat 64)) = ji23 := by have h_ := hji23_; rw [Int.one_mul] at h_; exact h_
         have hji23v : x22_2 ≤ 64 → (IntKind.i64.wrap (2 ^ x22_2.toNat)) = ji23 := fun hle_ => by have h_ := hji23z hle_; rw [Int.one_mul] at h_; exact h_
         have hji23y : (wrap64 (1 * 2 ^ min x22_2.toNat 64)) = ji23 := (i64_w _).symm.trans hji23_
         have hji23x : x22_2 ≤ 64 → (wrap64 (1 * 2 ^ x22_2.toNat)) = ji23 := fun h_ => (i64_w _).symm.trans (hji23z h_)
         have H' := mkA H
         clear H
         have p860 : 0 ≤ (x22_2 : Int) := ofd
         have q860 : x22_2 < (t857.length : Int) := ofd
         obtain ⟨ad860, e860, hx860_0, hx860_1⟩ := at_T39 (Kd.R_reads' HO_20.out).2.2 x22_2 p860 q860
         cases e860
         replace p860 := eq_true p860
         replace q860 := eq_true q860
         go_wp2_with (first | ((with_reducible refine gate_dst (N := 8) rfl ?_); refine boxE (N := 8) (cs := #[.int .i64 0, .int .i64 0]) (t := 39) ?_; intro gb861 hg w24 hbox hb; replace HO_4 := rB HO_4 hb; replace HO_20 := mkA (Kd.R_below (Kd.R_elderB (Kd.R_g HO_20.out) gb861 (Nat.le_of_eq hg.symm)) hb); have BK861 := mkA (hbox); have GE861 := geB HB hg; have NB851_861 := neL7 BK851 hg; have NB861_851 := neR7 BK851 hg; replace BK851 := blkB BK851 hb; replace HB := bst HB hb; clear hb hbox hg; obtain ⟨_, _, _, _⟩ := blk2 BK861) | ((with_reducible refine gate_callee (f := 50) rfl ?_); refine goesQ (some 32) Tryd.func50 #[.int .i64 x5_1, .int .i64 ((rd_T39 t857 x22_2).f0), .int .i64 ((rd_T39 t857 x22_2).f1)] ?_; (with_reducible refine (spec_l1In.calls x5_1 ((rd_T39 t857 x22_2).f0) ((rd_T39 t857 x22_2).f1) true _ A20.out).mono ?_); rintro e w' ⟨rfl, ⟨nd, rfl⟩⟩; refine ⟨_, rfl, ?_⟩))
         go_roundg k2
         case measure => have := HK1.out; have := HK2.out; omega
         case rel => exact ⟨(Go.bits .or .i64 x6_2 (ji23)), (wrap64 (x22_2 + 1)), (by first | rfl | (simp; done) | (simp only [← hji23] <;> (first | rfl | simp)) | (simp [*]; done)), eqS, H', ⟨by have := HK1.out; have := HK2.out; omega⟩, ⟨Kd.R_g (Kd.R_mono (Kd.R_far (p := ⟨gb861, 1, none⟩) (Kd.R_far (p := ⟨gb861, 0, none⟩) (Kd.R_types HO_4.out BK861.out (by decide)) (fun _ hk => hk.2) (.int .i64 ((rd_T39 t857 x22_2).f0))) (fun _ hk => hk.2) (.int .i64 ((rd_T39 t857 x22_2).f1))) (fun _ hk => trivial))⟩, ⟨Kd.R_g (Kd.R_mono (Kd.R_far (p := ⟨gb861, 1, none⟩) (Kd.R_far (p := ⟨gb861, 0, none⟩) (Kd.R_mono HO_20.out (fun k_ hk => (⟨hk, hk.2⟩ : _ ∧ k_ ≠ gb861))) (fun _ hk => hk.2) (.int .i64 ((rd_T39 t857 x22_2).f0))) (fun _ hk => hk.2) (.int .i64 ((rd_T39 t857 x22_2).f1))) (fun _ hk => trivial))⟩, ⟨blkT BK851⟩, hbg HB⟩
        ·replace c21 := Bool.eq_false_iff.mpr c21
         subst c21
         replace H := ifF H
         have H' := mkA H
         clear H
         have p860 : 0 ≤ (x22_2 : Int) := ofd
         have q860 : x22_2 < (t857.length : Int) := ofd
         obtain ⟨ad860, e860, hx860_0, hx860_1⟩ := at_T39 (Kd.R_reads' HO_20.out).2.2 x22_2 p860 q860
         cases e860
         replace p860 := eq_true p860
         replace q860 := eq_true q860
         go_wp2_with (first | ((with_reducible refine gate_dst (N := 8) rfl ?_); refine boxE (N := 8) (cs := #[.int .i64 0, .int .i64 0]) (t := 39) ?_; intro gb861 hg w27 hbox hb; replace HO_4 := rB HO_4 hb; replace HO_20 := mkA (Kd.R_below (Kd.R_elderB (Kd.R_g HO_20.out) gb861 (Nat.le_of_eq hg.symm)) hb); have BK861 := mkA (hbox); have GE861 := geB HB hg; have NB851_861 := neL7 BK851 hg; have NB861_851 := neR7 BK851 hg; replace BK851 := blkB BK851 hb; replace HB := bst HB hb; clear hb hbox hg; obtain ⟨_, _, _, _⟩ := blk2 BK861) | ((with_reducible refine gate_callee (f := 50) rfl ?_); refine goesQ (some 32) Tryd.func50 #[.int .i64 x5_1, .int .i64 ((rd_T39 t857 x22_2).f0), .int .i64 ((rd_T39 t857 x22_2).f1)] ?_; (with_reducible refine (spec_l1In.calls x5_1 ((rd_T39 t857 x22_2).f0) ((rd_T39 t857 x22_2).f1) false _ A20.out).mono ?_); rintro e w' ⟨rfl, ⟨nd, rfl⟩⟩; refine ⟨_, rfl, ?_⟩))
         go_roundg k2
         case measure => have := HK1.out; have := HK2.out; omega
         case rel => exact ⟨(x6_2), (wrap64 (x22_2 + 1)), eqS, eqS, H', ⟨by have := HK1.out; have := HK2.out; omega⟩, ⟨Kd.R_g (Kd.R_mono (Kd.R_far (p := ⟨gb861, 1, none⟩) (Kd.R_far (p := ⟨gb861, 0, none⟩) (Kd.R_types HO_4.out BK861.out (by decide)) (fun _ hk => hk.2) (.int .i64 ((rd_T39 t857 x22_2).f0))) (fun _ hk => hk.2) (.int .i64 ((rd_T39 t857 x22_2).f1))) (fun _ hk => trivial))⟩, ⟨Kd.R_g (Kd.R_mono (Kd.R_far (p := ⟨gb861, 1, none⟩) (Kd.R_far (p := ⟨gb861, 0, none⟩) (Kd.R_mono HO_20.out (fun k_ hk => (⟨hk, hk.2⟩ : _ ∧ k_ ≠ gb861))) (fun _ hk => hk.2) (.int .i64 ((rd_T39 t857 x22_2).f0))) (fun _ hk => hk.2) (.int .i64 ((rd_T39 t857 x22_2).f1))) (fun _ hk => trivial))⟩, ⟨blkT BK851⟩, hbg HB⟩
       ·obtain ⟨c30, H⟩ := itNP H
        have LMc30 := mkA c30
        clear c30
        obtain ⟨y863, hy863⟩ : ∃ y_ : List Int, y_ = (x4_1 ++ [x6_2]) := ⟨_, rfl⟩
        rw [← hy863] at H
        have Ny863 := mkA hy863
        clear hy863
        have H' := mkA H
        clear H
        go_wp2_with (first | ((with_reducible refine gate_builtin (b := .append) (xs := #[.tmp 38, .tmp 40]) rfl ?_); at_builtin; refine Kd.R_append (Kd.int .i64) (w0 := w) w.heap.size rfl (.tmp 38) (.tmp 40) 24 3 (.int .i64 0) 8 rfl Tryd.underlying24 info3 rfl (by decide) (by omega) u4 x4_1 x6_2 [.int .i64 x6_2] (fun _ => True) (fun _ => False) rfl rfl ?aP (fun _ hk => hk.elim) ?aF ?aO ?aB ?aS ?aL ?_; (case aP => exact rfl); (case aB => exact (bel_g HB.out)); (case aF => exact (fun _ _ => trivial)); (case aO => exact (Kd.R_g HO_4.out)); (case aS => exact (below_size (bel_g HB.out))); (case aL => have := LMc30.out; omega); intro v864 w31 ho hb hg hat; rw [← Ny863.out] at ho; replace HO_20 := mkA (Kd.R_over' (Kd.R_g HO_20.out) (Kd.R_typed (Kd.R_g HO_4.out)) (by decide) hg); replace BK851 := mkA (blk_grown (g := gb851) (o := .cells #[.int .i64 a0_0, .slice A0_1 l0_1.length c0_1] 26 (0, 0)) (blk_g BK851.out) hg (Kd.R_ne HO_4.out BK851.out (by decide))); have HO865 := mkA (ho); replace HB := mkA (hb); clear HO_4; clear ho hb hg hat))
        go_roundg k2
        case measure => have := HK1.out; have := HK2.out; omega
        case rel => exact ⟨(y863), (wrap64 (x5_1 + 1)), eqS, H', ⟨by have := HK1.out; have := HK2.out; omega⟩, rg HO865, bg BK851, hbg HB⟩
    ·simp only [Option.some.injEq, Prod.mk.injEq] at H
     obtain ⟨rfl, rfl⟩ := H
     obtain ⟨_, _, _, _⟩ := blk2 BK851
     go_wp2_with (first | ((with_reducible refine gate_callee (f := 49) rfl ?_); refine goesQ (some 14) Tryd.func49 #[.agg #[.int .i64 a0_0, .slice A0_1 l0_1.length c0_1]] ?_; (with_reducible refine (spec_ivLevels.calls k1 a0_0 _ _ l0_1 t853 _ ?_ ?_ A7.out).mono ?_); exact C_g HR0_1 HB; exact HC0_1.out; rintro e w33 ⟨v854, rfl, ho0, hb⟩; refine ⟨_, rfl, ?_⟩; have HO855 := rLo (rN ho0 HO_4) HB; replace HO_4 := rE HO_4 ho0 hb; replace BK851 := blkB BK851 hb; replace HB := bst HB hb; clear hb ho0; obtain ⟨Ao34, co34, rfl⟩ := Kd.R_slice HO855.out) | ((with_reducible refine gate_callee (f := 48) rfl ?_); refine goesQ (some 15) Tryd.func48 #[.slice Ao34 t853.length co34] ?_; (with_reducible refine (spec_ivMost.calls k1 _ _ t853 t856 _ ?_ ?_ A8.out).mono ?_); exact rC HO855; exact rL HO855; rintro e w' ⟨rfl, ⟨nd, rfl⟩⟩; refine ⟨_, rfl, ?_⟩))
     go_ret2
     exact ⟨_, eqE, Kd.R_g (Kd.R_mono HO_4.out (fun _ hk => trivial)), bel_g HB.out⟩
 ·replace c3 := Bool.eq_false_iff.mpr c3
  subst c3
  replace H := ifF H
  simp only [Option.some.injEq, Prod.mk.injEq] at H
  obtain ⟨rfl, rfl⟩ := H
  go_enter Tryd.func24, Tryd.ntmps24
  go_wp2_with (first | ((with_reducible refine gate_dst (N := 1) rfl ?_); refine boxG HB #[.int .i64 a0_0, .slice A0_1 l0_1.length c0_1] 26 ?_; intro gb851 hg w35 BK851 GE851 hb; replace HB := bst HB hb; clear hb hg; obtain ⟨_, _, _, _⟩ := blk2 BK851) | ((with_reducible refine gate_callee (f := 33) rfl ?_); refine goesQ (some 10) Tryd.func33 #[.agg #[.int .i64 a0_0, .slice A0_1 l0_1.length c0_1]] ?_; (with_reducible refine (spec_ivGoodOrder.calls k a0_0 _ _ l0_1 false _ ?_ ?_ A2.out).mono ?_); exact C_g HR0_1 HB; exact HC0_1.out; rintro e w37 ⟨rfl, hb⟩; refine ⟨_, rfl, ?_⟩; replace BK851 := blkB BK851 hb; replace HB := bst HB hb; clear hb))
  go_ret2
  exact ⟨_, eqE, nilE, bel_g HB.out⟩
def impl_Order_all.f (a0_0 : Int) (l0_1 : List Int) : Option (Int) := if 0 ≤ a0_0 then (some (wrap64 ((shl .i64 1 a0_0) - 1))) else (none)
theorem impl_Order_all.calls (a0_0 : Int) (A0_1 : Option Addr) (c0_1 : Nat) (l0_1 : List Int) (r : Int) (w : World) (hr0_1 : Kd.C (Kd.int .i64) w A0_1 l0_1.length l0_1) (hc0_1 : l0_1.length ≤ c0_1) (h : impl_Order_all.f a0_0 l0_1 = some r) :
  Calls Tryd.prog 74 #[.agg #[.int .i64 a0_0, .slice A0_1 l0_1.length c0_1]] w fun e w' => e = .returned (.int .i64 r) ∧ Below w.heap.size w w' := by
 have hu26 := Tryd.underlying26
 have HR0_1 := mkA hr0_1
 have HC0_1 := mkA hc0_1
 clear hr0_1 hc0_1
 have HB := mkA (Below.refl w.heap.size w)
 have H := h
 clear h
 unfold impl_Order_all.f at H
 obtain ⟨c2b0, c2b1, H⟩ := itNQ H
 obtain ⟨ji3, hji3⟩ : ∃ j_ : Int, (shl .i64 1 a0_0) = j_ := ⟨_, rfl⟩
 first | rw [hji3] at H | simp only [hji3] at H
 have hji3_ : (IntKind.i64.wrap (1 * 2 ^ min a0_0.toNat 64)) = ji3 := hji3
 have hji3z : a0_0 ≤ 64 → (IntKind.i64.wrap (1 * 2 ^ a0_0.toNat)) = ji3 := shl_small hji3
 have hji3u : (IntKind.i64.wrap (2 ^ min a0_0.toNat 64)) = ji3 := by have h_ := hji3_; rw [Int.one_mul] at h_; exact h_
 have hji3v : a0_0 ≤ 64 → (IntKind.i64.wrap (2 ^ a0_0.toNat)) = ji3 := fun hle_ => by have h_ := hji3z hle_; rw [Int.one_mul] at h_; exact h_
 have hji3y : (wrap64 (1 * 2 ^ min a0_0.toNat 64)) = ji3 := (i64_w _).symm.trans hji3_
 have hji3x : a0_0 ≤ 64 → (wrap64 (1 * 2 ^ a0_0.toNat)) = ji3 := fun h_ => (i64_w _).symm.trans (hji3z h_)
 obtain rfl := Option.some.inj H
 go_enter Tryd.func74, Tryd.ntmps74
 go_wp2_with (first | ((with_reducible refine gate_dst (N := 1) rfl ?_); refine boxG HB #[.int .i64 a0_0, .slice A0_1 l0_1.length c0_1] 26 ?_; intro gb866 hg w4 BK866 GE866 hb; replace HB := bst HB hb; clear hb hg; obtain ⟨_, _, _, _⟩ := blk2 BK866))
 go_ret
 exact ⟨by first | rfl | (simp [errW_none, errW_some] <;> rfl) | (simp only [← hji3]; first | rfl | (simp [errW_none, errW_some] <;> rfl)) | (simp [*, errW_none, errW_some] <;> rfl), bel_g HB.out⟩
end Go.Proofs.YtdmheeenoklijaaDoor.Q
