import Derived.Test.YtdmheeenoklijaaDoorBFnSetsAlong7
import Derived.Test.YtdmheeenoklijaaDoorBFnSetsAlong10
namespace Go.Proofs.YtdmheeenoklijaaDoor.Q
open Go.RowKit Go.Proofs.YtdmheeenoklijaaDoorW.PrintWords Go.Proofs.YtdmheeenoklijaaDoorW.PrintLast Go.Proofs.YtdmheeenoklijaaDoorW.PrintMore
attribute [local go_sem] max2_int min2_int max_two min_two max_three min_three max_four min_four neB_f
set_option linter.unusedVariables false
set_option maxHeartbeats 8000000
set_option maxRecDepth 100000
set_option linter.unusedSimpArgs false
mutual
def impl_Order_setsAlong.l0 : Nat → List Int → List (S39) → Int → Int → Option (List Int)
 | 0, _, _, _, _ => none
 | k + 1, x3, x4, x13, x14 => if x14 < x13 then (impl_Order_setsAlong.l1 k x3 x4 x14 0 x13 x14 x4 (x4.length : Int) 0) else (some x3)
def impl_Order_setsAlong.l1 : Nat → List Int → List (S39) → Int → Int → Int → Int → List (S39) → Int → Int → Option (List Int)
 | 0, _, _, _, _, _, _, _, _, _ => none
 | k + 1, x3, x4, x5, x6, x13, x14, x17, x18, x19 => if x19 < x18 then (if 0 ≤ x19 then (if x19 < (x17.length : Int) then ((impl_within.f x5 ((rd_T39 x17 x19).f0) ((rd_T39 x17 x19).f1)).bind fun t840 => (if t840 = true then (impl_Order_setsAlong.l1 k x3 x4 x5 (Go.bits .or .i64 x6 (shl .i64 1 x19)) x13 x14 x17 x18 (wrap64 (x19 + 1))) else (impl_Order_setsAlong.l1 k x3 x4 x5 x6 x13 x14 x17 x18 (wrap64 (x19 + 1))))) else (none)) else (none)) else (if x3.length < 17592186044416 then (impl_Order_setsAlong.l0 k (x3 ++ [x6]) x4 x13 (wrap64 (x14 + 1))) else (none))
end
def impl_Order_setsAlong.f (k : Nat) (a0_0 : Int) (l0_1 : List Int) : Option (List Int) := (impl_Order_ends.f k a0_0 l0_1).bind fun t834 => ((impl_Order_magnitude.f k a0_0 l0_1).bind fun t837 => (impl_Order_setsAlong.l0 k (([] : List Int)) t834 t837 0))
theorem impl_Order_setsAlong.mono_l : ∀ k, (∀ y0 y1 y2 y3, LeO (impl_Order_setsAlong.l0 k y0 y1 y2 y3) (impl_Order_setsAlong.l0 (k + 1) y0 y1 y2 y3)) ∧ (∀ y0 y1 y2 y3 y4 y5 y6 y7 y8, LeO (impl_Order_setsAlong.l1 k y0 y1 y2 y3 y4 y5 y6 y7 y8) (impl_Order_setsAlong.l1 (k + 1) y0 y1 y2 y3 y4 y5 y6 y7 y8))
 | 0 => ⟨fun _ _ _ _ r h => by simp [impl_Order_setsAlong.l0] at h, fun _ _ _ _ _ _ _ _ _ r h => by simp [impl_Order_setsAlong.l1] at h⟩
 | k + 1 => by
  obtain ⟨ih0, ih1⟩ := impl_Order_setsAlong.mono_l k
  refine ⟨?_, ?_⟩ <;> intros
  unfold impl_Order_setsAlong.l0
  rotate_left
  unfold impl_Order_setsAlong.l1
  rotate_left
  all_goals repeat' (with_reducible first|apply ih0|apply ih1|apply impl_Order_ends.mono|apply impl_Order_magnitude.mono|apply LeO.refl|apply LeO.none|apply LeO.ite|apply LeO.bind|intro)
theorem impl_Order_setsAlong.mono : ∀ a0 a1 k, LeO (impl_Order_setsAlong.f k a0 a1) (impl_Order_setsAlong.f (k + 1) a0 a1) := by
 intro a0 a1 k
 obtain ⟨ih0, ih1⟩ := impl_Order_setsAlong.mono_l k
 unfold impl_Order_setsAlong.f
 repeat' (with_reducible first|apply ih0|apply ih1|apply impl_Order_ends.mono|apply impl_Order_magnitude.mono|apply LeO.refl|apply LeO.none|apply LeO.ite|apply LeO.bind|intro)
theorem impl_Order_setsAlong.calls (k : Nat) (a0_0 : Int) (A0_1 : Option Addr) (c0_1 : Nat) (l0_1 : List Int) (r : List Int) (w : World) (hr0_1 : Kd.C (Kd.int .i64) w A0_1 l0_1.length l0_1) (hc0_1 : l0_1.length ≤ c0_1) (h : impl_Order_setsAlong.f k a0_0 l0_1 = some r) :
  Calls Tryd.prog 47 #[.agg #[.int .i64 a0_0, .slice A0_1 l0_1.length c0_1]] w fun e w' => ∃ v0_ : Value, e = .returned (v0_) ∧ Kd.R (Kd.int .i64) 3 w' w.heap.size (fun _ => True) v0_ r ∧ Below w.heap.size w w' := by
 have hu26 := Tryd.underlying26
 have hu39 := Tryd.underlying39
 have HR0_1 := mkA hr0_1
 have HC0_1 := mkA hc0_1
 clear hr0_1 hc0_1
 have HB := mkA (Below.refl w.heap.size w)
 have H := h
 clear h
 unfold impl_Order_setsAlong.f at H
 obtain ⟨y831, hy831⟩ : ∃ y_ : List Int, y_ = (([] : List Int)) := ⟨_, rfl⟩
 rw [← hy831] at H
 have Ny831 := mkA hy831
 clear hy831
 obtain ⟨t834, A2, H⟩ := obE H
 obtain ⟨t837, A3, H⟩ := obE H
 have H' := mkA H
 clear H
 go_enter Tryd.func47, Tryd.ntmps47
 go_wp2_with (first | ((with_reducible refine gate_dst (N := 1) rfl ?_); refine boxG HB #[.int .i64 a0_0, .slice A0_1 l0_1.length c0_1] 26 ?_; intro gb830 hg w4 BK830 GE830 hb; replace HB := bst HB hb; clear hb hg) | ((with_reducible refine gate_dst (N := 9) rfl ?_); refine litE (Kd.int .i64) 3 ([] : List Int) [] ?hp ?_; (case hp => exact (Reps.none _ _)); intro v832 w5 ho6 hb hg_ hnew_; clear hg_ hnew_; (first | rw [← Ny831.out] at ho6 | (simp only [Int.reduceToNat] at ho6; rw [← Ny831.out] at ho6)); have HO833 := rLo ho6 HB; replace BK830 := blkB BK830 hb; replace HB := bst HB hb; clear hb ho6; obtain ⟨_, _, _, _⟩ := blk2 BK830) | ((with_reducible refine gate_callee (f := 32) rfl ?_); refine goesQ (some 11) Tryd.func32 #[.agg #[.int .i64 a0_0, .slice A0_1 l0_1.length c0_1]] ?_; (with_reducible refine (impl_Order_ends.calls k a0_0 _ _ l0_1 t834 _ ?_ ?_ A2.out).mono ?_); exact C_g HR0_1 HB; exact HC0_1.out; rintro e w8 ⟨v835, rfl, ho0, hb⟩; refine ⟨_, rfl, ?_⟩; replace HO833 := rB HO833 hb; have HO836 := rLo ho0 HB; replace BK830 := blkB BK830 hb; replace HB := bst HB hb; clear hb ho0; obtain ⟨_, _, _, _⟩ := blk2 BK830) | ((with_reducible refine gate_callee (f := 37) rfl ?_); refine goesQ (some 13) Tryd.func37 #[.agg #[.int .i64 a0_0, .slice A0_1 l0_1.length c0_1]] ?_; (with_reducible refine (impl_Order_magnitude.calls k a0_0 _ _ l0_1 t837 _ ?_ ?_ A3.out).mono ?_); exact C_g HR0_1 HB; exact HC0_1.out; rintro e w10 ⟨rfl, hb⟩; refine ⟨_, rfl, ?_⟩; replace HO833 := rB HO833 hb; replace HO836 := rB HO836 hb; replace BK830 := blkB BK830 hb; replace HB := bst HB hb; clear hb))
 go_loopg [3, 14] k (fun kq v3 v14 w' => ∃ (x3_1 : List Int) (x14_1 : Int), v14 = .int .i64 x14_1 ∧ Fc (impl_Order_setsAlong.l0 kq x3_1 t834 t837 x14_1 = some r) ∧ Fc (kq ≤ k) ∧ Fc (Kd.R (Kd.int .i64) 3 w' w.heap.size (fun _ => True) v3 x3_1) ∧ Fc (Kd.R k39 39 w' w.heap.size (fun _ => True) v835 t834) ∧ Fc (w'.heap[gb830]? = some (.cells #[.int .i64 a0_0, (.slice A0_1 l0_1.length c0_1)] 26 (0, 0))) ∧ Fc (Below w.heap.size w w'))
 case atStart => exact ⟨(y831), (0), eqS, H', ⟨Nat.le_refl _⟩, rg HO833, rg HO836, bg BK830, hbg HB⟩
 case round =>
  clear H'
  obtain ⟨x3_1, x14_1, rfl, HA, HK1, HO_3, HO_4, BK830, HB⟩ := hrel
  cases gk with
  | zero => exact absurd HA.out (by simp [impl_Order_setsAlong.l0])
  | succ k1 =>
   have H := HA.out
   clear HA
   simp only [impl_Order_setsAlong.l0] at H
   rcases iteE H with ⟨c11b0, H⟩ | ⟨c11b0, H⟩
   ·have H' := mkA H
    clear H
    obtain ⟨Ao12, co12, rfl⟩ := Kd.R_slice HO_4.out
    go_wp2
    go_loopg [6, 19] k1 (fun kq v6 v19 w' => ∃ (x6_2 : Int) (x19_2 : Int), v6 = .int .i64 x6_2 ∧ v19 = .int .i64 x19_2 ∧ Fc (impl_Order_setsAlong.l1 kq x3_1 t834 x14_1 x6_2 t837 x14_1 t834 (t834.length : Int) x19_2 = some r) ∧ Fc (kq ≤ k1) ∧ Fc (Kd.R (Kd.int .i64) 3 w' w.heap.size (fun _ => True) u3 x3_1) ∧ Fc (Kd.R k39 39 w' w.heap.size (fun _ => True) (.slice Ao12 t834.length co12) t834) ∧ Fc (Kd.R k39 39 w' w.heap.size (fun _ => True) (.slice Ao12 t834.length co12) t834) ∧ Fc (w'.heap[gb830]? = some (.cells #[.int .i64 a0_0, (.slice A0_1 l0_1.length c0_1)] 26 (0, 0))) ∧ Fc (Below w.heap.size w w'))
    case atStart => exact ⟨(0), (0), eqS, eqS, H', ⟨Nat.le_refl _⟩, rg HO_3, rg HO_4, rg HO_4, bg BK830, hbg HB⟩
    case round =>
     clear H'
     try clear c11b0
     obtain ⟨x6_2, x19_2, rfl, rfl, HA, HK2, HO_3, HO_4, HO_17, BK830, HB⟩ := hrel
     cases gk with
     | zero => exact absurd HA.out (by simp [impl_Order_setsAlong.l1])
     | succ k2 =>
      have H := HA.out
      clear HA
      simp only [impl_Order_setsAlong.l1] at H
      rcases iteE H with ⟨c13b0, H⟩ | ⟨c13b0, H⟩
      ·obtain ⟨c14b0, H⟩ := itND H
       obtain ⟨c15b0, H⟩ := itND H
       obtain ⟨t840, A16, H⟩ := obE H
       by_cases c17 : t840 = true
       ·subst c17
        replace H := ifT H
        have c18b0 := eq_true (ofd : 0 ≤ x19_2)
        obtain ⟨ji19, hji19⟩ : ∃ j_ : Int, (shl .i64 1 x19_2) = j_ := ⟨_, rfl⟩
        first | rw [hji19] at H | simp only [hji19] at H
        (try rw [hji19] at A16)
        have hji19_ : (IntKind.i64.wrap (1 * 2 ^ min x19_2.toNat 64)) = ji19 := hji19
        have hji19z : x19_2 ≤ 64 → (IntKind.i64.wrap (1 * 2 ^ x19_2.toNat)) = ji19 := shl_small hji19
        have hji19u : (IntKind.i64.wrap (2 ^ min x19_2.toNat 64)) = ji19 := by have h_ := hji19_; rw [Int.one_mul] at h_; exact h_
        have hji19v : x19_2 ≤ 64 → (IntKind.i64.wrap (2 ^ x19_2.toNat)) = ji19 := fun hle_ => by have h_ := hji19z hle_; rw [Int.one_mul] at h_; exact h_
        have hji19y : (wrap64 (1 * 2 ^ min x19_2.toNat 64)) = ji19 := (i64_w _).symm.trans hji19_
        have hji19x : x19_2 ≤ 64 → (wrap64 (1 * 2 ^ x19_2.toNat)) = ji19 := fun h_ => (i64_w _).symm.trans (hji19z h_)
        have H' := mkA H
        clear H
        have p838 : 0 ≤ (x19_2 : Int) := ofd
        have q838 : x19_2 < (t834.length : Int) := ofd
        obtain ⟨ad838, e838, hx838_0, hx838_1⟩ := at_T39 (Kd.R_reads' HO_17.out).2.2 x19_2 p838 q838
        cases e838
        replace p838 := eq_true p838
        replace q838 := eq_true q838
        go_wp2_with (first | ((with_reducible refine gate_dst (N := 8) rfl ?_); refine boxE (N := 8) (cs := #[.int .i64 0, .int .i64 0]) (t := 39) ?_; intro gb839 hg w20 hbox hb; replace HO_3 := rB HO_3 hb; replace HO_4 := mkA (Kd.R_below (Kd.R_elderB (Kd.R_g HO_4.out) gb839 (Nat.le_of_eq hg.symm)) hb); replace HO_17 := mkA (Kd.R_below (Kd.R_elderB (Kd.R_g HO_17.out) gb839 (Nat.le_of_eq hg.symm)) hb); have BK839 := mkA (hbox); have GE839 := geB HB hg; have NB830_839 := neL7 BK830 hg; have NB839_830 := neR7 BK830 hg; replace BK830 := blkB BK830 hb; replace HB := bst HB hb; clear hb hbox hg; obtain ⟨_, _, _, _⟩ := blk2 BK839) | ((with_reducible refine gate_callee (f := 45) rfl ?_); refine goesQ (some 29) Tryd.func45 #[.int .i64 x14_1, .int .i64 ((rd_T39 t834 x19_2).f0), .int .i64 ((rd_T39 t834 x19_2).f1)] ?_; (with_reducible refine (impl_within.calls x14_1 ((rd_T39 t834 x19_2).f0) ((rd_T39 t834 x19_2).f1) true _ A16.out).mono ?_); rintro e w' ⟨rfl, ⟨nd, rfl⟩⟩; refine ⟨_, rfl, ?_⟩))
        go_roundg k2
        case measure => have := HK1.out; have := HK2.out; omega
        case rel => exact ⟨(Go.bits .or .i64 x6_2 (ji19)), (wrap64 (x19_2 + 1)), (by first | rfl | (simp; done) | (simp only [← hji19] <;> (first | rfl | simp)) | (simp [*]; done)), eqS, H', ⟨by have := HK1.out; have := HK2.out; omega⟩, ⟨Kd.R_g (Kd.R_mono (Kd.R_far (p := ⟨gb839, 1, none⟩) (Kd.R_far (p := ⟨gb839, 0, none⟩) (Kd.R_types HO_3.out BK839.out (by decide)) (fun _ hk => hk.2) (.int .i64 ((rd_T39 t834 x19_2).f0))) (fun _ hk => hk.2) (.int .i64 ((rd_T39 t834 x19_2).f1))) (fun _ hk => trivial))⟩, ⟨Kd.R_g (Kd.R_mono (Kd.R_far (p := ⟨gb839, 1, none⟩) (Kd.R_far (p := ⟨gb839, 0, none⟩) (Kd.R_mono HO_4.out (fun k_ hk => (⟨hk, hk.2⟩ : _ ∧ k_ ≠ gb839))) (fun _ hk => hk.2) (.int .i64 ((rd_T39 t834 x19_2).f0))) (fun _ hk => hk.2) (.int .i64 ((rd_T39 t834 x19_2).f1))) (fun _ hk => trivial))⟩, ⟨Kd.R_g (Kd.R_mono (Kd.R_far (p := ⟨gb839, 1, none⟩) (Kd.R_far (p := ⟨gb839, 0, none⟩) (Kd.R_mono HO_17.out (fun k_ hk => (⟨hk, hk.2⟩ : _ ∧ k_ ≠ gb839))) (fun _ hk => hk.2) (.int .i64 ((rd_T39 t834 x19_2).f0))) (fun _ hk => hk.2) (.int .i64 ((rd_T39 t834 x19_2).f1))) (fun _ hk => trivial))⟩, ⟨blkT BK830⟩, hbg HB⟩
       ·replace c17 := Bool.eq_false_iff.mpr c17
        subst c17
        replace H := ifF H
        have H' := mkA H
        clear H
        have p838 : 0 ≤ (x19_2 : Int) := ofd
        have q838 : x19_2 < (t834.length : Int) := ofd
        obtain ⟨ad838, e838, hx838_0, hx838_1⟩ := at_T39 (Kd.R_reads' HO_17.out).2.2 x19_2 p838 q838
        cases e838
        replace p838 := eq_true p838
        replace q838 := eq_true q838
        go_wp2_with (first | ((with_reducible refine gate_dst (N := 8) rfl ?_); refine boxE (N := 8) (cs := #[.int .i64 0, .int .i64 0]) (t := 39) ?_; intro gb839 hg w23 hbox hb; replace HO_3 := rB HO_3 hb; replace HO_4 := mkA (Kd.R_below (Kd.R_elderB (Kd.R_g HO_4.out) gb839 (Nat.le_of_eq hg.symm)) hb); replace HO_17 := mkA (Kd.R_below (Kd.R_elderB (Kd.R_g HO_17.out) gb839 (Nat.le_of_eq hg.symm)) hb); have BK839 := mkA (hbox); have GE839 := geB HB hg; have NB830_839 := neL7 BK830 hg; have NB839_830 := neR7 BK830 hg; replace BK830 := blkB BK830 hb; replace HB := bst HB hb; clear hb hbox hg; obtain ⟨_, _, _, _⟩ := blk2 BK839) | ((with_reducible refine gate_callee (f := 45) rfl ?_); refine goesQ (some 29) Tryd.func45 #[.int .i64 x14_1, .int .i64 ((rd_T39 t834 x19_2).f0), .int .i64 ((rd_T39 t834 x19_2).f1)] ?_; (with_reducible refine (impl_within.calls x14_1 ((rd_T39 t834 x19_2).f0) ((rd_T39 t834 x19_2).f1) false _ A16.out).mono ?_); rintro e w' ⟨rfl, ⟨nd, rfl⟩⟩; refine ⟨_, rfl, ?_⟩))
        go_roundg k2
        case measure => have := HK1.out; have := HK2.out; omega
        case rel => exact ⟨(x6_2), (wrap64 (x19_2 + 1)), eqS, eqS, H', ⟨by have := HK1.out; have := HK2.out; omega⟩, ⟨Kd.R_g (Kd.R_mono (Kd.R_far (p := ⟨gb839, 1, none⟩) (Kd.R_far (p := ⟨gb839, 0, none⟩) (Kd.R_types HO_3.out BK839.out (by decide)) (fun _ hk => hk.2) (.int .i64 ((rd_T39 t834 x19_2).f0))) (fun _ hk => hk.2) (.int .i64 ((rd_T39 t834 x19_2).f1))) (fun _ hk => trivial))⟩, ⟨Kd.R_g (Kd.R_mono (Kd.R_far (p := ⟨gb839, 1, none⟩) (Kd.R_far (p := ⟨gb839, 0, none⟩) (Kd.R_mono HO_4.out (fun k_ hk => (⟨hk, hk.2⟩ : _ ∧ k_ ≠ gb839))) (fun _ hk => hk.2) (.int .i64 ((rd_T39 t834 x19_2).f0))) (fun _ hk => hk.2) (.int .i64 ((rd_T39 t834 x19_2).f1))) (fun _ hk => trivial))⟩, ⟨Kd.R_g (Kd.R_mono (Kd.R_far (p := ⟨gb839, 1, none⟩) (Kd.R_far (p := ⟨gb839, 0, none⟩) (Kd.R_mono HO_17.out (fun k_ hk => (⟨hk, hk.2⟩ : _ ∧ k_ ≠ gb839))) (fun _ hk => hk.2) (.int .i64 ((rd_T39 t834 x19_2).f0))) (fun _ hk => hk.2) (.int .i64 ((rd_T39 t834 x19_2).f1))) (fun _ hk => trivial))⟩, ⟨blkT BK830⟩, hbg HB⟩
      ·obtain ⟨c26, H⟩ := itNP H
       have LMc26 := mkA c26
       clear c26
       obtain ⟨y841, hy841⟩ : ∃ y_ : List Int, y_ = (x3_1 ++ [x6_2]) := ⟨_, rfl⟩
       rw [← hy841] at H
       have Ny841 := mkA hy841
       clear hy841
       have H' := mkA H
       clear H
       go_wp2_with (first | ((with_reducible refine gate_builtin (b := .append) (xs := #[.tmp 35, .tmp 37]) rfl ?_); at_builtin; refine Kd.R_append (Kd.int .i64) (w0 := w) w.heap.size rfl (.tmp 35) (.tmp 37) 24 3 (.int .i64 0) 8 rfl Tryd.underlying24 info3 rfl (by decide) (by omega) u3 x3_1 x6_2 [.int .i64 x6_2] (fun _ => True) (fun _ => False) rfl rfl ?aP (fun _ hk => hk.elim) ?aF ?aO ?aB ?aS ?aL ?_; (case aP => exact rfl); (case aB => exact (bel_g HB.out)); (case aF => exact (fun _ _ => trivial)); (case aO => exact (Kd.R_g HO_3.out)); (case aS => exact (below_size (bel_g HB.out))); (case aL => have := LMc26.out; omega); intro v842 w27 ho hb hg hat; rw [← Ny841.out] at ho; replace HO_4 := mkA (Kd.R_over' (Kd.R_g HO_4.out) (Kd.R_typed (Kd.R_g HO_3.out)) (by decide) hg); replace HO_17 := mkA (Kd.R_over' (Kd.R_g HO_17.out) (Kd.R_typed (Kd.R_g HO_3.out)) (by decide) hg); replace BK830 := mkA (blk_grown (g := gb830) (o := .cells #[.int .i64 a0_0, .slice A0_1 l0_1.length c0_1] 26 (0, 0)) (blk_g BK830.out) hg (Kd.R_ne HO_3.out BK830.out (by decide))); have HO843 := mkA (ho); replace HB := mkA (hb); clear HO_3; clear ho hb hg hat))
       go_roundg k2
       case measure => have := HK1.out; have := HK2.out; omega
       case rel => exact ⟨(y841), (wrap64 (x14_1 + 1)), eqS, H', ⟨by have := HK1.out; have := HK2.out; omega⟩, rg HO843, rg HO_4, bg BK830, hbg HB⟩
   ·obtain rfl := Option.some.inj H
    go_wp2
    go_ret
    exact ⟨_, eqE, Kd.R_g HO_3.out, bel_g HB.out⟩
def impl_SetsAlong.f (k : Nat) (a0_0 : Int) (l0_1 : List Int) : Option (List Int × Bool) := (impl_isInterval.f k a0_0 l0_1).bind fun t845 => (if t845 = true then ((impl_Order_setsAlong.f k a0_0 l0_1).bind fun t846 => (some (t846, true))) else (some (([] : List Int), false)))
theorem impl_SetsAlong.mono : ∀ a0 a1 k, LeO (impl_SetsAlong.f k a0 a1) (impl_SetsAlong.f (k + 1) a0 a1) := by
 intro a0 a1 k
 unfold impl_SetsAlong.f
 repeat' (with_reducible first|apply impl_Order_setsAlong.mono|apply impl_isInterval.mono|apply LeO.refl|apply LeO.none|apply LeO.ite|apply LeO.bind|intro)
theorem impl_SetsAlong.calls (k : Nat) (a0_0 : Int) (A0_1 : Option Addr) (c0_1 : Nat) (l0_1 : List Int) (r1 : List Int) (r2 : Bool) (w : World) (hr0_1 : Kd.C (Kd.int .i64) w A0_1 l0_1.length l0_1) (hc0_1 : l0_1.length ≤ c0_1) (hTAB : Tab w) (h : impl_SetsAlong.f k a0_0 l0_1 = some (r1, r2)) :
  Calls Tryd.prog 23 #[.agg #[.int .i64 a0_0, .slice A0_1 l0_1.length c0_1]] w fun e w' => ∃ v0_ : Value, e = .returned (.tuple #[v0_, .bool r2]) ∧ Kd.R (Kd.int .i64) 3 w' w.heap.size (fun _ => True) v0_ r1 ∧ Below w.heap.size w w' := by
 have HTAB := mkA hTAB
 clear hTAB
 have hu26 := Tryd.underlying26
 have HR0_1 := mkA hr0_1
 have HC0_1 := mkA hc0_1
 clear hr0_1 hc0_1
 have HB := mkA (Below.refl w.heap.size w)
 have H := h
 clear h
 unfold impl_SetsAlong.f at H
 obtain ⟨t845, A2, H⟩ := obE H
 by_cases c3 : t845 = true
 ·subst c3
  replace H := ifT H
  obtain ⟨t846, A4, H⟩ := obE H
  simp only [Option.some.injEq, Prod.mk.injEq] at H
  obtain ⟨rfl, rfl⟩ := H
  go_enter Tryd.func23, Tryd.ntmps23
  go_wp2_with (first | ((with_reducible refine gate_dst (N := 1) rfl ?_); refine boxG HB #[.int .i64 a0_0, .slice A0_1 l0_1.length c0_1] 26 ?_; intro gb844 hg w5 BK844 GE844 hb; replace HB := bst HB hb; clear hb hg; obtain ⟨_, _, _, _⟩ := blk2 BK844) | ((with_reducible refine gate_callee (f := 31) rfl ?_); refine goesQ (some 5) Tryd.func31 #[.agg #[.int .i64 a0_0, .slice A0_1 l0_1.length c0_1]] ?_; (with_reducible refine (impl_isInterval.calls k a0_0 _ _ l0_1 true _ ?_ ?_ ?_ A2.out).mono ?_); exact C_g HR0_1 HB; exact HC0_1.out; exact Tab.below HTAB.out (bel_g HB.out); rintro e w7 ⟨rfl, hb⟩; refine ⟨_, rfl, ?_⟩; replace BK844 := blkB BK844 hb; replace HB := bst HB hb; clear hb; obtain ⟨_, _, _, _⟩ := blk2 BK844) | ((with_reducible refine gate_callee (f := 47) rfl ?_); refine goesQ (some 8) Tryd.func47 #[.agg #[.int .i64 a0_0, .slice A0_1 l0_1.length c0_1]] ?_; (with_reducible refine (impl_Order_setsAlong.calls k a0_0 _ _ l0_1 t846 _ ?_ ?_ A4.out).mono ?_); exact C_g HR0_1 HB; exact HC0_1.out; rintro e w9 ⟨v847, rfl, ho0, hb⟩; refine ⟨_, rfl, ?_⟩; have HO848 := rLo ho0 HB; replace BK844 := blkB BK844 hb; replace HB := bst HB hb; clear hb ho0))
  go_ret2
  exact ⟨_, eqE, Kd.R_g HO848.out, bel_g HB.out⟩
 ·replace c3 := Bool.eq_false_iff.mpr c3
  subst c3
  replace H := ifF H
  simp only [Option.some.injEq, Prod.mk.injEq] at H
  obtain ⟨rfl, rfl⟩ := H
  go_enter Tryd.func23, Tryd.ntmps23
  go_wp2_with (first | ((with_reducible refine gate_dst (N := 1) rfl ?_); refine boxG HB #[.int .i64 a0_0, .slice A0_1 l0_1.length c0_1] 26 ?_; intro gb844 hg w10 BK844 GE844 hb; replace HB := bst HB hb; clear hb hg; obtain ⟨_, _, _, _⟩ := blk2 BK844) | ((with_reducible refine gate_callee (f := 31) rfl ?_); refine goesQ (some 5) Tryd.func31 #[.agg #[.int .i64 a0_0, .slice A0_1 l0_1.length c0_1]] ?_; (with_reducible refine (impl_isInterval.calls k a0_0 _ _ l0_1 false _ ?_ ?_ ?_ A2.out).mono ?_); exact C_g HR0_1 HB; exact HC0_1.out; exact Tab.below HTAB.out (bel_g HB.out); rintro e w12 ⟨rfl, hb⟩; refine ⟨_, rfl, ?_⟩; replace BK844 := blkB BK844 hb; replace HB := bst HB hb; clear hb))
  go_ret2
  exact ⟨_, eqE, nilE, bel_g HB.out⟩
def spec_orList.l0 : Nat → Int → List Int → Int → Option (List Int)
 | 0, _, _, _ => none
 | k + 1, x0, x3, x4 => if 0 ≤ x4 then (if (shr .i64 x0 x4) > 0 then ((spec_orHas.f x0 x4).bind fun t536 => (if t536 = true then (if x3.length < 17592186044416 then (spec_orList.l0 k x0 (x3 ++ [x4]) (wrap64 (x4 + 1))) else (none)) else (spec_orList.l0 k x0 x3 (wrap64 (x4 + 1))))) else (some x3)) else (none)
def spec_orList.f (k : Nat) (a0 : Int) : Option (List Int) := spec_orList.l0 k a0 ([] : List Int) 0
theorem spec_orList.mono_l : ∀ k, (∀ y0 y1 y2, LeO (spec_orList.l0 k y0 y1 y2) (spec_orList.l0 (k + 1) y0 y1 y2))
 | 0 => fun _ _ _ r h => by simp [spec_orList.l0] at h
 | k + 1 => by
  have ih0 := spec_orList.mono_l k
  ·intro y0 y1 y2
   unfold spec_orList.l0
   repeat' (with_reducible first|apply ih0|apply LeO.refl|apply LeO.none|apply LeO.ite|apply LeO.bind|intro)
theorem spec_orList.mono : ∀ a0 k, LeO (spec_orList.f k a0) (spec_orList.f (k + 1) a0) := by
 intro a0 k
 have ih0 := spec_orList.mono_l k
 unfold spec_orList.f
 repeat' (with_reducible first|apply ih0|apply LeO.refl|apply LeO.none|apply LeO.ite|apply LeO.bind|intro)
theorem spec_orList.calls (k : Nat) (a0 : Int) (r : List Int) (w : World) (h : spec_orList.f k a0 = some r) :
  Calls Tryd.prog 78 #[.int .i64 a0] w fun e w' => ∃ v0_ : Value, e = .returned (v0_) ∧ Kd.R (Kd.int .i64) 3 w' w.heap.size (fun _ => True) v0_ r ∧ Below w.heap.size w w' := by
 have HB := mkA (Below.refl w.heap.size w)
 have H := h
 clear h
 unfold spec_orList.f at H
 have H' := mkA H
 clear H
 go_enter Tryd.func78, Tryd.ntmps78
 go_wp2
 go_loopg [3, 4] k (fun kq v3 v4 w' => ∃ (x3_1 : List Int) (x4_1 : Int), v4 = .int .i64 x4_1 ∧ Fc (spec_orList.l0 kq a0 x3_1 x4_1 = some r) ∧ Fc (kq ≤ k) ∧ Fc (Kd.R (Kd.int .i64) 3 w' w.heap.size (fun _ => True) v3 x3_1) ∧ Fc (Below w.heap.size w w'))
 case atStart => exact ⟨(([] : List Int)), (0), eqS, H', ⟨Nat.le_refl _⟩, ⟨nilE⟩, hbg HB⟩
 case round =>
  clear H'
  obtain ⟨x3_1, x4_1, rfl, HA, HK1, HO_3, HB⟩ := hrel
  cases gk with
  | zero => exact absurd HA.out (by simp [spec_orList.l0])
  | succ k1 =>
   have H := HA.out
   clear HA
   simp only [spec_orList.l0] at H
   obtain ⟨c2b0, c2b1, H⟩ := itNQ H
   obtain ⟨ji3, hji3⟩ : ∃ j_ : Int, (shr .i64 a0 x4_1) = j_ := ⟨_, rfl⟩
   first | rw [hji3] at H | simp only [hji3] at H
   have hji3_ : (a0 / 2 ^ min x4_1.toNat 64) = ji3 := hji3
   have hji3z : x4_1 ≤ 64 → (a0 / 2 ^ x4_1.toNat) = ji3 := shr_small hji3
   rcases iteP H with ⟨c4, H⟩ | ⟨c4, H⟩
   ·have c4b0 := decide_eq_true c4
    clear c4
    obtain ⟨t536, A5, H⟩ := obE H
    by_cases c6 : t536 = true
    ·subst c6
     replace H := ifT H
     obtain ⟨c7, H⟩ := itNP H
     have LMc7 := mkA c7
     clear c7
     obtain ⟨y537, hy537⟩ : ∃ y_ : List Int, y_ = (x3_1 ++ [x4_1]) := ⟨_, rfl⟩
     rw [← hy537] at H
     have Ny537 := mkA hy537
     clear hy537
     have H' := mkA H
     clear H
     go_wp2_with (first | ((with_reducible refine gate_callee (f := 60) rfl ?_); refine goesQ (some 13) Tryd.func60 #[.int .i64 a0, .int .i64 x4_1] ?_; (with_reducible refine (spec_orHas.calls a0 x4_1 true _ A5.out).mono ?_); rintro e w' ⟨rfl, ⟨nd, rfl⟩⟩; refine ⟨_, rfl, ?_⟩) | ((with_reducible refine gate_builtin (b := .append) (xs := #[.tmp 14, .tmp 16]) rfl ?_); at_builtin; refine Kd.R_append (Kd.int .i64) (w0 := w) w.heap.size rfl (.tmp 14) (.tmp 16) 24 3 (.int .i64 0) 8 rfl Tryd.underlying24 info3 rfl (by decide) (by omega) u3 x3_1 x4_1 [.int .i64 x4_1] (fun _ => True) (fun _ => False) rfl rfl ?aP (fun _ hk => hk.elim) ?aF ?aO ?aB ?aS ?aL ?_; (case aP => exact rfl); (case aB => exact (bel_g HB.out)); (case aF => exact (fun _ _ => trivial)); (case aO => exact (Kd.R_g HO_3.out)); (case aS => exact (below_size (bel_g HB.out))); (case aL => have := LMc7.out; omega); intro v538 w8 ho hb hg hat; rw [← Ny537.out] at ho; have HO539 := mkA (ho); replace HB := mkA (hb); clear HO_3; clear ho hb hg hat))
     go_roundg k1
     case measure => have := HK1.out; omega
     case rel => exact ⟨(y537), (wrap64 (x4_1 + 1)), eqS, H', ⟨by have := HK1.out; omega⟩, rg HO539, hbg HB⟩
    ·replace c6 := Bool.eq_false_iff.mpr c6
     subst c6
     replace H := ifF H
     have H' := mkA H
     clear H
     go_wp2_with (first | ((with_reducible refine gate_callee (f := 60) rfl ?_); refine goesQ (some 13) Tryd.func60 #[.int .i64 a0, .int .i64 x4_1] ?_; (with_reducible refine (spec_orHas.calls a0 x4_1 false _ A5.out).mono ?_); rintro e w' ⟨rfl, ⟨nd, rfl⟩⟩; refine ⟨_, rfl, ?_⟩))
     go_roundg k1
     case measure => have := HK1.out; omega
     case rel => exact ⟨(x3_1), (wrap64 (x4_1 + 1)), eqS, H', ⟨by have := HK1.out; omega⟩, rg HO_3, hbg HB⟩
   ·have c4b0 := decide_eq_false c4
    clear c4
    obtain rfl := Option.some.inj H
    go_wp2
    go_ret
    exact ⟨_, by first | rfl | (simp [errW_none, errW_some] <;> rfl) | (simp only [← hji3]; first | rfl | (simp [errW_none, errW_some] <;> rfl)) | (simp [*, errW_none, errW_some] <;> rfl), Kd.R_g HO_3.out, bel_g HB.out⟩
end Go.Proofs.YtdmheeenoklijaaDoor.Q
