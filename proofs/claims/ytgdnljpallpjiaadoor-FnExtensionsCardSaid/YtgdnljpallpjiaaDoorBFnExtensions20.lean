import Derived.Test.YtgdnljpallpjiaaDoorBFnExtensions8
import Derived.Test.YtgdnljpallpjiaaDoorBFnExtensions15
namespace Go.Proofs.YtgdnljpallpjiaaDoor.Q
open Go.RowKit Go.Proofs.YtgdnljpallpjiaaDoorW.PrintWords Go.Proofs.YtgdnljpallpjiaaDoorW.PrintLast Go.Proofs.YtgdnljpallpjiaaDoorW.PrintMore
attribute [local go_sem] max2_int min2_int max_two min_two max_three min_three max_four min_four neB_f
set_option linter.unusedVariables false
set_option maxHeartbeats 8000000
set_option maxRecDepth 100000
set_option linter.unusedSimpArgs false
mutual
def impl_FirstExtension.l0 : Nat → List Int → Int → Int → List Int → Int → List Int → Option (List Int × Bool)
 | 0, _, _, _, _, _, _ => none
 | k + 1, x4, x5, x406000, x406001, x415000, x415001 => if (x4.length : Int) < x406000 then (impl_FirstExtension.l1 k x4 x5 x406000 0 x406000 x406001 x415000 x415001) else (some (x4, true))
def impl_FirstExtension.l1 : Nat → List Int → Int → Int → Int → Int → List Int → Int → List Int → Option (List Int × Bool)
 | 0, _, _, _, _, _, _, _, _ => none
 | k + 1, x4, x5, x20, x21, x406000, x406001, x415000, x415001 => if x21 < x20 then (if 0 ≤ x21 then (if (Go.bits .and .i64 (shr .i64 x5 x21) 1) = 0 then (if x21 < (x415001.length : Int) then (if (Go.bits .andNot .i64 (rd x415001 x21) x5) = 0 then (if x4.length < 17592186044416 then (impl_FirstExtension.l0 k (x4 ++ [x21]) (Go.bits .or .i64 x5 (shl .i64 1 x21)) x406000 x406001 x415000 x415001) else (none)) else (impl_FirstExtension.l1 k x4 x5 x20 (wrap64 (x21 + 1)) x406000 x406001 x415000 x415001)) else (none)) else (impl_FirstExtension.l1 k x4 x5 x20 (wrap64 (x21 + 1)) x406000 x406001 x415000 x415001)) else (none)) else (impl_FirstExtension.l0 k x4 x5 x406000 x406001 x415000 x415001)
end
def impl_FirstExtension.f (k : Nat) (a0_0 : Int) (l0_1 : List Int) : Option (List Int × Bool) := (impl_IsOrder.f k a0_0 l0_1).bind fun t406 => (if t406 = true then ((impl_Order_mirror.f k a0_0 l0_1).bind fun bt410 => (impl_FirstExtension.l0 k (([] : List Int)) 0 a0_0 l0_1 bt410.1 bt410.2)) else (some (([] : List Int), false)))
theorem impl_FirstExtension.mono_l : ∀ k, (∀ y0 y1 y2 y3 y4 y5, LeO (impl_FirstExtension.l0 k y0 y1 y2 y3 y4 y5) (impl_FirstExtension.l0 (k + 1) y0 y1 y2 y3 y4 y5)) ∧ (∀ y0 y1 y2 y3 y4 y5 y6 y7, LeO (impl_FirstExtension.l1 k y0 y1 y2 y3 y4 y5 y6 y7) (impl_FirstExtension.l1 (k + 1) y0 y1 y2 y3 y4 y5 y6 y7))
 | 0 => ⟨fun _ _ _ _ _ _ r h => by simp [impl_FirstExtension.l0] at h, fun _ _ _ _ _ _ _ _ r h => by simp [impl_FirstExtension.l1] at h⟩
 | k + 1 => by
  obtain ⟨ih0, ih1⟩ := impl_FirstExtension.mono_l k
  refine ⟨?_, ?_⟩ <;> intros
  unfold impl_FirstExtension.l0
  rotate_left
  unfold impl_FirstExtension.l1
  rotate_left
  all_goals repeat' (with_reducible first|exact ih0 _ _ _ _ _ _|exact ih1 _ _ _ _ _ _ _ _|exact impl_IsOrder.mono _ _ _|exact impl_Order_mirror.mono _ _ _|exact LeO.refl _|exact LeO.none _|refine LeO.ite ?_ ?_|refine LeO.bind ?_ (fun _ => ?_))
theorem impl_FirstExtension.mono : ∀ a0 a1 k, LeO (impl_FirstExtension.f k a0 a1) (impl_FirstExtension.f (k + 1) a0 a1) := by
 intro a0 a1 k
 obtain ⟨ih0, ih1⟩ := impl_FirstExtension.mono_l k
 unfold impl_FirstExtension.f
 repeat' (with_reducible first|exact ih0 _ _ _ _ _ _|exact ih1 _ _ _ _ _ _ _ _|exact impl_IsOrder.mono _ _ _|exact impl_Order_mirror.mono _ _ _|exact LeO.refl _|exact LeO.none _|refine LeO.ite ?_ ?_|refine LeO.bind ?_ (fun _ => ?_))
def impl_FirstExtension.T9 : Bool × List (List Nat × List Nat) := (true, [([], []), ([], []), ([1], [1]), ([0, 2], [0, 2]), ([], []), ([], []), ([5], [5]), ([4, 6], [4, 6]), ([3, 3, 0, 1, 2, 3], [0, 3]), ([7, 8, 0, 1, 2, 3, 4, 5, 6, 7, 8], [4, 7])])
def impl_FirstExtension.B9 : List Nat := [0, 0, 2, 7, 0, 0, 32, 112, 15, 511]
theorem impl_FirstExtension.tab9 : rtab .any (opsOf Tryd.f13 9) = impl_FirstExtension.T9 := by kernel_rfl
theorem impl_FirstExtension.bits9 : waitsOk impl_FirstExtension.T9.2 impl_FirstExtension.B9 = true := by kernel_rfl
theorem impl_FirstExtension.calls (k : Nat) (a0_0 : Int) (A0_1 : Option Addr) (c0_1 : Nat) (l0_1 : List Int) (r1 : List Int) (r2 : Bool) (w : World) (hr0_1 : Kd.C (Kd.int .i64) w A0_1 l0_1.length l0_1) (hc0_1 : l0_1.length ≤ c0_1) (hTAB : Tab w) (h : impl_FirstExtension.f k a0_0 l0_1 = some (r1, r2)) :
  Calls Tryd.prog 13 #[.agg #[.int .i64 a0_0, .slice A0_1 l0_1.length c0_1]] w fun e w' => ∃ v0_ : Value, e = .returned (.tuple #[v0_, .bool r2]) ∧ Kd.R (Kd.int .i64) 3 w' w.heap.size (fun _ => True) v0_ r1 ∧ Below w.heap.size w w' := by
 have HTAB := mkA hTAB
 clear hTAB
 have hu26 := Tryd.underlying26
 have HR0_1 := mkA hr0_1
 have HC0_1 := mkA hc0_1
 clear hr0_1 hc0_1
 have HB := mkA (Below.refl w.heap.size w)
 have H := h
 clear h
 unfold impl_FirstExtension.f at H
 obtain ⟨t406, A2, H⟩ := obE H
 by_cases c3 : t406 = true
 ·subst c3
  replace H := ifT H
  obtain ⟨y407, hy407⟩ : ∃ y_ : List Int, y_ = (([] : List Int)) := ⟨_, rfl⟩
  replace H : ((impl_Order_mirror.f k a0_0 l0_1).bind fun bt410 => (impl_FirstExtension.l0 k y407 0 a0_0 l0_1 bt410.1 bt410.2)) = some (r1, r2) := by first | (rw [hy407]; with_reducible exact H) | (have H2_ := (Option.bind_some _ _).symm.trans H; rw [hy407]; with_reducible exact H2_) | (have H2_ := (Option.bind_some _ _).symm.trans H; with_reducible exact H2_) | with_reducible exact H | (rw [hy407]; exact H) | exact H
  have Ny407 := mkA hy407
  clear hy407
  obtain ⟨⟨t410, t411⟩, A4, H⟩ := obE H
  dsimp only at H
  have H' := mkA H
  clear H
  go_enter Tryd.func13, Tryd.ntmps13
  go_wp2_with (first | ((with_reducible refine gate_dst (N := 1) rfl ?_); refine boxE (N := 1) (cs := #[.int .i64 a0_0, .slice A0_1 l0_1.length c0_1]) (t := 26) ?_; intro gb405 hg w5 hbox hb; have BK405 := mkA (hbox); have GE405 := geB HB hg; replace HB := bst HB hb; clear hb hbox hg; obtain ⟨hcz6_0, hcz6_1, hfz6_0, hfz6_1⟩ := blk2 BK405) | ((with_reducible refine gate_callee (f := 20) rfl ?_); refine goesQ (some 9) Tryd.func20 #[.agg #[.int .i64 a0_0, .slice A0_1 l0_1.length c0_1]] ?_; (with_reducible refine (impl_IsOrder.calls k a0_0 _ _ l0_1 true _ ?s1 ?s2 ?s3 A2.out).mono ?_); (case s1 => exact C_g HR0_1 HB); (case s2 => exact HC0_1.out); (case s3 => exact Tab.below HTAB.out (bel_g HB.out)); rintro e w7 ⟨rfl, hb⟩; refine ⟨_, rfl, ?_⟩; replace BK405 := blkB BK405 hb; replace HB := bst HB hb; (try clear hb); (try clear hk)) | ((with_reducible refine gate_dst (N := 11) rfl ?_); refine Kd.R_lit (Kd.int .i64) _ 3 ?hg (N := 11) ?hd (xs := ([] : List Int)) (inner := []) (ok := fun _ => True) (okp := fun _ => True) ?hr ?hp (fun _ hk => hk) trivial (Below.refl _ _) (Nat.le_refl _) (by simp) ?_; (case hd => rfl); (case hg => rfl); (case hr => first | (go_simp; done) | (go_simp; rfl)); (case hp => exact (Reps.none _ _)); intro v408 w8 ho9 hb hg_ hnew_; clear hg_ hnew_; (first | rw [← Ny407.out] at ho9 | (simp only [Int.reduceToNat] at ho9; rw [← Ny407.out] at ho9)); have HO409 := mkA (Kd.R_lower ho9 (below_size (bel_g HB.out))); replace BK405 := blkB BK405 hb; replace HB := bst HB hb; clear hb ho9; obtain ⟨hcz10_0, hcz10_1, hfz10_0, hfz10_1⟩ := blk2 BK405) | ((with_reducible refine gate_callee (f := 21) rfl ?_); refine goesQ (some 13) Tryd.func21 #[.agg #[.int .i64 a0_0, .slice A0_1 l0_1.length c0_1]] ?_; (with_reducible refine (impl_Order_mirror.calls k a0_0 _ _ l0_1 t410 t411 _ ?s1 ?s2 A4.out).mono ?_); (case s1 => exact C_g HR0_1 HB); (case s2 => exact HC0_1.out); rintro e w11 ⟨v412, rfl, ho0, hb⟩; refine ⟨_, rfl, ?_⟩; have HO413 := mkA (Kd.R_lower (Kd.R_new' ho0 (Kd.R_lt (Kd.R_g HO409.out))) (below_size (bel_g HB.out))); replace HO409 := mkA (Kd.R_elder' (Kd.R_g HO409.out) (Kd.R_base ho0) hb); replace BK405 := blkB BK405 hb; replace HB := bst HB hb; (try clear hb); (try clear hk); (try clear ho0)) | ((with_reducible refine gate_dst (N := 6) rfl ?_); refine boxE (N := 6) (cs := #[.int .i64 0, .slice none 0 0]) (t := 26) ?_; intro gb414 hg w12 hbox hb; replace HO409 := rB HO409 hb; replace HO413 := rB HO413 hb; have BK414 := mkA (hbox); have GE414 := geB HB hg; have NB405_414 := neL7 BK405 hg; have NB414_405 := neR7 BK405 hg; replace BK405 := blkB BK405 hb; replace HB := bst HB hb; clear hb hbox hg; obtain ⟨hcz14_0, hcz14_1, hfz14_0, hfz14_1⟩ := blk2 BK414; obtain ⟨Ao15, co15, eo15⟩ := Kd.R_slice HO413.out; subst eo15))
  go_loopg [4, 5] k (fun kq v4 v5 w' => ∃ (x4_1 : List Int) (x5_1 : Int), v5 = .int .i64 x5_1 ∧ Fc (impl_FirstExtension.l0 kq x4_1 x5_1 a0_0 l0_1 t410 t411 = some (r1, r2)) ∧ Fc (kq ≤ k) ∧ Fc (Kd.R (Kd.int .i64) 3 w' w.heap.size (fun k_ => some k_ ≠ ((.slice Ao15 t411.length co15) : Value).ownBlock) v4 x4_1) ∧ Fc (Kd.R (Kd.int .i64) 3 w' w.heap.size (fun k_ => some k_ ≠ (v4 : Value).ownBlock) (.slice Ao15 t411.length co15) t411) ∧ Fc (w'.heap[gb405]? = some (.cells #[.int .i64 a0_0, (.slice A0_1 l0_1.length c0_1)] 26 (0, 0))) ∧ Fc (w'.heap[gb414]? = some (.cells #[.int .i64 t410, (.slice Ao15 t411.length co15)] 26 (0, 0))) ∧ Fc (Below w.heap.size w w'))
  case atStart => exact ⟨(y407), (0), eqS, H', ⟨Nat.le_refl _⟩, ⟨Kd.R_g (Kd.R_mono (Kd.R_far (p := ⟨gb414, 1, none⟩) (Kd.R_far (p := ⟨gb414, 0, none⟩) (Kd.R_types HO409.out BK414.out (by decide)) (fun _ hk => hk.2) (.int .i64 t410)) (fun _ hk => hk.2) (.slice Ao15 t411.length co15)) (fun _ hk => hk.1.2))⟩, ⟨Kd.R_g (Kd.R_mono (Kd.R_far (p := ⟨gb414, 1, none⟩) (Kd.R_far (p := ⟨gb414, 0, none⟩) (Kd.R_types HO413.out BK414.out (by decide)) (fun _ hk => hk.2) (.int .i64 t410)) (fun _ hk => hk.2) (.slice Ao15 t411.length co15)) (fun _ hk => hk.1.2))⟩, ⟨blkT BK405⟩, ⟨blkT BK414⟩, ⟨bel_g HB.out⟩⟩
  case round =>
   clear H'
   try clear c3
   obtain ⟨x4_1, x5_1, rfl, HA, HK1, HO_4, HO_415001, BK405, BK414, HB⟩ := hrel
   cases gk with
   | zero => exact absurd HA.out (by simp [impl_FirstExtension.l0])
   | succ k1 =>
    have H := HA.out
    clear HA
    simp only [impl_FirstExtension.l0] at H
    rcases iteE H with ⟨c16b0, H⟩ | ⟨c16b0, H⟩
    ·have H' := mkA H
     clear H
     obtain ⟨Ao17, co17, eo17⟩ := Kd.R_slice HO_4.out
     subst eo17
     obtain ⟨hcz19_0, hcz19_1, hfz19_0, hfz19_1⟩ := blk2 BK405
     go_wp2
     go_loopg [4, 5, 21] k1 (fun kq v4 v5 v21 w' => ∃ (x4_2 : List Int) (x5_2 : Int) (x21_2 : Int), v5 = .int .i64 x5_2 ∧ v21 = .int .i64 x21_2 ∧ Fc (impl_FirstExtension.l1 kq x4_2 x5_2 a0_0 x21_2 a0_0 l0_1 t410 t411 = some (r1, r2)) ∧ Fc (kq ≤ k1) ∧ Fc (Kd.R (Kd.int .i64) 3 w' w.heap.size (fun k_ => some k_ ≠ ((.slice Ao15 t411.length co15) : Value).ownBlock) v4 x4_2) ∧ Fc (Kd.R (Kd.int .i64) 3 w' w.heap.size (fun k_ => some k_ ≠ (v4 : Value).ownBlock) (.slice Ao15 t411.length co15) t411) ∧ Fc (w'.heap[gb405]? = some (.cells #[.int .i64 a0_0, (.slice A0_1 l0_1.length c0_1)] 26 (0, 0))) ∧ Fc (w'.heap[gb414]? = some (.cells #[.int .i64 t410, (.slice Ao15 t411.length co15)] 26 (0, 0))) ∧ Fc (Below w.heap.size w w'))
     case atStart => exact ⟨(x4_1), (x5_1), (0), eqS, eqS, H', ⟨Nat.le_refl _⟩, ⟨Kd.R_g HO_4.out⟩, ⟨Kd.R_g HO_415001.out⟩, ⟨blk_g BK405.out⟩, ⟨blk_g BK414.out⟩, ⟨bel_g HB.out⟩⟩
     case round =>
      clear H'
      try clear c3
      try clear c16b0
      obtain ⟨x4_2, x5_2, x21_2, rfl, rfl, HA, HK2, HO_4, HO_415001, BK405, BK414, HB⟩ := hrel
      cases gk with
      | zero => exact absurd HA.out (by simp [impl_FirstExtension.l1])
      | succ k2 =>
       have H := HA.out
       clear HA
       simp only [impl_FirstExtension.l1] at H
       rcases iteE H with ⟨c20b0, H⟩ | ⟨c20b0, H⟩
       ·obtain ⟨c21, H⟩ := itNP H
        have c21b0 := eq_true c21
        have c21b1 : decide (0 ≤ x21_2) = true := decide_eq_true c21
        clear c21
        obtain ⟨ji22, hji22⟩ : ∃ j_ : Int, (shr .i64 x5_2 x21_2) = j_ := ⟨_, rfl⟩
        replace H : (if (Go.bits .and .i64 (ji22) 1) = 0 then (if x21_2 < (t411.length : Int) then (if (Go.bits .andNot .i64 (rd t411 x21_2) x5_2) = 0 then (if x4_2.length < 17592186044416 then (impl_FirstExtension.l0 k2 (x4_2 ++ [x21_2]) (Go.bits .or .i64 x5_2 (shl .i64 1 x21_2)) a0_0 l0_1 t410 t411) else (none)) else (impl_FirstExtension.l1 k2 x4_2 x5_2 a0_0 (wrap64 (x21_2 + 1)) a0_0 l0_1 t410 t411)) else (none)) else (impl_FirstExtension.l1 k2 x4_2 x5_2 a0_0 (wrap64 (x21_2 + 1)) a0_0 l0_1 t410 t411)) = some (r1, r2) := by first | (rw [hji22] at H; exact H) | (simp only [hji22] at H ⊢; exact H)
        have hji22_ : (x5_2 / 2 ^ min x21_2.toNat 64) = ji22 := hji22
        have hji22z : x21_2 ≤ 64 → (x5_2 / 2 ^ x21_2.toNat) = ji22 := shr_small hji22
        rcases iteP H with ⟨c23, H⟩ | ⟨c23, H⟩
        ·have c23b0 : ((Go.bits .and .i64 (ji22) 1) == 0) = true := beq_iff_eq.mpr c23
         have c23b1 : ((Go.bits .and .i64 (ji22) 1) != 0) = false := bne_eq_false_iff_eq.mpr c23
         clear c23
         obtain ⟨c24, H⟩ := itNP H
         have c24b0 : decide (x21_2 < (t411.length : Int)) = true := decide_eq_true c24
         clear c24
         rcases iteP H with ⟨c25, H⟩ | ⟨c25, H⟩
         ·have c25b0 : ((Go.bits .andNot .i64 (rd t411 x21_2) x5_2) == 0) = true := beq_iff_eq.mpr c25
          have c25b1 : ((Go.bits .andNot .i64 (rd t411 x21_2) x5_2) != 0) = false := bne_eq_false_iff_eq.mpr c25
          clear c25
          obtain ⟨c26, H⟩ := itNP H
          have LMc26 := mkA c26
          clear c26
          obtain ⟨y416, hy416⟩ : ∃ y_ : List Int, y_ = (x4_2 ++ [x21_2]) := ⟨_, rfl⟩
          replace H : (impl_FirstExtension.l0 k2 y416 (Go.bits .or .i64 x5_2 (shl .i64 1 x21_2)) a0_0 l0_1 t410 t411) = some (r1, r2) := by first | (rw [hy416]; with_reducible exact H) | (have H2_ := (Option.bind_some _ _).symm.trans H; rw [hy416]; with_reducible exact H2_) | (have H2_ := (Option.bind_some _ _).symm.trans H; with_reducible exact H2_) | with_reducible exact H | (rw [hy416]; exact H) | exact H
          have Ny416 := mkA hy416
          clear hy416
          have c27b0 := eq_true (ofd : 0 ≤ x21_2)
          obtain ⟨ji28, hji28⟩ : ∃ j_ : Int, (shl .i64 1 x21_2) = j_ := ⟨_, rfl⟩
          replace H : (impl_FirstExtension.l0 k2 y416 (Go.bits .or .i64 x5_2 (ji28)) a0_0 l0_1 t410 t411) = some (r1, r2) := by first | (rw [hji28] at H; exact H) | (simp only [hji28] at H ⊢; exact H)
          have hji28_ : (IntKind.i64.wrap (1 * 2 ^ min x21_2.toNat 64)) = ji28 := hji28
          have hji28z : x21_2 ≤ 64 → (IntKind.i64.wrap (1 * 2 ^ x21_2.toNat)) = ji28 := shl_small hji28
          have hji28u : (IntKind.i64.wrap (2 ^ min x21_2.toNat 64)) = ji28 := by have h_ := hji28_; rw [Int.one_mul] at h_; exact h_
          have hji28v : x21_2 ≤ 64 → (IntKind.i64.wrap (2 ^ x21_2.toNat)) = ji28 := fun hle_ => by have h_ := hji28z hle_; rw [Int.one_mul] at h_; exact h_
          have hji28y : (wrap64 (1 * 2 ^ min x21_2.toNat 64)) = ji28 := (i64_w _).symm.trans hji28_
          have hji28x : x21_2 ≤ 64 → (wrap64 (1 * 2 ^ x21_2.toNat)) = ji28 := fun h_ => (i64_w _).symm.trans (hji28z h_)
          have H' := mkA H
          clear H
          obtain ⟨hcz30_0, hcz30_1, hfz30_0, hfz30_1⟩ := blk2 BK414
          have p415 : 0 ≤ (x21_2 : Int) := ofd
          have q415 : x21_2 < (t411.length : Int) := ofd
          obtain ⟨ad415, e415, hx415_0⟩ := Kd.at_int (Kd.R_reads' HO_415001.out).2.2 x21_2 p415 q415
          cases e415
          replace p415 := eq_true p415
          replace q415 := eq_true q415
          try go_wp2
          replace HO_4 := mkA (Kd.R_drew HO_4.out)
          replace HO_415001 := mkA (Kd.R_drew HO_415001.out)
          replace BK405 := mkA (blk_drew BK405.out)
          replace BK414 := mkA (blk_drew BK414.out)
          replace HB := mkA (below_drew1 HB.out)
          refine start_ (n := 10) (S := fun w' => True) (ds := []) (bm 10 0) (by kernel_rfl) rfl (by kernel_rfl) trivial (fun hHeld => ?_); refine with_tabW impl_FirstExtension.tab9 impl_FirstExtension.bits9 (fun HT_ HW_ => ?_)
          generalize wr.drew = w31 at HO_4 HO_415001 BK405 BK414 HB hHeld ⊢
          refine pureW 0 (some 39) (bm 10 1) HT_ ?_
          refine pureW 1 (some 40) (bm 10 3) HT_ ?_
          refine pureW 4 (some 43) (bm 10 19) HT_ ?_
          refine pureW 5 (some 44) (bm 10 51) HT_ ?_
          refine pureW 6 (some 45) (bm 10 115) HT_ ?_
          refine pureW 7 (some 46) (bm 10 243) HT_ ?_
          refine oneW 2 (some 41) (bm 10 247) HT_ (fun K hK => ?_)
          refine value_ (w1 := ?_) (v := ?_) (by rfl) rfl ?_ ?_
          rotate_left 2
          ·go_simp
           constructor
           ·rfl
           ·rfl
          refine hK.out _ _ trivial (fun hHeld => ?_)
          clear hK K
          refine normW 41 ?_
          refine oneW 3 (some 42) (bm 10 255) HT_ (fun K hK => ?_)
          refine Kd.R_append_step (Kd.int .i64) (w0 := w) w.heap.size (by rfl) (.tmp 39) (.tmp 41) 24 3 (.int .i64 0) 8 rfl Tryd.underlying24 info3 rfl (by decide) (by omega) u4 x4_2 x21_2 [.int .i64 x21_2] (fun k_ => some k_ ≠ (.slice (some ad415) t411.length co15 : Value).ownBlock) (fun _ => False) rfl rfl ?aP (fun _ hk => hk.elim) ?aF ?aO ?aB ?aS ?aL ?_
          (case aP => exact rfl)
          (case aB => exact (bel_g HB.out))
          (case aF => exact (fun k_ hk => Kd.fresh' (Kd.R_lt (Kd.R_g HO_415001.out)) k_ hk))
          (case aO => exact (Kd.R_g HO_4.out))
          (case aS => exact (below_size (bel_g HB.out)))
          (case aL => have := LMc26.out; omega)
          intro v417 w32 ho hb hg hat
          rw [← Ny416.out] at ho
          replace HO_415001 := mkA (Kd.R_after (ok := (fun _ => True)) (Kd.R_g (Kd.R_mono HO_415001.out (fun _ hk => ⟨trivial, hk⟩))) hg hat)
          replace BK405 := mkA (blk_grown (g := gb405) (o := .cells #[.int .i64 a0_0, .slice A0_1 l0_1.length c0_1] 26 (0, 0)) (blk_g BK405.out) hg (Kd.R_ne HO_4.out BK405.out (by decide)))
          replace BK414 := mkA (blk_grown (g := gb414) (o := .cells #[.int .i64 t410, .slice (some ad415) t411.length co15] 26 (0, 0)) (blk_g BK414.out) hg (Kd.R_ne HO_4.out BK414.out (by decide)))
          have HO418 := mkA (ho)
          replace HB := mkA (hb)
          clear HO_4
          clear ho hb hg hat
          refine hK.out _ _ trivial (fun hHeld => ?_)
          clear hK K
          refine normW 42 ?_
          refine pureW 8 (some 4) (bm 10 511) HT_ ?_
          refine pureW 9 (some 5) (bm 10 1023) HT_ ?_
          refine doneW HT_ ?_
          try go_wp2
          go_roundg k2
          case measure => have := HK1.out; have := HK2.out; omega
          case rel => exact ⟨(y416), (Go.bits .or .i64 x5_2 (ji28)), (by first | rfl | (simp; done) | (simp only [← hji28] <;> (first | rfl | simp)) | (simp [*]; done)), H', ⟨by have := HK1.out; have := HK2.out; omega⟩, ⟨Kd.R_g HO418.out⟩, ⟨Kd.R_g (Kd.R_mono HO_415001.out (fun _ hk => hk.2))⟩, ⟨blk_g BK405.out⟩, ⟨blk_g BK414.out⟩, ⟨bel_g HB.out⟩⟩
         ·have c25b0 : ((Go.bits .andNot .i64 (rd t411 x21_2) x5_2) == 0) = false := beq_eq_false_iff_ne.mpr c25
          have c25b1 : ((Go.bits .andNot .i64 (rd t411 x21_2) x5_2) != 0) = true := bne_iff_ne.mpr c25
          have H' := mkA H
          clear H
          obtain ⟨hcz34_0, hcz34_1, hfz34_0, hfz34_1⟩ := blk2 BK414
          have p415 : 0 ≤ (x21_2 : Int) := ofd
          have q415 : x21_2 < (t411.length : Int) := ofd
          obtain ⟨ad415, e415, hx415_0⟩ := Kd.at_int (Kd.R_reads' HO_415001.out).2.2 x21_2 p415 q415
          cases e415
          replace p415 := eq_true p415
          replace q415 := eq_true q415
          go_wp2
          go_roundg k2
          case measure => have := HK1.out; have := HK2.out; omega
          case rel => exact ⟨(x4_2), (x5_2), (wrap64 (x21_2 + 1)), eqS, eqS, H', ⟨by have := HK1.out; have := HK2.out; omega⟩, ⟨Kd.R_g HO_4.out⟩, ⟨Kd.R_g HO_415001.out⟩, ⟨blk_g BK405.out⟩, ⟨blk_g BK414.out⟩, ⟨bel_g HB.out⟩⟩
        ·have c23b0 : ((Go.bits .and .i64 (ji22) 1) == 0) = false := beq_eq_false_iff_ne.mpr c23
         have c23b1 : ((Go.bits .and .i64 (ji22) 1) != 0) = true := bne_iff_ne.mpr c23
         have H' := mkA H
         clear H
         go_wp2
         go_roundg k2
         case measure => have := HK1.out; have := HK2.out; omega
         case rel => exact ⟨(x4_2), (x5_2), (wrap64 (x21_2 + 1)), eqS, eqS, H', ⟨by have := HK1.out; have := HK2.out; omega⟩, ⟨Kd.R_g HO_4.out⟩, ⟨Kd.R_g HO_415001.out⟩, ⟨blk_g BK405.out⟩, ⟨blk_g BK414.out⟩, ⟨bel_g HB.out⟩⟩
       ·have H' := mkA H
        clear H
        go_wp2
        go_roundg k2
        case measure => have := HK1.out; have := HK2.out; omega
        case rel => exact ⟨(x4_2), (x5_2), eqS, H', ⟨by have := HK1.out; have := HK2.out; omega⟩, ⟨Kd.R_g HO_4.out⟩, ⟨Kd.R_g HO_415001.out⟩, ⟨blk_g BK405.out⟩, ⟨blk_g BK414.out⟩, ⟨bel_g HB.out⟩⟩
    ·simp only [Option.some.injEq, Prod.mk.injEq] at H
     obtain ⟨rfl, rfl⟩ := H
     obtain ⟨Ao35, co35, eo35⟩ := Kd.R_slice HO_4.out
     subst eo35
     obtain ⟨hcz37_0, hcz37_1, hfz37_0, hfz37_1⟩ := blk2 BK405
     go_wp2
     go_ret2
     exact ⟨_, eqE, by (with_reducible repeat (first | apply Kd.R_alloc | apply Kd.R_drewN | apply Kd.R_drew)); exact Kd.R_mono HO_4.out (fun _ hk => trivial), bel_g HB.out⟩
 ·replace c3 := Bool.eq_false_iff.mpr c3
  subst c3
  replace H := ifF H
  simp only [Option.some.injEq, Prod.mk.injEq] at H
  obtain ⟨rfl, rfl⟩ := H
  go_enter Tryd.func13, Tryd.ntmps13
  go_wp2_with (first | ((with_reducible refine gate_dst (N := 1) rfl ?_); refine boxE (N := 1) (cs := #[.int .i64 a0_0, .slice A0_1 l0_1.length c0_1]) (t := 26) ?_; intro gb405 hg w38 hbox hb; have BK405 := mkA (hbox); have GE405 := geB HB hg; replace HB := bst HB hb; clear hb hbox hg; obtain ⟨hcz39_0, hcz39_1, hfz39_0, hfz39_1⟩ := blk2 BK405) | ((with_reducible refine gate_callee (f := 20) rfl ?_); refine goesQ (some 9) Tryd.func20 #[.agg #[.int .i64 a0_0, .slice A0_1 l0_1.length c0_1]] ?_; (with_reducible refine (impl_IsOrder.calls k a0_0 _ _ l0_1 false _ ?s1 ?s2 ?s3 A2.out).mono ?_); (case s1 => exact C_g HR0_1 HB); (case s2 => exact HC0_1.out); (case s3 => exact Tab.below HTAB.out (bel_g HB.out)); rintro e w40 ⟨rfl, hb⟩; refine ⟨_, rfl, ?_⟩; replace BK405 := blkB BK405 hb; replace HB := bst HB hb; (try clear hb); (try clear hk)))
  go_ret2
  exact ⟨_, eqE, by first | exact Kd.R_nil _ _ _ _ _ | exact Kd.N_nil _ _ _ _ _ | exact Kd.V_nil _ _ _ _ _ | exact Kd.Q_nil _ _ _ _ _ | exact Kd.S_nil _ _ _ _ _, bel_g HB.out⟩
end Go.Proofs.YtgdnljpallpjiaaDoor.Q
