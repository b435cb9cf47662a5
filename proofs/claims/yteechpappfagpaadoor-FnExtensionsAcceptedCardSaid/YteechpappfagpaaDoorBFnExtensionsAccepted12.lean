import Derived.Test.YteechpappfagpaaDoorBFnExtensionsAccepted0
import Derived.Test.YteechpappfagpaaDoorBFnExtensionsAccepted9
import Derived.Test.YteechpappfagpaaDoorBFnExtensionsAccepted11
-- printed by this project's own program (wip/mp/mp.py) over the kit's print, for this seat; Lean checks it
namespace Go.Proofs.YteechpappfagpaaDoor.Q
open Go.RowKit Go.Proofs.YteechpappfagpaaDoorW.PrintWords Go.Proofs.YteechpappfagpaaDoorW.PrintLast Go.Proofs.YteechpappfagpaaDoorW.PrintMore
attribute [local go_sem] max2_int min2_int max_two min_two max_three min_three max_four min_four   -- for this text's walks alone
set_option linter.unusedVariables false
set_option maxHeartbeats 8000000
set_option maxRecDepth 100000
set_option linter.unusedSimpArgs false

/-! ### spec_l1Cur_order: function 154 -/
mutual
def spec_l1Cur_order.l0 : Nat → Int → Int → List Int → List Int → Int → List Int → Int → Int → Int → List Int → Option (Int × List Int × Int × Int)
 | 0, _, _, _, _, _, _, _, _, _, _ => none
 | k + 1, x5, x7, x8, x9, x10, x1000, x1001, x1002, x760000, x760001 => if x10 < x5 then ((spec_l1Cur_pick.f x1000 x1001 x1002 8).bind fun bt763 => (if x8.length < 17592186044416 then ((some (x8 ++ [bt763.1] : List Int)).bind fun y766 => (if x7 = 1 then ((spec_l1Cur_pick.f x1000 bt763.2.1 bt763.2.2 4).bind fun bt769 => (if x9.length < 17592186044416 then (spec_l1Cur_order.l0 k x5 x7 y766 (x9 ++ [wrap64 (bt763.1 + bt769.1)]) (wrap64 (x10 + 1)) x1000 bt769.2.1 bt769.2.2 x760000 x760001) else (none))) else (if x9.length < 17592186044416 then (spec_l1Cur_order.l0 k x5 x7 y766 (x9 ++ [wrap64 (bt763.1 + 2)]) (wrap64 (x10 + 1)) x1000 bt763.2.1 bt763.2.2 x760000 x760001) else (none)))) else (none))) else (spec_l1Cur_order.l1 k x5 x7 x8 x9 0 x1000 x1001 x1002 x760000 x760001)
def spec_l1Cur_order.l1 : Nat → Int → Int → List Int → List Int → Int → List Int → Int → Int → Int → List Int → Option (Int × List Int × Int × Int)
 | 0, _, _, _, _, _, _, _, _, _, _ => none
 | k + 1, x5, x7, x8, x9, x12, x1000, x1001, x1002, x760000, x760001 => if x12 < x5 then (spec_l1Cur_order.l2 k x5 x7 x8 x9 x12 0 x1000 x1001 x1002 x760000 x760001) else (if x7 > 0 then (some (x760000, x760001, x1001, x1002)) else ((spec_CloseRelation.f k x760000 x760001).bind fun bt778 => (some (bt778.1, bt778.2.1, x1001, x1002))))
def spec_l1Cur_order.l2 : Nat → Int → Int → List Int → List Int → Int → Int → List Int → Int → Int → Int → List Int → Option (Int × List Int × Int × Int)
 | 0, _, _, _, _, _, _, _, _, _, _, _ => none
 | k + 1, x5, x7, x8, x9, x12, x13, x1000, x1001, x1002, x760000, x760001 => if x13 < x5 then (if x7 > 0 then (if 0 ≤ x12 then (if x12 < (x9.length : Int) then (if 0 ≤ x13 then (if x13 < (x8.length : Int) then (if (rd x9 x12) < (rd x8 x13) then (if x12 < (x760001.length : Int) then (spec_l1Cur_order.l2 k x5 x7 x8 x9 x12 (wrap64 (x13 + 1)) x1000 x1001 x1002 x760000 (x760001.set (x12 : Int).toNat (Go.bits .or .i64 (rd x760001 x12) (shl .i64 1 x13)))) else (none)) else (if x7 = 0 then (if x12 < x13 then ((spec_l1Cur_one.f x1000 x1001 x1002 3).bind fun bt788 => (if bt788.1 = true then (if x12 < (x760001.length : Int) then (spec_l1Cur_order.l2 k x5 x7 x8 x9 x12 (wrap64 (x13 + 1)) x1000 bt788.2.1 bt788.2.2 x760000 (x760001.set (x12 : Int).toNat (Go.bits .or .i64 (rd x760001 x12) (shl .i64 1 x13)))) else (none)) else (spec_l1Cur_order.l2 k x5 x7 x8 x9 x12 (wrap64 (x13 + 1)) x1000 bt788.2.1 bt788.2.2 x760000 x760001))) else (spec_l1Cur_order.l2 k x5 x7 x8 x9 x12 (wrap64 (x13 + 1)) x1000 x1001 x1002 x760000 x760001)) else (spec_l1Cur_order.l2 k x5 x7 x8 x9 x12 (wrap64 (x13 + 1)) x1000 x1001 x1002 x760000 x760001))) else (none)) else (none)) else (none)) else (none)) else (if x7 = 0 then (if x12 < x13 then ((spec_l1Cur_one.f x1000 x1001 x1002 3).bind fun bt793 => (if bt793.1 = true then (if 0 ≤ x12 then (if x12 < (x760001.length : Int) then (if 0 ≤ x13 then (spec_l1Cur_order.l2 k x5 x7 x8 x9 x12 (wrap64 (x13 + 1)) x1000 bt793.2.1 bt793.2.2 x760000 (x760001.set (x12 : Int).toNat (Go.bits .or .i64 (rd x760001 x12) (shl .i64 1 x13)))) else (none)) else (none)) else (none)) else (spec_l1Cur_order.l2 k x5 x7 x8 x9 x12 (wrap64 (x13 + 1)) x1000 bt793.2.1 bt793.2.2 x760000 x760001))) else (spec_l1Cur_order.l2 k x5 x7 x8 x9 x12 (wrap64 (x13 + 1)) x1000 x1001 x1002 x760000 x760001)) else (spec_l1Cur_order.l2 k x5 x7 x8 x9 x12 (wrap64 (x13 + 1)) x1000 x1001 x1002 x760000 x760001))) else (spec_l1Cur_order.l1 k x5 x7 x8 x9 (wrap64 (x12 + 1)) x1000 x1001 x1002 x760000 x760001)
end
def spec_l1Cur_order.f (k : Nat) (s0_0 : List Int) (s0_1 : Int) (s0_2 : Int) (a1 : Int) : Option (Int × List Int × Int × Int) := (spec_l1Cur_pick.f s0_0 s0_1 s0_2 (wrap64 (a1 + 1))).bind fun bt753 => (if 0 ≤ bt753.1 then (if (bt753.1 : Int).toNat ≤ 35184372088832 then ((spec_l1Cur_pick.f s0_0 bt753.2.1 bt753.2.2 3).bind fun bt760 => (spec_l1Cur_order.l0 k bt753.1 bt760.1 ([] : List Int) ([] : List Int) 0 s0_0 bt760.2.1 bt760.2.2 bt753.1 (List.replicate (bt753.1 : Int).toNat 0))) else (none)) else (none))
theorem spec_l1Cur_order.mono_l : ∀ k, (∀ y0 y1 y2 y3 y4 y5 y6 y7 y8 y9, LeO (spec_l1Cur_order.l0 k y0 y1 y2 y3 y4 y5 y6 y7 y8 y9) (spec_l1Cur_order.l0 (k + 1) y0 y1 y2 y3 y4 y5 y6 y7 y8 y9)) ∧ (∀ y0 y1 y2 y3 y4 y5 y6 y7 y8 y9, LeO (spec_l1Cur_order.l1 k y0 y1 y2 y3 y4 y5 y6 y7 y8 y9) (spec_l1Cur_order.l1 (k + 1) y0 y1 y2 y3 y4 y5 y6 y7 y8 y9)) ∧ (∀ y0 y1 y2 y3 y4 y5 y6 y7 y8 y9 y10, LeO (spec_l1Cur_order.l2 k y0 y1 y2 y3 y4 y5 y6 y7 y8 y9 y10) (spec_l1Cur_order.l2 (k + 1) y0 y1 y2 y3 y4 y5 y6 y7 y8 y9 y10))
 | 0 => ⟨fun _ _ _ _ _ _ _ _ _ _ r h => by simp [spec_l1Cur_order.l0] at h, fun _ _ _ _ _ _ _ _ _ _ r h => by simp [spec_l1Cur_order.l1] at h, fun _ _ _ _ _ _ _ _ _ _ _ r h => by simp [spec_l1Cur_order.l2] at h⟩
 | k + 1 => by
  obtain ⟨ih0, ih1, ih2⟩ := spec_l1Cur_order.mono_l k
  refine ⟨?_, ?_, ?_⟩
  ·intro y0 y1 y2 y3 y4 y5 y6 y7 y8 y9
   unfold spec_l1Cur_order.l0
   repeat' (with_reducible first|exact ih0 _ _ _ _ _ _ _ _ _ _|exact ih1 _ _ _ _ _ _ _ _ _ _|exact ih2 _ _ _ _ _ _ _ _ _ _ _|exact spec_CloseRelation.mono _ _ _|exact LeO.refl _|exact LeO.none _|refine LeO.ite ?_ ?_|refine LeO.bind ?_ (fun _ => ?_))
  ·intro y0 y1 y2 y3 y4 y5 y6 y7 y8 y9
   unfold spec_l1Cur_order.l1
   repeat' (with_reducible first|exact ih0 _ _ _ _ _ _ _ _ _ _|exact ih1 _ _ _ _ _ _ _ _ _ _|exact ih2 _ _ _ _ _ _ _ _ _ _ _|exact spec_CloseRelation.mono _ _ _|exact LeO.refl _|exact LeO.none _|refine LeO.ite ?_ ?_|refine LeO.bind ?_ (fun _ => ?_))
  ·intro y0 y1 y2 y3 y4 y5 y6 y7 y8 y9 y10
   unfold spec_l1Cur_order.l2
   repeat' (with_reducible first|exact ih0 _ _ _ _ _ _ _ _ _ _|exact ih1 _ _ _ _ _ _ _ _ _ _|exact ih2 _ _ _ _ _ _ _ _ _ _ _|exact spec_CloseRelation.mono _ _ _|exact LeO.refl _|exact LeO.none _|refine LeO.ite ?_ ?_|refine LeO.bind ?_ (fun _ => ?_))
theorem spec_l1Cur_order.mono : ∀ a0 a1 a2 a3 k, LeO (spec_l1Cur_order.f k a0 a1 a2 a3) (spec_l1Cur_order.f (k + 1) a0 a1 a2 a3) := by
 intro a0 a1 a2 a3 k
 obtain ⟨ih0, ih1, ih2⟩ := spec_l1Cur_order.mono_l k
 unfold spec_l1Cur_order.f
 repeat' (with_reducible first|exact ih0 _ _ _ _ _ _ _ _ _ _|exact ih1 _ _ _ _ _ _ _ _ _ _|exact ih2 _ _ _ _ _ _ _ _ _ _ _|exact spec_CloseRelation.mono _ _ _|exact LeO.refl _|exact LeO.none _|refine LeO.ite ?_ ?_|refine LeO.bind ?_ (fun _ => ?_))
def spec_l1Cur_order.T19 : Bool × List (List Nat × List Nat) := (true, [([], []), ([0], [0]), ([1], [1]), ([2], [2]), ([2], [2]), ([3, 4, 2], [2, 3, 4]), ([5, 2], [2, 5]), ([2], [2]), ([2], [2]), ([7, 8, 2], [2, 7, 8]), ([9, 2], [2, 9]), ([6, 10, 2], [2, 6, 10]), ([2, 11], [2, 11]), ([12, 2], [12]), ([13], [13]), ([14, 13], [13, 14]), ([15, 13, 13], [13, 15]), ([16], [16]), ([16], [16]), ([17, 18, 16], [16, 17, 18]), ([16, 19, 13], [13, 16, 19]), ([20, 16, 13], [13, 20]), ([21], [21]), ([22, 21, 21], [21, 22]), ([21, 23, 13], [13, 21, 23]), ([13, 24], [13, 24])])
def spec_l1Cur_order.B19 : List Nat := [0, 1, 3, 7, 7, 31, 63, 7, 7, 391, 903, 2047, 4095, 8191, 16383, 32767, 65535, 131071, 131071, 524287, 1048575, 2097151, 4194303, 8388607, 16777215, 33554431]
theorem spec_l1Cur_order.tab19 : rtab .any (opsOf Tryd.f154 19) = spec_l1Cur_order.T19 := by kernel_rfl
theorem spec_l1Cur_order.bits19 : waitsOk spec_l1Cur_order.T19.2 spec_l1Cur_order.B19 = true := by kernel_rfl
def spec_l1Cur_order.T20 : Bool × List (List Nat × List Nat) := (true, [([], []), ([0], [0]), ([], []), ([1, 2], [1, 2]), ([3], [3]), ([], []), ([5], [5]), ([4, 6], [4, 6]), ([1, 2, 0, 1, 2, 3, 4, 5, 6, 7], [1, 2]), ([8, 7, 0, 1, 2, 3, 4, 5, 6, 7], [7, 8])])
def spec_l1Cur_order.B20 : List Nat := [0, 1, 0, 7, 15, 0, 32, 127, 255, 511]
theorem spec_l1Cur_order.tab20 : rtab .any (opsOf Tryd.f154 20) = spec_l1Cur_order.T20 := by kernel_rfl
theorem spec_l1Cur_order.bits20 : waitsOk spec_l1Cur_order.T20.2 spec_l1Cur_order.B20 = true := by kernel_rfl
theorem spec_l1Cur_order.calls (k : Nat) (g : Nat) (s0_0 : List Int) (s0_1 : Int) (s0_2 : Int) (a1 : Int) (r1 : Int) (r2 : List Int) (r3 : Int) (r4 : Int) (w0 w : World) (hI : IsS74 w0 w g s0_0 s0_1 s0_2) (hB : Below w0.heap.size w0 w) (h : spec_l1Cur_order.f k s0_0 s0_1 s0_2 a1 = some (r1, r2, r3, r4)) :
  Calls Tryd.prog 154 #[.pointer (some ⟨g, 0, none⟩), .int .i64 a1] w fun e w' => ∃ v1_ : Value, e = .returned (.agg #[.int .i64 r1, v1_]) ∧ Kd.R (Kd.int .i64) 3 w' w.heap.size (fun _ => True) v1_ r2 ∧ IsS74 w0 w' g s0_0 r3 r4 ∧ Below w0.heap.size w0 w' ∧ KeepBut w w' g none := by
 have hu28 := Tryd.underlying28
 have HI0 := Aside0.mk hI
 have HK := Aside0.mk (KeepBut.refl w g none)
 have HL := Aside0.mk hB.size
 clear hI
 have HW0 := Aside0.mk hB.size
 have HB := Aside0.mk hB
 clear hB
 have H : ((spec_l1Cur_pick.f s0_0 s0_1 s0_2 (wrap64 (a1 + 1))).bind fun bt753 => (if 0 ≤ bt753.1 then (if (bt753.1 : Int).toNat ≤ 35184372088832 then ((spec_l1Cur_pick.f s0_0 bt753.2.1 bt753.2.2 3).bind fun bt760 => (spec_l1Cur_order.l0 k bt753.1 bt760.1 ([] : List Int) ([] : List Int) 0 s0_0 bt760.2.1 bt760.2.2 bt753.1 (List.replicate (bt753.1 : Int).toNat 0))) else (none)) else (none))) = some (r1, r2, r3, r4) := h
 clear h
 obtain ⟨⟨t753, t754, t755⟩, A3, H⟩ := obE H
 dsimp only at H
 rcases iteP H with ⟨c4, H⟩ | ⟨c4, H⟩
 ·have c4b0 := eq_true c4
  have c4b1 : decide (0 ≤ t753) = true := decide_eq_true c4
  clear c4
  rcases iteP H with ⟨c5, H⟩ | ⟨c5, H⟩
  ·have c5b0 := eq_true c5
   have c5b1 : decide ((t753 : Int).toNat ≤ 35184372088832) = true := decide_eq_true c5
   clear c5
   obtain ⟨y756, hy756⟩ : ∃ y_ : List Int, y_ = (List.replicate (t753 : Int).toNat 0) := ⟨_, rfl⟩
   replace H : ((spec_l1Cur_pick.f s0_0 t754 t755 3).bind fun bt760 => (spec_l1Cur_order.l0 k t753 bt760.1 ([] : List Int) ([] : List Int) 0 s0_0 bt760.2.1 bt760.2.2 t753 y756)) = some (r1, r2, r3, r4) := by first | (rw [hy756]; with_reducible exact H) | (have H2_ := (Option.bind_some _ _).symm.trans H; rw [hy756]; with_reducible exact H2_) | (have H2_ := (Option.bind_some _ _).symm.trans H; with_reducible exact H2_) | with_reducible exact H | (rw [hy756]; exact H) | exact H
   have Ny756 := Aside0.mk hy756
   clear hy756
   obtain ⟨⟨t760, t761, t762⟩, A6, H⟩ := obE H
   dsimp only at H
   have H' := Aside0.mk H
   clear H
   go_enter Tryd.func154, Tryd.ntmps154
   go_wp2_with (first | ((with_reducible refine gate_dst (N := 4) rfl ?_); refine boxE (N := 4) (cs := #[.int .i64 0, .slice none 0 0]) (t := 28) ?_; intro gb752 hg w7 hbox hb; have BK752 := Aside0.mk (hbox); have GW752 := Aside0.mk ((by rw [hg]; exact (keep_size (w := w) (g := g) (row := none) (by exact kb74_0 HK.out)) : w.heap.size ≤ gb752)); have GE752 := Aside0.mk ((Nat.le_trans HW0.out (by rw [hg]; exact (keep_size (w := w) (g := g) (row := none) (by exact kb74_0 HK.out)) : w.heap.size ≤ gb752) : w0.heap.size ≤ gb752)); replace HK := Aside0.mk (KeepBut.trans (by exact kb74_0 HK.out) (KeepBut.of_below hb g none) (.inl rfl)); have NB0_752 := Aside0.mk ((by rw [hg]; exact Nat.ne_of_lt (IsS74.lt (show IsS74 w0 _ g s0_0 s0_1 s0_2 from by exact st74_0 HI0.out)) : g ≠ gb752)); have NB752_0 := Aside0.mk ((by rw [hg]; exact Nat.ne_of_gt (IsS74.lt (show IsS74 w0 _ g s0_0 s0_1 s0_2 from by exact st74_0 HI0.out)) : gb752 ≠ g)); replace HB := Aside0.mk (below_step (by exact bl74_0 HB.out HI0.out) hb); replace HI0 := Aside0.mk (IsS74.below (by exact st74_0 HI0.out) hb); clear hb hbox hg) | ((with_reducible refine gate_callee (f := 96) rfl ?_); refine goesQ (some 19) Tryd.func96 #[.pointer (some ⟨g, 0, none⟩), .int .i64 (wrap64 (a1 + 1))] ?_; (with_reducible refine (spec_l1Cur_pick.calls g s0_0 s0_1 s0_2 (wrap64 (a1 + 1)) t753 t754 t755 w0 _ ?side1 ?side2 A3.out).mono ?_); (case side1 => exact st74_1 HI0.out NB0_752.out); (case side2 => exact bl74_1 HB.out HI0.out GE752.out); rintro e w8 ⟨rfl, hi, hb, hk⟩; refine ⟨_, rfl, ?_⟩; replace BK752 := Aside0.mk (KeepBut.blk hk (g' := gb752) (o := .cells #[.int .i64 0, .slice none 0 0] 28 (0, 0)) (blk_g BK752.out) NB752_0.out (by simp)); replace HK := Aside0.mk (KeepBut.trans (by exact kb74_1 HK.out GW752.out) hk (.inl rfl)); replace HI0 := Aside0.mk (hi); replace HB := Aside0.mk (hb); (try clear hb); (try clear hk); (try clear hi)) | ((with_reducible refine gate_dst (N := 22) rfl ?_); refine Kd.R_make (Kd.int .i64) _ 3 rfl (N := 22) rfl 22 _ _ rfl t753 rfl rfl Tryd.underlying22 (.int .i64 0) 8 info3 rfl (by decide) (by omega) 0 (ok := fun _ => True) (okp := fun _ => True) rfl (fun _ hk => hk) trivial (ofd) (Nat.le_trans (Nat.mul_le_mul_right _ (ofd : t753.toNat ≤ 35184372088832)) (by omega)) (Below.refl _ _) (Nat.le_refl _) ?_; intro v757 w9 ho10 hb hg_ hnew_; clear hg_ hnew_; (first | rw [← Ny756.out] at ho10 | (simp only [Int.reduceToNat] at ho10; rw [← Ny756.out] at ho10)); have HO758 := Aside0.mk (Kd.R_lower ho10 (keep_size (w := w) (g := g) (row := none) (by exact kb74_1 HK.out GW752.out))); replace BK752 := blkB BK752 hb; replace HK := Aside0.mk (KeepBut.trans (by exact kb74_1 HK.out GW752.out) (KeepBut.of_below hb g none) (.inl rfl)); replace HB := Aside0.mk (below_step (by exact bl74_1 HB.out HI0.out GE752.out) hb); replace HI0 := Aside0.mk (IsS74.below (by exact st74_1 HI0.out NB0_752.out) hb); clear hb ho10; obtain ⟨Ao11, co11, eo11⟩ := Kd.R_slice HO758.out; subst eo11) | ((with_reducible refine gate_dst (N := 6) rfl ?_); refine boxE (N := 6) (cs := #[.int .i64 0, .slice none 0 0]) (t := 28) ?_; intro gb759 hg w12 hbox hb; replace HO758 := Aside0.mk (Kd.R_below (Kd.R_g HO758.out) hb); have BK759 := Aside0.mk (hbox); have GW759 := Aside0.mk ((by rw [hg]; exact (keep_size (w := w) (g := g) (row := none) (by exact kb74_1 HK.out GW752.out)) : w.heap.size ≤ gb759)); have GE759 := Aside0.mk ((Nat.le_trans HW0.out (by rw [hg]; exact (keep_size (w := w) (g := g) (row := none) (by exact kb74_1 HK.out GW752.out)) : w.heap.size ≤ gb759) : w0.heap.size ≤ gb759)); replace HK := Aside0.mk (KeepBut.trans (by exact kb74_1 HK.out GW752.out) (KeepBut.of_below hb g none) (.inl rfl)); have NB752_759 := neL BK752 hg; have NB759_752 := neR BK752 hg; replace BK752 := blkB BK752 hb; have NB0_759 := Aside0.mk ((by rw [hg]; exact Nat.ne_of_lt (IsS74.lt (show IsS74 w0 _ g s0_0 t754 t755 from by exact st74_1 HI0.out NB0_752.out)) : g ≠ gb759)); have NB759_0 := Aside0.mk ((by rw [hg]; exact Nat.ne_of_gt (IsS74.lt (show IsS74 w0 _ g s0_0 t754 t755 from by exact st74_1 HI0.out NB0_752.out)) : gb759 ≠ g)); replace HB := Aside0.mk (below_step (by exact bl74_1 HB.out HI0.out GE752.out) hb); replace HI0 := Aside0.mk (IsS74.below (by exact st74_1 HI0.out NB0_752.out) hb); clear hb hbox hg; have hnb13 := NB759_752.out; have hnc13 := NB752_759.out; have hnb14 := NB759_0.out; have hnc14 := NB0_759.out; obtain ⟨hcz15_0, hcz15_1, hfz15_0, hfz15_1⟩ := blk2 BK759) | ((with_reducible refine gate_callee (f := 96) rfl ?_); refine goesQ (some 25) Tryd.func96 #[.pointer (some ⟨g, 0, none⟩), .int .i64 3] ?_; (with_reducible refine (spec_l1Cur_pick.calls g s0_0 t754 t755 3 t760 t761 t762 w0 _ ?side1 ?side2 A6.out).mono ?_); (case side1 => exact st74_2 HI0.out NB0_752.out NB0_759.out); (case side2 => exact bl74_2 HB.out HI0.out GE752.out GE759.out); rintro e w16 ⟨rfl, hi, hb, hk⟩; refine ⟨_, rfl, ?_⟩; replace BK752 := Aside0.mk (KeepBut.blk hk (g' := gb752) (o := .cells #[.int .i64 0, .slice none 0 0] 28 (0, 0)) (by (with_reducible repeat (first | refine blk_drewN ?_ _ | refine blk_drew ?_ | refine blk_alloc ?_ _)); refine blk_far ?_ NB752_759.out _; (with_reducible repeat (first | refine blk_drewN ?_ _ | refine blk_drew ?_ | refine blk_alloc ?_ _)); refine blk_far ?_ NB752_759.out _; (with_reducible repeat (first | refine blk_drewN ?_ _ | refine blk_drew ?_ | refine blk_alloc ?_ _)); exact BK752.out) NB752_0.out (by simp)); replace HO758 := Aside0.mk (Kd.R_mono (Kd.R_keep (IsS74.apart (show IsS74 w0 _ g s0_0 t754 t755 from by exact st74_2 HI0.out NB0_752.out NB0_759.out) (Kd.R_g ((Kd.R_mono (Kd.R_far (p := ⟨gb759, 1, none⟩) (Kd.R_far (p := ⟨gb759, 0, none⟩) (Kd.R_types HO758.out BK759.out (by decide)) (fun _ hk => hk.2) (.int .i64 t753)) (fun _ hk => hk.2) (.slice Ao11 y756.length co11)) (fun _ h_ => h_.1)))) (by decide)) hk (fun _ h => h.2)) (fun _ h => h.1)); replace BK759 := Aside0.mk (KeepBut.blk hk (g' := gb759) (o := .cells #[.int .i64 t753, .slice Ao11 y756.length co11] 28 (0, 0)) (by (with_reducible repeat (first | refine blk_drewN ?_ _ | refine blk_drew ?_ | refine blk_alloc ?_ _)); refine blk_put (cs := #[.int .i64 t753, .slice none 0 0]) ?_ 1 _ rfl; (with_reducible repeat (first | refine blk_drewN ?_ _ | refine blk_drew ?_ | refine blk_alloc ?_ _)); refine blk_put (cs := #[.int .i64 0, .slice none 0 0]) ?_ 0 _ rfl; (with_reducible repeat (first | refine blk_drewN ?_ _ | refine blk_drew ?_ | refine blk_alloc ?_ _)); exact BK759.out) NB759_0.out (by simp)); replace HK := Aside0.mk (KeepBut.trans (by exact kb74_2 HK.out GW752.out GW759.out) hk (.inl rfl)); replace HI0 := Aside0.mk (hi); replace HB := Aside0.mk (hb); (try clear hb); (try clear hk); (try clear hi)))
   go_loopg [8, 9, 10] k (fun kq v8 v9 v10 w' => ∃ (x8_1 : List Int) (x9_1 : List Int) (x10_1 : Int) (x1001_1 : Int) (x1002_1 : Int), v10 = .int .i64 x10_1 ∧ Aside0 (spec_l1Cur_order.l0 kq t753 t760 x8_1 x9_1 x10_1 s0_0 x1001_1 x1002_1 t753 y756 = some (r1, r2, r3, r4)) ∧ Aside0 (kq ≤ k) ∧ Aside0 (Kd.R (Kd.int .i64) 3 w' w.heap.size (fun k_ => some k_ ≠ (v9 : Value).ownBlock ∧ some k_ ≠ ((.slice Ao11 y756.length co11) : Value).ownBlock) v8 x8_1) ∧ Aside0 (Kd.R (Kd.int .i64) 3 w' w.heap.size (fun k_ => some k_ ≠ (v8 : Value).ownBlock ∧ some k_ ≠ ((.slice Ao11 y756.length co11) : Value).ownBlock) v9 x9_1) ∧ Aside0 (Kd.R (Kd.int .i64) 3 w' w.heap.size (fun k_ => some k_ ≠ (v8 : Value).ownBlock ∧ some k_ ≠ (v9 : Value).ownBlock) (.slice Ao11 y756.length co11) y756) ∧ Aside0 (w'.heap[gb752]? = some (.cells #[.int .i64 0, (.slice none 0 0)] 28 (0, 0))) ∧ Aside0 (w'.heap[gb759]? = some (.cells #[.int .i64 t753, (.slice Ao11 y756.length co11)] 28 (0, 0))) ∧ Aside0 (IsS74 w0 w' g s0_0 x1001_1 x1002_1) ∧ Aside0 (KeepBut w w' g none) ∧ Aside0 (Below w0.heap.size w0 w'))
   case atStart => exact ⟨(([] : List Int)), (([] : List Int)), (0), (t761), (t762), eqS, H', ⟨Nat.le_refl _⟩, ⟨by first | exact Kd.R_nil _ _ _ _ _ | exact Kd.N_nil _ _ _ _ _ | exact Kd.V_nil _ _ _ _ _ | exact Kd.Q_nil _ _ _ _ _ | exact Kd.S_nil _ _ _ _ _⟩, ⟨by first | exact Kd.R_nil _ _ _ _ _ | exact Kd.N_nil _ _ _ _ _ | exact Kd.V_nil _ _ _ _ _ | exact Kd.Q_nil _ _ _ _ _ | exact Kd.S_nil _ _ _ _ _⟩, ⟨Kd.R_g (Kd.R_mono HO758.out (fun _ hk => ⟨(by simp [Value.ownBlock]), (by simp [Value.ownBlock])⟩))⟩, ⟨blk_g BK752.out⟩, ⟨blk_g BK759.out⟩, ⟨by exact st74_2 HI0.out NB0_752.out NB0_759.out⟩, ⟨by exact kb74_2 HK.out GW752.out GW759.out⟩, ⟨by exact bl74_2 HB.out HI0.out GE752.out GE759.out⟩⟩
   case round =>
    clear H'
    try clear c4
    try clear c4b0
    try clear c4b1
    try clear c5
    try clear c5b0
    try clear c5b1
    try clear hcz15_0
    try clear hcz15_1
    try clear hfz15_0
    try clear hfz15_1
    obtain ⟨x8_1, x9_1, x10_1, x1001_1, x1002_1, rfl, HA, HK1, HO_8, HO_9, HO_760001, BK752, BK759, HI0, HK, HB⟩ := hrel
    cases gk with
    | zero => exact absurd HA.out (by simp [spec_l1Cur_order.l0])
    | succ k1 =>
     have H := HA.out
     clear HA
     simp only [spec_l1Cur_order.l0] at H
     rcases iteE H with ⟨c17b0, H⟩ | ⟨c17b0, H⟩
     ·obtain ⟨⟨t763, t764, t765⟩, A18, H⟩ := obE H
      dsimp only at H
      rcases iteP H with ⟨c19, H⟩ | ⟨c19, H⟩
      ·have LMc19 := Aside0.mk c19
       clear c19
       obtain ⟨y766, hy766⟩ : ∃ y_ : List Int, y_ = (x8_1 ++ [t763]) := ⟨_, rfl⟩
       replace H : (if t760 = 1 then ((spec_l1Cur_pick.f s0_0 t764 t765 4).bind fun bt769 => (if x9_1.length < 17592186044416 then (spec_l1Cur_order.l0 k1 t753 t760 y766 (x9_1 ++ [wrap64 (t763 + bt769.1)]) (wrap64 (x10_1 + 1)) s0_0 bt769.2.1 bt769.2.2 t753 y756) else (none))) else (if x9_1.length < 17592186044416 then (spec_l1Cur_order.l0 k1 t753 t760 y766 (x9_1 ++ [wrap64 (t763 + 2)]) (wrap64 (x10_1 + 1)) s0_0 t764 t765 t753 y756) else (none))) = some (r1, r2, r3, r4) := by first | (rw [hy766]; with_reducible exact H) | (have H2_ := (Option.bind_some _ _).symm.trans H; rw [hy766]; with_reducible exact H2_) | (have H2_ := (Option.bind_some _ _).symm.trans H; with_reducible exact H2_) | with_reducible exact H | (rw [hy766]; exact H) | exact H
       have Ny766 := Aside0.mk hy766
       clear hy766
       rcases iteP H with ⟨c20, H⟩ | ⟨c20, H⟩
       ·have c20b0 : (t760 == 1) = true := beq_iff_eq.mpr c20
        have c20b1 : (t760 != 1) = false := bne_eq_false_iff_eq.mpr c20
        clear c20
        obtain ⟨⟨t769, t770, t771⟩, A21, H⟩ := obE H
        dsimp only at H
        rcases iteP H with ⟨c22, H⟩ | ⟨c22, H⟩
        ·have LMc22 := Aside0.mk c22
         clear c22
         obtain ⟨y772, hy772⟩ : ∃ y_ : List Int, y_ = (x9_1 ++ [wrap64 (t763 + t769)]) := ⟨_, rfl⟩
         replace H : (spec_l1Cur_order.l0 k1 t753 t760 y766 y772 (wrap64 (x10_1 + 1)) s0_0 t770 t771 t753 y756) = some (r1, r2, r3, r4) := by first | (rw [hy772]; with_reducible exact H) | (have H2_ := (Option.bind_some _ _).symm.trans H; rw [hy772]; with_reducible exact H2_) | (have H2_ := (Option.bind_some _ _).symm.trans H; with_reducible exact H2_) | with_reducible exact H | (rw [hy772]; exact H) | exact H
         have Ny772 := Aside0.mk hy772
         clear hy772
         have H' := Aside0.mk H
         clear H
         go_wp2_with (first | ((with_reducible refine gate_callee (f := 96) rfl ?_); refine goesQ (some 32) Tryd.func96 #[.pointer (some ⟨g, 0, none⟩), .int .i64 8] ?_; (with_reducible refine (spec_l1Cur_pick.calls g s0_0 x1001_1 x1002_1 8 t763 t764 t765 w0 _ ?side1 ?side2 A18.out).mono ?_); (case side1 => exact st74_2 HI0.out NB0_752.out NB0_759.out); (case side2 => exact bl74_2 HB.out HI0.out GE752.out GE759.out); rintro e w23 ⟨rfl, hi, hb, hk⟩; refine ⟨_, rfl, ?_⟩; replace HO_8 := Aside0.mk (Kd.R_mono (Kd.R_keep (IsS74.apart (show IsS74 w0 _ g s0_0 x1001_1 x1002_1 from by exact st74_2 HI0.out NB0_752.out NB0_759.out) (Kd.R_g HO_8.out) (by decide)) hk (fun _ h => h.2)) (fun _ h => h.1)); replace HO_9 := Aside0.mk (Kd.R_mono (Kd.R_keep (IsS74.apart (show IsS74 w0 _ g s0_0 x1001_1 x1002_1 from by exact st74_2 HI0.out NB0_752.out NB0_759.out) (Kd.R_g HO_9.out) (by decide)) hk (fun _ h => h.2)) (fun _ h => h.1)); replace HO_760001 := Aside0.mk (Kd.R_mono (Kd.R_keep (IsS74.apart (show IsS74 w0 _ g s0_0 x1001_1 x1002_1 from by exact st74_2 HI0.out NB0_752.out NB0_759.out) (Kd.R_g HO_760001.out) (by decide)) hk (fun _ h => h.2)) (fun _ h => h.1)); replace BK752 := Aside0.mk (KeepBut.blk hk (g' := gb752) (o := .cells #[.int .i64 0, .slice none 0 0] 28 (0, 0)) (blk_g BK752.out) NB752_0.out (by simp)); replace BK759 := Aside0.mk (KeepBut.blk hk (g' := gb759) (o := .cells #[.int .i64 t753, .slice Ao11 y756.length co11] 28 (0, 0)) (blk_g BK759.out) NB759_0.out (by simp)); replace HK := Aside0.mk (KeepBut.trans (by exact kb74_2 HK.out GW752.out GW759.out) hk (.inl rfl)); replace HI0 := Aside0.mk (hi); replace HB := Aside0.mk (hb); (try clear hb); (try clear hk); (try clear hi)) | ((with_reducible refine gate_builtin (b := .append) (xs := #[.tmp 33, .tmp 35]) rfl ?_); at_builtin; refine Kd.R_append (Kd.int .i64) w.heap.size rfl (.tmp 33) (.tmp 35) 22 3 (.int .i64 0) 8 rfl Tryd.underlying22 info3 rfl (by decide) (by omega) u8 x8_1 t763 [.int .i64 t763] (fun k_ => some k_ ≠ (u9 : Value).ownBlock ∧ some k_ ≠ (.slice Ao11 y756.length co11 : Value).ownBlock) (fun _ => False) rfl rfl ?aP (fun _ hk => hk.elim) ?aF ?aO (Below.refl _ _) ?aS ?aL ?_; (case aP => exact rfl); (case aF => exact (fun k_ hk => ⟨Kd.fresh' (Kd.R_lt (Kd.R_g HO_9.out)) k_ hk, Kd.fresh' (Kd.R_lt (Kd.R_g HO_760001.out)) k_ hk⟩)); (case aO => exact (Kd.R_g HO_8.out)); (case aS => exact (keep_size (w := w) (g := g) (row := none) (by exact kb74_2 HK.out GW752.out GW759.out))); (case aL => have := LMc19.out; omega); intro v767 w24 ho hb hg hat; rw [← Ny766.out] at ho; replace HO_9 := Aside0.mk (Kd.R_after (ok := (fun k_ => some k_ ≠ (.slice Ao11 y756.length co11 : Value).ownBlock)) (Kd.R_g (Kd.R_mono HO_9.out (fun _ hk => ⟨hk.2, hk.1⟩))) hg hat); replace HO_760001 := Aside0.mk (Kd.R_after (ok := (fun k_ => some k_ ≠ (u9 : Value).ownBlock)) (Kd.R_g (Kd.R_mono HO_760001.out (fun _ hk => ⟨hk.2, hk.1⟩))) hg hat); replace BK752 := Aside0.mk (blk_grown (g := gb752) (o := .cells #[.int .i64 0, .slice none 0 0] 28 (0, 0)) (blk_g BK752.out) hg (Kd.R_ne HO_8.out BK752.out (by decide))); replace BK759 := Aside0.mk (blk_grown (g := gb759) (o := .cells #[.int .i64 t753, .slice Ao11 y756.length co11] 28 (0, 0)) (blk_g BK759.out) hg (Kd.R_ne HO_8.out BK759.out (by decide))); replace HK := Aside0.mk (KeepBut.trans (by exact kb74_2 HK.out GW752.out GW759.out) (KeepBut.of_grown hg g) (Kd.R_base2 HO_8.out)); have HO768 := Aside0.mk (ho); replace HB := Aside0.mk (below_weaken (by exact bl74_2 HB.out HI0.out GE752.out GE759.out) HL.out hb); replace HI0 := Aside0.mk (IsS74.grown (by exact st74_2 HI0.out NB0_752.out NB0_759.out) hg (IsS74.own_ne HI0.out HO_8.out (by decide))); clear HO_8; clear ho hb hg hat) | ((with_reducible refine gate_callee (f := 96) rfl ?_); refine goesQ (some 42) Tryd.func96 #[.pointer (some ⟨g, 0, none⟩), .int .i64 4] ?_; (with_reducible refine (spec_l1Cur_pick.calls g s0_0 t764 t765 4 t769 t770 t771 w0 _ ?side1 ?side2 A21.out).mono ?_); (case side1 => exact st74_2 HI0.out NB0_752.out NB0_759.out); (case side2 => exact bl74_2 HB.out HI0.out GE752.out GE759.out); rintro e w25 ⟨rfl, hi, hb, hk⟩; refine ⟨_, rfl, ?_⟩; replace HO_9 := Aside0.mk (Kd.R_mono (Kd.R_keep (IsS74.apart (show IsS74 w0 _ g s0_0 t764 t765 from by exact st74_2 HI0.out NB0_752.out NB0_759.out) (Kd.R_g HO_9.out) (by decide)) hk (fun _ h => h.2)) (fun _ h => h.1)); replace HO_760001 := Aside0.mk (Kd.R_mono (Kd.R_keep (IsS74.apart (show IsS74 w0 _ g s0_0 t764 t765 from by exact st74_2 HI0.out NB0_752.out NB0_759.out) (Kd.R_g HO_760001.out) (by decide)) hk (fun _ h => h.2)) (fun _ h => h.1)); replace BK752 := Aside0.mk (KeepBut.blk hk (g' := gb752) (o := .cells #[.int .i64 0, .slice none 0 0] 28 (0, 0)) (blk_g BK752.out) NB752_0.out (by simp)); replace BK759 := Aside0.mk (KeepBut.blk hk (g' := gb759) (o := .cells #[.int .i64 t753, .slice Ao11 y756.length co11] 28 (0, 0)) (blk_g BK759.out) NB759_0.out (by simp)); replace HO768 := Aside0.mk (Kd.R_mono (Kd.R_keep (IsS74.apart (show IsS74 w0 _ g s0_0 t764 t765 from by exact st74_2 HI0.out NB0_752.out NB0_759.out) (Kd.R_g HO768.out) (by decide)) hk (fun _ h => h.2)) (fun _ h => h.1)); replace HK := Aside0.mk (KeepBut.trans (by exact kb74_2 HK.out GW752.out GW759.out) hk (.inl rfl)); replace HI0 := Aside0.mk (hi); replace HB := Aside0.mk (hb); (try clear hb); (try clear hk); (try clear hi)) | ((with_reducible refine gate_builtin (b := .append) (xs := #[.tmp 39, .tmp 44]) rfl ?_); at_builtin; refine Kd.R_append (Kd.int .i64) w.heap.size rfl (.tmp 39) (.tmp 44) 22 3 (.int .i64 0) 8 rfl Tryd.underlying22 info3 rfl (by decide) (by omega) u9 x9_1 (wrap64 (t763 + t769)) [.int .i64 (wrap64 (t763 + t769))] (fun k_ => some k_ ≠ (.slice Ao11 y756.length co11 : Value).ownBlock ∧ some k_ ≠ (v767 : Value).ownBlock) (fun _ => False) rfl rfl ?aP (fun _ hk => hk.elim) ?aF ?aO (Below.refl _ _) ?aS ?aL ?_; (case aP => exact rfl); (case aF => exact (fun k_ hk => ⟨Kd.fresh' (Kd.R_lt (Kd.R_g HO_760001.out)) k_ hk, Kd.fresh' (Kd.R_lt (Kd.R_g HO768.out)) k_ hk⟩)); (case aO => exact (Kd.R_g HO_9.out)); (case aS => exact (keep_size (w := w) (g := g) (row := none) (by exact kb74_2 HK.out GW752.out GW759.out))); (case aL => have := LMc22.out; omega); intro v773 w26 ho hb hg hat; rw [← Ny772.out] at ho; replace HO_760001 := Aside0.mk (Kd.R_after (ok := (fun k_ => some k_ ≠ (v767 : Value).ownBlock)) (Kd.R_g (Kd.R_mono HO_760001.out (fun _ hk => ⟨hk.2, hk.1⟩))) hg hat); replace BK752 := Aside0.mk (blk_grown (g := gb752) (o := .cells #[.int .i64 0, .slice none 0 0] 28 (0, 0)) (blk_g BK752.out) hg (Kd.R_ne HO_9.out BK752.out (by decide))); replace BK759 := Aside0.mk (blk_grown (g := gb759) (o := .cells #[.int .i64 t753, .slice Ao11 y756.length co11] 28 (0, 0)) (blk_g BK759.out) hg (Kd.R_ne HO_9.out BK759.out (by decide))); replace HO768 := Aside0.mk (Kd.R_after (ok := (fun k_ => some k_ ≠ (.slice Ao11 y756.length co11 : Value).ownBlock)) (Kd.R_g (Kd.R_mono HO768.out (fun _ hk => ⟨hk.2, hk.1⟩))) hg hat); replace HK := Aside0.mk (KeepBut.trans (by exact kb74_2 HK.out GW752.out GW759.out) (KeepBut.of_grown hg g) (Kd.R_base2 HO_9.out)); have HO774 := Aside0.mk (ho); replace HB := Aside0.mk (below_weaken (by exact bl74_2 HB.out HI0.out GE752.out GE759.out) HL.out hb); replace HI0 := Aside0.mk (IsS74.grown (by exact st74_2 HI0.out NB0_752.out NB0_759.out) hg (IsS74.own_ne HI0.out HO_9.out (by decide))); clear HO_9; clear ho hb hg hat))
         go_roundg k1
         case measure => have := HK1.out; omega
         case rel => exact ⟨(y766), (y772), (wrap64 (x10_1 + 1)), (t770), (t771), eqS, H', ⟨by have := HK1.out; omega⟩, ⟨Kd.R_g (Kd.R_mono HO768.out (fun _ hk => ⟨hk.2, hk.1⟩))⟩, ⟨Kd.R_g (Kd.R_mono HO774.out (fun _ hk => ⟨hk.2, hk.1⟩))⟩, ⟨Kd.R_g HO_760001.out⟩, ⟨blk_g BK752.out⟩, ⟨blk_g BK759.out⟩, ⟨by exact st74_2 HI0.out NB0_752.out NB0_759.out⟩, ⟨by exact kb74_2 HK.out GW752.out GW759.out⟩, ⟨by exact bl74_2 HB.out HI0.out GE752.out GE759.out⟩⟩
        ·exact absurd H (by simp)
       ·have c20b0 : (t760 == 1) = false := beq_eq_false_iff_ne.mpr c20
        have c20b1 : (t760 != 1) = true := bne_iff_ne.mpr c20
        rcases iteP H with ⟨c27, H⟩ | ⟨c27, H⟩
        ·have LMc27 := Aside0.mk c27
         clear c27
         obtain ⟨y775, hy775⟩ : ∃ y_ : List Int, y_ = (x9_1 ++ [wrap64 (t763 + 2)]) := ⟨_, rfl⟩
         replace H : (spec_l1Cur_order.l0 k1 t753 t760 y766 y775 (wrap64 (x10_1 + 1)) s0_0 t764 t765 t753 y756) = some (r1, r2, r3, r4) := by first | (rw [hy775]; with_reducible exact H) | (have H2_ := (Option.bind_some _ _).symm.trans H; rw [hy775]; with_reducible exact H2_) | (have H2_ := (Option.bind_some _ _).symm.trans H; with_reducible exact H2_) | with_reducible exact H | (rw [hy775]; exact H) | exact H
         have Ny775 := Aside0.mk hy775
         clear hy775
         have H' := Aside0.mk H
         clear H
         go_wp2_with (first | ((with_reducible refine gate_callee (f := 96) rfl ?_); refine goesQ (some 32) Tryd.func96 #[.pointer (some ⟨g, 0, none⟩), .int .i64 8] ?_; (with_reducible refine (spec_l1Cur_pick.calls g s0_0 x1001_1 x1002_1 8 t763 t764 t765 w0 _ ?side1 ?side2 A18.out).mono ?_); (case side1 => exact st74_2 HI0.out NB0_752.out NB0_759.out); (case side2 => exact bl74_2 HB.out HI0.out GE752.out GE759.out); rintro e w28 ⟨rfl, hi, hb, hk⟩; refine ⟨_, rfl, ?_⟩; replace HO_8 := Aside0.mk (Kd.R_mono (Kd.R_keep (IsS74.apart (show IsS74 w0 _ g s0_0 x1001_1 x1002_1 from by exact st74_2 HI0.out NB0_752.out NB0_759.out) (Kd.R_g HO_8.out) (by decide)) hk (fun _ h => h.2)) (fun _ h => h.1)); replace HO_9 := Aside0.mk (Kd.R_mono (Kd.R_keep (IsS74.apart (show IsS74 w0 _ g s0_0 x1001_1 x1002_1 from by exact st74_2 HI0.out NB0_752.out NB0_759.out) (Kd.R_g HO_9.out) (by decide)) hk (fun _ h => h.2)) (fun _ h => h.1)); replace HO_760001 := Aside0.mk (Kd.R_mono (Kd.R_keep (IsS74.apart (show IsS74 w0 _ g s0_0 x1001_1 x1002_1 from by exact st74_2 HI0.out NB0_752.out NB0_759.out) (Kd.R_g HO_760001.out) (by decide)) hk (fun _ h => h.2)) (fun _ h => h.1)); replace BK752 := Aside0.mk (KeepBut.blk hk (g' := gb752) (o := .cells #[.int .i64 0, .slice none 0 0] 28 (0, 0)) (blk_g BK752.out) NB752_0.out (by simp)); replace BK759 := Aside0.mk (KeepBut.blk hk (g' := gb759) (o := .cells #[.int .i64 t753, .slice Ao11 y756.length co11] 28 (0, 0)) (blk_g BK759.out) NB759_0.out (by simp)); replace HK := Aside0.mk (KeepBut.trans (by exact kb74_2 HK.out GW752.out GW759.out) hk (.inl rfl)); replace HI0 := Aside0.mk (hi); replace HB := Aside0.mk (hb); (try clear hb); (try clear hk); (try clear hi)) | ((with_reducible refine gate_builtin (b := .append) (xs := #[.tmp 33, .tmp 35]) rfl ?_); at_builtin; refine Kd.R_append (Kd.int .i64) w.heap.size rfl (.tmp 33) (.tmp 35) 22 3 (.int .i64 0) 8 rfl Tryd.underlying22 info3 rfl (by decide) (by omega) u8 x8_1 t763 [.int .i64 t763] (fun k_ => some k_ ≠ (u9 : Value).ownBlock ∧ some k_ ≠ (.slice Ao11 y756.length co11 : Value).ownBlock) (fun _ => False) rfl rfl ?aP (fun _ hk => hk.elim) ?aF ?aO (Below.refl _ _) ?aS ?aL ?_; (case aP => exact rfl); (case aF => exact (fun k_ hk => ⟨Kd.fresh' (Kd.R_lt (Kd.R_g HO_9.out)) k_ hk, Kd.fresh' (Kd.R_lt (Kd.R_g HO_760001.out)) k_ hk⟩)); (case aO => exact (Kd.R_g HO_8.out)); (case aS => exact (keep_size (w := w) (g := g) (row := none) (by exact kb74_2 HK.out GW752.out GW759.out))); (case aL => have := LMc19.out; omega); intro v767 w29 ho hb hg hat; rw [← Ny766.out] at ho; replace HO_9 := Aside0.mk (Kd.R_after (ok := (fun k_ => some k_ ≠ (.slice Ao11 y756.length co11 : Value).ownBlock)) (Kd.R_g (Kd.R_mono HO_9.out (fun _ hk => ⟨hk.2, hk.1⟩))) hg hat); replace HO_760001 := Aside0.mk (Kd.R_after (ok := (fun k_ => some k_ ≠ (u9 : Value).ownBlock)) (Kd.R_g (Kd.R_mono HO_760001.out (fun _ hk => ⟨hk.2, hk.1⟩))) hg hat); replace BK752 := Aside0.mk (blk_grown (g := gb752) (o := .cells #[.int .i64 0, .slice none 0 0] 28 (0, 0)) (blk_g BK752.out) hg (Kd.R_ne HO_8.out BK752.out (by decide))); replace BK759 := Aside0.mk (blk_grown (g := gb759) (o := .cells #[.int .i64 t753, .slice Ao11 y756.length co11] 28 (0, 0)) (blk_g BK759.out) hg (Kd.R_ne HO_8.out BK759.out (by decide))); replace HK := Aside0.mk (KeepBut.trans (by exact kb74_2 HK.out GW752.out GW759.out) (KeepBut.of_grown hg g) (Kd.R_base2 HO_8.out)); have HO768 := Aside0.mk (ho); replace HB := Aside0.mk (below_weaken (by exact bl74_2 HB.out HI0.out GE752.out GE759.out) HL.out hb); replace HI0 := Aside0.mk (IsS74.grown (by exact st74_2 HI0.out NB0_752.out NB0_759.out) hg (IsS74.own_ne HI0.out HO_8.out (by decide))); clear HO_8; clear ho hb hg hat) | ((with_reducible refine gate_builtin (b := .append) (xs := #[.tmp 46, .tmp 49]) rfl ?_); at_builtin; refine Kd.R_append (Kd.int .i64) w.heap.size rfl (.tmp 46) (.tmp 49) 22 3 (.int .i64 0) 8 rfl Tryd.underlying22 info3 rfl (by decide) (by omega) u9 x9_1 (wrap64 (t763 + 2)) [.int .i64 (wrap64 (t763 + 2))] (fun k_ => some k_ ≠ (.slice Ao11 y756.length co11 : Value).ownBlock ∧ some k_ ≠ (v767 : Value).ownBlock) (fun _ => False) rfl rfl ?aP (fun _ hk => hk.elim) ?aF ?aO (Below.refl _ _) ?aS ?aL ?_; (case aP => exact rfl); (case aF => exact (fun k_ hk => ⟨Kd.fresh' (Kd.R_lt (Kd.R_g HO_760001.out)) k_ hk, Kd.fresh' (Kd.R_lt (Kd.R_g HO768.out)) k_ hk⟩)); (case aO => exact (Kd.R_g HO_9.out)); (case aS => exact (keep_size (w := w) (g := g) (row := none) (by exact kb74_2 HK.out GW752.out GW759.out))); (case aL => have := LMc27.out; omega); intro v776 w30 ho hb hg hat; rw [← Ny775.out] at ho; replace HO_760001 := Aside0.mk (Kd.R_after (ok := (fun k_ => some k_ ≠ (v767 : Value).ownBlock)) (Kd.R_g (Kd.R_mono HO_760001.out (fun _ hk => ⟨hk.2, hk.1⟩))) hg hat); replace BK752 := Aside0.mk (blk_grown (g := gb752) (o := .cells #[.int .i64 0, .slice none 0 0] 28 (0, 0)) (blk_g BK752.out) hg (Kd.R_ne HO_9.out BK752.out (by decide))); replace BK759 := Aside0.mk (blk_grown (g := gb759) (o := .cells #[.int .i64 t753, .slice Ao11 y756.length co11] 28 (0, 0)) (blk_g BK759.out) hg (Kd.R_ne HO_9.out BK759.out (by decide))); replace HO768 := Aside0.mk (Kd.R_after (ok := (fun k_ => some k_ ≠ (.slice Ao11 y756.length co11 : Value).ownBlock)) (Kd.R_g (Kd.R_mono HO768.out (fun _ hk => ⟨hk.2, hk.1⟩))) hg hat); replace HK := Aside0.mk (KeepBut.trans (by exact kb74_2 HK.out GW752.out GW759.out) (KeepBut.of_grown hg g) (Kd.R_base2 HO_9.out)); have HO777 := Aside0.mk (ho); replace HB := Aside0.mk (below_weaken (by exact bl74_2 HB.out HI0.out GE752.out GE759.out) HL.out hb); replace HI0 := Aside0.mk (IsS74.grown (by exact st74_2 HI0.out NB0_752.out NB0_759.out) hg (IsS74.own_ne HI0.out HO_9.out (by decide))); clear HO_9; clear ho hb hg hat))
         go_roundg k1
         case measure => have := HK1.out; omega
         case rel => exact ⟨(y766), (y775), (wrap64 (x10_1 + 1)), (t764), (t765), eqS, H', ⟨by have := HK1.out; omega⟩, ⟨Kd.R_g (Kd.R_mono HO768.out (fun _ hk => ⟨hk.2, hk.1⟩))⟩, ⟨Kd.R_g (Kd.R_mono HO777.out (fun _ hk => ⟨hk.2, hk.1⟩))⟩, ⟨Kd.R_g HO_760001.out⟩, ⟨blk_g BK752.out⟩, ⟨blk_g BK759.out⟩, ⟨by exact st74_2 HI0.out NB0_752.out NB0_759.out⟩, ⟨by exact kb74_2 HK.out GW752.out GW759.out⟩, ⟨by exact bl74_2 HB.out HI0.out GE752.out GE759.out⟩⟩
        ·exact absurd H (by simp)
      ·exact absurd H (by simp)
     ·have H' := Aside0.mk H
      clear H
      go_wp2
      go_loopg [12] k1 (fun kq v12 w' => ∃ (x8_2 : List Int) (x9_2 : List Int) (x12_2 : Int) (x1001_2 : Int) (x1002_2 : Int) (x760001_2 : List Int) (u760001 : Value), v12 = .int .i64 x12_2 ∧ Aside0 (spec_l1Cur_order.l1 kq t753 t760 x8_2 x9_2 x12_2 s0_0 x1001_2 x1002_2 t753 x760001_2 = some (r1, r2, r3, r4)) ∧ Aside0 (kq ≤ k1) ∧ Aside0 (Kd.R (Kd.int .i64) 3 w' w.heap.size (fun k_ => some k_ ≠ (u9 : Value).ownBlock ∧ some k_ ≠ (u760001 : Value).ownBlock) u8 x8_2) ∧ Aside0 (Kd.R (Kd.int .i64) 3 w' w.heap.size (fun k_ => some k_ ≠ (u8 : Value).ownBlock ∧ some k_ ≠ (u760001 : Value).ownBlock) u9 x9_2) ∧ Aside0 (Kd.R (Kd.int .i64) 3 w' w.heap.size (fun k_ => some k_ ≠ (u8 : Value).ownBlock ∧ some k_ ≠ (u9 : Value).ownBlock) u760001 x760001_2) ∧ Aside0 (w'.heap[gb752]? = some (.cells #[.int .i64 0, (.slice none 0 0)] 28 (0, 0))) ∧ Aside0 (w'.heap[gb759]? = some (.cells #[.int .i64 t753, u760001] 28 (0, 0))) ∧ Aside0 (IsS74 w0 w' g s0_0 x1001_2 x1002_2) ∧ Aside0 (KeepBut w w' g none) ∧ Aside0 (Below w0.heap.size w0 w'))
      case atStart => exact ⟨(x8_1), (x9_1), (0), (x1001_1), (x1002_1), (y756), (.slice Ao11 y756.length co11), eqS, H', ⟨Nat.le_refl _⟩, ⟨Kd.R_g HO_8.out⟩, ⟨Kd.R_g HO_9.out⟩, ⟨Kd.R_g HO_760001.out⟩, ⟨blk_g BK752.out⟩, ⟨blk_g BK759.out⟩, ⟨by exact st74_2 HI0.out NB0_752.out NB0_759.out⟩, ⟨by exact kb74_2 HK.out GW752.out GW759.out⟩, ⟨by exact bl74_2 HB.out HI0.out GE752.out GE759.out⟩⟩
      case round =>
       clear H'
       try clear c4
       try clear c4b0
       try clear c4b1
       try clear c5
       try clear c5b0
       try clear c5b1
       try clear c17b0
       try clear c19
       try clear c20
       try clear c20b0
       try clear c20b1
       try clear c22
       try clear c27
       try clear hcz15_0
       try clear hcz15_1
       try clear hfz15_0
       try clear hfz15_1
       obtain ⟨x8_2, x9_2, x12_2, x1001_2, x1002_2, x760001_2, u760001, rfl, HA, HK2, HO_8, HO_9, HO_760001, BK752, BK759, HI0, HK, HB⟩ := hrel
       cases gk with
       | zero => exact absurd HA.out (by simp [spec_l1Cur_order.l1])
       | succ k2 =>
        have H := HA.out
        clear HA
        simp only [spec_l1Cur_order.l1] at H
        rcases iteE H with ⟨c31b0, H⟩ | ⟨c31b0, H⟩
        ·have H' := Aside0.mk H
         clear H
         go_wp2
         go_loopg [13] k2 (fun kq v13 w' => ∃ (x8_3 : List Int) (x9_3 : List Int) (x13_3 : Int) (x1001_3 : Int) (x1002_3 : Int) (x760001_3 : List Int) (u760001 : Value), v13 = .int .i64 x13_3 ∧ Aside0 (spec_l1Cur_order.l2 kq t753 t760 x8_3 x9_3 x12_2 x13_3 s0_0 x1001_3 x1002_3 t753 x760001_3 = some (r1, r2, r3, r4)) ∧ Aside0 (kq ≤ k2) ∧ Aside0 (Kd.R (Kd.int .i64) 3 w' w.heap.size (fun k_ => some k_ ≠ (u9 : Value).ownBlock ∧ some k_ ≠ (u760001 : Value).ownBlock) u8 x8_3) ∧ Aside0 (Kd.R (Kd.int .i64) 3 w' w.heap.size (fun k_ => some k_ ≠ (u8 : Value).ownBlock ∧ some k_ ≠ (u760001 : Value).ownBlock) u9 x9_3) ∧ Aside0 (Kd.R (Kd.int .i64) 3 w' w.heap.size (fun k_ => some k_ ≠ (u8 : Value).ownBlock ∧ some k_ ≠ (u9 : Value).ownBlock) u760001 x760001_3) ∧ Aside0 (w'.heap[gb752]? = some (.cells #[.int .i64 0, (.slice none 0 0)] 28 (0, 0))) ∧ Aside0 (w'.heap[gb759]? = some (.cells #[.int .i64 t753, u760001] 28 (0, 0))) ∧ Aside0 (IsS74 w0 w' g s0_0 x1001_3 x1002_3) ∧ Aside0 (KeepBut w w' g none) ∧ Aside0 (Below w0.heap.size w0 w'))
         case atStart => exact ⟨(x8_2), (x9_2), (0), (x1001_2), (x1002_2), (x760001_2), (u760001), eqS, H', ⟨Nat.le_refl _⟩, ⟨Kd.R_g HO_8.out⟩, ⟨Kd.R_g HO_9.out⟩, ⟨Kd.R_g HO_760001.out⟩, ⟨blk_g BK752.out⟩, ⟨blk_g BK759.out⟩, ⟨by exact st74_2 HI0.out NB0_752.out NB0_759.out⟩, ⟨by exact kb74_2 HK.out GW752.out GW759.out⟩, ⟨by exact bl74_2 HB.out HI0.out GE752.out GE759.out⟩⟩
         case round =>
          clear H'
          try clear c4
          try clear c4b0
          try clear c4b1
          try clear c5
          try clear c5b0
          try clear c5b1
          try clear c17b0
          try clear c19
          try clear c20
          try clear c20b0
          try clear c20b1
          try clear c22
          try clear c27
          try clear c31b0
          try clear hcz15_0
          try clear hcz15_1
          try clear hfz15_0
          try clear hfz15_1
          obtain ⟨x8_3, x9_3, x13_3, x1001_3, x1002_3, x760001_3, u760001, rfl, HA, HK3, HO_8, HO_9, HO_760001, BK752, BK759, HI0, HK, HB⟩ := hrel
          cases gk with
          | zero => exact absurd HA.out (by simp [spec_l1Cur_order.l2])
          | succ k3 =>
           have H := HA.out
           clear HA
           simp only [spec_l1Cur_order.l2] at H
           rcases iteE H with ⟨c32b0, H⟩ | ⟨c32b0, H⟩
           ·rcases iteP H with ⟨c33, H⟩ | ⟨c33, H⟩
            ·have c33b0 : decide (0 < t760) = true := decide_eq_true c33
             clear c33
             rcases iteP H with ⟨c34, H⟩ | ⟨c34, H⟩
             ·have c34b0 : decide (0 ≤ x12_2) = true := decide_eq_true c34
              clear c34
              rcases iteP H with ⟨c35, H⟩ | ⟨c35, H⟩
              ·have c35b0 : decide (x12_2 < (x9_3.length : Int)) = true := decide_eq_true c35
               clear c35
               rcases iteP H with ⟨c36, H⟩ | ⟨c36, H⟩
               ·have c36b0 : decide (0 ≤ x13_3) = true := decide_eq_true c36
                clear c36
                rcases iteP H with ⟨c37, H⟩ | ⟨c37, H⟩
                ·have c37b0 : decide (x13_3 < (x8_3.length : Int)) = true := decide_eq_true c37
                 clear c37
                 rcases iteE H with ⟨c38b0, H⟩ | ⟨c38b0, H⟩
                 ·rcases iteP H with ⟨c39, H⟩ | ⟨c39, H⟩
                  ·have c39b0 : decide (x12_2 < (x760001_3.length : Int)) = true := decide_eq_true c39
                   clear c39
                   have c40b0 := eq_true (ofd : 0 ≤ x13_3)
                   obtain ⟨ji41, hji41⟩ : ∃ j_ : Int, (shl .i64 1 x13_3) = j_ := ⟨_, rfl⟩
                   replace H : (spec_l1Cur_order.l2 k3 t753 t760 x8_3 x9_3 x12_2 (wrap64 (x13_3 + 1)) s0_0 x1001_3 x1002_3 t753 (x760001_3.set (x12_2 : Int).toNat (Go.bits .or .i64 (rd x760001_3 x12_2) (ji41)))) = some (r1, r2, r3, r4) := by first | (rw [hji41] at H; exact H) | (simp only [hji41] at H ⊢; exact H)
                   have hji41_ : (IntKind.i64.wrap (1 * 2 ^ min x13_3.toNat 64)) = ji41 := hji41
                   have hji41z : x13_3 ≤ 64 → (IntKind.i64.wrap (1 * 2 ^ x13_3.toNat)) = ji41 := shl_small hji41
                   have hji41u : (IntKind.i64.wrap (2 ^ min x13_3.toNat 64)) = ji41 := by have h_ := hji41_; rw [Int.one_mul] at h_; exact h_
                   have hji41v : x13_3 ≤ 64 → (IntKind.i64.wrap (2 ^ x13_3.toNat)) = ji41 := fun hle_ => by have h_ := hji41z hle_; rw [Int.one_mul] at h_; exact h_
                   have hji41y : (wrap64 (1 * 2 ^ min x13_3.toNat 64)) = ji41 := (i64_w _).symm.trans hji41_
                   have hji41x : x13_3 ≤ 64 → (wrap64 (1 * 2 ^ x13_3.toNat)) = ji41 := fun h_ => (i64_w _).symm.trans (hji41z h_)
                   obtain ⟨y787, hy787⟩ : ∃ y_ : List Int, y_ = (x760001_3.set (x12_2 : Int).toNat (Go.bits .or .i64 (rd x760001_3 x12_2) (ji41))) := ⟨_, rfl⟩
                   replace H : (spec_l1Cur_order.l2 k3 t753 t760 x8_3 x9_3 x12_2 (wrap64 (x13_3 + 1)) s0_0 x1001_3 x1002_3 t753 y787) = some (r1, r2, r3, r4) := by first | (rw [hy787]; with_reducible exact H) | (have H2_ := (Option.bind_some _ _).symm.trans H; rw [hy787]; with_reducible exact H2_) | (have H2_ := (Option.bind_some _ _).symm.trans H; with_reducible exact H2_) | with_reducible exact H | (rw [hy787]; exact H) | exact H
                   have Ny787 := Aside0.mk hy787
                   clear hy787
                   have H' := Aside0.mk H
                   clear H
                   try go_wp2
                   replace HO_8 := Aside0.mk (Kd.R_drew HO_8.out)
                   replace HO_9 := Aside0.mk (Kd.R_drew HO_9.out)
                   replace HO_760001 := Aside0.mk (Kd.R_drew HO_760001.out)
                   replace BK752 := Aside0.mk (blk_drew BK752.out)
                   replace BK759 := Aside0.mk (blk_drew BK759.out)
                   replace HI0 := Aside0.mk (IsS74.drew HI0.out)
                   replace HK := Aside0.mk (keep_drew HK.out)
                   replace HB := Aside0.mk (below_drew1 HB.out)
                   obtain ⟨Ao44, co44, eo44⟩ := Kd.R_slice HO_9.out
                   (first | subst eo44 | (injection eo44 with f1_ f2_ f3_; have f4_ := f1_.symm; have f5_ := f3_.symm; clear f1_ f2_ f3_; subst f4_; subst f5_))
                   have p784 : 0 ≤ (x12_2 : Int) := ofd
                   have q784 : x12_2 < (x9_3.length : Int) := ofd
                   obtain ⟨ad784, e784, hx784_0⟩ := Kd.at_int (Kd.R_reads' HO_9.out).2.2 x12_2 p784 q784
                   cases e784
                   replace p784 := eq_true p784
                   replace q784 := eq_true q784
                   obtain ⟨Ao45, co45, eo45⟩ := Kd.R_slice HO_8.out
                   (first | subst eo45 | (injection eo45 with f1_ f2_ f3_; have f4_ := f1_.symm; have f5_ := f3_.symm; clear f1_ f2_ f3_; subst f4_; subst f5_))
                   have p785 : 0 ≤ (x13_3 : Int) := ofd
                   have q785 : x13_3 < (x8_3.length : Int) := ofd
                   obtain ⟨ad785, e785, hx785_0⟩ := Kd.at_int (Kd.R_reads' HO_8.out).2.2 x13_3 p785 q785
                   cases e785
                   replace p785 := eq_true p785
                   replace q785 := eq_true q785
                   refine start_ (n := 26) (S := fun w' => w'.cell? (ad784.add (x12_2).toNat) = some (.int .i64 (rd x9_3 x12_2)) ∧ w'.cell? (ad785.add (x13_3).toNat) = some (.int .i64 (rd x8_3 x13_3))) (ds := []) (bm 26 0) (by kernel_rfl) rfl (by kernel_rfl) ⟨hx784_0, hx785_0⟩ (fun hHeld => ?_); refine with_tabW spec_l1Cur_order.tab19 spec_l1Cur_order.bits19 (fun HT_ HW_ => ?_)
                   generalize wr.drew = w43 at HO_8 HO_9 HO_760001 BK752 BK759 HI0 HK HB hx784_0 hx785_0 hHeld ⊢
                   refine pureW 0 (some 61) (bm 26 1) HT_ ?_
                   refine pureW 1 (some 62) (bm 26 3) HT_ ?_
                   refine pureW 2 (some 63) (bm 26 7) HT_ ?_
                   refine pureW 3 (some 64) (bm 26 15) HT_ ?_
                   refine pureW 4 (some 65) (bm 26 31) HT_ ?_
                   refine pureW 5 (some 66) (bm 26 63) HT_ ?_
                   refine pureW 7 (some 68) (bm 26 191) HT_ ?_
                   refine pureW 8 (some 69) (bm 26 447) HT_ ?_
                   refine pureW 9 (some 70) (bm 26 959) HT_ ?_
                   refine takeW 6 (some 67) (bm 26 1023) HT_ HW_ hHeld ?_
                   refine takeW 10 (some 71) (bm 26 2047) HT_ HW_ hHeld ?_
                   refine pureW 11 (some 72) (bm 26 4095) HT_ ?_
                   refine pureW 12 (some 73) (bm 26 8191) HT_ ?_
                   refine pureW 13 (some 74) (bm 26 16383) HT_ ?_
                   refine pure_ (i := 14) (N := some 75) (v := undef) (a' := ?_) (bm 26 32767) rfl rfl (any_of HT_.out (by kernel_rfl)) (fun _ _ _ h => h) (Or.inr ⟨by rfl, rfl⟩) ?_ ?_
                   rotate_left
                   ·simp only [Act.put, List.setIfInBounds_toArray, List.set_cons_zero, List.set_cons_succ, i64_w, i32_w]
                    rfl
                   refine pure_ (i := 15) (N := some 76) (v := undef) (a' := ?_) (bm 26 65535) rfl rfl (any_of HT_.out (by kernel_rfl)) (fun _ _ _ h => h) (Or.inr ⟨by rfl, rfl⟩) ?_ ?_
                   rotate_left
                   ·simp only [Act.put, List.setIfInBounds_toArray, List.set_cons_zero, List.set_cons_succ, i64_w, i32_w]
                    rfl
                   refine pure_ (i := 16) (N := some 77) (v := undef) (a' := ?_) (bm 26 131071) rfl rfl (any_of HT_.out (by kernel_rfl)) (fun _ _ _ h => h) (Or.inr ⟨by rfl, rfl⟩) ?_ ?_
                   rotate_left
                   ·simp only [Act.put, List.setIfInBounds_toArray, List.set_cons_zero, List.set_cons_succ, i64_w, i32_w]
                    rfl
                   refine pure_ (i := 17) (N := some 78) (v := undef) (a' := ?_) (bm 26 262143) rfl rfl (any_of HT_.out (by kernel_rfl)) (fun _ _ _ h => h) (Or.inr ⟨by rfl, rfl⟩) ?_ ?_
                   rotate_left
                   ·simp only [Act.put, List.setIfInBounds_toArray, List.set_cons_zero, List.set_cons_succ, i64_w, i32_w]
                    rfl
                   refine pure_ (i := 18) (N := some 79) (v := undef) (a' := ?_) (bm 26 524287) rfl rfl (any_of HT_.out (by kernel_rfl)) (fun _ _ _ h => h) (Or.inr ⟨by rfl, rfl⟩) ?_ ?_
                   rotate_left
                   ·simp only [Act.put, List.setIfInBounds_toArray, List.set_cons_zero, List.set_cons_succ, i64_w, i32_w]
                    rfl
                   refine pure_ (i := 19) (N := some 80) (v := undef) (a' := ?_) (bm 26 1048575) rfl rfl (any_of HT_.out (by kernel_rfl)) (fun _ _ _ h => h) (Or.inr ⟨by rfl, rfl⟩) ?_ ?_
                   rotate_left
                   ·simp only [Act.put, List.setIfInBounds_toArray, List.set_cons_zero, List.set_cons_succ, i64_w, i32_w]
                    rfl
                   refine pure_ (i := 20) (N := some 81) (v := undef) (a' := ?_) (bm 26 2097151) rfl rfl (any_of HT_.out (by kernel_rfl)) (fun _ _ _ h => h) (Or.inr ⟨by rfl, rfl⟩) ?_ ?_
                   rotate_left
                   ·simp only [Act.put, List.setIfInBounds_toArray, List.set_cons_zero, List.set_cons_succ, i64_w, i32_w]
                    rfl
                   refine pure_ (i := 21) (N := some 82) (v := undef) (a' := ?_) (bm 26 4194303) rfl rfl (any_of HT_.out (by kernel_rfl)) (fun _ _ _ h => h) (Or.inr ⟨by rfl, rfl⟩) ?_ ?_
                   rotate_left
                   ·simp only [Act.put, List.setIfInBounds_toArray, List.set_cons_zero, List.set_cons_succ, i64_w, i32_w]
                    rfl
                   refine pure_ (i := 22) (N := some 83) (v := undef) (a' := ?_) (bm 26 8388607) rfl rfl (any_of HT_.out (by kernel_rfl)) (fun _ _ _ h => h) (Or.inr ⟨by rfl, rfl⟩) ?_ ?_
                   rotate_left
                   ·simp only [Act.put, List.setIfInBounds_toArray, List.set_cons_zero, List.set_cons_succ, i64_w, i32_w]
                    rfl
                   refine pure_ (i := 23) (N := some 84) (v := undef) (a' := ?_) (bm 26 16777215) rfl rfl (any_of HT_.out (by kernel_rfl)) (fun _ _ _ h => h) (Or.inr ⟨by rfl, rfl⟩) ?_ ?_
                   rotate_left
                   ·simp only [Act.put, List.setIfInBounds_toArray, List.set_cons_zero, List.set_cons_succ, i64_w, i32_w]
                    rfl
                   refine pure_ (i := 24) (N := some 85) (v := undef) (a' := ?_) (bm 26 33554431) rfl rfl (any_of HT_.out (by kernel_rfl)) (fun _ _ _ h => h) (Or.inr ⟨by rfl, rfl⟩) ?_ ?_
                   rotate_left
                   ·simp only [Act.put, List.setIfInBounds_toArray, List.set_cons_zero, List.set_cons_succ, i64_w, i32_w]
                    rfl
                   refine pureW 25 (some 86) (bm 26 67108863) HT_ ?_
                   refine doneW HT_ ?_
                   try go_wp2
                   replace HO_8 := Aside0.mk (Kd.R_drew HO_8.out)
                   replace HO_9 := Aside0.mk (Kd.R_drew HO_9.out)
                   replace HO_760001 := Aside0.mk (Kd.R_drew HO_760001.out)
                   replace BK752 := Aside0.mk (blk_drew BK752.out)
                   replace BK759 := Aside0.mk (blk_drew BK759.out)
                   replace HI0 := Aside0.mk (IsS74.drew HI0.out)
                   replace HK := Aside0.mk (keep_drew HK.out)
                   replace HB := Aside0.mk (below_drew1 HB.out)
                   obtain ⟨Ao47, co47, eo47⟩ := Kd.R_slice HO_760001.out
                   (first | subst eo47 | (injection eo47 with f1_ f2_ f3_; have f4_ := f1_.symm; have f5_ := f3_.symm; clear f1_ f2_ f3_; subst f4_; subst f5_))
                   have p786 : 0 ≤ (x12_2 : Int) := ofd
                   have q786 : x12_2 < (x760001_3.length : Int) := ofd
                   obtain ⟨ad786, e786, hx786_0⟩ := Kd.at_int (Kd.R_reads' HO_760001.out).2.2 x12_2 p786 q786
                   cases e786
                   replace p786 := eq_true p786
                   replace q786 := eq_true q786
                   have p42 : 0 ≤ (x12_2 : Int) := ofd
                   have q42 : (x12_2 : Int) < ((x760001_3.length : Int) : Int) := ofd
                   obtain ⟨go42, co42, eo42, gb42, gl42, cl42, HG42⟩ := Kd.R_form HO_760001.out (by omega)
                   (first | cases eo42 | (injection eo42 with ea_ en_ ec_; (first | subst ea_ | (injection ea_ with ea_; subst ea_)); subst ec_; clear en_))
                   have GB42 : Ge _ _ := ⟨gb42⟩
                   have GG42 := Aside0.mk HG42
                   clear gb42 gl42 HG42
                   (first | simp only [add_plain] at hx786_0 | skip)
                   obtain ⟨hx42_0, hf42_0⟩ := Kd.R_celln 0 HO_760001.out (x12_2 : Int) p42 q42
                   replace p42 := eq_true p42
                   replace q42 := eq_true q42
                   have HN0_go42 := Aside0.mk (show g ≠ go42 from by have h_ := IsS74.own_ne HI0.out HO_760001.out (by decide); intro e_; exact h_ (by rw [e_]; rfl))
                   have HP48 := Kd.R_putn HO_760001.out (x12_2 : Int) (Go.bits .or .i64 (rd x760001_3 x12_2) (ji41))
                   rw [← Ny787.out] at HP48
                   have HQ48 := Aside0.mk HP48
                   clear HP48
                   refine start_ (n := 10) (S := fun w' => w'.cell? ⟨gb759, 0, none⟩ = some (.int .i64 t753) ∧ w'.cell? ⟨gb759, 1, none⟩ = some (.slice (some ⟨go42, 0, none⟩) x760001_3.length co47) ∧ w'.cell? ⟨go42, (x12_2).toNat, none⟩ = some (.int .i64 (rd x760001_3 x12_2))) (ds := [9]) (bm 10 0) (by kernel_rfl) rfl rfl ⟨(blk_cell BK759.out 0).trans rfl, (blk_cell BK759.out 1).trans rfl, hx786_0⟩ (fun hHeld => ?_); refine with_tabW spec_l1Cur_order.tab20 spec_l1Cur_order.bits20 (fun HT_ HW_ => ?_)
                   generalize w43.drew = w46 at HO_8 HO_9 HO_760001 BK752 BK759 HI0 HK HB GG42 HQ48 hf42_0 hx42_0 hx786_0 hHeld ⊢
                   refine pureW 0 (some 87) (bm 10 1) HT_ ?_
                   refine pureW 2 (some 89) (bm 10 5) HT_ ?_
                   refine pureW 5 (some 92) (bm 10 37) HT_ ?_
                   refine pureW 6 (some 93) (bm 10 101) HT_ ?_
                   refine takeW 1 (some 88) (bm 10 103) HT_ HW_ hHeld ?_
                   refine pureW 3 (some 90) (bm 10 111) HT_ ?_
                   refine takeW 4 (some 91) (bm 10 127) HT_ HW_ hHeld ?_
                   refine pureW 7 (some 94) (bm 10 255) HT_ ?_
                   refine pureW 8 (some 95) (bm 10 511) HT_ ?_
                   refine last_ (i := 9) (N := none) (bm 10 1023) rfl rfl (one_of HT_.out (by kernel_rfl)) (by decide) (fun K hK => ?_)
                   refine skip_ (w1 := ?_) (by rfl) rfl ?_ ?_
                   rotate_left
                   ·go_simp
                    rfl
                   refine hK.out _ _ ?_
                   clear hK K
                   refine doneW HT_ ?_
                   try go_wp2
                   go_roundg k3
                   case measure => have := HK1.out; have := HK2.out; have := HK3.out; omega
                   case rel => exact ⟨(x8_3), (x9_3), (wrap64 (x13_3 + 1)), (x1001_3), (x1002_3), (y787), (.slice (some ⟨go42, 0, none⟩) x760001_3.length co47), eqS, H', ⟨by have := HK1.out; have := HK2.out; have := HK3.out; omega⟩, ⟨Kd.R_g (Kd.R_mono (Kd.R_far (p := ⟨go42, (x12_2 : Int).toNat, none⟩) (Kd.R_mono HO_8.out (fun k_ hk => (⟨hk, fun e_ => hk.2 (by rw [e_]; rfl)⟩ : _ ∧ k_ ≠ go42))) (fun _ hk => hk.2) (.int .i64 (Go.bits .or .i64 (rd x760001_3 x12_2) (ji41)))) (fun _ hk => ⟨hk.1.1, hk.1.2⟩))⟩, ⟨Kd.R_g (Kd.R_mono (Kd.R_far (p := ⟨go42, (x12_2 : Int).toNat, none⟩) (Kd.R_mono HO_9.out (fun k_ hk => (⟨hk, fun e_ => hk.2 (by rw [e_]; rfl)⟩ : _ ∧ k_ ≠ go42))) (fun _ hk => hk.2) (.int .i64 (Go.bits .or .i64 (rd x760001_3 x12_2) (ji41)))) (fun _ hk => ⟨hk.1.1, hk.1.2⟩))⟩, ⟨Kd.R_g HQ48.out⟩, ⟨by (with_reducible repeat (first | refine blk_drewN ?_ _ | refine blk_drew ?_ | refine blk_alloc ?_ _)); refine blk_far ?_ (by have h_ := Kd.R_ne HO_760001.out BK752.out (by decide); intro e_; exact h_ (by rw [e_]; rfl)) _; (with_reducible repeat (first | refine blk_drewN ?_ _ | refine blk_drew ?_ | refine blk_alloc ?_ _)); exact BK752.out⟩, ⟨by (with_reducible repeat (first | refine blk_drewN ?_ _ | refine blk_drew ?_ | refine blk_alloc ?_ _)); refine blk_far ?_ (by have h_ := Kd.R_ne HO_760001.out BK759.out (by decide); intro e_; exact h_ (by rw [e_]; rfl)) _; (with_reducible repeat (first | refine blk_drewN ?_ _ | refine blk_drew ?_ | refine blk_alloc ?_ _)); exact BK759.out⟩, ⟨by exact st74_3 HI0.out HN0_go42.out NB0_752.out NB0_759.out⟩, ⟨by exact kb74_3 HK.out GB42.out GW752.out GW759.out⟩, ⟨by repeat (first | (with_reducible first | exact HB.out | apply below_alloc | apply pw_below_drewN | apply below_drew1 | refine below_set ?_ (Nat.le_trans HL.out GB42.out) | refine below_set ?_ (IsS74.ge HI0.out) | refine below_set ?_ GE752.out | refine below_set ?_ GE759.out) | exact HB.out)⟩⟩
                  ·exact absurd H (by simp)
                 ·rcases iteP H with ⟨c49, H⟩ | ⟨c49, H⟩
                  ·have c49b0 : (t760 == 0) = true := beq_iff_eq.mpr c49
                   have c49b1 : (t760 != 0) = false := bne_eq_false_iff_eq.mpr c49
                   clear c49
                   rcases iteE H with ⟨c50b0, H⟩ | ⟨c50b0, H⟩
                   ·obtain ⟨⟨t788, t789, t790⟩, A51, H⟩ := obE H
                    dsimp only at H
                    by_cases c52 : t788 = true
                    ·subst c52
                     replace H := ifT H
                     rcases iteP H with ⟨c53, H⟩ | ⟨c53, H⟩
                     ·have c53b0 : decide (x12_2 < (x760001_3.length : Int)) = true := decide_eq_true c53
                      clear c53
                      have c54b0 := eq_true (ofd : 0 ≤ x13_3)
                      obtain ⟨ji55, hji55⟩ : ∃ j_ : Int, (shl .i64 1 x13_3) = j_ := ⟨_, rfl⟩
                      replace H : (spec_l1Cur_order.l2 k3 t753 t760 x8_3 x9_3 x12_2 (wrap64 (x13_3 + 1)) s0_0 t789 t790 t753 (x760001_3.set (x12_2 : Int).toNat (Go.bits .or .i64 (rd x760001_3 x12_2) (ji55)))) = some (r1, r2, r3, r4) := by first | (rw [hji55] at H; exact H) | (simp only [hji55] at H ⊢; exact H)
                      (try rw [hji55] at A51)
                      have hji55_ : (IntKind.i64.wrap (1 * 2 ^ min x13_3.toNat 64)) = ji55 := hji55
                      have hji55z : x13_3 ≤ 64 → (IntKind.i64.wrap (1 * 2 ^ x13_3.toNat)) = ji55 := shl_small hji55
                      have hji55u : (IntKind.i64.wrap (2 ^ min x13_3.toNat 64)) = ji55 := by have h_ := hji55_; rw [Int.one_mul] at h_; exact h_
                      have hji55v : x13_3 ≤ 64 → (IntKind.i64.wrap (2 ^ x13_3.toNat)) = ji55 := fun hle_ => by have h_ := hji55z hle_; rw [Int.one_mul] at h_; exact h_
                      have hji55y : (wrap64 (1 * 2 ^ min x13_3.toNat 64)) = ji55 := (i64_w _).symm.trans hji55_
                      have hji55x : x13_3 ≤ 64 → (wrap64 (1 * 2 ^ x13_3.toNat)) = ji55 := fun h_ => (i64_w _).symm.trans (hji55z h_)
                      obtain ⟨y792, hy792⟩ : ∃ y_ : List Int, y_ = (x760001_3.set (x12_2 : Int).toNat (Go.bits .or .i64 (rd x760001_3 x12_2) (ji55))) := ⟨_, rfl⟩
                      replace H : (spec_l1Cur_order.l2 k3 t753 t760 x8_3 x9_3 x12_2 (wrap64 (x13_3 + 1)) s0_0 t789 t790 t753 y792) = some (r1, r2, r3, r4) := by first | (rw [hy792]; with_reducible exact H) | (have H2_ := (Option.bind_some _ _).symm.trans H; rw [hy792]; with_reducible exact H2_) | (have H2_ := (Option.bind_some _ _).symm.trans H; with_reducible exact H2_) | with_reducible exact H | (rw [hy792]; exact H) | exact H
                      have Ny792 := Aside0.mk hy792
                      clear hy792
                      have H' := Aside0.mk H
                      clear H
                      try go_wp2
                      replace HO_8 := Aside0.mk (Kd.R_drew HO_8.out)
                      replace HO_9 := Aside0.mk (Kd.R_drew HO_9.out)
                      replace HO_760001 := Aside0.mk (Kd.R_drew HO_760001.out)
                      replace BK752 := Aside0.mk (blk_drew BK752.out)
                      replace BK759 := Aside0.mk (blk_drew BK759.out)
                      replace HI0 := Aside0.mk (IsS74.drew HI0.out)
                      replace HK := Aside0.mk (keep_drew HK.out)
                      replace HB := Aside0.mk (below_drew1 HB.out)
                      obtain ⟨Ao58, co58, eo58⟩ := Kd.R_slice HO_9.out
                      (first | subst eo58 | (injection eo58 with f1_ f2_ f3_; have f4_ := f1_.symm; have f5_ := f3_.symm; clear f1_ f2_ f3_; subst f4_; subst f5_))
                      have p784 : 0 ≤ (x12_2 : Int) := ofd
                      have q784 : x12_2 < (x9_3.length : Int) := ofd
                      obtain ⟨ad784, e784, hx784_0⟩ := Kd.at_int (Kd.R_reads' HO_9.out).2.2 x12_2 p784 q784
                      cases e784
                      replace p784 := eq_true p784
                      replace q784 := eq_true q784
                      obtain ⟨Ao59, co59, eo59⟩ := Kd.R_slice HO_8.out
                      (first | subst eo59 | (injection eo59 with f1_ f2_ f3_; have f4_ := f1_.symm; have f5_ := f3_.symm; clear f1_ f2_ f3_; subst f4_; subst f5_))
                      have p785 : 0 ≤ (x13_3 : Int) := ofd
                      have q785 : x13_3 < (x8_3.length : Int) := ofd
                      obtain ⟨ad785, e785, hx785_0⟩ := Kd.at_int (Kd.R_reads' HO_8.out).2.2 x13_3 p785 q785
                      cases e785
                      replace p785 := eq_true p785
                      replace q785 := eq_true q785
                      refine start_ (n := 26) (S := fun w' => w'.cell? (ad784.add (x12_2).toNat) = some (.int .i64 (rd x9_3 x12_2)) ∧ w'.cell? (ad785.add (x13_3).toNat) = some (.int .i64 (rd x8_3 x13_3))) (ds := []) (bm 26 0) (by kernel_rfl) rfl (by kernel_rfl) ⟨hx784_0, hx785_0⟩ (fun hHeld => ?_); refine with_tabW spec_l1Cur_order.tab19 spec_l1Cur_order.bits19 (fun HT_ HW_ => ?_)
                      generalize wr.drew = w57 at HO_8 HO_9 HO_760001 BK752 BK759 HI0 HK HB hx784_0 hx785_0 hHeld ⊢
                      refine pureW 0 (some 61) (bm 26 1) HT_ ?_
                      refine pureW 1 (some 62) (bm 26 3) HT_ ?_
                      refine pureW 2 (some 63) (bm 26 7) HT_ ?_
                      refine pureW 3 (some 64) (bm 26 15) HT_ ?_
                      refine pureW 4 (some 65) (bm 26 31) HT_ ?_
                      refine pureW 5 (some 66) (bm 26 63) HT_ ?_
                      refine pureW 7 (some 68) (bm 26 191) HT_ ?_
                      refine pureW 8 (some 69) (bm 26 447) HT_ ?_
                      refine pureW 9 (some 70) (bm 26 959) HT_ ?_
                      refine takeW 6 (some 67) (bm 26 1023) HT_ HW_ hHeld ?_
                      refine takeW 10 (some 71) (bm 26 2047) HT_ HW_ hHeld ?_
                      refine pureW 11 (some 72) (bm 26 4095) HT_ ?_
                      refine pureW 12 (some 73) (bm 26 8191) HT_ ?_
                      refine pureW 13 (some 74) (bm 26 16383) HT_ ?_
                      refine pureW 14 (some 75) (bm 26 32767) HT_ ?_
                      refine pureW 15 (some 76) (bm 26 65535) HT_ ?_
                      refine pureW 16 (some 77) (bm 26 131071) HT_ ?_
                      refine pureW 17 (some 78) (bm 26 262143) HT_ ?_
                      refine pureW 18 (some 79) (bm 26 524287) HT_ ?_
                      refine pureW 19 (some 80) (bm 26 1048575) HT_ ?_
                      refine pureW 20 (some 81) (bm 26 2097151) HT_ ?_
                      refine pureW 21 (some 82) (bm 26 4194303) HT_ ?_
                      refine pureW 22 (some 83) (bm 26 8388607) HT_ ?_
                      refine oneW 23 (some 84) (bm 26 16777215) HT_ (fun K hK => ?_)
                      refine goesR Tryd.func116 #[.pointer (some ⟨g, 0, none⟩), .int .i64 3] ?_
                      with_reducible refine (spec_l1Cur_one.calls g s0_0 x1001_3 x1002_3 3 true t789 t790 w0 _ ?side1 ?side2 A51.out).mono ?_
                      (case side1 => exact st74_2 HI0.out NB0_752.out NB0_759.out)
                      (case side2 => exact bl74_2 HB.out HI0.out GE752.out GE759.out)
                      rintro e w60 ⟨rfl, hi, hb, hk⟩
                      have HS0_ := keep_cell hk (hHeld.1) (by first | (rw [add_block]; exact Kd.own_blk (IsS74.own_ne HI0.out HO_9.out (by decide))) | (show (Addr.add _ _).block ≠ _; rw [add_block]; exact Kd.own_blk (IsS74.own_ne HI0.out HO_9.out (by decide))) | exact Kd.own_blk (IsS74.own_ne HI0.out HO_9.out (by decide)))
                      have HS1_ := keep_cell hk (hHeld.2) (by first | (rw [add_block]; exact Kd.own_blk (IsS74.own_ne HI0.out HO_8.out (by decide))) | (show (Addr.add _ _).block ≠ _; rw [add_block]; exact Kd.own_blk (IsS74.own_ne HI0.out HO_8.out (by decide))) | exact Kd.own_blk (IsS74.own_ne HI0.out HO_8.out (by decide)))
                      refine ⟨_, rfl, ?_⟩
                      replace HO_8 := Aside0.mk (Kd.R_mono (Kd.R_keep (IsS74.apart (show IsS74 w0 _ g s0_0 x1001_3 x1002_3 from by exact st74_2 HI0.out NB0_752.out NB0_759.out) (Kd.R_g HO_8.out) (by decide)) hk (fun _ h => h.2)) (fun _ h => h.1))
                      replace HO_9 := Aside0.mk (Kd.R_mono (Kd.R_keep (IsS74.apart (show IsS74 w0 _ g s0_0 x1001_3 x1002_3 from by exact st74_2 HI0.out NB0_752.out NB0_759.out) (Kd.R_g HO_9.out) (by decide)) hk (fun _ h => h.2)) (fun _ h => h.1))
                      replace HO_760001 := Aside0.mk (Kd.R_mono (Kd.R_keep (IsS74.apart (show IsS74 w0 _ g s0_0 x1001_3 x1002_3 from by exact st74_2 HI0.out NB0_752.out NB0_759.out) (Kd.R_g HO_760001.out) (by decide)) hk (fun _ h => h.2)) (fun _ h => h.1))
                      replace BK752 := Aside0.mk (KeepBut.blk hk (g' := gb752) (o := .cells #[.int .i64 0, .slice none 0 0] 28 (0, 0)) (blk_g BK752.out) NB752_0.out (by simp))
                      replace BK759 := Aside0.mk (KeepBut.blk hk (g' := gb759) (o := .cells #[.int .i64 t753, u760001] 28 (0, 0)) (blk_g BK759.out) NB759_0.out (by simp))
                      replace HK := Aside0.mk (KeepBut.trans (by exact kb74_2 HK.out GW752.out GW759.out) hk (.inl rfl))
                      replace HI0 := Aside0.mk (hi)
                      replace HB := Aside0.mk (hb)
                      (try clear hb)
                      (try clear hb2)
                      (try clear hk)
                      (try clear hi)
                      refine hK.out _ _ ⟨HS0_, HS1_⟩ (fun hHeld => ?_)
                      clear hK K
                      refine normW 84 ?_
                      refine pureW 24 (some 85) (bm 26 33554431) HT_ ?_
                      refine pureW 25 (some 86) (bm 26 67108863) HT_ ?_
                      refine doneW HT_ ?_
                      try go_wp2
                      replace HO_8 := Aside0.mk (Kd.R_drew HO_8.out)
                      replace HO_9 := Aside0.mk (Kd.R_drew HO_9.out)
                      replace HO_760001 := Aside0.mk (Kd.R_drew HO_760001.out)
                      replace BK752 := Aside0.mk (blk_drew BK752.out)
                      replace BK759 := Aside0.mk (blk_drew BK759.out)
                      replace HI0 := Aside0.mk (IsS74.drew HI0.out)
                      replace HK := Aside0.mk (keep_drew HK.out)
                      replace HB := Aside0.mk (below_drew1 HB.out)
                      obtain ⟨Ao62, co62, eo62⟩ := Kd.R_slice HO_760001.out
                      (first | subst eo62 | (injection eo62 with f1_ f2_ f3_; have f4_ := f1_.symm; have f5_ := f3_.symm; clear f1_ f2_ f3_; subst f4_; subst f5_))
                      have p791 : 0 ≤ (x12_2 : Int) := ofd
                      have q791 : x12_2 < (x760001_3.length : Int) := ofd
                      obtain ⟨ad791, e791, hx791_0⟩ := Kd.at_int (Kd.R_reads' HO_760001.out).2.2 x12_2 p791 q791
                      cases e791
                      replace p791 := eq_true p791
                      replace q791 := eq_true q791
                      have p56 : 0 ≤ (x12_2 : Int) := ofd
                      have q56 : (x12_2 : Int) < ((x760001_3.length : Int) : Int) := ofd
                      obtain ⟨go56, co56, eo56, gb56, gl56, cl56, HG56⟩ := Kd.R_form HO_760001.out (by omega)
                      (first | cases eo56 | (injection eo56 with ea_ en_ ec_; (first | subst ea_ | (injection ea_ with ea_; subst ea_)); subst ec_; clear en_))
                      have GB56 : Ge _ _ := ⟨gb56⟩
                      have GG56 := Aside0.mk HG56
                      clear gb56 gl56 HG56
                      (first | simp only [add_plain] at hx791_0 | skip)
                      obtain ⟨hx56_0, hf56_0⟩ := Kd.R_celln 0 HO_760001.out (x12_2 : Int) p56 q56
                      replace p56 := eq_true p56
                      replace q56 := eq_true q56
                      have HN0_go56 := Aside0.mk (show g ≠ go56 from by have h_ := IsS74.own_ne HI0.out HO_760001.out (by decide); intro e_; exact h_ (by rw [e_]; rfl))
                      have HP63 := Kd.R_putn HO_760001.out (x12_2 : Int) (Go.bits .or .i64 (rd x760001_3 x12_2) (ji55))
                      rw [← Ny792.out] at HP63
                      have HQ63 := Aside0.mk HP63
                      clear HP63
                      refine start_ (n := 10) (S := fun w' => w'.cell? ⟨gb759, 0, none⟩ = some (.int .i64 t753) ∧ w'.cell? ⟨gb759, 1, none⟩ = some (.slice (some ⟨go56, 0, none⟩) x760001_3.length co62) ∧ w'.cell? ⟨go56, (x12_2).toNat, none⟩ = some (.int .i64 (rd x760001_3 x12_2))) (ds := [9]) (bm 10 0) (by kernel_rfl) rfl rfl ⟨(blk_cell BK759.out 0).trans rfl, (blk_cell BK759.out 1).trans rfl, hx791_0⟩ (fun hHeld => ?_); refine with_tabW spec_l1Cur_order.tab20 spec_l1Cur_order.bits20 (fun HT_ HW_ => ?_)
                      generalize w60.drew = w61 at HO_8 HO_9 HO_760001 BK752 BK759 HI0 HK HB GG56 HQ63 hf56_0 hx56_0 hx791_0 hHeld ⊢
                      refine pureW 0 (some 87) (bm 10 1) HT_ ?_
                      refine pureW 2 (some 89) (bm 10 5) HT_ ?_
                      refine pureW 5 (some 92) (bm 10 37) HT_ ?_
                      refine pureW 6 (some 93) (bm 10 101) HT_ ?_
                      refine takeW 1 (some 88) (bm 10 103) HT_ HW_ hHeld ?_
                      refine pureW 3 (some 90) (bm 10 111) HT_ ?_
                      refine takeW 4 (some 91) (bm 10 127) HT_ HW_ hHeld ?_
                      refine pureW 7 (some 94) (bm 10 255) HT_ ?_
                      refine pureW 8 (some 95) (bm 10 511) HT_ ?_
                      refine last_ (i := 9) (N := none) (bm 10 1023) rfl rfl (one_of HT_.out (by kernel_rfl)) (by decide) (fun K hK => ?_)
                      refine skip_ (w1 := ?_) (by rfl) rfl ?_ ?_
                      rotate_left
                      ·go_simp
                       rfl
                      refine hK.out _ _ ?_
                      clear hK K
                      refine doneW HT_ ?_
                      try go_wp2
                      go_roundg k3
                      case measure => have := HK1.out; have := HK2.out; have := HK3.out; omega
                      case rel => exact ⟨(x8_3), (x9_3), (wrap64 (x13_3 + 1)), (t789), (t790), (y792), (.slice (some ⟨go56, 0, none⟩) x760001_3.length co62), eqS, H', ⟨by have := HK1.out; have := HK2.out; have := HK3.out; omega⟩, ⟨Kd.R_g (Kd.R_mono (Kd.R_far (p := ⟨go56, (x12_2 : Int).toNat, none⟩) (Kd.R_mono HO_8.out (fun k_ hk => (⟨hk, fun e_ => hk.2 (by rw [e_]; rfl)⟩ : _ ∧ k_ ≠ go56))) (fun _ hk => hk.2) (.int .i64 (Go.bits .or .i64 (rd x760001_3 x12_2) (ji55)))) (fun _ hk => ⟨hk.1.1, hk.1.2⟩))⟩, ⟨Kd.R_g (Kd.R_mono (Kd.R_far (p := ⟨go56, (x12_2 : Int).toNat, none⟩) (Kd.R_mono HO_9.out (fun k_ hk => (⟨hk, fun e_ => hk.2 (by rw [e_]; rfl)⟩ : _ ∧ k_ ≠ go56))) (fun _ hk => hk.2) (.int .i64 (Go.bits .or .i64 (rd x760001_3 x12_2) (ji55)))) (fun _ hk => ⟨hk.1.1, hk.1.2⟩))⟩, ⟨Kd.R_g HQ63.out⟩, ⟨by (with_reducible repeat (first | refine blk_drewN ?_ _ | refine blk_drew ?_ | refine blk_alloc ?_ _)); refine blk_far ?_ (by have h_ := Kd.R_ne HO_760001.out BK752.out (by decide); intro e_; exact h_ (by rw [e_]; rfl)) _; (with_reducible repeat (first | refine blk_drewN ?_ _ | refine blk_drew ?_ | refine blk_alloc ?_ _)); exact BK752.out⟩, ⟨by (with_reducible repeat (first | refine blk_drewN ?_ _ | refine blk_drew ?_ | refine blk_alloc ?_ _)); refine blk_far ?_ (by have h_ := Kd.R_ne HO_760001.out BK759.out (by decide); intro e_; exact h_ (by rw [e_]; rfl)) _; (with_reducible repeat (first | refine blk_drewN ?_ _ | refine blk_drew ?_ | refine blk_alloc ?_ _)); exact BK759.out⟩, ⟨by exact st74_3 HI0.out HN0_go56.out NB0_752.out NB0_759.out⟩, ⟨by exact kb74_3 HK.out GB56.out GW752.out GW759.out⟩, ⟨by repeat (first | (with_reducible first | exact HB.out | apply below_alloc | apply pw_below_drewN | apply below_drew1 | refine below_set ?_ (Nat.le_trans HL.out GB56.out) | refine below_set ?_ (IsS74.ge HI0.out) | refine below_set ?_ GE752.out | refine below_set ?_ GE759.out) | exact HB.out)⟩⟩
                     ·exact absurd H (by simp)
                    ·replace c52 := Bool.eq_false_iff.mpr c52
                     subst c52
                     replace H := ifF H
                     have H' := Aside0.mk H
                     clear H
                     try go_wp2
                     replace HO_8 := Aside0.mk (Kd.R_drew HO_8.out)
                     replace HO_9 := Aside0.mk (Kd.R_drew HO_9.out)
                     replace HO_760001 := Aside0.mk (Kd.R_drew HO_760001.out)
                     replace BK752 := Aside0.mk (blk_drew BK752.out)
                     replace BK759 := Aside0.mk (blk_drew BK759.out)
                     replace HI0 := Aside0.mk (IsS74.drew HI0.out)
                     replace HK := Aside0.mk (keep_drew HK.out)
                     replace HB := Aside0.mk (below_drew1 HB.out)
                     obtain ⟨Ao65, co65, eo65⟩ := Kd.R_slice HO_9.out
                     (first | subst eo65 | (injection eo65 with f1_ f2_ f3_; have f4_ := f1_.symm; have f5_ := f3_.symm; clear f1_ f2_ f3_; subst f4_; subst f5_))
                     have p784 : 0 ≤ (x12_2 : Int) := ofd
                     have q784 : x12_2 < (x9_3.length : Int) := ofd
                     obtain ⟨ad784, e784, hx784_0⟩ := Kd.at_int (Kd.R_reads' HO_9.out).2.2 x12_2 p784 q784
                     cases e784
                     replace p784 := eq_true p784
                     replace q784 := eq_true q784
                     obtain ⟨Ao66, co66, eo66⟩ := Kd.R_slice HO_8.out
                     (first | subst eo66 | (injection eo66 with f1_ f2_ f3_; have f4_ := f1_.symm; have f5_ := f3_.symm; clear f1_ f2_ f3_; subst f4_; subst f5_))
                     have p785 : 0 ≤ (x13_3 : Int) := ofd
                     have q785 : x13_3 < (x8_3.length : Int) := ofd
                     obtain ⟨ad785, e785, hx785_0⟩ := Kd.at_int (Kd.R_reads' HO_8.out).2.2 x13_3 p785 q785
                     cases e785
                     replace p785 := eq_true p785
                     replace q785 := eq_true q785
                     refine start_ (n := 26) (S := fun w' => w'.cell? (ad784.add (x12_2).toNat) = some (.int .i64 (rd x9_3 x12_2)) ∧ w'.cell? (ad785.add (x13_3).toNat) = some (.int .i64 (rd x8_3 x13_3))) (ds := []) (bm 26 0) (by kernel_rfl) rfl (by kernel_rfl) ⟨hx784_0, hx785_0⟩ (fun hHeld => ?_); refine with_tabW spec_l1Cur_order.tab19 spec_l1Cur_order.bits19 (fun HT_ HW_ => ?_)
                     generalize wr.drew = w64 at HO_8 HO_9 HO_760001 BK752 BK759 HI0 HK HB hx784_0 hx785_0 hHeld ⊢
                     refine pureW 0 (some 61) (bm 26 1) HT_ ?_
                     refine pureW 1 (some 62) (bm 26 3) HT_ ?_
                     refine pureW 2 (some 63) (bm 26 7) HT_ ?_
                     refine pureW 3 (some 64) (bm 26 15) HT_ ?_
                     refine pureW 4 (some 65) (bm 26 31) HT_ ?_
                     refine pureW 5 (some 66) (bm 26 63) HT_ ?_
                     refine pureW 7 (some 68) (bm 26 191) HT_ ?_
                     refine pureW 8 (some 69) (bm 26 447) HT_ ?_
                     refine pureW 9 (some 70) (bm 26 959) HT_ ?_
                     refine takeW 6 (some 67) (bm 26 1023) HT_ HW_ hHeld ?_
                     refine takeW 10 (some 71) (bm 26 2047) HT_ HW_ hHeld ?_
                     refine pureW 11 (some 72) (bm 26 4095) HT_ ?_
                     refine pureW 12 (some 73) (bm 26 8191) HT_ ?_
                     refine pureW 13 (some 74) (bm 26 16383) HT_ ?_
                     refine pureW 14 (some 75) (bm 26 32767) HT_ ?_
                     refine pureW 15 (some 76) (bm 26 65535) HT_ ?_
                     refine pureW 16 (some 77) (bm 26 131071) HT_ ?_
                     refine pureW 17 (some 78) (bm 26 262143) HT_ ?_
                     refine pureW 18 (some 79) (bm 26 524287) HT_ ?_
                     refine pureW 19 (some 80) (bm 26 1048575) HT_ ?_
                     refine pureW 20 (some 81) (bm 26 2097151) HT_ ?_
                     refine pureW 21 (some 82) (bm 26 4194303) HT_ ?_
                     refine pureW 22 (some 83) (bm 26 8388607) HT_ ?_
                     refine oneW 23 (some 84) (bm 26 16777215) HT_ (fun K hK => ?_)
                     refine goesR Tryd.func116 #[.pointer (some ⟨g, 0, none⟩), .int .i64 3] ?_
                     with_reducible refine (spec_l1Cur_one.calls g s0_0 x1001_3 x1002_3 3 false t789 t790 w0 _ ?side1 ?side2 A51.out).mono ?_
                     (case side1 => exact st74_2 HI0.out NB0_752.out NB0_759.out)
                     (case side2 => exact bl74_2 HB.out HI0.out GE752.out GE759.out)
                     rintro e w67 ⟨rfl, hi, hb, hk⟩
                     have HS0_ := keep_cell hk (hHeld.1) (by first | (rw [add_block]; exact Kd.own_blk (IsS74.own_ne HI0.out HO_9.out (by decide))) | (show (Addr.add _ _).block ≠ _; rw [add_block]; exact Kd.own_blk (IsS74.own_ne HI0.out HO_9.out (by decide))) | exact Kd.own_blk (IsS74.own_ne HI0.out HO_9.out (by decide)))
                     have HS1_ := keep_cell hk (hHeld.2) (by first | (rw [add_block]; exact Kd.own_blk (IsS74.own_ne HI0.out HO_8.out (by decide))) | (show (Addr.add _ _).block ≠ _; rw [add_block]; exact Kd.own_blk (IsS74.own_ne HI0.out HO_8.out (by decide))) | exact Kd.own_blk (IsS74.own_ne HI0.out HO_8.out (by decide)))
                     refine ⟨_, rfl, ?_⟩
                     replace HO_8 := Aside0.mk (Kd.R_mono (Kd.R_keep (IsS74.apart (show IsS74 w0 _ g s0_0 x1001_3 x1002_3 from by exact st74_2 HI0.out NB0_752.out NB0_759.out) (Kd.R_g HO_8.out) (by decide)) hk (fun _ h => h.2)) (fun _ h => h.1))
                     replace HO_9 := Aside0.mk (Kd.R_mono (Kd.R_keep (IsS74.apart (show IsS74 w0 _ g s0_0 x1001_3 x1002_3 from by exact st74_2 HI0.out NB0_752.out NB0_759.out) (Kd.R_g HO_9.out) (by decide)) hk (fun _ h => h.2)) (fun _ h => h.1))
                     replace HO_760001 := Aside0.mk (Kd.R_mono (Kd.R_keep (IsS74.apart (show IsS74 w0 _ g s0_0 x1001_3 x1002_3 from by exact st74_2 HI0.out NB0_752.out NB0_759.out) (Kd.R_g HO_760001.out) (by decide)) hk (fun _ h => h.2)) (fun _ h => h.1))
                     replace BK752 := Aside0.mk (KeepBut.blk hk (g' := gb752) (o := .cells #[.int .i64 0, .slice none 0 0] 28 (0, 0)) (blk_g BK752.out) NB752_0.out (by simp))
                     replace BK759 := Aside0.mk (KeepBut.blk hk (g' := gb759) (o := .cells #[.int .i64 t753, u760001] 28 (0, 0)) (blk_g BK759.out) NB759_0.out (by simp))
                     replace HK := Aside0.mk (KeepBut.trans (by exact kb74_2 HK.out GW752.out GW759.out) hk (.inl rfl))
                     replace HI0 := Aside0.mk (hi)
                     replace HB := Aside0.mk (hb)
                     (try clear hb)
                     (try clear hb2)
                     (try clear hk)
                     (try clear hi)
                     refine hK.out _ _ ⟨HS0_, HS1_⟩ (fun hHeld => ?_)
                     clear hK K
                     refine normW 84 ?_
                     refine pureW 24 (some 85) (bm 26 33554431) HT_ ?_
                     refine pureW 25 (some 86) (bm 26 67108863) HT_ ?_
                     refine doneW HT_ ?_
                     try go_wp2
                     go_roundg k3
                     case measure => have := HK1.out; have := HK2.out; have := HK3.out; omega
                     case rel => exact ⟨(x8_3), (x9_3), (wrap64 (x13_3 + 1)), (t789), (t790), (x760001_3), (u760001), eqS, H', ⟨by have := HK1.out; have := HK2.out; have := HK3.out; omega⟩, ⟨Kd.R_g HO_8.out⟩, ⟨Kd.R_g HO_9.out⟩, ⟨Kd.R_g HO_760001.out⟩, ⟨blk_g BK752.out⟩, ⟨blk_g BK759.out⟩, ⟨by exact st74_2 HI0.out NB0_752.out NB0_759.out⟩, ⟨by exact kb74_2 HK.out GW752.out GW759.out⟩, ⟨by exact bl74_2 HB.out HI0.out GE752.out GE759.out⟩⟩
                   ·have H' := Aside0.mk H
                    clear H
                    try go_wp2
                    replace HO_8 := Aside0.mk (Kd.R_drew HO_8.out)
                    replace HO_9 := Aside0.mk (Kd.R_drew HO_9.out)
                    replace HO_760001 := Aside0.mk (Kd.R_drew HO_760001.out)
                    replace BK752 := Aside0.mk (blk_drew BK752.out)
                    replace BK759 := Aside0.mk (blk_drew BK759.out)
                    replace HI0 := Aside0.mk (IsS74.drew HI0.out)
                    replace HK := Aside0.mk (keep_drew HK.out)
                    replace HB := Aside0.mk (below_drew1 HB.out)
                    obtain ⟨Ao69, co69, eo69⟩ := Kd.R_slice HO_9.out
                    (first | subst eo69 | (injection eo69 with f1_ f2_ f3_; have f4_ := f1_.symm; have f5_ := f3_.symm; clear f1_ f2_ f3_; subst f4_; subst f5_))
                    have p784 : 0 ≤ (x12_2 : Int) := ofd
                    have q784 : x12_2 < (x9_3.length : Int) := ofd
                    obtain ⟨ad784, e784, hx784_0⟩ := Kd.at_int (Kd.R_reads' HO_9.out).2.2 x12_2 p784 q784
                    cases e784
                    replace p784 := eq_true p784
                    replace q784 := eq_true q784
                    obtain ⟨Ao70, co70, eo70⟩ := Kd.R_slice HO_8.out
                    (first | subst eo70 | (injection eo70 with f1_ f2_ f3_; have f4_ := f1_.symm; have f5_ := f3_.symm; clear f1_ f2_ f3_; subst f4_; subst f5_))
                    have p785 : 0 ≤ (x13_3 : Int) := ofd
                    have q785 : x13_3 < (x8_3.length : Int) := ofd
                    obtain ⟨ad785, e785, hx785_0⟩ := Kd.at_int (Kd.R_reads' HO_8.out).2.2 x13_3 p785 q785
                    cases e785
                    replace p785 := eq_true p785
                    replace q785 := eq_true q785
                    refine start_ (n := 26) (S := fun w' => w'.cell? (ad784.add (x12_2).toNat) = some (.int .i64 (rd x9_3 x12_2)) ∧ w'.cell? (ad785.add (x13_3).toNat) = some (.int .i64 (rd x8_3 x13_3))) (ds := []) (bm 26 0) (by kernel_rfl) rfl (by kernel_rfl) ⟨hx784_0, hx785_0⟩ (fun hHeld => ?_); refine with_tabW spec_l1Cur_order.tab19 spec_l1Cur_order.bits19 (fun HT_ HW_ => ?_)
                    generalize wr.drew = w68 at HO_8 HO_9 HO_760001 BK752 BK759 HI0 HK HB hx784_0 hx785_0 hHeld ⊢
                    refine pureW 0 (some 61) (bm 26 1) HT_ ?_
                    refine pureW 1 (some 62) (bm 26 3) HT_ ?_
                    refine pureW 2 (some 63) (bm 26 7) HT_ ?_
                    refine pureW 3 (some 64) (bm 26 15) HT_ ?_
                    refine pureW 4 (some 65) (bm 26 31) HT_ ?_
                    refine pureW 5 (some 66) (bm 26 63) HT_ ?_
                    refine pureW 7 (some 68) (bm 26 191) HT_ ?_
                    refine pureW 8 (some 69) (bm 26 447) HT_ ?_
                    refine pureW 9 (some 70) (bm 26 959) HT_ ?_
                    refine takeW 6 (some 67) (bm 26 1023) HT_ HW_ hHeld ?_
                    refine takeW 10 (some 71) (bm 26 2047) HT_ HW_ hHeld ?_
                    refine pureW 11 (some 72) (bm 26 4095) HT_ ?_
                    refine pureW 12 (some 73) (bm 26 8191) HT_ ?_
                    refine pureW 13 (some 74) (bm 26 16383) HT_ ?_
                    refine pureW 14 (some 75) (bm 26 32767) HT_ ?_
                    refine pureW 15 (some 76) (bm 26 65535) HT_ ?_
                    refine pureW 16 (some 77) (bm 26 131071) HT_ ?_
                    refine pureW 17 (some 78) (bm 26 262143) HT_ ?_
                    refine pureW 18 (some 79) (bm 26 524287) HT_ ?_
                    refine pureW 19 (some 80) (bm 26 1048575) HT_ ?_
                    refine pureW 20 (some 81) (bm 26 2097151) HT_ ?_
                    refine pureW 21 (some 82) (bm 26 4194303) HT_ ?_
                    refine pure_ (i := 22) (N := some 83) (v := undef) (a' := ?_) (bm 26 8388607) rfl rfl (any_of HT_.out (by kernel_rfl)) (fun _ _ _ h => h) (Or.inr ⟨by rfl, rfl⟩) ?_ ?_
                    rotate_left
                    ·simp only [Act.put, List.setIfInBounds_toArray, List.set_cons_zero, List.set_cons_succ, i64_w, i32_w]
                     rfl
                    refine pure_ (i := 23) (N := some 84) (v := undef) (a' := ?_) (bm 26 16777215) rfl rfl (any_of HT_.out (by kernel_rfl)) (fun _ _ _ h => h) (Or.inr ⟨by rfl, rfl⟩) ?_ ?_
                    rotate_left
                    ·simp only [Act.put, List.setIfInBounds_toArray, List.set_cons_zero, List.set_cons_succ, i64_w, i32_w]
                     rfl
                    refine pureW 24 (some 85) (bm 26 33554431) HT_ ?_
                    refine pureW 25 (some 86) (bm 26 67108863) HT_ ?_
                    refine doneW HT_ ?_
                    try go_wp2
                    go_roundg k3
                    case measure => have := HK1.out; have := HK2.out; have := HK3.out; omega
                    case rel => exact ⟨(x8_3), (x9_3), (wrap64 (x13_3 + 1)), (x1001_3), (x1002_3), (x760001_3), (u760001), eqS, H', ⟨by have := HK1.out; have := HK2.out; have := HK3.out; omega⟩, ⟨Kd.R_g HO_8.out⟩, ⟨Kd.R_g HO_9.out⟩, ⟨Kd.R_g HO_760001.out⟩, ⟨blk_g BK752.out⟩, ⟨blk_g BK759.out⟩, ⟨by exact st74_2 HI0.out NB0_752.out NB0_759.out⟩, ⟨by exact kb74_2 HK.out GW752.out GW759.out⟩, ⟨by exact bl74_2 HB.out HI0.out GE752.out GE759.out⟩⟩
                  ·have c49b0 : (t760 == 0) = false := beq_eq_false_iff_ne.mpr c49
                   have c49b1 : (t760 != 0) = true := bne_iff_ne.mpr c49
                   have H' := Aside0.mk H
                   clear H
                   try go_wp2
                   replace HO_8 := Aside0.mk (Kd.R_drew HO_8.out)
                   replace HO_9 := Aside0.mk (Kd.R_drew HO_9.out)
                   replace HO_760001 := Aside0.mk (Kd.R_drew HO_760001.out)
                   replace BK752 := Aside0.mk (blk_drew BK752.out)
                   replace BK759 := Aside0.mk (blk_drew BK759.out)
                   replace HI0 := Aside0.mk (IsS74.drew HI0.out)
                   replace HK := Aside0.mk (keep_drew HK.out)
                   replace HB := Aside0.mk (below_drew1 HB.out)
                   obtain ⟨Ao72, co72, eo72⟩ := Kd.R_slice HO_9.out
                   (first | subst eo72 | (injection eo72 with f1_ f2_ f3_; have f4_ := f1_.symm; have f5_ := f3_.symm; clear f1_ f2_ f3_; subst f4_; subst f5_))
                   have p784 : 0 ≤ (x12_2 : Int) := ofd
                   have q784 : x12_2 < (x9_3.length : Int) := ofd
                   obtain ⟨ad784, e784, hx784_0⟩ := Kd.at_int (Kd.R_reads' HO_9.out).2.2 x12_2 p784 q784
                   cases e784
                   replace p784 := eq_true p784
                   replace q784 := eq_true q784
                   obtain ⟨Ao73, co73, eo73⟩ := Kd.R_slice HO_8.out
                   (first | subst eo73 | (injection eo73 with f1_ f2_ f3_; have f4_ := f1_.symm; have f5_ := f3_.symm; clear f1_ f2_ f3_; subst f4_; subst f5_))
                   have p785 : 0 ≤ (x13_3 : Int) := ofd
                   have q785 : x13_3 < (x8_3.length : Int) := ofd
                   obtain ⟨ad785, e785, hx785_0⟩ := Kd.at_int (Kd.R_reads' HO_8.out).2.2 x13_3 p785 q785
                   cases e785
                   replace p785 := eq_true p785
                   replace q785 := eq_true q785
                   refine start_ (n := 26) (S := fun w' => w'.cell? (ad784.add (x12_2).toNat) = some (.int .i64 (rd x9_3 x12_2)) ∧ w'.cell? (ad785.add (x13_3).toNat) = some (.int .i64 (rd x8_3 x13_3))) (ds := []) (bm 26 0) (by kernel_rfl) rfl (by kernel_rfl) ⟨hx784_0, hx785_0⟩ (fun hHeld => ?_); refine with_tabW spec_l1Cur_order.tab19 spec_l1Cur_order.bits19 (fun HT_ HW_ => ?_)
                   generalize wr.drew = w71 at HO_8 HO_9 HO_760001 BK752 BK759 HI0 HK HB hx784_0 hx785_0 hHeld ⊢
                   refine pureW 0 (some 61) (bm 26 1) HT_ ?_
                   refine pureW 1 (some 62) (bm 26 3) HT_ ?_
                   refine pureW 2 (some 63) (bm 26 7) HT_ ?_
                   refine pureW 3 (some 64) (bm 26 15) HT_ ?_
                   refine pureW 4 (some 65) (bm 26 31) HT_ ?_
                   refine pureW 5 (some 66) (bm 26 63) HT_ ?_
                   refine pureW 7 (some 68) (bm 26 191) HT_ ?_
                   refine pureW 8 (some 69) (bm 26 447) HT_ ?_
                   refine pureW 9 (some 70) (bm 26 959) HT_ ?_
                   refine takeW 6 (some 67) (bm 26 1023) HT_ HW_ hHeld ?_
                   refine takeW 10 (some 71) (bm 26 2047) HT_ HW_ hHeld ?_
                   refine pureW 11 (some 72) (bm 26 4095) HT_ ?_
                   refine pureW 12 (some 73) (bm 26 8191) HT_ ?_
                   refine pureW 13 (some 74) (bm 26 16383) HT_ ?_
                   refine pureW 14 (some 75) (bm 26 32767) HT_ ?_
                   refine pureW 15 (some 76) (bm 26 65535) HT_ ?_
                   refine pureW 16 (some 77) (bm 26 131071) HT_ ?_
                   refine pure_ (i := 17) (N := some 78) (v := undef) (a' := ?_) (bm 26 262143) rfl rfl (any_of HT_.out (by kernel_rfl)) (fun _ _ _ h => h) (Or.inr ⟨by rfl, rfl⟩) ?_ ?_
                   rotate_left
                   ·simp only [Act.put, List.setIfInBounds_toArray, List.set_cons_zero, List.set_cons_succ, i64_w, i32_w]
                    rfl
                   refine pure_ (i := 18) (N := some 79) (v := undef) (a' := ?_) (bm 26 524287) rfl rfl (any_of HT_.out (by kernel_rfl)) (fun _ _ _ h => h) (Or.inr ⟨by rfl, rfl⟩) ?_ ?_
                   rotate_left
                   ·simp only [Act.put, List.setIfInBounds_toArray, List.set_cons_zero, List.set_cons_succ, i64_w, i32_w]
                    rfl
                   refine pure_ (i := 19) (N := some 80) (v := undef) (a' := ?_) (bm 26 1048575) rfl rfl (any_of HT_.out (by kernel_rfl)) (fun _ _ _ h => h) (Or.inr ⟨by rfl, rfl⟩) ?_ ?_
                   rotate_left
                   ·simp only [Act.put, List.setIfInBounds_toArray, List.set_cons_zero, List.set_cons_succ, i64_w, i32_w]
                    rfl
                   refine pureW 20 (some 81) (bm 26 2097151) HT_ ?_
                   refine pureW 21 (some 82) (bm 26 4194303) HT_ ?_
                   refine pure_ (i := 22) (N := some 83) (v := undef) (a' := ?_) (bm 26 8388607) rfl rfl (any_of HT_.out (by kernel_rfl)) (fun _ _ _ h => h) (Or.inr ⟨by rfl, rfl⟩) ?_ ?_
                   rotate_left
                   ·simp only [Act.put, List.setIfInBounds_toArray, List.set_cons_zero, List.set_cons_succ, i64_w, i32_w]
                    rfl
                   refine pure_ (i := 23) (N := some 84) (v := undef) (a' := ?_) (bm 26 16777215) rfl rfl (any_of HT_.out (by kernel_rfl)) (fun _ _ _ h => h) (Or.inr ⟨by rfl, rfl⟩) ?_ ?_
                   rotate_left
                   ·simp only [Act.put, List.setIfInBounds_toArray, List.set_cons_zero, List.set_cons_succ, i64_w, i32_w]
                    rfl
                   refine pureW 24 (some 85) (bm 26 33554431) HT_ ?_
                   refine pureW 25 (some 86) (bm 26 67108863) HT_ ?_
                   refine doneW HT_ ?_
                   try go_wp2
                   go_roundg k3
                   case measure => have := HK1.out; have := HK2.out; have := HK3.out; omega
                   case rel => exact ⟨(x8_3), (x9_3), (wrap64 (x13_3 + 1)), (x1001_3), (x1002_3), (x760001_3), (u760001), eqS, H', ⟨by have := HK1.out; have := HK2.out; have := HK3.out; omega⟩, ⟨Kd.R_g HO_8.out⟩, ⟨Kd.R_g HO_9.out⟩, ⟨Kd.R_g HO_760001.out⟩, ⟨blk_g BK752.out⟩, ⟨blk_g BK759.out⟩, ⟨by exact st74_2 HI0.out NB0_752.out NB0_759.out⟩, ⟨by exact kb74_2 HK.out GW752.out GW759.out⟩, ⟨by exact bl74_2 HB.out HI0.out GE752.out GE759.out⟩⟩
                ·exact absurd H (by simp)
               ·exact absurd H (by simp)
              ·exact absurd H (by simp)
             ·exact absurd H (by simp)
            ·have c33b0 : decide (0 < t760) = false := decide_eq_false c33
             clear c33
             rcases iteP H with ⟨c74, H⟩ | ⟨c74, H⟩
             ·have c74b0 : (t760 == 0) = true := beq_iff_eq.mpr c74
              have c74b1 : (t760 != 0) = false := bne_eq_false_iff_eq.mpr c74
              clear c74
              rcases iteE H with ⟨c75b0, H⟩ | ⟨c75b0, H⟩
              ·obtain ⟨⟨t793, t794, t795⟩, A76, H⟩ := obE H
               dsimp only at H
               by_cases c77 : t793 = true
               ·subst c77
                replace H := ifT H
                rcases iteP H with ⟨c78, H⟩ | ⟨c78, H⟩
                ·have c78b0 : decide (0 ≤ x12_2) = true := decide_eq_true c78
                 clear c78
                 rcases iteP H with ⟨c79, H⟩ | ⟨c79, H⟩
                 ·have c79b0 : decide (x12_2 < (x760001_3.length : Int)) = true := decide_eq_true c79
                  clear c79
                  rcases iteP H with ⟨c80, H⟩ | ⟨c80, H⟩
                  ·have c80b0 := eq_true c80
                   have c80b1 : decide (0 ≤ x13_3) = true := decide_eq_true c80
                   clear c80
                   obtain ⟨ji81, hji81⟩ : ∃ j_ : Int, (shl .i64 1 x13_3) = j_ := ⟨_, rfl⟩
                   replace H : (spec_l1Cur_order.l2 k3 t753 t760 x8_3 x9_3 x12_2 (wrap64 (x13_3 + 1)) s0_0 t794 t795 t753 (x760001_3.set (x12_2 : Int).toNat (Go.bits .or .i64 (rd x760001_3 x12_2) (ji81)))) = some (r1, r2, r3, r4) := by first | (rw [hji81] at H; exact H) | (simp only [hji81] at H ⊢; exact H)
                   (try rw [hji81] at A76)
                   have hji81_ : (IntKind.i64.wrap (1 * 2 ^ min x13_3.toNat 64)) = ji81 := hji81
                   have hji81z : x13_3 ≤ 64 → (IntKind.i64.wrap (1 * 2 ^ x13_3.toNat)) = ji81 := shl_small hji81
                   have hji81u : (IntKind.i64.wrap (2 ^ min x13_3.toNat 64)) = ji81 := by have h_ := hji81_; rw [Int.one_mul] at h_; exact h_
                   have hji81v : x13_3 ≤ 64 → (IntKind.i64.wrap (2 ^ x13_3.toNat)) = ji81 := fun hle_ => by have h_ := hji81z hle_; rw [Int.one_mul] at h_; exact h_
                   have hji81y : (wrap64 (1 * 2 ^ min x13_3.toNat 64)) = ji81 := (i64_w _).symm.trans hji81_
                   have hji81x : x13_3 ≤ 64 → (wrap64 (1 * 2 ^ x13_3.toNat)) = ji81 := fun h_ => (i64_w _).symm.trans (hji81z h_)
                   obtain ⟨y797, hy797⟩ : ∃ y_ : List Int, y_ = (x760001_3.set (x12_2 : Int).toNat (Go.bits .or .i64 (rd x760001_3 x12_2) (ji81))) := ⟨_, rfl⟩
                   replace H : (spec_l1Cur_order.l2 k3 t753 t760 x8_3 x9_3 x12_2 (wrap64 (x13_3 + 1)) s0_0 t794 t795 t753 y797) = some (r1, r2, r3, r4) := by first | (rw [hy797]; with_reducible exact H) | (have H2_ := (Option.bind_some _ _).symm.trans H; rw [hy797]; with_reducible exact H2_) | (have H2_ := (Option.bind_some _ _).symm.trans H; with_reducible exact H2_) | with_reducible exact H | (rw [hy797]; exact H) | exact H
                   have Ny797 := Aside0.mk hy797
                   clear hy797
                   have H' := Aside0.mk H
                   clear H
                   try go_wp2
                   replace HO_8 := Aside0.mk (Kd.R_drew HO_8.out)
                   replace HO_9 := Aside0.mk (Kd.R_drew HO_9.out)
                   replace HO_760001 := Aside0.mk (Kd.R_drew HO_760001.out)
                   replace BK752 := Aside0.mk (blk_drew BK752.out)
                   replace BK759 := Aside0.mk (blk_drew BK759.out)
                   replace HI0 := Aside0.mk (IsS74.drew HI0.out)
                   replace HK := Aside0.mk (keep_drew HK.out)
                   replace HB := Aside0.mk (below_drew1 HB.out)
                   refine start_ (n := 26) (S := fun w' => True) (ds := []) (bm 26 0) (by kernel_rfl) rfl (by kernel_rfl) trivial (fun hHeld => ?_); refine with_tabW spec_l1Cur_order.tab19 spec_l1Cur_order.bits19 (fun HT_ HW_ => ?_)
                   generalize wr.drew = w83 at HO_8 HO_9 HO_760001 BK752 BK759 HI0 HK HB hHeld ⊢
                   refine pureW 0 (some 61) (bm 26 1) HT_ ?_
                   refine pureW 1 (some 62) (bm 26 3) HT_ ?_
                   refine pureW 2 (some 63) (bm 26 7) HT_ ?_
                   refine pure_ (i := 3) (N := some 64) (v := undef) (a' := ?_) (bm 26 15) rfl rfl (any_of HT_.out (by kernel_rfl)) (fun _ _ _ h => h) (Or.inr ⟨by rfl, rfl⟩) ?_ ?_
                   rotate_left
                   ·simp only [Act.put, List.setIfInBounds_toArray, List.set_cons_zero, List.set_cons_succ, i64_w, i32_w]
                    rfl
                   refine pure_ (i := 4) (N := some 65) (v := undef) (a' := ?_) (bm 26 31) rfl rfl (any_of HT_.out (by kernel_rfl)) (fun _ _ _ h => h) (Or.inr ⟨by rfl, rfl⟩) ?_ ?_
                   rotate_left
                   ·simp only [Act.put, List.setIfInBounds_toArray, List.set_cons_zero, List.set_cons_succ, i64_w, i32_w]
                    rfl
                   refine pure_ (i := 5) (N := some 66) (v := undef) (a' := ?_) (bm 26 63) rfl rfl (any_of HT_.out (by kernel_rfl)) (fun _ _ _ h => h) (Or.inr ⟨by rfl, rfl⟩) ?_ ?_
                   rotate_left
                   ·simp only [Act.put, List.setIfInBounds_toArray, List.set_cons_zero, List.set_cons_succ, i64_w, i32_w]
                    rfl
                   refine pure_ (i := 6) (N := some 67) (v := undef) (a' := ?_) (bm 26 127) rfl rfl (any_of HT_.out (by kernel_rfl)) (fun _ _ _ h => h) (Or.inr ⟨by rfl, rfl⟩) ?_ ?_
                   rotate_left
                   ·simp only [Act.put, List.setIfInBounds_toArray, List.set_cons_zero, List.set_cons_succ, i64_w, i32_w]
                    rfl
                   refine pure_ (i := 7) (N := some 68) (v := undef) (a' := ?_) (bm 26 255) rfl rfl (any_of HT_.out (by kernel_rfl)) (fun _ _ _ h => h) (Or.inr ⟨by rfl, rfl⟩) ?_ ?_
                   rotate_left
                   ·simp only [Act.put, List.setIfInBounds_toArray, List.set_cons_zero, List.set_cons_succ, i64_w, i32_w]
                    rfl
                   refine pure_ (i := 8) (N := some 69) (v := undef) (a' := ?_) (bm 26 511) rfl rfl (any_of HT_.out (by kernel_rfl)) (fun _ _ _ h => h) (Or.inr ⟨by rfl, rfl⟩) ?_ ?_
                   rotate_left
                   ·simp only [Act.put, List.setIfInBounds_toArray, List.set_cons_zero, List.set_cons_succ, i64_w, i32_w]
                    rfl
                   refine pure_ (i := 9) (N := some 70) (v := undef) (a' := ?_) (bm 26 1023) rfl rfl (any_of HT_.out (by kernel_rfl)) (fun _ _ _ h => h) (Or.inr ⟨by rfl, rfl⟩) ?_ ?_
                   rotate_left
                   ·simp only [Act.put, List.setIfInBounds_toArray, List.set_cons_zero, List.set_cons_succ, i64_w, i32_w]
                    rfl
                   refine pure_ (i := 10) (N := some 71) (v := undef) (a' := ?_) (bm 26 2047) rfl rfl (any_of HT_.out (by kernel_rfl)) (fun _ _ _ h => h) (Or.inr ⟨by rfl, rfl⟩) ?_ ?_
                   rotate_left
                   ·simp only [Act.put, List.setIfInBounds_toArray, List.set_cons_zero, List.set_cons_succ, i64_w, i32_w]
                    rfl
                   refine pure_ (i := 11) (N := some 72) (v := undef) (a' := ?_) (bm 26 4095) rfl rfl (any_of HT_.out (by kernel_rfl)) (fun _ _ _ h => h) (Or.inr ⟨by rfl, rfl⟩) ?_ ?_
                   rotate_left
                   ·simp only [Act.put, List.setIfInBounds_toArray, List.set_cons_zero, List.set_cons_succ, i64_w, i32_w]
                    rfl
                   refine pureW 12 (some 73) (bm 26 8191) HT_ ?_
                   refine pureW 13 (some 74) (bm 26 16383) HT_ ?_
                   refine pureW 14 (some 75) (bm 26 32767) HT_ ?_
                   refine pureW 15 (some 76) (bm 26 65535) HT_ ?_
                   refine pureW 16 (some 77) (bm 26 131071) HT_ ?_
                   refine pureW 17 (some 78) (bm 26 262143) HT_ ?_
                   refine pureW 18 (some 79) (bm 26 524287) HT_ ?_
                   refine pureW 19 (some 80) (bm 26 1048575) HT_ ?_
                   refine pureW 20 (some 81) (bm 26 2097151) HT_ ?_
                   refine pureW 21 (some 82) (bm 26 4194303) HT_ ?_
                   refine pureW 22 (some 83) (bm 26 8388607) HT_ ?_
                   refine oneW 23 (some 84) (bm 26 16777215) HT_ (fun K hK => ?_)
                   refine goesR Tryd.func116 #[.pointer (some ⟨g, 0, none⟩), .int .i64 3] ?_
                   with_reducible refine (spec_l1Cur_one.calls g s0_0 x1001_3 x1002_3 3 true t794 t795 w0 _ ?side1 ?side2 A76.out).mono ?_
                   (case side1 => exact st74_2 HI0.out NB0_752.out NB0_759.out)
                   (case side2 => exact bl74_2 HB.out HI0.out GE752.out GE759.out)
                   rintro e w84 ⟨rfl, hi, hb, hk⟩
                   refine ⟨_, rfl, ?_⟩
                   replace HO_8 := Aside0.mk (Kd.R_mono (Kd.R_keep (IsS74.apart (show IsS74 w0 _ g s0_0 x1001_3 x1002_3 from by exact st74_2 HI0.out NB0_752.out NB0_759.out) (Kd.R_g HO_8.out) (by decide)) hk (fun _ h => h.2)) (fun _ h => h.1))
                   replace HO_9 := Aside0.mk (Kd.R_mono (Kd.R_keep (IsS74.apart (show IsS74 w0 _ g s0_0 x1001_3 x1002_3 from by exact st74_2 HI0.out NB0_752.out NB0_759.out) (Kd.R_g HO_9.out) (by decide)) hk (fun _ h => h.2)) (fun _ h => h.1))
                   replace HO_760001 := Aside0.mk (Kd.R_mono (Kd.R_keep (IsS74.apart (show IsS74 w0 _ g s0_0 x1001_3 x1002_3 from by exact st74_2 HI0.out NB0_752.out NB0_759.out) (Kd.R_g HO_760001.out) (by decide)) hk (fun _ h => h.2)) (fun _ h => h.1))
                   replace BK752 := Aside0.mk (KeepBut.blk hk (g' := gb752) (o := .cells #[.int .i64 0, .slice none 0 0] 28 (0, 0)) (blk_g BK752.out) NB752_0.out (by simp))
                   replace BK759 := Aside0.mk (KeepBut.blk hk (g' := gb759) (o := .cells #[.int .i64 t753, u760001] 28 (0, 0)) (blk_g BK759.out) NB759_0.out (by simp))
                   replace HK := Aside0.mk (KeepBut.trans (by exact kb74_2 HK.out GW752.out GW759.out) hk (.inl rfl))
                   replace HI0 := Aside0.mk (hi)
                   replace HB := Aside0.mk (hb)
                   (try clear hb)
                   (try clear hb2)
                   (try clear hk)
                   (try clear hi)
                   refine hK.out _ _ trivial (fun hHeld => ?_)
                   clear hK K
                   refine normW 84 ?_
                   refine pureW 24 (some 85) (bm 26 33554431) HT_ ?_
                   refine pureW 25 (some 86) (bm 26 67108863) HT_ ?_
                   refine doneW HT_ ?_
                   try go_wp2
                   replace HO_8 := Aside0.mk (Kd.R_drew HO_8.out)
                   replace HO_9 := Aside0.mk (Kd.R_drew HO_9.out)
                   replace HO_760001 := Aside0.mk (Kd.R_drew HO_760001.out)
                   replace BK752 := Aside0.mk (blk_drew BK752.out)
                   replace BK759 := Aside0.mk (blk_drew BK759.out)
                   replace HI0 := Aside0.mk (IsS74.drew HI0.out)
                   replace HK := Aside0.mk (keep_drew HK.out)
                   replace HB := Aside0.mk (below_drew1 HB.out)
                   obtain ⟨Ao86, co86, eo86⟩ := Kd.R_slice HO_760001.out
                   (first | subst eo86 | (injection eo86 with f1_ f2_ f3_; have f4_ := f1_.symm; have f5_ := f3_.symm; clear f1_ f2_ f3_; subst f4_; subst f5_))
                   have p796 : 0 ≤ (x12_2 : Int) := ofd
                   have q796 : x12_2 < (x760001_3.length : Int) := ofd
                   obtain ⟨ad796, e796, hx796_0⟩ := Kd.at_int (Kd.R_reads' HO_760001.out).2.2 x12_2 p796 q796
                   cases e796
                   replace p796 := eq_true p796
                   replace q796 := eq_true q796
                   have p82 : 0 ≤ (x12_2 : Int) := ofd
                   have q82 : (x12_2 : Int) < ((x760001_3.length : Int) : Int) := ofd
                   obtain ⟨go82, co82, eo82, gb82, gl82, cl82, HG82⟩ := Kd.R_form HO_760001.out (by omega)
                   (first | cases eo82 | (injection eo82 with ea_ en_ ec_; (first | subst ea_ | (injection ea_ with ea_; subst ea_)); subst ec_; clear en_))
                   have GB82 : Ge _ _ := ⟨gb82⟩
                   have GG82 := Aside0.mk HG82
                   clear gb82 gl82 HG82
                   (first | simp only [add_plain] at hx796_0 | skip)
                   obtain ⟨hx82_0, hf82_0⟩ := Kd.R_celln 0 HO_760001.out (x12_2 : Int) p82 q82
                   replace p82 := eq_true p82
                   replace q82 := eq_true q82
                   have HN0_go82 := Aside0.mk (show g ≠ go82 from by have h_ := IsS74.own_ne HI0.out HO_760001.out (by decide); intro e_; exact h_ (by rw [e_]; rfl))
                   have HP87 := Kd.R_putn HO_760001.out (x12_2 : Int) (Go.bits .or .i64 (rd x760001_3 x12_2) (ji81))
                   rw [← Ny797.out] at HP87
                   have HQ87 := Aside0.mk HP87
                   clear HP87
                   refine start_ (n := 10) (S := fun w' => w'.cell? ⟨gb759, 0, none⟩ = some (.int .i64 t753) ∧ w'.cell? ⟨gb759, 1, none⟩ = some (.slice (some ⟨go82, 0, none⟩) x760001_3.length co86) ∧ w'.cell? ⟨go82, (x12_2).toNat, none⟩ = some (.int .i64 (rd x760001_3 x12_2))) (ds := [9]) (bm 10 0) (by kernel_rfl) rfl rfl ⟨(blk_cell BK759.out 0).trans rfl, (blk_cell BK759.out 1).trans rfl, hx796_0⟩ (fun hHeld => ?_); refine with_tabW spec_l1Cur_order.tab20 spec_l1Cur_order.bits20 (fun HT_ HW_ => ?_)
                   generalize w84.drew = w85 at HO_8 HO_9 HO_760001 BK752 BK759 HI0 HK HB GG82 HQ87 hf82_0 hx796_0 hx82_0 hHeld ⊢
                   refine pureW 0 (some 87) (bm 10 1) HT_ ?_
                   refine pureW 2 (some 89) (bm 10 5) HT_ ?_
                   refine pureW 5 (some 92) (bm 10 37) HT_ ?_
                   refine pureW 6 (some 93) (bm 10 101) HT_ ?_
                   refine takeW 1 (some 88) (bm 10 103) HT_ HW_ hHeld ?_
                   refine pureW 3 (some 90) (bm 10 111) HT_ ?_
                   refine takeW 4 (some 91) (bm 10 127) HT_ HW_ hHeld ?_
                   refine pureW 7 (some 94) (bm 10 255) HT_ ?_
                   refine pureW 8 (some 95) (bm 10 511) HT_ ?_
                   refine last_ (i := 9) (N := none) (bm 10 1023) rfl rfl (one_of HT_.out (by kernel_rfl)) (by decide) (fun K hK => ?_)
                   refine skip_ (w1 := ?_) (by rfl) rfl ?_ ?_
                   rotate_left
                   ·go_simp
                    rfl
                   refine hK.out _ _ ?_
                   clear hK K
                   refine doneW HT_ ?_
                   try go_wp2
                   go_roundg k3
                   case measure => have := HK1.out; have := HK2.out; have := HK3.out; omega
                   case rel => exact ⟨(x8_3), (x9_3), (wrap64 (x13_3 + 1)), (t794), (t795), (y797), (.slice (some ⟨go82, 0, none⟩) x760001_3.length co86), eqS, H', ⟨by have := HK1.out; have := HK2.out; have := HK3.out; omega⟩, ⟨Kd.R_g (Kd.R_mono (Kd.R_far (p := ⟨go82, (x12_2 : Int).toNat, none⟩) (Kd.R_mono HO_8.out (fun k_ hk => (⟨hk, fun e_ => hk.2 (by rw [e_]; rfl)⟩ : _ ∧ k_ ≠ go82))) (fun _ hk => hk.2) (.int .i64 (Go.bits .or .i64 (rd x760001_3 x12_2) (ji81)))) (fun _ hk => ⟨hk.1.1, hk.1.2⟩))⟩, ⟨Kd.R_g (Kd.R_mono (Kd.R_far (p := ⟨go82, (x12_2 : Int).toNat, none⟩) (Kd.R_mono HO_9.out (fun k_ hk => (⟨hk, fun e_ => hk.2 (by rw [e_]; rfl)⟩ : _ ∧ k_ ≠ go82))) (fun _ hk => hk.2) (.int .i64 (Go.bits .or .i64 (rd x760001_3 x12_2) (ji81)))) (fun _ hk => ⟨hk.1.1, hk.1.2⟩))⟩, ⟨Kd.R_g HQ87.out⟩, ⟨by (with_reducible repeat (first | refine blk_drewN ?_ _ | refine blk_drew ?_ | refine blk_alloc ?_ _)); refine blk_far ?_ (by have h_ := Kd.R_ne HO_760001.out BK752.out (by decide); intro e_; exact h_ (by rw [e_]; rfl)) _; (with_reducible repeat (first | refine blk_drewN ?_ _ | refine blk_drew ?_ | refine blk_alloc ?_ _)); exact BK752.out⟩, ⟨by (with_reducible repeat (first | refine blk_drewN ?_ _ | refine blk_drew ?_ | refine blk_alloc ?_ _)); refine blk_far ?_ (by have h_ := Kd.R_ne HO_760001.out BK759.out (by decide); intro e_; exact h_ (by rw [e_]; rfl)) _; (with_reducible repeat (first | refine blk_drewN ?_ _ | refine blk_drew ?_ | refine blk_alloc ?_ _)); exact BK759.out⟩, ⟨by exact st74_3 HI0.out HN0_go82.out NB0_752.out NB0_759.out⟩, ⟨by exact kb74_3 HK.out GB82.out GW752.out GW759.out⟩, ⟨by repeat (first | (with_reducible first | exact HB.out | apply below_alloc | apply pw_below_drewN | apply below_drew1 | refine below_set ?_ (Nat.le_trans HL.out GB82.out) | refine below_set ?_ (IsS74.ge HI0.out) | refine below_set ?_ GE752.out | refine below_set ?_ GE759.out) | exact HB.out)⟩⟩
                  ·exact absurd H (by simp)
                 ·exact absurd H (by simp)
                ·exact absurd H (by simp)
               ·replace c77 := Bool.eq_false_iff.mpr c77
                subst c77
                replace H := ifF H
                have H' := Aside0.mk H
                clear H
                try go_wp2
                replace HO_8 := Aside0.mk (Kd.R_drew HO_8.out)
                replace HO_9 := Aside0.mk (Kd.R_drew HO_9.out)
                replace HO_760001 := Aside0.mk (Kd.R_drew HO_760001.out)
                replace BK752 := Aside0.mk (blk_drew BK752.out)
                replace BK759 := Aside0.mk (blk_drew BK759.out)
                replace HI0 := Aside0.mk (IsS74.drew HI0.out)
                replace HK := Aside0.mk (keep_drew HK.out)
                replace HB := Aside0.mk (below_drew1 HB.out)
                refine start_ (n := 26) (S := fun w' => True) (ds := []) (bm 26 0) (by kernel_rfl) rfl (by kernel_rfl) trivial (fun hHeld => ?_); refine with_tabW spec_l1Cur_order.tab19 spec_l1Cur_order.bits19 (fun HT_ HW_ => ?_)
                generalize wr.drew = w88 at HO_8 HO_9 HO_760001 BK752 BK759 HI0 HK HB hHeld ⊢
                refine pureW 0 (some 61) (bm 26 1) HT_ ?_
                refine pureW 1 (some 62) (bm 26 3) HT_ ?_
                refine pureW 2 (some 63) (bm 26 7) HT_ ?_
                refine pure_ (i := 3) (N := some 64) (v := undef) (a' := ?_) (bm 26 15) rfl rfl (any_of HT_.out (by kernel_rfl)) (fun _ _ _ h => h) (Or.inr ⟨by rfl, rfl⟩) ?_ ?_
                rotate_left
                ·simp only [Act.put, List.setIfInBounds_toArray, List.set_cons_zero, List.set_cons_succ, i64_w, i32_w]
                 rfl
                refine pure_ (i := 4) (N := some 65) (v := undef) (a' := ?_) (bm 26 31) rfl rfl (any_of HT_.out (by kernel_rfl)) (fun _ _ _ h => h) (Or.inr ⟨by rfl, rfl⟩) ?_ ?_
                rotate_left
                ·simp only [Act.put, List.setIfInBounds_toArray, List.set_cons_zero, List.set_cons_succ, i64_w, i32_w]
                 rfl
                refine pure_ (i := 5) (N := some 66) (v := undef) (a' := ?_) (bm 26 63) rfl rfl (any_of HT_.out (by kernel_rfl)) (fun _ _ _ h => h) (Or.inr ⟨by rfl, rfl⟩) ?_ ?_
                rotate_left
                ·simp only [Act.put, List.setIfInBounds_toArray, List.set_cons_zero, List.set_cons_succ, i64_w, i32_w]
                 rfl
                refine pure_ (i := 6) (N := some 67) (v := undef) (a' := ?_) (bm 26 127) rfl rfl (any_of HT_.out (by kernel_rfl)) (fun _ _ _ h => h) (Or.inr ⟨by rfl, rfl⟩) ?_ ?_
                rotate_left
                ·simp only [Act.put, List.setIfInBounds_toArray, List.set_cons_zero, List.set_cons_succ, i64_w, i32_w]
                 rfl
                refine pure_ (i := 7) (N := some 68) (v := undef) (a' := ?_) (bm 26 255) rfl rfl (any_of HT_.out (by kernel_rfl)) (fun _ _ _ h => h) (Or.inr ⟨by rfl, rfl⟩) ?_ ?_
                rotate_left
                ·simp only [Act.put, List.setIfInBounds_toArray, List.set_cons_zero, List.set_cons_succ, i64_w, i32_w]
                 rfl
                refine pure_ (i := 8) (N := some 69) (v := undef) (a' := ?_) (bm 26 511) rfl rfl (any_of HT_.out (by kernel_rfl)) (fun _ _ _ h => h) (Or.inr ⟨by rfl, rfl⟩) ?_ ?_
                rotate_left
                ·simp only [Act.put, List.setIfInBounds_toArray, List.set_cons_zero, List.set_cons_succ, i64_w, i32_w]
                 rfl
                refine pure_ (i := 9) (N := some 70) (v := undef) (a' := ?_) (bm 26 1023) rfl rfl (any_of HT_.out (by kernel_rfl)) (fun _ _ _ h => h) (Or.inr ⟨by rfl, rfl⟩) ?_ ?_
                rotate_left
                ·simp only [Act.put, List.setIfInBounds_toArray, List.set_cons_zero, List.set_cons_succ, i64_w, i32_w]
                 rfl
                refine pure_ (i := 10) (N := some 71) (v := undef) (a' := ?_) (bm 26 2047) rfl rfl (any_of HT_.out (by kernel_rfl)) (fun _ _ _ h => h) (Or.inr ⟨by rfl, rfl⟩) ?_ ?_
                rotate_left
                ·simp only [Act.put, List.setIfInBounds_toArray, List.set_cons_zero, List.set_cons_succ, i64_w, i32_w]
                 rfl
                refine pure_ (i := 11) (N := some 72) (v := undef) (a' := ?_) (bm 26 4095) rfl rfl (any_of HT_.out (by kernel_rfl)) (fun _ _ _ h => h) (Or.inr ⟨by rfl, rfl⟩) ?_ ?_
                rotate_left
                ·simp only [Act.put, List.setIfInBounds_toArray, List.set_cons_zero, List.set_cons_succ, i64_w, i32_w]
                 rfl
                refine pureW 12 (some 73) (bm 26 8191) HT_ ?_
                refine pureW 13 (some 74) (bm 26 16383) HT_ ?_
                refine pureW 14 (some 75) (bm 26 32767) HT_ ?_
                refine pureW 15 (some 76) (bm 26 65535) HT_ ?_
                refine pureW 16 (some 77) (bm 26 131071) HT_ ?_
                refine pureW 17 (some 78) (bm 26 262143) HT_ ?_
                refine pureW 18 (some 79) (bm 26 524287) HT_ ?_
                refine pureW 19 (some 80) (bm 26 1048575) HT_ ?_
                refine pureW 20 (some 81) (bm 26 2097151) HT_ ?_
                refine pureW 21 (some 82) (bm 26 4194303) HT_ ?_
                refine pureW 22 (some 83) (bm 26 8388607) HT_ ?_
                refine oneW 23 (some 84) (bm 26 16777215) HT_ (fun K hK => ?_)
                refine goesR Tryd.func116 #[.pointer (some ⟨g, 0, none⟩), .int .i64 3] ?_
                with_reducible refine (spec_l1Cur_one.calls g s0_0 x1001_3 x1002_3 3 false t794 t795 w0 _ ?side1 ?side2 A76.out).mono ?_
                (case side1 => exact st74_2 HI0.out NB0_752.out NB0_759.out)
                (case side2 => exact bl74_2 HB.out HI0.out GE752.out GE759.out)
                rintro e w89 ⟨rfl, hi, hb, hk⟩
                refine ⟨_, rfl, ?_⟩
                replace HO_8 := Aside0.mk (Kd.R_mono (Kd.R_keep (IsS74.apart (show IsS74 w0 _ g s0_0 x1001_3 x1002_3 from by exact st74_2 HI0.out NB0_752.out NB0_759.out) (Kd.R_g HO_8.out) (by decide)) hk (fun _ h => h.2)) (fun _ h => h.1))
                replace HO_9 := Aside0.mk (Kd.R_mono (Kd.R_keep (IsS74.apart (show IsS74 w0 _ g s0_0 x1001_3 x1002_3 from by exact st74_2 HI0.out NB0_752.out NB0_759.out) (Kd.R_g HO_9.out) (by decide)) hk (fun _ h => h.2)) (fun _ h => h.1))
                replace HO_760001 := Aside0.mk (Kd.R_mono (Kd.R_keep (IsS74.apart (show IsS74 w0 _ g s0_0 x1001_3 x1002_3 from by exact st74_2 HI0.out NB0_752.out NB0_759.out) (Kd.R_g HO_760001.out) (by decide)) hk (fun _ h => h.2)) (fun _ h => h.1))
                replace BK752 := Aside0.mk (KeepBut.blk hk (g' := gb752) (o := .cells #[.int .i64 0, .slice none 0 0] 28 (0, 0)) (blk_g BK752.out) NB752_0.out (by simp))
                replace BK759 := Aside0.mk (KeepBut.blk hk (g' := gb759) (o := .cells #[.int .i64 t753, u760001] 28 (0, 0)) (blk_g BK759.out) NB759_0.out (by simp))
                replace HK := Aside0.mk (KeepBut.trans (by exact kb74_2 HK.out GW752.out GW759.out) hk (.inl rfl))
                replace HI0 := Aside0.mk (hi)
                replace HB := Aside0.mk (hb)
                (try clear hb)
                (try clear hb2)
                (try clear hk)
                (try clear hi)
                refine hK.out _ _ trivial (fun hHeld => ?_)
                clear hK K
                refine normW 84 ?_
                refine pureW 24 (some 85) (bm 26 33554431) HT_ ?_
                refine pureW 25 (some 86) (bm 26 67108863) HT_ ?_
                refine doneW HT_ ?_
                try go_wp2
                go_roundg k3
                case measure => have := HK1.out; have := HK2.out; have := HK3.out; omega
                case rel => exact ⟨(x8_3), (x9_3), (wrap64 (x13_3 + 1)), (t794), (t795), (x760001_3), (u760001), eqS, H', ⟨by have := HK1.out; have := HK2.out; have := HK3.out; omega⟩, ⟨Kd.R_g HO_8.out⟩, ⟨Kd.R_g HO_9.out⟩, ⟨Kd.R_g HO_760001.out⟩, ⟨blk_g BK752.out⟩, ⟨blk_g BK759.out⟩, ⟨by exact st74_2 HI0.out NB0_752.out NB0_759.out⟩, ⟨by exact kb74_2 HK.out GW752.out GW759.out⟩, ⟨by exact bl74_2 HB.out HI0.out GE752.out GE759.out⟩⟩
              ·have H' := Aside0.mk H
               clear H
               try go_wp2
               replace HO_8 := Aside0.mk (Kd.R_drew HO_8.out)
               replace HO_9 := Aside0.mk (Kd.R_drew HO_9.out)
               replace HO_760001 := Aside0.mk (Kd.R_drew HO_760001.out)
               replace BK752 := Aside0.mk (blk_drew BK752.out)
               replace BK759 := Aside0.mk (blk_drew BK759.out)
               replace HI0 := Aside0.mk (IsS74.drew HI0.out)
               replace HK := Aside0.mk (keep_drew HK.out)
               replace HB := Aside0.mk (below_drew1 HB.out)
               refine start_ (n := 26) (S := fun w' => True) (ds := []) (bm 26 0) (by kernel_rfl) rfl (by kernel_rfl) trivial (fun hHeld => ?_); refine with_tabW spec_l1Cur_order.tab19 spec_l1Cur_order.bits19 (fun HT_ HW_ => ?_)
               generalize wr.drew = w90 at HO_8 HO_9 HO_760001 BK752 BK759 HI0 HK HB hHeld ⊢
               refine pureW 0 (some 61) (bm 26 1) HT_ ?_
               refine pureW 1 (some 62) (bm 26 3) HT_ ?_
               refine pureW 2 (some 63) (bm 26 7) HT_ ?_
               refine pure_ (i := 3) (N := some 64) (v := undef) (a' := ?_) (bm 26 15) rfl rfl (any_of HT_.out (by kernel_rfl)) (fun _ _ _ h => h) (Or.inr ⟨by rfl, rfl⟩) ?_ ?_
               rotate_left
               ·simp only [Act.put, List.setIfInBounds_toArray, List.set_cons_zero, List.set_cons_succ, i64_w, i32_w]
                rfl
               refine pure_ (i := 4) (N := some 65) (v := undef) (a' := ?_) (bm 26 31) rfl rfl (any_of HT_.out (by kernel_rfl)) (fun _ _ _ h => h) (Or.inr ⟨by rfl, rfl⟩) ?_ ?_
               rotate_left
               ·simp only [Act.put, List.setIfInBounds_toArray, List.set_cons_zero, List.set_cons_succ, i64_w, i32_w]
                rfl
               refine pure_ (i := 5) (N := some 66) (v := undef) (a' := ?_) (bm 26 63) rfl rfl (any_of HT_.out (by kernel_rfl)) (fun _ _ _ h => h) (Or.inr ⟨by rfl, rfl⟩) ?_ ?_
               rotate_left
               ·simp only [Act.put, List.setIfInBounds_toArray, List.set_cons_zero, List.set_cons_succ, i64_w, i32_w]
                rfl
               refine pure_ (i := 6) (N := some 67) (v := undef) (a' := ?_) (bm 26 127) rfl rfl (any_of HT_.out (by kernel_rfl)) (fun _ _ _ h => h) (Or.inr ⟨by rfl, rfl⟩) ?_ ?_
               rotate_left
               ·simp only [Act.put, List.setIfInBounds_toArray, List.set_cons_zero, List.set_cons_succ, i64_w, i32_w]
                rfl
               refine pure_ (i := 7) (N := some 68) (v := undef) (a' := ?_) (bm 26 255) rfl rfl (any_of HT_.out (by kernel_rfl)) (fun _ _ _ h => h) (Or.inr ⟨by rfl, rfl⟩) ?_ ?_
               rotate_left
               ·simp only [Act.put, List.setIfInBounds_toArray, List.set_cons_zero, List.set_cons_succ, i64_w, i32_w]
                rfl
               refine pure_ (i := 8) (N := some 69) (v := undef) (a' := ?_) (bm 26 511) rfl rfl (any_of HT_.out (by kernel_rfl)) (fun _ _ _ h => h) (Or.inr ⟨by rfl, rfl⟩) ?_ ?_
               rotate_left
               ·simp only [Act.put, List.setIfInBounds_toArray, List.set_cons_zero, List.set_cons_succ, i64_w, i32_w]
                rfl
               refine pure_ (i := 9) (N := some 70) (v := undef) (a' := ?_) (bm 26 1023) rfl rfl (any_of HT_.out (by kernel_rfl)) (fun _ _ _ h => h) (Or.inr ⟨by rfl, rfl⟩) ?_ ?_
               rotate_left
               ·simp only [Act.put, List.setIfInBounds_toArray, List.set_cons_zero, List.set_cons_succ, i64_w, i32_w]
                rfl
               refine pure_ (i := 10) (N := some 71) (v := undef) (a' := ?_) (bm 26 2047) rfl rfl (any_of HT_.out (by kernel_rfl)) (fun _ _ _ h => h) (Or.inr ⟨by rfl, rfl⟩) ?_ ?_
               rotate_left
               ·simp only [Act.put, List.setIfInBounds_toArray, List.set_cons_zero, List.set_cons_succ, i64_w, i32_w]
                rfl
               refine pure_ (i := 11) (N := some 72) (v := undef) (a' := ?_) (bm 26 4095) rfl rfl (any_of HT_.out (by kernel_rfl)) (fun _ _ _ h => h) (Or.inr ⟨by rfl, rfl⟩) ?_ ?_
               rotate_left
               ·simp only [Act.put, List.setIfInBounds_toArray, List.set_cons_zero, List.set_cons_succ, i64_w, i32_w]
                rfl
               refine pureW 12 (some 73) (bm 26 8191) HT_ ?_
               refine pureW 13 (some 74) (bm 26 16383) HT_ ?_
               refine pureW 14 (some 75) (bm 26 32767) HT_ ?_
               refine pureW 15 (some 76) (bm 26 65535) HT_ ?_
               refine pureW 16 (some 77) (bm 26 131071) HT_ ?_
               refine pureW 17 (some 78) (bm 26 262143) HT_ ?_
               refine pureW 18 (some 79) (bm 26 524287) HT_ ?_
               refine pureW 19 (some 80) (bm 26 1048575) HT_ ?_
               refine pureW 20 (some 81) (bm 26 2097151) HT_ ?_
               refine pureW 21 (some 82) (bm 26 4194303) HT_ ?_
               refine pure_ (i := 22) (N := some 83) (v := undef) (a' := ?_) (bm 26 8388607) rfl rfl (any_of HT_.out (by kernel_rfl)) (fun _ _ _ h => h) (Or.inr ⟨by rfl, rfl⟩) ?_ ?_
               rotate_left
               ·simp only [Act.put, List.setIfInBounds_toArray, List.set_cons_zero, List.set_cons_succ, i64_w, i32_w]
                rfl
               refine pure_ (i := 23) (N := some 84) (v := undef) (a' := ?_) (bm 26 16777215) rfl rfl (any_of HT_.out (by kernel_rfl)) (fun _ _ _ h => h) (Or.inr ⟨by rfl, rfl⟩) ?_ ?_
               rotate_left
               ·simp only [Act.put, List.setIfInBounds_toArray, List.set_cons_zero, List.set_cons_succ, i64_w, i32_w]
                rfl
               refine pureW 24 (some 85) (bm 26 33554431) HT_ ?_
               refine pureW 25 (some 86) (bm 26 67108863) HT_ ?_
               refine doneW HT_ ?_
               try go_wp2
               go_roundg k3
               case measure => have := HK1.out; have := HK2.out; have := HK3.out; omega
               case rel => exact ⟨(x8_3), (x9_3), (wrap64 (x13_3 + 1)), (x1001_3), (x1002_3), (x760001_3), (u760001), eqS, H', ⟨by have := HK1.out; have := HK2.out; have := HK3.out; omega⟩, ⟨Kd.R_g HO_8.out⟩, ⟨Kd.R_g HO_9.out⟩, ⟨Kd.R_g HO_760001.out⟩, ⟨blk_g BK752.out⟩, ⟨blk_g BK759.out⟩, ⟨by exact st74_2 HI0.out NB0_752.out NB0_759.out⟩, ⟨by exact kb74_2 HK.out GW752.out GW759.out⟩, ⟨by exact bl74_2 HB.out HI0.out GE752.out GE759.out⟩⟩
             ·have c74b0 : (t760 == 0) = false := beq_eq_false_iff_ne.mpr c74
              have c74b1 : (t760 != 0) = true := bne_iff_ne.mpr c74
              have H' := Aside0.mk H
              clear H
              try go_wp2
              replace HO_8 := Aside0.mk (Kd.R_drew HO_8.out)
              replace HO_9 := Aside0.mk (Kd.R_drew HO_9.out)
              replace HO_760001 := Aside0.mk (Kd.R_drew HO_760001.out)
              replace BK752 := Aside0.mk (blk_drew BK752.out)
              replace BK759 := Aside0.mk (blk_drew BK759.out)
              replace HI0 := Aside0.mk (IsS74.drew HI0.out)
              replace HK := Aside0.mk (keep_drew HK.out)
              replace HB := Aside0.mk (below_drew1 HB.out)
              refine start_ (n := 26) (S := fun w' => True) (ds := []) (bm 26 0) (by kernel_rfl) rfl (by kernel_rfl) trivial (fun hHeld => ?_); refine with_tabW spec_l1Cur_order.tab19 spec_l1Cur_order.bits19 (fun HT_ HW_ => ?_)
              generalize wr.drew = w91 at HO_8 HO_9 HO_760001 BK752 BK759 HI0 HK HB hHeld ⊢
              refine pureW 0 (some 61) (bm 26 1) HT_ ?_
              refine pureW 1 (some 62) (bm 26 3) HT_ ?_
              refine pureW 2 (some 63) (bm 26 7) HT_ ?_
              refine pure_ (i := 3) (N := some 64) (v := undef) (a' := ?_) (bm 26 15) rfl rfl (any_of HT_.out (by kernel_rfl)) (fun _ _ _ h => h) (Or.inr ⟨by rfl, rfl⟩) ?_ ?_
              rotate_left
              ·simp only [Act.put, List.setIfInBounds_toArray, List.set_cons_zero, List.set_cons_succ, i64_w, i32_w]
               rfl
              refine pure_ (i := 4) (N := some 65) (v := undef) (a' := ?_) (bm 26 31) rfl rfl (any_of HT_.out (by kernel_rfl)) (fun _ _ _ h => h) (Or.inr ⟨by rfl, rfl⟩) ?_ ?_
              rotate_left
              ·simp only [Act.put, List.setIfInBounds_toArray, List.set_cons_zero, List.set_cons_succ, i64_w, i32_w]
               rfl
              refine pure_ (i := 5) (N := some 66) (v := undef) (a' := ?_) (bm 26 63) rfl rfl (any_of HT_.out (by kernel_rfl)) (fun _ _ _ h => h) (Or.inr ⟨by rfl, rfl⟩) ?_ ?_
              rotate_left
              ·simp only [Act.put, List.setIfInBounds_toArray, List.set_cons_zero, List.set_cons_succ, i64_w, i32_w]
               rfl
              refine pure_ (i := 6) (N := some 67) (v := undef) (a' := ?_) (bm 26 127) rfl rfl (any_of HT_.out (by kernel_rfl)) (fun _ _ _ h => h) (Or.inr ⟨by rfl, rfl⟩) ?_ ?_
              rotate_left
              ·simp only [Act.put, List.setIfInBounds_toArray, List.set_cons_zero, List.set_cons_succ, i64_w, i32_w]
               rfl
              refine pure_ (i := 7) (N := some 68) (v := undef) (a' := ?_) (bm 26 255) rfl rfl (any_of HT_.out (by kernel_rfl)) (fun _ _ _ h => h) (Or.inr ⟨by rfl, rfl⟩) ?_ ?_
              rotate_left
              ·simp only [Act.put, List.setIfInBounds_toArray, List.set_cons_zero, List.set_cons_succ, i64_w, i32_w]
               rfl
              refine pure_ (i := 8) (N := some 69) (v := undef) (a' := ?_) (bm 26 511) rfl rfl (any_of HT_.out (by kernel_rfl)) (fun _ _ _ h => h) (Or.inr ⟨by rfl, rfl⟩) ?_ ?_
              rotate_left
              ·simp only [Act.put, List.setIfInBounds_toArray, List.set_cons_zero, List.set_cons_succ, i64_w, i32_w]
               rfl
              refine pure_ (i := 9) (N := some 70) (v := undef) (a' := ?_) (bm 26 1023) rfl rfl (any_of HT_.out (by kernel_rfl)) (fun _ _ _ h => h) (Or.inr ⟨by rfl, rfl⟩) ?_ ?_
              rotate_left
              ·simp only [Act.put, List.setIfInBounds_toArray, List.set_cons_zero, List.set_cons_succ, i64_w, i32_w]
               rfl
              refine pure_ (i := 10) (N := some 71) (v := undef) (a' := ?_) (bm 26 2047) rfl rfl (any_of HT_.out (by kernel_rfl)) (fun _ _ _ h => h) (Or.inr ⟨by rfl, rfl⟩) ?_ ?_
              rotate_left
              ·simp only [Act.put, List.setIfInBounds_toArray, List.set_cons_zero, List.set_cons_succ, i64_w, i32_w]
               rfl
              refine pure_ (i := 11) (N := some 72) (v := undef) (a' := ?_) (bm 26 4095) rfl rfl (any_of HT_.out (by kernel_rfl)) (fun _ _ _ h => h) (Or.inr ⟨by rfl, rfl⟩) ?_ ?_
              rotate_left
              ·simp only [Act.put, List.setIfInBounds_toArray, List.set_cons_zero, List.set_cons_succ, i64_w, i32_w]
               rfl
              refine pureW 12 (some 73) (bm 26 8191) HT_ ?_
              refine pureW 13 (some 74) (bm 26 16383) HT_ ?_
              refine pureW 14 (some 75) (bm 26 32767) HT_ ?_
              refine pureW 15 (some 76) (bm 26 65535) HT_ ?_
              refine pureW 16 (some 77) (bm 26 131071) HT_ ?_
              refine pure_ (i := 17) (N := some 78) (v := undef) (a' := ?_) (bm 26 262143) rfl rfl (any_of HT_.out (by kernel_rfl)) (fun _ _ _ h => h) (Or.inr ⟨by rfl, rfl⟩) ?_ ?_
              rotate_left
              ·simp only [Act.put, List.setIfInBounds_toArray, List.set_cons_zero, List.set_cons_succ, i64_w, i32_w]
               rfl
              refine pure_ (i := 18) (N := some 79) (v := undef) (a' := ?_) (bm 26 524287) rfl rfl (any_of HT_.out (by kernel_rfl)) (fun _ _ _ h => h) (Or.inr ⟨by rfl, rfl⟩) ?_ ?_
              rotate_left
              ·simp only [Act.put, List.setIfInBounds_toArray, List.set_cons_zero, List.set_cons_succ, i64_w, i32_w]
               rfl
              refine pure_ (i := 19) (N := some 80) (v := undef) (a' := ?_) (bm 26 1048575) rfl rfl (any_of HT_.out (by kernel_rfl)) (fun _ _ _ h => h) (Or.inr ⟨by rfl, rfl⟩) ?_ ?_
              rotate_left
              ·simp only [Act.put, List.setIfInBounds_toArray, List.set_cons_zero, List.set_cons_succ, i64_w, i32_w]
               rfl
              refine pureW 20 (some 81) (bm 26 2097151) HT_ ?_
              refine pureW 21 (some 82) (bm 26 4194303) HT_ ?_
              refine pure_ (i := 22) (N := some 83) (v := undef) (a' := ?_) (bm 26 8388607) rfl rfl (any_of HT_.out (by kernel_rfl)) (fun _ _ _ h => h) (Or.inr ⟨by rfl, rfl⟩) ?_ ?_
              rotate_left
              ·simp only [Act.put, List.setIfInBounds_toArray, List.set_cons_zero, List.set_cons_succ, i64_w, i32_w]
               rfl
              refine pure_ (i := 23) (N := some 84) (v := undef) (a' := ?_) (bm 26 16777215) rfl rfl (any_of HT_.out (by kernel_rfl)) (fun _ _ _ h => h) (Or.inr ⟨by rfl, rfl⟩) ?_ ?_
              rotate_left
              ·simp only [Act.put, List.setIfInBounds_toArray, List.set_cons_zero, List.set_cons_succ, i64_w, i32_w]
               rfl
              refine pureW 24 (some 85) (bm 26 33554431) HT_ ?_
              refine pureW 25 (some 86) (bm 26 67108863) HT_ ?_
              refine doneW HT_ ?_
              try go_wp2
              go_roundg k3
              case measure => have := HK1.out; have := HK2.out; have := HK3.out; omega
              case rel => exact ⟨(x8_3), (x9_3), (wrap64 (x13_3 + 1)), (x1001_3), (x1002_3), (x760001_3), (u760001), eqS, H', ⟨by have := HK1.out; have := HK2.out; have := HK3.out; omega⟩, ⟨Kd.R_g HO_8.out⟩, ⟨Kd.R_g HO_9.out⟩, ⟨Kd.R_g HO_760001.out⟩, ⟨blk_g BK752.out⟩, ⟨blk_g BK759.out⟩, ⟨by exact st74_2 HI0.out NB0_752.out NB0_759.out⟩, ⟨by exact kb74_2 HK.out GW752.out GW759.out⟩, ⟨by exact bl74_2 HB.out HI0.out GE752.out GE759.out⟩⟩
           ·have H' := Aside0.mk H
            clear H
            go_wp2
            go_roundg k3
            case measure => have := HK1.out; have := HK2.out; have := HK3.out; omega
            case rel => exact ⟨(x8_3), (x9_3), (wrap64 (x12_2 + 1)), (x1001_3), (x1002_3), (x760001_3), (u760001), eqS, H', ⟨by have := HK1.out; have := HK2.out; have := HK3.out; omega⟩, ⟨Kd.R_g HO_8.out⟩, ⟨Kd.R_g HO_9.out⟩, ⟨Kd.R_g HO_760001.out⟩, ⟨blk_g BK752.out⟩, ⟨blk_g BK759.out⟩, ⟨by exact st74_2 HI0.out NB0_752.out NB0_759.out⟩, ⟨by exact kb74_2 HK.out GW752.out GW759.out⟩, ⟨by exact bl74_2 HB.out HI0.out GE752.out GE759.out⟩⟩
        ·rcases iteP H with ⟨c92, H⟩ | ⟨c92, H⟩
         ·have c92b0 : decide (0 < t760) = true := decide_eq_true c92
          clear c92
          simp only [Option.some.injEq, Prod.mk.injEq] at H
          obtain ⟨rfl, rfl, rfl, rfl⟩ := H
          have hnb93 := NB759_752.out
          have hnc93 := NB752_759.out
          have hnb94 := NB759_0.out
          have hnc94 := NB0_759.out
          obtain ⟨hcz95_0, hcz95_1, hfz95_0, hfz95_1⟩ := blk2 BK759
          have hnb96 := NB752_0.out
          have hnc96 := NB0_752.out
          obtain ⟨hcz97_0, hcz97_1, hfz97_0, hfz97_1⟩ := blk2 BK752
          obtain ⟨Ao98, co98, eo98⟩ := Kd.R_slice HO_760001.out
          subst eo98
          go_wp2
          refine bodyPost_ret (results_cell_row rfl _ _ gb752 28 #[.int .i64 t753, .slice Ao98 x760001_2.length co98] (0, 0) _ rfl (by (with_reducible repeat (first | refine blk_drewN ?_ _ | refine blk_drew ?_ | refine blk_alloc ?_ _)); refine blk_put (cs := #[.int .i64 t753, .slice none 0 0]) ?_ 1 _ rfl; (with_reducible repeat (first | refine blk_drewN ?_ _ | refine blk_drew ?_ | refine blk_alloc ?_ _)); refine blk_put (cs := #[.int .i64 0, .slice none 0 0]) ?_ 0 _ rfl; (with_reducible repeat (first | refine blk_drewN ?_ _ | refine blk_drew ?_ | refine blk_alloc ?_ _)); exact BK752.out) Tryd.underlying28 rfl (by kernel_rfl)) rfl ?_
          exact ⟨_, eqE, by (with_reducible repeat (first | apply Kd.R_alloc | apply Kd.R_drewN | apply Kd.R_drew)); exact Kd.R_mono (Kd.R_far (p := ⟨gb752, 1, none⟩) (Kd.R_far (p := ⟨gb752, 0, none⟩) (Kd.R_types HO_760001.out BK752.out (by decide)) (fun _ hk => hk.2) (.int .i64 t753)) (fun _ hk => hk.2) (.slice Ao98 x760001_2.length co98)) (fun _ hk => trivial), by exact st74_2 HI0.out NB0_752.out NB0_759.out, by exact bl74_2 HB.out HI0.out GE752.out GE759.out, by exact kb74_2 HK.out GW752.out GW759.out⟩
         ·have c92b0 : decide (0 < t760) = false := decide_eq_false c92
          clear c92
          obtain ⟨⟨t778, t779, t782⟩, A99, H⟩ := obE H
          dsimp only at H
          simp only [Option.some.injEq, Prod.mk.injEq] at H
          obtain ⟨rfl, rfl, rfl, rfl⟩ := H
          have hnb100 := NB759_752.out
          have hnc100 := NB752_759.out
          have hnb101 := NB759_0.out
          have hnc101 := NB0_759.out
          obtain ⟨hcz102_0, hcz102_1, hfz102_0, hfz102_1⟩ := blk2 BK759
          obtain ⟨Ao103, co103, eo103⟩ := Kd.R_slice HO_760001.out
          subst eo103
          go_wp2_with (first | ((with_reducible refine gate_callee (f := 52) rfl ?_); refine goesQ (some 101) Tryd.func52 #[.agg #[.int .i64 t753, .slice Ao103 x760001_2.length co103]] ?_; (with_reducible refine (spec_CloseRelation.calls k2 t753 _ _ x760001_2 t778 t779 t782 _ ?side1 ?side2 A99.out).mono ?_); (case side1 => repeat (first | exact (Kd.R_reads' HO_760001.out).2.2 | (with_reducible refine Kd.C_alloc ?_ _) | (with_reducible refine Kd.C_drewN ?_ _) | (with_reducible refine Kd.C_drew ?_))); (case side2 => exact (Kd.R_reads' HO_760001.out).2.1); rintro e w104 ⟨v780, rfl, ho0, hb⟩; refine ⟨_, rfl, ?_⟩; have HO781 := Aside0.mk (Kd.R_lower (Kd.R_new' (Kd.R_new' (Kd.R_new' ho0 (Kd.R_lt (Kd.R_g HO_8.out))) (Kd.R_lt (Kd.R_g HO_9.out))) (Kd.R_lt (Kd.R_g HO_760001.out))) (keep_size (w := w) (g := g) (row := none) (by exact kb74_2 HK.out GW752.out GW759.out))); replace HO_8 := Aside0.mk (Kd.R_elder' (Kd.R_g HO_8.out) (Kd.R_base ho0) hb); replace HO_9 := Aside0.mk (Kd.R_elder' (Kd.R_g HO_9.out) (Kd.R_base ho0) hb); replace HO_760001 := Aside0.mk (Kd.R_elder' (Kd.R_g HO_760001.out) (Kd.R_base ho0) hb); replace BK752 := blkB BK752 hb; replace BK759 := blkB BK759 hb; replace HK := Aside0.mk (KeepBut.trans (by exact kb74_2 HK.out GW752.out GW759.out) (KeepBut.of_below hb g none) (.inl rfl)); replace HB := Aside0.mk (below_step (by exact bl74_2 HB.out HI0.out GE752.out GE759.out) hb); replace HI0 := Aside0.mk (IsS74.below (by exact st74_2 HI0.out NB0_752.out NB0_759.out) hb); (try clear hb); (try clear hk); (try clear hi); (try clear ho0)) | ((with_reducible refine gate_dst (N := 14) rfl ?_); refine boxE (N := 14) (cs := #[.int .i64 0, .slice none 0 0]) (t := 28) ?_; intro gb783 hg w105 hbox hb; replace HO_8 := Aside0.mk (Kd.R_below (Kd.R_g HO_8.out) hb); replace HO_9 := Aside0.mk (Kd.R_below (Kd.R_g HO_9.out) hb); replace HO_760001 := Aside0.mk (Kd.R_below (Kd.R_g HO_760001.out) hb); replace HO781 := Aside0.mk (Kd.R_below (Kd.R_g HO781.out) hb); have BK783 := Aside0.mk (hbox); have GW783 := Aside0.mk ((by rw [hg]; exact (keep_size (w := w) (g := g) (row := none) (by exact kb74_2 HK.out GW752.out GW759.out)) : w.heap.size ≤ gb783)); have GE783 := Aside0.mk ((Nat.le_trans HW0.out (by rw [hg]; exact (keep_size (w := w) (g := g) (row := none) (by exact kb74_2 HK.out GW752.out GW759.out)) : w.heap.size ≤ gb783) : w0.heap.size ≤ gb783)); replace HK := Aside0.mk (KeepBut.trans (by exact kb74_2 HK.out GW752.out GW759.out) (KeepBut.of_below hb g none) (.inl rfl)); have NB752_783 := neL BK752 hg; have NB783_752 := neR BK752 hg; replace BK752 := blkB BK752 hb; have NB759_783 := neL BK759 hg; have NB783_759 := neR BK759 hg; replace BK759 := blkB BK759 hb; have NB0_783 := Aside0.mk ((by rw [hg]; exact Nat.ne_of_lt (IsS74.lt (show IsS74 w0 _ g s0_0 x1001_2 x1002_2 from by exact st74_2 HI0.out NB0_752.out NB0_759.out)) : g ≠ gb783)); have NB783_0 := Aside0.mk ((by rw [hg]; exact Nat.ne_of_gt (IsS74.lt (show IsS74 w0 _ g s0_0 x1001_2 x1002_2 from by exact st74_2 HI0.out NB0_752.out NB0_759.out)) : gb783 ≠ g)); replace HB := Aside0.mk (below_step (by exact bl74_2 HB.out HI0.out GE752.out GE759.out) hb); replace HI0 := Aside0.mk (IsS74.below (by exact st74_2 HI0.out NB0_752.out NB0_759.out) hb); clear hb hbox hg; have hnb106 := NB783_752.out; have hnc106 := NB752_783.out; have hnb107 := NB783_759.out; have hnc107 := NB759_783.out; have hnb108 := NB783_0.out; have hnc108 := NB0_783.out; obtain ⟨hcz109_0, hcz109_1, hfz109_0, hfz109_1⟩ := blk2 BK783; obtain ⟨Ao110, co110, eo110⟩ := Kd.R_slice HO781.out; subst eo110; have hnb111 := NB752_0.out; have hnc111 := NB0_752.out; obtain ⟨hcz112_0, hcz112_1, hfz112_0, hfz112_1⟩ := blk2 BK752))
          refine bodyPost_ret (results_cell_row rfl _ _ gb752 28 #[.int .i64 t778, .slice Ao110 t779.length co110] (0, 0) _ rfl (by (with_reducible repeat (first | refine blk_drewN ?_ _ | refine blk_drew ?_ | refine blk_alloc ?_ _)); refine blk_put (cs := #[.int .i64 t778, .slice none 0 0]) ?_ 1 _ rfl; (with_reducible repeat (first | refine blk_drewN ?_ _ | refine blk_drew ?_ | refine blk_alloc ?_ _)); refine blk_put (cs := #[.int .i64 0, .slice none 0 0]) ?_ 0 _ rfl; (with_reducible repeat (first | refine blk_drewN ?_ _ | refine blk_drew ?_ | refine blk_alloc ?_ _)); refine blk_far ?_ NB752_783.out _; (with_reducible repeat (first | refine blk_drewN ?_ _ | refine blk_drew ?_ | refine blk_alloc ?_ _)); refine blk_far ?_ NB752_783.out _; (with_reducible repeat (first | refine blk_drewN ?_ _ | refine blk_drew ?_ | refine blk_alloc ?_ _)); exact BK752.out) Tryd.underlying28 rfl (by kernel_rfl)) rfl ?_
          exact ⟨_, eqE, by (with_reducible repeat (first | apply Kd.R_alloc | apply Kd.R_drewN | apply Kd.R_drew)); exact Kd.R_mono (Kd.R_far (p := ⟨gb752, 1, none⟩) (Kd.R_far (p := ⟨gb752, 0, none⟩) (Kd.R_far (p := ⟨gb783, 1, none⟩) (Kd.R_far (p := ⟨gb783, 0, none⟩) (Kd.R_types (Kd.R_types HO781.out BK783.out (by decide)) BK752.out (by decide)) (fun _ hk => hk.1.2) (.int .i64 t778)) (fun _ hk => hk.1.2) (.slice Ao110 t779.length co110)) (fun _ hk => hk.2) (.int .i64 t778)) (fun _ hk => hk.2) (.slice Ao110 t779.length co110)) (fun _ hk => trivial), by exact st74_3 HI0.out NB0_752.out NB0_759.out NB0_783.out, by exact bl74_3 HB.out HI0.out GE752.out GE759.out GE783.out, by exact kb74_3 HK.out GW752.out GW759.out GW783.out⟩
  ·exact absurd H (by simp)
 ·exact absurd H (by simp)

end Go.Proofs.YteechpappfagpaaDoor.Q
