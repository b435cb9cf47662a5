import Derived.Test.YtlfjnllnddpgoaaDoorBFnStretchedIntervals9
namespace Go.Proofs.YtlfjnllnddpgoaaDoor.Q
open Go.RowKit Go.Proofs.YtlfjnllnddpgoaaDoorW.PrintWords Go.Proofs.YtlfjnllnddpgoaaDoorW.PrintLast Go.Proofs.YtlfjnllnddpgoaaDoorW.PrintMore
attribute [local go_sem] max2_int min2_int max_two min_two max_three min_three max_four min_four neB_f
set_option linter.unusedVariables false
set_option maxHeartbeats 8000000
set_option maxRecDepth 100000
set_option linter.unusedSimpArgs false
mutual
def spec_l1Cur_order.l0 : Nat → Int → Int → List Int → List Int → Int → List Int → Int → Int → Int → List Int → Option (Int × List Int × Int × Int)
 | 0, _, _, _, _, _, _, _, _, _, _ => none
 | k + 1, x5, x7, x8, x9, x10, x1000, x1001, x1002, x294000, x294001 => if x10 < x5 then ((spec_l1Cur_pick.f x1000 x1001 x1002 8).bind fun bt297 => (if x8.length < 17592186044416 then ((some (x8 ++ [bt297.1] : List Int)).bind fun y300 => (if x7 = 1 then ((spec_l1Cur_pick.f x1000 bt297.2.1 bt297.2.2 4).bind fun bt303 => (if x9.length < 17592186044416 then (spec_l1Cur_order.l0 k x5 x7 y300 (x9 ++ [wrap64 (bt297.1 + bt303.1)]) (wrap64 (x10 + 1)) x1000 bt303.2.1 bt303.2.2 x294000 x294001) else (none))) else (if x9.length < 17592186044416 then (spec_l1Cur_order.l0 k x5 x7 y300 (x9 ++ [wrap64 (bt297.1 + 2)]) (wrap64 (x10 + 1)) x1000 bt297.2.1 bt297.2.2 x294000 x294001) else (none)))) else (none))) else (spec_l1Cur_order.l1 k x5 x7 x8 x9 0 x1000 x1001 x1002 x294000 x294001)
def spec_l1Cur_order.l1 : Nat → Int → Int → List Int → List Int → Int → List Int → Int → Int → Int → List Int → Option (Int × List Int × Int × Int)
 | 0, _, _, _, _, _, _, _, _, _, _ => none
 | k + 1, x5, x7, x8, x9, x12, x1000, x1001, x1002, x294000, x294001 => if x12 < x5 then (spec_l1Cur_order.l2 k x5 x7 x8 x9 x12 0 x1000 x1001 x1002 x294000 x294001) else (if x7 > 0 then (some (x294000, x294001, x1001, x1002)) else ((spec_CloseRelation.f k x294000 x294001).bind fun bt312 => (some (bt312.1, bt312.2.1, x1001, x1002))))
def spec_l1Cur_order.l2 : Nat → Int → Int → List Int → List Int → Int → Int → List Int → Int → Int → Int → List Int → Option (Int × List Int × Int × Int)
 | 0, _, _, _, _, _, _, _, _, _, _, _ => none
 | k + 1, x5, x7, x8, x9, x12, x13, x1000, x1001, x1002, x294000, x294001 => if x13 < x5 then (if x7 > 0 then (if 0 ≤ x12 then (if x12 < (x9.length : Int) then (if 0 ≤ x13 then (if x13 < (x8.length : Int) then (if (rd x9 x12) < (rd x8 x13) then (if x12 < (x294001.length : Int) then (spec_l1Cur_order.l2 k x5 x7 x8 x9 x12 (wrap64 (x13 + 1)) x1000 x1001 x1002 x294000 (x294001.set (x12 : Int).toNat (Go.bits .or .i64 (rd x294001 x12) (shl .i64 1 x13)))) else (none)) else (if x7 = 0 then (if x12 < x13 then ((spec_l1Cur_one.f x1000 x1001 x1002 3).bind fun bt322 => (if bt322.1 = true then (if x12 < (x294001.length : Int) then (spec_l1Cur_order.l2 k x5 x7 x8 x9 x12 (wrap64 (x13 + 1)) x1000 bt322.2.1 bt322.2.2 x294000 (x294001.set (x12 : Int).toNat (Go.bits .or .i64 (rd x294001 x12) (shl .i64 1 x13)))) else (none)) else (spec_l1Cur_order.l2 k x5 x7 x8 x9 x12 (wrap64 (x13 + 1)) x1000 bt322.2.1 bt322.2.2 x294000 x294001))) else (spec_l1Cur_order.l2 k x5 x7 x8 x9 x12 (wrap64 (x13 + 1)) x1000 x1001 x1002 x294000 x294001)) else (spec_l1Cur_order.l2 k x5 x7 x8 x9 x12 (wrap64 (x13 + 1)) x1000 x1001 x1002 x294000 x294001))) else (none)) else (none)) else (none)) else (none)) else (if x7 = 0 then (if x12 < x13 then ((spec_l1Cur_one.f x1000 x1001 x1002 3).bind fun bt327 => (if bt327.1 = true then (if 0 ≤ x12 then (if x12 < (x294001.length : Int) then (if 0 ≤ x13 then (spec_l1Cur_order.l2 k x5 x7 x8 x9 x12 (wrap64 (x13 + 1)) x1000 bt327.2.1 bt327.2.2 x294000 (x294001.set (x12 : Int).toNat (Go.bits .or .i64 (rd x294001 x12) (shl .i64 1 x13)))) else (none)) else (none)) else (none)) else (spec_l1Cur_order.l2 k x5 x7 x8 x9 x12 (wrap64 (x13 + 1)) x1000 bt327.2.1 bt327.2.2 x294000 x294001))) else (spec_l1Cur_order.l2 k x5 x7 x8 x9 x12 (wrap64 (x13 + 1)) x1000 x1001 x1002 x294000 x294001)) else (spec_l1Cur_order.l2 k x5 x7 x8 x9 x12 (wrap64 (x13 + 1)) x1000 x1001 x1002 x294000 x294001))) else (spec_l1Cur_order.l1 k x5 x7 x8 x9 (wrap64 (x12 + 1)) x1000 x1001 x1002 x294000 x294001)
end
def spec_l1Cur_order.f (k : Nat) (s0_0 : List Int) (s0_1 : Int) (s0_2 : Int) (a1 : Int) : Option (Int × List Int × Int × Int) := (spec_l1Cur_pick.f s0_0 s0_1 s0_2 (wrap64 (a1 + 1))).bind fun bt287 => (if 0 ≤ bt287.1 then (if (bt287.1 : Int).toNat ≤ 35184372088832 then ((spec_l1Cur_pick.f s0_0 bt287.2.1 bt287.2.2 3).bind fun bt294 => (spec_l1Cur_order.l0 k bt287.1 bt294.1 ([] : List Int) ([] : List Int) 0 s0_0 bt294.2.1 bt294.2.2 bt287.1 (List.replicate (bt287.1 : Int).toNat 0))) else (none)) else (none))
theorem spec_l1Cur_order.mono_l : ∀ k, (∀ y0 y1 y2 y3 y4 y5 y6 y7 y8 y9, LeO (spec_l1Cur_order.l0 k y0 y1 y2 y3 y4 y5 y6 y7 y8 y9) (spec_l1Cur_order.l0 (k + 1) y0 y1 y2 y3 y4 y5 y6 y7 y8 y9)) ∧ (∀ y0 y1 y2 y3 y4 y5 y6 y7 y8 y9, LeO (spec_l1Cur_order.l1 k y0 y1 y2 y3 y4 y5 y6 y7 y8 y9) (spec_l1Cur_order.l1 (k + 1) y0 y1 y2 y3 y4 y5 y6 y7 y8 y9)) ∧ (∀ y0 y1 y2 y3 y4 y5 y6 y7 y8 y9 y10, LeO (spec_l1Cur_order.l2 k y0 y1 y2 y3 y4 y5 y6 y7 y8 y9 y10) (spec_l1Cur_order.l2 (k + 1) y0 y1 y2 y3 y4 y5 y6 y7 y8 y9 y10))
 | 0 => ⟨fun _ _ _ _ _ _ _ _ _ _ r h => by simp [spec_l1Cur_order.l0] at h, fun _ _ _ _ _ _ _ _ _ _ r h => by simp [spec_l1Cur_order.l1] at h, fun _ _ _ _ _ _ _ _ _ _ _ r h => by simp [spec_l1Cur_order.l2] at h⟩
 | k + 1 => by
  obtain ⟨ih0, ih1, ih2⟩ := spec_l1Cur_order.mono_l k
  refine ⟨?_, ?_, ?_⟩ <;> intros
  unfold spec_l1Cur_order.l0
  rotate_left
  unfold spec_l1Cur_order.l1
  rotate_left
  unfold spec_l1Cur_order.l2
  rotate_left
  all_goals repeat' (with_reducible first|apply ih0|apply ih1|apply ih2|apply spec_CloseRelation.mono|apply LeO.refl|apply LeO.none|apply LeO.ite|apply LeO.bind|intro)
theorem spec_l1Cur_order.mono : ∀ a0 a1 a2 a3 k, LeO (spec_l1Cur_order.f k a0 a1 a2 a3) (spec_l1Cur_order.f (k + 1) a0 a1 a2 a3) := by
 intro a0 a1 a2 a3 k
 obtain ⟨ih0, ih1, ih2⟩ := spec_l1Cur_order.mono_l k
 unfold spec_l1Cur_order.f
 repeat' (with_reducible first|apply ih0|apply ih1|apply ih2|apply spec_CloseRelation.mono|apply LeO.refl|apply LeO.none|apply LeO.ite|apply LeO.bind|intro)
def spec_l1Cur_order.T19 : Bool × List (List Nat × List Nat) := (true, [([], []), ([0], [0]), ([1], [1]), ([2], [2]), ([2], [2]), ([3, 4, 2], [2, 3, 4]), ([5, 2], [2, 5]), ([2], [2]), ([2], [2]), ([7, 8, 2], [2, 7, 8]), ([9, 2], [2, 9]), ([6, 10, 2], [2, 6, 10]), ([2, 11], [2, 11]), ([12, 2], [12]), ([13], [13]), ([14, 13], [13, 14]), ([15, 13, 13], [13, 15]), ([16], [16]), ([16], [16]), ([17, 18, 16], [16, 17, 18]), ([16, 19, 13], [13, 16, 19]), ([20, 16, 13], [13, 20]), ([21], [21]), ([22, 21, 21], [21, 22]), ([21, 23, 13], [13, 21, 23]), ([13, 24], [13, 24])])
def spec_l1Cur_order.B19 : List Nat := [0, 1, 3, 7, 7, 31, 63, 7, 7, 391, 903, 2047, 4095, 8191, 16383, 32767, 65535, 131071, 131071, 524287, 1048575, 2097151, 4194303, 8388607, 16777215, 33554431]
theorem spec_l1Cur_order.tab19 : rtab .any (opsOf Tryd.f56 19) = spec_l1Cur_order.T19 := by kernel_rfl
theorem spec_l1Cur_order.bits19 : waitsOk spec_l1Cur_order.T19.2 spec_l1Cur_order.B19 = true := by kernel_rfl
def spec_l1Cur_order.T20 : Bool × List (List Nat × List Nat) := (true, [([], []), ([0], [0]), ([], []), ([1, 2], [1, 2]), ([3], [3]), ([], []), ([5], [5]), ([4, 6], [4, 6]), ([1, 2, 0, 1, 2, 3, 4, 5, 6, 7], [1, 2]), ([8, 7, 0, 1, 2, 3, 4, 5, 6, 7], [7, 8])])
def spec_l1Cur_order.B20 : List Nat := [0, 1, 0, 7, 15, 0, 32, 127, 255, 511]
theorem spec_l1Cur_order.tab20 : rtab .any (opsOf Tryd.f56 20) = spec_l1Cur_order.T20 := by kernel_rfl
theorem spec_l1Cur_order.bits20 : waitsOk spec_l1Cur_order.T20.2 spec_l1Cur_order.B20 = true := by kernel_rfl
theorem spec_l1Cur_order.calls (k : Nat) (g : Nat) (s0_0 : List Int) (s0_1 : Int) (s0_2 : Int) (a1 : Int) (r1 : Int) (r2 : List Int) (r3 : Int) (r4 : Int) (w0 w : World) (hI : IsS49 w0 w g s0_0 s0_1 s0_2) (hB : Below w0.heap.size w0 w) (h : spec_l1Cur_order.f k s0_0 s0_1 s0_2 a1 = some (r1, r2, r3, r4)) :
  Calls Tryd.prog 56 #[.pointer (some ⟨g, 0, none⟩), .int .i64 a1] w fun e w' => ∃ v1_ : Value, e = .returned (.agg #[.int .i64 r1, v1_]) ∧ Kd.R (Kd.int .i64) 3 w' w.heap.size (fun _ => True) v1_ r2 ∧ IsS49 w0 w' g s0_0 r3 r4 ∧ Below w0.heap.size w0 w' ∧ KeepBut w w' g none := by
 have hu32 := Tryd.underlying32
 have HI0 := mkA hI
 have HK := mkA (KeepBut.refl w g none)
 have HL := mkA hB.size
 clear hI
 have HW0 := mkA hB.size
 have HB := mkA hB
 clear hB
 have H := h
 clear h
 unfold spec_l1Cur_order.f at H
 obtain ⟨⟨t287, t288, t289⟩, A3, H⟩ := obE H
 dsimp only at H
 obtain ⟨c4b0, c4b1, H⟩ := itNQ H
 obtain ⟨c5b0, c5b1, H⟩ := itNQ H
 obtain ⟨y290, hy290⟩ : ∃ y_ : List Int, y_ = (List.replicate (t287 : Int).toNat 0) := ⟨_, rfl⟩
 rw [← hy290] at H
 have Ny290 := mkA hy290
 clear hy290
 obtain ⟨⟨t294, t295, t296⟩, A6, H⟩ := obE H
 dsimp only at H
 have H' := mkA H
 clear H
 go_enter Tryd.func56, Tryd.ntmps56
 go_wp2_with (first | ((with_reducible refine gate_dst (N := 4) rfl ?_); refine boxE (N := 4) (cs := #[.int .i64 0, .slice none 0 0]) (t := 32) ?_; intro gb286 hg w7 hbox hb; have BK286 := mkA (hbox); have GW286 := mkA ((by rw [hg]; exact (keep_size (w := w) (g := g) (row := none) (by exact kb49_0 HK.out)) : w.heap.size ≤ gb286)); have GE286 := mkA (Nat.le_trans HW0.out GW286.out); replace HK := kU (g := g) (by exact kb49_0 HK.out) hb; have NB0_286 : NeB _ _ := ⟨(by rw [hg]; exact Nat.ne_of_lt (IsS49.lt (show IsS49 w0 _ g s0_0 s0_1 s0_2 from by exact st49_0 HI0.out)) : g ≠ gb286)⟩; have NB286_0 : NeB _ _ := ⟨(by rw [hg]; exact Nat.ne_of_gt (IsS49.lt (show IsS49 w0 _ g s0_0 s0_1 s0_2 from by exact st49_0 HI0.out)) : gb286 ≠ g)⟩; replace HB := mkA (below_step (by exact bl49_0 HB.out HI0.out) hb); replace HI0 := mkA (IsS49.below (by exact st49_0 HI0.out) hb); clear hb hbox hg) | ((with_reducible refine gate_callee (f := 18) rfl ?_); refine goesQ (some 19) Tryd.func18 #[.pointer (some ⟨g, 0, none⟩), .int .i64 (wrap64 (a1 + 1))] ?_; (with_reducible refine (spec_l1Cur_pick.calls g s0_0 s0_1 s0_2 (wrap64 (a1 + 1)) t287 t288 t289 w0 _ ?_ ?_ A3.out).mono ?_); exact st49_1 HI0.out NB0_286.out; exact bl49_1 HB.out HI0.out GE286.out; rintro e w8 ⟨rfl, hi, hb, hk⟩; refine ⟨_, rfl, ?_⟩; replace BK286 := kB hk BK286; replace HK := kT (by exact kb49_1 HK.out GW286.out) hk; replace HI0 := mkA (hi); replace HB := mkA (hb); clear hb hk hi) | ((with_reducible refine gate_dst (N := 22) rfl ?_); refine Kd.R_make (Kd.int .i64) _ 3 rfl (N := 22) rfl 30 _ _ rfl t287 rfl rfl Tryd.underlying30 (.int .i64 0) 8 info3 rfl (by decide) (by omega) 0 (ok := fun _ => True) (okp := fun _ => True) rfl (fun _ hk => hk) trivial (ofd) (Nat.le_trans (Nat.mul_le_mul_right _ (ofd : t287.toNat ≤ 35184372088832)) (by omega)) (Below.refl _ _) (Nat.le_refl _) ?_; intro v291 w9 ho10 hb hg_ hnew_; clear hg_ hnew_; (first | rw [← Ny290.out] at ho10 | (simp only [Int.reduceToNat] at ho10; rw [← Ny290.out] at ho10)); have HO292 := mkA (Kd.R_lower ho10 (keep_size (w := w) (g := g) (row := none) (by exact kb49_1 HK.out GW286.out))); replace BK286 := blkB BK286 hb; replace HK := kU (g := g) (by exact kb49_1 HK.out GW286.out) hb; replace HB := mkA (below_step (by exact bl49_1 HB.out HI0.out GE286.out) hb); replace HI0 := mkA (IsS49.below (by exact st49_1 HI0.out NB0_286.out) hb); clear hb ho10; obtain ⟨Ao11, co11, rfl⟩ := Kd.R_slice HO292.out) | ((with_reducible refine gate_dst (N := 6) rfl ?_); refine boxE (N := 6) (cs := #[.int .i64 0, .slice none 0 0]) (t := 32) ?_; intro gb293 hg w12 hbox hb; replace HO292 := rB HO292 hb; have BK293 := mkA (hbox); have GW293 := mkA ((by rw [hg]; exact (keep_size (w := w) (g := g) (row := none) (by exact kb49_1 HK.out GW286.out)) : w.heap.size ≤ gb293)); have GE293 := mkA (Nat.le_trans HW0.out GW293.out); replace HK := kU (g := g) (by exact kb49_1 HK.out GW286.out) hb; have NB286_293 := neL7 BK286 hg; have NB293_286 := neR7 BK286 hg; replace BK286 := blkB BK286 hb; have NB0_293 : NeB _ _ := ⟨(by rw [hg]; exact Nat.ne_of_lt (IsS49.lt (show IsS49 w0 _ g s0_0 t288 t289 from by exact st49_1 HI0.out NB0_286.out)) : g ≠ gb293)⟩; have NB293_0 : NeB _ _ := ⟨(by rw [hg]; exact Nat.ne_of_gt (IsS49.lt (show IsS49 w0 _ g s0_0 t288 t289 from by exact st49_1 HI0.out NB0_286.out)) : gb293 ≠ g)⟩; replace HB := mkA (below_step (by exact bl49_1 HB.out HI0.out GE286.out) hb); replace HI0 := mkA (IsS49.below (by exact st49_1 HI0.out NB0_286.out) hb); clear hb hbox hg; obtain ⟨_, _, _, _⟩ := blk2 BK293) | ((with_reducible refine gate_callee (f := 18) rfl ?_); refine goesQ (some 25) Tryd.func18 #[.pointer (some ⟨g, 0, none⟩), .int .i64 3] ?_; (with_reducible refine (spec_l1Cur_pick.calls g s0_0 t288 t289 3 t294 t295 t296 w0 _ ?_ ?_ A6.out).mono ?_); exact st49_2 HI0.out NB0_286.out NB0_293.out; exact bl49_2 HB.out HI0.out GE286.out GE293.out; rintro e w16 ⟨rfl, hi, hb, hk⟩; refine ⟨_, rfl, ?_⟩; replace BK286 := kR hk BK286; replace HO292 := rK (IsS49.apart (show IsS49 w0 _ g s0_0 t288 t289 from by exact st49_2 HI0.out NB0_286.out NB0_293.out) (rFg HO292 BK293) (by decide)) hk; replace BK293 := kR hk BK293; replace HK := kT (by exact kb49_2 HK.out GW286.out GW293.out) hk; replace HI0 := mkA (hi); replace HB := mkA (hb); clear hb hk hi))
 go_loopg [8, 9, 10] k (fun kq v8 v9 v10 w' => ∃ (x8_1 : List Int) (x9_1 : List Int) (x10_1 : Int) (x1001_1 : Int) (x1002_1 : Int), v10 = .int .i64 x10_1 ∧ Fc (spec_l1Cur_order.l0 kq t287 t294 x8_1 x9_1 x10_1 s0_0 x1001_1 x1002_1 t287 y290 = some (r1, r2, r3, r4)) ∧ Fc (kq ≤ k) ∧ Fc (Kd.R (Kd.int .i64) 3 w' w.heap.size (fun k_ => some k_ ≠ (v9 : Value).ownBlock ∧ some k_ ≠ ((.slice Ao11 y290.length co11) : Value).ownBlock) v8 x8_1) ∧ Fc (Kd.R (Kd.int .i64) 3 w' w.heap.size (fun k_ => some k_ ≠ (v8 : Value).ownBlock ∧ some k_ ≠ ((.slice Ao11 y290.length co11) : Value).ownBlock) v9 x9_1) ∧ Fc (Kd.R (Kd.int .i64) 3 w' w.heap.size (fun k_ => some k_ ≠ (v8 : Value).ownBlock ∧ some k_ ≠ (v9 : Value).ownBlock) (.slice Ao11 y290.length co11) y290) ∧ Fc (w'.heap[gb286]? = some (.cells #[.int .i64 0, (.slice none 0 0)] 32 (0, 0))) ∧ Fc (w'.heap[gb293]? = some (.cells #[.int .i64 t287, (.slice Ao11 y290.length co11)] 32 (0, 0))) ∧ Fc (IsS49 w0 w' g s0_0 x1001_1 x1002_1) ∧ Fc (KeepBut w w' g none) ∧ Fc (Below w0.heap.size w0 w'))
 case atStart => exact ⟨(([] : List Int)), (([] : List Int)), (0), (t295), (t296), eqS, H', ⟨Nat.le_refl _⟩, ⟨nilE⟩, ⟨nilE⟩, ⟨Kd.R_g (Kd.R_mono HO292.out (fun _ hk => ⟨(by simp [Value.ownBlock]), (by simp [Value.ownBlock])⟩))⟩, bg BK286, bg BK293, ⟨by exact st49_2 HI0.out NB0_286.out NB0_293.out⟩, ⟨by exact kb49_2 HK.out GW286.out GW293.out⟩, ⟨by exact bl49_2 HB.out HI0.out GE286.out GE293.out⟩⟩
 case round =>
  clear H'
  try clear c4
  try clear c4b0
  try clear c4b1
  try clear c5
  try clear c5b0
  try clear c5b1
  obtain ⟨x8_1, x9_1, x10_1, x1001_1, x1002_1, rfl, HA, HK1, HO_8, HO_9, HO_294001, BK286, BK293, HI0, HK, HB⟩ := hrel
  cases gk with
  | zero => exact absurd HA.out (by simp [spec_l1Cur_order.l0])
  | succ k1 =>
   have H := HA.out
   clear HA
   simp only [spec_l1Cur_order.l0] at H
   rcases iteE H with ⟨c17b0, H⟩ | ⟨c17b0, H⟩
   ·obtain ⟨⟨t297, t298, t299⟩, A18, H⟩ := obE H
    dsimp only at H
    obtain ⟨c19, H⟩ := itNP H
    have LMc19 := mkA c19
    clear c19
    obtain ⟨y300, Ny300, H⟩ := nmE H
    rcases iteP H with ⟨c20, H⟩ | ⟨c20, H⟩
    ·have c20b0 := beq_iff_eq.mpr c20
     have c20b1 := bne_eq_false_iff_eq.mpr c20
     clear c20
     obtain ⟨⟨t303, t304, t305⟩, A21, H⟩ := obE H
     dsimp only at H
     obtain ⟨c22, H⟩ := itNP H
     have LMc22 := mkA c22
     clear c22
     obtain ⟨y306, hy306⟩ : ∃ y_ : List Int, y_ = (x9_1 ++ [wrap64 (t297 + t303)]) := ⟨_, rfl⟩
     rw [← hy306] at H
     have Ny306 := mkA hy306
     clear hy306
     have H' := mkA H
     clear H
     go_wp2_with (first | ((with_reducible refine gate_callee (f := 18) rfl ?_); refine goesQ (some 32) Tryd.func18 #[.pointer (some ⟨g, 0, none⟩), .int .i64 8] ?_; (with_reducible refine (spec_l1Cur_pick.calls g s0_0 x1001_1 x1002_1 8 t297 t298 t299 w0 _ ?_ ?_ A18.out).mono ?_); exact st49_2 HI0.out NB0_286.out NB0_293.out; exact bl49_2 HB.out HI0.out GE286.out GE293.out; rintro e w23 ⟨rfl, hi, hb, hk⟩; refine ⟨_, rfl, ?_⟩; replace HO_8 := rK (IsS49.apart (show IsS49 w0 _ g s0_0 x1001_1 x1002_1 from by exact st49_2 HI0.out NB0_286.out NB0_293.out) (Kd.R_g HO_8.out) (by decide)) hk; replace HO_9 := rK (IsS49.apart (show IsS49 w0 _ g s0_0 x1001_1 x1002_1 from by exact st49_2 HI0.out NB0_286.out NB0_293.out) (Kd.R_g HO_9.out) (by decide)) hk; replace HO_294001 := rK (IsS49.apart (show IsS49 w0 _ g s0_0 x1001_1 x1002_1 from by exact st49_2 HI0.out NB0_286.out NB0_293.out) (Kd.R_g HO_294001.out) (by decide)) hk; replace BK286 := kB hk BK286; replace BK293 := kB hk BK293; replace HK := kT (by exact kb49_2 HK.out GW286.out GW293.out) hk; replace HI0 := mkA (hi); replace HB := mkA (hb); clear hb hk hi) | ((with_reducible refine gate_builtin (b := .append) (xs := #[.tmp 33, .tmp 35]) rfl ?_); at_builtin; refine Kd.R_append (Kd.int .i64) w.heap.size rfl (.tmp 33) (.tmp 35) 30 3 (.int .i64 0) 8 rfl Tryd.underlying30 info3 rfl (by decide) (by omega) u8 x8_1 t297 [.int .i64 t297] (fun k_ => some k_ ≠ (u9 : Value).ownBlock ∧ some k_ ≠ (.slice Ao11 y290.length co11 : Value).ownBlock) (fun _ => False) rfl rfl ?aP (fun _ hk => hk.elim) ?aF ?aO (Below.refl _ _) ?aS ?aL ?_; (case aP => exact rfl); (case aF => exact (fun k_ hk => ⟨Kd.fresh' (Kd.R_lt (Kd.R_g HO_9.out)) k_ hk, Kd.fresh' (Kd.R_lt (Kd.R_g HO_294001.out)) k_ hk⟩)); (case aO => exact (Kd.R_g HO_8.out)); (case aS => exact (keep_size (w := w) (g := g) (row := none) (by exact kb49_2 HK.out GW286.out GW293.out))); (case aL => have := LMc19.out; omega); intro v301 w24 ho hb hg hat; rw [← Ny300.out] at ho; replace HO_9 := mkA (Kd.R_after (ok := (fun k_ => some k_ ≠ (.slice Ao11 y290.length co11 : Value).ownBlock)) (Kd.R_g (Kd.R_mono HO_9.out (fun _ hk => ⟨hk.2, hk.1⟩))) hg hat); replace HO_294001 := mkA (Kd.R_after (ok := (fun k_ => some k_ ≠ (u9 : Value).ownBlock)) (Kd.R_g (Kd.R_mono HO_294001.out (fun _ hk => ⟨hk.2, hk.1⟩))) hg hat); replace BK286 := mkA (blk_grown (g := gb286) (o := .cells #[.int .i64 0, .slice none 0 0] 32 (0, 0)) (blk_g BK286.out) hg (Kd.R_ne HO_8.out BK286.out (by decide))); replace BK293 := mkA (blk_grown (g := gb293) (o := .cells #[.int .i64 t287, .slice Ao11 y290.length co11] 32 (0, 0)) (blk_g BK293.out) hg (Kd.R_ne HO_8.out BK293.out (by decide))); replace HK := mkA (KeepBut.trans (by exact kb49_2 HK.out GW286.out GW293.out) (KeepBut.of_grown hg g) (Kd.R_base2 HO_8.out)); have HO302 := mkA (ho); replace HB := mkA (below_weaken (by exact bl49_2 HB.out HI0.out GE286.out GE293.out) HL.out hb); replace HI0 := mkA (IsS49.grown (by exact st49_2 HI0.out NB0_286.out NB0_293.out) hg (IsS49.own_ne HI0.out HO_8.out (by decide))); clear HO_8; clear ho hb hg hat) | ((with_reducible refine gate_callee (f := 18) rfl ?_); refine goesQ (some 42) Tryd.func18 #[.pointer (some ⟨g, 0, none⟩), .int .i64 4] ?_; (with_reducible refine (spec_l1Cur_pick.calls g s0_0 t298 t299 4 t303 t304 t305 w0 _ ?_ ?_ A21.out).mono ?_); exact st49_2 HI0.out NB0_286.out NB0_293.out; exact bl49_2 HB.out HI0.out GE286.out GE293.out; rintro e w25 ⟨rfl, hi, hb, hk⟩; refine ⟨_, rfl, ?_⟩; replace HO_9 := rK (IsS49.apart (show IsS49 w0 _ g s0_0 t298 t299 from by exact st49_2 HI0.out NB0_286.out NB0_293.out) (Kd.R_g HO_9.out) (by decide)) hk; replace HO_294001 := rK (IsS49.apart (show IsS49 w0 _ g s0_0 t298 t299 from by exact st49_2 HI0.out NB0_286.out NB0_293.out) (Kd.R_g HO_294001.out) (by decide)) hk; replace BK286 := kB hk BK286; replace BK293 := kB hk BK293; replace HO302 := rK (IsS49.apart (show IsS49 w0 _ g s0_0 t298 t299 from by exact st49_2 HI0.out NB0_286.out NB0_293.out) (Kd.R_g HO302.out) (by decide)) hk; replace HK := kT (by exact kb49_2 HK.out GW286.out GW293.out) hk; replace HI0 := mkA (hi); replace HB := mkA (hb); clear hb hk hi) | ((with_reducible refine gate_builtin (b := .append) (xs := #[.tmp 39, .tmp 44]) rfl ?_); at_builtin; refine Kd.R_append (Kd.int .i64) w.heap.size rfl (.tmp 39) (.tmp 44) 30 3 (.int .i64 0) 8 rfl Tryd.underlying30 info3 rfl (by decide) (by omega) u9 x9_1 (wrap64 (t297 + t303)) [.int .i64 (wrap64 (t297 + t303))] (fun k_ => some k_ ≠ (.slice Ao11 y290.length co11 : Value).ownBlock ∧ some k_ ≠ (v301 : Value).ownBlock) (fun _ => False) rfl rfl ?aP (fun _ hk => hk.elim) ?aF ?aO (Below.refl _ _) ?aS ?aL ?_; (case aP => exact rfl); (case aF => exact (fun k_ hk => ⟨Kd.fresh' (Kd.R_lt (Kd.R_g HO_294001.out)) k_ hk, Kd.fresh' (Kd.R_lt (Kd.R_g HO302.out)) k_ hk⟩)); (case aO => exact (Kd.R_g HO_9.out)); (case aS => exact (keep_size (w := w) (g := g) (row := none) (by exact kb49_2 HK.out GW286.out GW293.out))); (case aL => have := LMc22.out; omega); intro v307 w26 ho hb hg hat; rw [← Ny306.out] at ho; replace HO_294001 := mkA (Kd.R_after (ok := (fun k_ => some k_ ≠ (v301 : Value).ownBlock)) (Kd.R_g (Kd.R_mono HO_294001.out (fun _ hk => ⟨hk.2, hk.1⟩))) hg hat); replace BK286 := mkA (blk_grown (g := gb286) (o := .cells #[.int .i64 0, .slice none 0 0] 32 (0, 0)) (blk_g BK286.out) hg (Kd.R_ne HO_9.out BK286.out (by decide))); replace BK293 := mkA (blk_grown (g := gb293) (o := .cells #[.int .i64 t287, .slice Ao11 y290.length co11] 32 (0, 0)) (blk_g BK293.out) hg (Kd.R_ne HO_9.out BK293.out (by decide))); replace HO302 := mkA (Kd.R_after (ok := (fun k_ => some k_ ≠ (.slice Ao11 y290.length co11 : Value).ownBlock)) (Kd.R_g (Kd.R_mono HO302.out (fun _ hk => ⟨hk.2, hk.1⟩))) hg hat); replace HK := mkA (KeepBut.trans (by exact kb49_2 HK.out GW286.out GW293.out) (KeepBut.of_grown hg g) (Kd.R_base2 HO_9.out)); have HO308 := mkA (ho); replace HB := mkA (below_weaken (by exact bl49_2 HB.out HI0.out GE286.out GE293.out) HL.out hb); replace HI0 := mkA (IsS49.grown (by exact st49_2 HI0.out NB0_286.out NB0_293.out) hg (IsS49.own_ne HI0.out HO_9.out (by decide))); clear HO_9; clear ho hb hg hat))
     go_roundg k1
     case measure => have := HK1.out; omega
     case rel => exact ⟨(y300), (y306), (wrap64 (x10_1 + 1)), (t304), (t305), eqS, H', ⟨by have := HK1.out; omega⟩, ⟨Kd.R_g (Kd.R_mono HO302.out (fun _ hk => ⟨hk.2, hk.1⟩))⟩, ⟨Kd.R_g (Kd.R_mono HO308.out (fun _ hk => ⟨hk.2, hk.1⟩))⟩, rg HO_294001, bg BK286, bg BK293, ⟨by exact st49_2 HI0.out NB0_286.out NB0_293.out⟩, ⟨by exact kb49_2 HK.out GW286.out GW293.out⟩, ⟨by exact bl49_2 HB.out HI0.out GE286.out GE293.out⟩⟩
    ·have c20b0 := beq_eq_false_iff_ne.mpr c20
     have c20b1 := bne_iff_ne.mpr c20
     obtain ⟨c27, H⟩ := itNP H
     have LMc27 := mkA c27
     clear c27
     obtain ⟨y309, hy309⟩ : ∃ y_ : List Int, y_ = (x9_1 ++ [wrap64 (t297 + 2)]) := ⟨_, rfl⟩
     rw [← hy309] at H
     have Ny309 := mkA hy309
     clear hy309
     have H' := mkA H
     clear H
     go_wp2_with (first | ((with_reducible refine gate_callee (f := 18) rfl ?_); refine goesQ (some 32) Tryd.func18 #[.pointer (some ⟨g, 0, none⟩), .int .i64 8] ?_; (with_reducible refine (spec_l1Cur_pick.calls g s0_0 x1001_1 x1002_1 8 t297 t298 t299 w0 _ ?_ ?_ A18.out).mono ?_); exact st49_2 HI0.out NB0_286.out NB0_293.out; exact bl49_2 HB.out HI0.out GE286.out GE293.out; rintro e w28 ⟨rfl, hi, hb, hk⟩; refine ⟨_, rfl, ?_⟩; replace HO_8 := rK (IsS49.apart (show IsS49 w0 _ g s0_0 x1001_1 x1002_1 from by exact st49_2 HI0.out NB0_286.out NB0_293.out) (Kd.R_g HO_8.out) (by decide)) hk; replace HO_9 := rK (IsS49.apart (show IsS49 w0 _ g s0_0 x1001_1 x1002_1 from by exact st49_2 HI0.out NB0_286.out NB0_293.out) (Kd.R_g HO_9.out) (by decide)) hk; replace HO_294001 := rK (IsS49.apart (show IsS49 w0 _ g s0_0 x1001_1 x1002_1 from by exact st49_2 HI0.out NB0_286.out NB0_293.out) (Kd.R_g HO_294001.out) (by decide)) hk; replace BK286 := kB hk BK286; replace BK293 := kB hk BK293; replace HK := kT (by exact kb49_2 HK.out GW286.out GW293.out) hk; replace HI0 := mkA (hi); replace HB := mkA (hb); clear hb hk hi) | ((with_reducible refine gate_builtin (b := .append) (xs := #[.tmp 33, .tmp 35]) rfl ?_); at_builtin; refine Kd.R_append (Kd.int .i64) w.heap.size rfl (.tmp 33) (.tmp 35) 30 3 (.int .i64 0) 8 rfl Tryd.underlying30 info3 rfl (by decide) (by omega) u8 x8_1 t297 [.int .i64 t297] (fun k_ => some k_ ≠ (u9 : Value).ownBlock ∧ some k_ ≠ (.slice Ao11 y290.length co11 : Value).ownBlock) (fun _ => False) rfl rfl ?aP (fun _ hk => hk.elim) ?aF ?aO (Below.refl _ _) ?aS ?aL ?_; (case aP => exact rfl); (case aF => exact (fun k_ hk => ⟨Kd.fresh' (Kd.R_lt (Kd.R_g HO_9.out)) k_ hk, Kd.fresh' (Kd.R_lt (Kd.R_g HO_294001.out)) k_ hk⟩)); (case aO => exact (Kd.R_g HO_8.out)); (case aS => exact (keep_size (w := w) (g := g) (row := none) (by exact kb49_2 HK.out GW286.out GW293.out))); (case aL => have := LMc19.out; omega); intro v301 w29 ho hb hg hat; rw [← Ny300.out] at ho; replace HO_9 := mkA (Kd.R_after (ok := (fun k_ => some k_ ≠ (.slice Ao11 y290.length co11 : Value).ownBlock)) (Kd.R_g (Kd.R_mono HO_9.out (fun _ hk => ⟨hk.2, hk.1⟩))) hg hat); replace HO_294001 := mkA (Kd.R_after (ok := (fun k_ => some k_ ≠ (u9 : Value).ownBlock)) (Kd.R_g (Kd.R_mono HO_294001.out (fun _ hk => ⟨hk.2, hk.1⟩))) hg hat); replace BK286 := mkA (blk_grown (g := gb286) (o := .cells #[.int .i64 0, .slice none 0 0] 32 (0, 0)) (blk_g BK286.out) hg (Kd.R_ne HO_8.out BK286.out (by decide))); replace BK293 := mkA (blk_grown (g := gb293) (o := .cells #[.int .i64 t287, .slice Ao11 y290.length co11] 32 (0, 0)) (blk_g BK293.out) hg (Kd.R_ne HO_8.out BK293.out (by decide))); replace HK := mkA (KeepBut.trans (by exact kb49_2 HK.out GW286.out GW293.out) (KeepBut.of_grown hg g) (Kd.R_base2 HO_8.out)); have HO302 := mkA (ho); replace HB := mkA (below_weaken (by exact bl49_2 HB.out HI0.out GE286.out GE293.out) HL.out hb); replace HI0 := mkA (IsS49.grown (by exact st49_2 HI0.out NB0_286.out NB0_293.out) hg (IsS49.own_ne HI0.out HO_8.out (by decide))); clear HO_8; clear ho hb hg hat) | ((with_reducible refine gate_builtin (b := .append) (xs := #[.tmp 46, .tmp 49]) rfl ?_); at_builtin; refine Kd.R_append (Kd.int .i64) w.heap.size rfl (.tmp 46) (.tmp 49) 30 3 (.int .i64 0) 8 rfl Tryd.underlying30 info3 rfl (by decide) (by omega) u9 x9_1 (wrap64 (t297 + 2)) [.int .i64 (wrap64 (t297 + 2))] (fun k_ => some k_ ≠ (.slice Ao11 y290.length co11 : Value).ownBlock ∧ some k_ ≠ (v301 : Value).ownBlock) (fun _ => False) rfl rfl ?aP (fun _ hk => hk.elim) ?aF ?aO (Below.refl _ _) ?aS ?aL ?_; (case aP => exact rfl); (case aF => exact (fun k_ hk => ⟨Kd.fresh' (Kd.R_lt (Kd.R_g HO_294001.out)) k_ hk, Kd.fresh' (Kd.R_lt (Kd.R_g HO302.out)) k_ hk⟩)); (case aO => exact (Kd.R_g HO_9.out)); (case aS => exact (keep_size (w := w) (g := g) (row := none) (by exact kb49_2 HK.out GW286.out GW293.out))); (case aL => have := LMc27.out; omega); intro v310 w30 ho hb hg hat; rw [← Ny309.out] at ho; replace HO_294001 := mkA (Kd.R_after (ok := (fun k_ => some k_ ≠ (v301 : Value).ownBlock)) (Kd.R_g (Kd.R_mono HO_294001.out (fun _ hk => ⟨hk.2, hk.1⟩))) hg hat); replace BK286 := mkA (blk_grown (g := gb286) (o := .cells #[.int .i64 0, .slice none 0 0] 32 (0, 0)) (blk_g BK286.out) hg (Kd.R_ne HO_9.out BK286.out (by decide))); replace BK293 := mkA (blk_grown (g := gb293) (o := .cells #[.int .i64 t287, .slice Ao11 y290.length co11] 32 (0, 0)) (blk_g BK293.out) hg (Kd.R_ne HO_9.out BK293.out (by decide))); replace HO302 := mkA (Kd.R_after (ok := (fun k_ => some k_ ≠ (.slice Ao11 y290.length co11 : Value).ownBlock)) (Kd.R_g (Kd.R_mono HO302.out (fun _ hk => ⟨hk.2, hk.1⟩))) hg hat); replace HK := mkA (KeepBut.trans (by exact kb49_2 HK.out GW286.out GW293.out) (KeepBut.of_grown hg g) (Kd.R_base2 HO_9.out)); have HO311 := mkA (ho); replace HB := mkA (below_weaken (by exact bl49_2 HB.out HI0.out GE286.out GE293.out) HL.out hb); replace HI0 := mkA (IsS49.grown (by exact st49_2 HI0.out NB0_286.out NB0_293.out) hg (IsS49.own_ne HI0.out HO_9.out (by decide))); clear HO_9; clear ho hb hg hat))
     go_roundg k1
     case measure => have := HK1.out; omega
     case rel => exact ⟨(y300), (y309), (wrap64 (x10_1 + 1)), (t298), (t299), eqS, H', ⟨by have := HK1.out; omega⟩, ⟨Kd.R_g (Kd.R_mono HO302.out (fun _ hk => ⟨hk.2, hk.1⟩))⟩, ⟨Kd.R_g (Kd.R_mono HO311.out (fun _ hk => ⟨hk.2, hk.1⟩))⟩, rg HO_294001, bg BK286, bg BK293, ⟨by exact st49_2 HI0.out NB0_286.out NB0_293.out⟩, ⟨by exact kb49_2 HK.out GW286.out GW293.out⟩, ⟨by exact bl49_2 HB.out HI0.out GE286.out GE293.out⟩⟩
   ·have H' := mkA H
    clear H
    go_wp2
    go_loopg [12] k1 (fun kq v12 w' => ∃ (x8_2 : List Int) (x9_2 : List Int) (x12_2 : Int) (x1001_2 : Int) (x1002_2 : Int) (x294001_2 : List Int) (u294001 : Value), v12 = .int .i64 x12_2 ∧ Fc (spec_l1Cur_order.l1 kq t287 t294 x8_2 x9_2 x12_2 s0_0 x1001_2 x1002_2 t287 x294001_2 = some (r1, r2, r3, r4)) ∧ Fc (kq ≤ k1) ∧ Fc (Kd.R (Kd.int .i64) 3 w' w.heap.size (fun k_ => some k_ ≠ (u9 : Value).ownBlock ∧ some k_ ≠ (u294001 : Value).ownBlock) u8 x8_2) ∧ Fc (Kd.R (Kd.int .i64) 3 w' w.heap.size (fun k_ => some k_ ≠ (u8 : Value).ownBlock ∧ some k_ ≠ (u294001 : Value).ownBlock) u9 x9_2) ∧ Fc (Kd.R (Kd.int .i64) 3 w' w.heap.size (fun k_ => some k_ ≠ (u8 : Value).ownBlock ∧ some k_ ≠ (u9 : Value).ownBlock) u294001 x294001_2) ∧ Fc (w'.heap[gb286]? = some (.cells #[.int .i64 0, (.slice none 0 0)] 32 (0, 0))) ∧ Fc (w'.heap[gb293]? = some (.cells #[.int .i64 t287, u294001] 32 (0, 0))) ∧ Fc (IsS49 w0 w' g s0_0 x1001_2 x1002_2) ∧ Fc (KeepBut w w' g none) ∧ Fc (Below w0.heap.size w0 w'))
    case atStart => exact ⟨(x8_1), (x9_1), (0), (x1001_1), (x1002_1), (y290), (.slice Ao11 y290.length co11), eqS, H', ⟨Nat.le_refl _⟩, rg HO_8, rg HO_9, rg HO_294001, bg BK286, bg BK293, ⟨by exact st49_2 HI0.out NB0_286.out NB0_293.out⟩, ⟨by exact kb49_2 HK.out GW286.out GW293.out⟩, ⟨by exact bl49_2 HB.out HI0.out GE286.out GE293.out⟩⟩
    case round =>
     clear H'
     try clear c4
     try clear c4b0
     try clear c4b1
     try clear c5
     try clear c5b0
     try clear c5b1
     try clear c17b0
     try clear c19
     try clear c20
     try clear c20b0
     try clear c20b1
     try clear c22
     try clear c27
     obtain ⟨x8_2, x9_2, x12_2, x1001_2, x1002_2, x294001_2, u294001, rfl, HA, HK2, HO_8, HO_9, HO_294001, BK286, BK293, HI0, HK, HB⟩ := hrel
     cases gk with
     | zero => exact absurd HA.out (by simp [spec_l1Cur_order.l1])
     | succ k2 =>
      have H := HA.out
      clear HA
      simp only [spec_l1Cur_order.l1] at H
      rcases iteE H with ⟨c31b0, H⟩ | ⟨c31b0, H⟩
      ·have H' := mkA H
       clear H
       go_wp2
       go_loopg [13] k2 (fun kq v13 w' => ∃ (x8_3 : List Int) (x9_3 : List Int) (x13_3 : Int) (x1001_3 : Int) (x1002_3 : Int) (x294001_3 : List Int) (u294001 : Value), v13 = .int .i64 x13_3 ∧ Fc (spec_l1Cur_order.l2 kq t287 t294 x8_3 x9_3 x12_2 x13_3 s0_0 x1001_3 x1002_3 t287 x294001_3 = some (r1, r2, r3, r4)) ∧ Fc (kq ≤ k2) ∧ Fc (Kd.R (Kd.int .i64) 3 w' w.heap.size (fun k_ => some k_ ≠ (u9 : Value).ownBlock ∧ some k_ ≠ (u294001 : Value).ownBlock) u8 x8_3) ∧ Fc (Kd.R (Kd.int .i64) 3 w' w.heap.size (fun k_ => some k_ ≠ (u8 : Value).ownBlock ∧ some k_ ≠ (u294001 : Value).ownBlock) u9 x9_3) ∧ Fc (Kd.R (Kd.int .i64) 3 w' w.heap.size (fun k_ => some k_ ≠ (u8 : Value).ownBlock ∧ some k_ ≠ (u9 : Value).ownBlock) u294001 x294001_3) ∧ Fc (w'.heap[gb286]? = some (.cells #[.int .i64 0, (.slice none 0 0)] 32 (0, 0))) ∧ Fc (w'.heap[gb293]? = some (.cells #[.int .i64 t287, u294001] 32 (0, 0))) ∧ Fc (IsS49 w0 w' g s0_0 x1001_3 x1002_3) ∧ Fc (KeepBut w w' g none) ∧ Fc (Below w0.heap.size w0 w'))
       case atStart => exact ⟨(x8_2), (x9_2), (0), (x1001_2), (x1002_2), (x294001_2), (u294001), eqS, H', ⟨Nat.le_refl _⟩, rg HO_8, rg HO_9, rg HO_294001, bg BK286, bg BK293, ⟨by exact st49_2 HI0.out NB0_286.out NB0_293.out⟩, ⟨by exact kb49_2 HK.out GW286.out GW293.out⟩, ⟨by exact bl49_2 HB.out HI0.out GE286.out GE293.out⟩⟩
       case round =>
        clear H'
        try clear c4
        try clear c4b0
        try clear c4b1
        try clear c5
        try clear c5b0
        try clear c5b1
        try clear c17b0
        try clear c19
        try clear c20
        try clear c20b0
        try clear c20b1
        try clear c22
        try clear c27
        try clear c31b0
        obtain ⟨x8_3, x9_3, x13_3, x1001_3, x1002_3, x294001_3, u294001, rfl, HA, HK3, HO_8, HO_9, HO_294001, BK286, BK293, HI0, HK, HB⟩ := hrel
        cases gk with
        | zero => exact absurd HA.out (by simp [spec_l1Cur_order.l2])
        | succ k3 =>
         have H := HA.out
         clear HA
         simp only [spec_l1Cur_order.l2] at H
         rcases iteE H with ⟨c32b0, H⟩ | ⟨c32b0, H⟩
         ·rcases iteP H with ⟨c33, H⟩ | ⟨c33, H⟩
          ·have c33b0 := decide_eq_true c33
           clear c33
           obtain ⟨c34b0, H⟩ := itND H
           obtain ⟨c35b0, H⟩ := itND H
           obtain ⟨c36b0, H⟩ := itND H
           obtain ⟨c37b0, H⟩ := itND H
           rcases iteE H with ⟨c38b0, H⟩ | ⟨c38b0, H⟩
           ·obtain ⟨c39b0, H⟩ := itND H
            have c40b0 := eq_true (ofd : 0 ≤ x13_3)
            obtain ⟨ji41, hji41⟩ : ∃ j_ : Int, (shl .i64 1 x13_3) = j_ := ⟨_, rfl⟩
            first | rw [hji41] at H | simp only [hji41] at H
            have hji41_ : (IntKind.i64.wrap (1 * 2 ^ min x13_3.toNat 64)) = ji41 := hji41
            have hji41z : x13_3 ≤ 64 → (IntKind.i64.wrap (1 * 2 ^ x13_3.toNat)) = ji41 := shl_small hji41
            have hji41u : (IntKind.i64.wrap (2 ^ min x13_3.toNat 64)) = ji41 := by have h_ := hji41_; rw [Int.one_mul] at h_; exact h_
            have hji41v : x13_3 ≤ 64 → (IntKind.i64.wrap (2 ^ x13_3.toNat)) = ji41 := fun hle_ => by have h_ := hji41z hle_; rw [Int.one_mul] at h_; exact h_
            have hji41y : (wrap64 (1 * 2 ^ min x13_3.toNat 64)) = ji41 := (i64_w _).symm.trans hji41_
            have hji41x : x13_3 ≤ 64 → (wrap64 (1 * 2 ^ x13_3.toNat)) = ji41 := fun h_ => (i64_w _).symm.trans (hji41z h_)
            obtain ⟨y321, hy321⟩ : ∃ y_ : List Int, y_ = (x294001_3.set (x12_2 : Int).toNat (Go.bits .or .i64 (rd x294001_3 x12_2) (ji41))) := ⟨_, rfl⟩
            rw [← hy321] at H
            have Ny321 := mkA hy321
            clear hy321
            have H' := mkA H
            clear H
            try go_wp2
            replace HO_8 := mkA (Kd.R_drew HO_8.out)
            replace HO_9 := mkA (Kd.R_drew HO_9.out)
            replace HO_294001 := mkA (Kd.R_drew HO_294001.out)
            replace BK286 := mkA (blk_drew BK286.out)
            replace BK293 := mkA (blk_drew BK293.out)
            replace HI0 := mkA (IsS49.drew HI0.out)
            replace HK := mkA (keep_drew HK.out)
            replace HB := mkA (below_drew1 HB.out)
            obtain ⟨Ao44, co44, eo44⟩ := Kd.R_slice HO_9.out
            (first | subst eo44 | (injection eo44 with f1_ f2_ f3_; have f4_ := f1_.symm; have f5_ := f3_.symm; clear f1_ f2_ f3_; subst f4_; subst f5_))
            obtain ⟨p318, q318, ad318, e318, hx318_0⟩ := atI (Kd.R_reads' HO_9.out).2.2 x12_2
            cases e318
            obtain ⟨Ao45, co45, eo45⟩ := Kd.R_slice HO_8.out
            (first | subst eo45 | (injection eo45 with f1_ f2_ f3_; have f4_ := f1_.symm; have f5_ := f3_.symm; clear f1_ f2_ f3_; subst f4_; subst f5_))
            obtain ⟨p319, q319, ad319, e319, hx319_0⟩ := atI (Kd.R_reads' HO_8.out).2.2 x13_3
            cases e319
            refine start_ (n := 26) (S := fun w' => w'.cell? (ad318.add (x12_2).toNat) = some (.int .i64 (rd x9_3 x12_2)) ∧ w'.cell? (ad319.add (x13_3).toNat) = some (.int .i64 (rd x8_3 x13_3))) (ds := []) (bm 26 0) (by kernel_rfl) rfl (by kernel_rfl) ⟨hx318_0, hx319_0⟩ (fun hHeld => ?_); refine with_tabW spec_l1Cur_order.tab19 spec_l1Cur_order.bits19 (fun HT_ HW_ => ?_)
            generalize wr.drew = w43 at HO_8 HO_9 HO_294001 BK286 BK293 HI0 HK HB hx318_0 hx319_0 hHeld ⊢
            refine purW 0 61 26 1 HT_ ?_
            refine purW 1 62 26 3 HT_ ?_
            refine purW 2 63 26 7 HT_ ?_
            refine purW 3 64 26 15 HT_ ?_
            refine purW 4 65 26 31 HT_ ?_
            refine purW 5 66 26 63 HT_ ?_
            refine purW 7 68 26 191 HT_ ?_
            refine purW 8 69 26 447 HT_ ?_
            refine purW 9 70 26 959 HT_ ?_
            refine takeW 6 (some 67) (bm 26 1023) HT_ HW_ hHeld ?_
            refine takeW 10 (some 71) (bm 26 2047) HT_ HW_ hHeld ?_
            refine purW 11 72 26 4095 HT_ ?_
            refine purW 12 73 26 8191 HT_ ?_
            refine purW 13 74 26 16383 HT_ ?_
            refine purG 14 75 26 32767 HT_ ?_
            refine purG 15 76 26 65535 HT_ ?_
            refine purG 16 77 26 131071 HT_ ?_
            refine purG 17 78 26 262143 HT_ ?_
            refine purG 18 79 26 524287 HT_ ?_
            refine purG 19 80 26 1048575 HT_ ?_
            refine purG 20 81 26 2097151 HT_ ?_
            refine purG 21 82 26 4194303 HT_ ?_
            refine purG 22 83 26 8388607 HT_ ?_
            refine purG 23 84 26 16777215 HT_ ?_
            refine purG 24 85 26 33554431 HT_ ?_
            refine purW 25 86 26 67108863 HT_ ?_
            refine doneW HT_ ?_
            try go_wp2
            replace HO_8 := mkA (Kd.R_drew HO_8.out)
            replace HO_9 := mkA (Kd.R_drew HO_9.out)
            replace HO_294001 := mkA (Kd.R_drew HO_294001.out)
            replace BK286 := mkA (blk_drew BK286.out)
            replace BK293 := mkA (blk_drew BK293.out)
            replace HI0 := mkA (IsS49.drew HI0.out)
            replace HK := mkA (keep_drew HK.out)
            replace HB := mkA (below_drew1 HB.out)
            obtain ⟨Ao47, co47, eo47⟩ := Kd.R_slice HO_294001.out
            (first | subst eo47 | (injection eo47 with f1_ f2_ f3_; have f4_ := f1_.symm; have f5_ := f3_.symm; clear f1_ f2_ f3_; subst f4_; subst f5_))
            obtain ⟨p320, q320, ad320, e320, hx320_0⟩ := atI (Kd.R_reads' HO_294001.out).2.2 x12_2
            cases e320
            have p42 : 0 ≤ (x12_2 : Int) := ofd
            have q42 : (x12_2 : Int) < ((x294001_3.length : Int) : Int) := ofd
            obtain ⟨go42, co42, eo42, gb42, gl42, cl42, HG42⟩ := Kd.R_form HO_294001.out (by omega)
            (first | cases eo42 | (injection eo42 with ea_ en_ ec_; (first | subst ea_ | (injection ea_ with ea_; subst ea_)); subst ec_; clear en_))
            have GB42 : Ge _ _ := ⟨gb42⟩
            have GG42 := mkA HG42
            clear gb42 gl42 HG42
            (first | simp only [add_plain] at hx320_0 | skip)
            obtain ⟨hx42_0, hf42_0⟩ := Kd.R_celln 0 HO_294001.out (x12_2 : Int) p42 q42
            replace p42 := eq_true p42
            replace q42 := eq_true q42
            have HN0_go42 := mkA (show g ≠ go42 from by have h_ := IsS49.own_ne HI0.out HO_294001.out (by decide); intro e_; exact h_ (by rw [e_]; rfl))
            have HP48 := Kd.R_putn HO_294001.out (x12_2 : Int) (Go.bits .or .i64 (rd x294001_3 x12_2) (ji41))
            rw [← Ny321.out] at HP48
            have HQ48 := mkA HP48
            clear HP48
            refine start_ (n := 10) (S := fun w' => w'.cell? ⟨gb293, 0, none⟩ = some (.int .i64 t287) ∧ w'.cell? ⟨gb293, 1, none⟩ = some (.slice (some ⟨go42, 0, none⟩) x294001_3.length co47) ∧ w'.cell? ⟨go42, (x12_2).toNat, none⟩ = some (.int .i64 (rd x294001_3 x12_2))) (ds := [9]) (bm 10 0) (by kernel_rfl) rfl rfl ⟨(blk_cell BK293.out 0).trans rfl, (blk_cell BK293.out 1).trans rfl, hx320_0⟩ (fun hHeld => ?_); refine with_tabW spec_l1Cur_order.tab20 spec_l1Cur_order.bits20 (fun HT_ HW_ => ?_)
            generalize w43.drew = w46 at HO_8 HO_9 HO_294001 BK286 BK293 HI0 HK HB GG42 HQ48 hf42_0 hx320_0 hx42_0 hHeld ⊢
            refine purW 0 87 10 1 HT_ ?_
            refine purW 2 89 10 5 HT_ ?_
            refine purW 5 92 10 37 HT_ ?_
            refine purW 6 93 10 101 HT_ ?_
            refine takeW 1 (some 88) (bm 10 103) HT_ HW_ hHeld ?_
            refine purW 3 90 10 111 HT_ ?_
            refine takeW 4 (some 91) (bm 10 127) HT_ HW_ hHeld ?_
            refine purW 7 94 10 255 HT_ ?_
            refine purW 8 95 10 511 HT_ ?_
            refine last_ (i := 9) (N := none) (bm 10 1023) rfl rfl (one_of HT_.out (by kernel_rfl)) (by decide) (fun K hK => ?_)
            refine skip_ (w1 := ?_) (by rfl) rfl ?_ ?_
            rotate_left
            ·go_simp
             rfl
            refine hK.out _ _ ?_
            clear hK K
            refine doneW HT_ ?_
            try go_wp2
            go_roundg k3
            case measure => have := HK1.out; have := HK2.out; have := HK3.out; omega
            case rel => exact ⟨(x8_3), (x9_3), (wrap64 (x13_3 + 1)), (x1001_3), (x1002_3), (y321), (.slice (some ⟨go42, 0, none⟩) x294001_3.length co47), eqS, H', ⟨by have := HK1.out; have := HK2.out; have := HK3.out; omega⟩, ⟨Kd.R_g (Kd.R_mono (Kd.R_far (p := ⟨go42, (x12_2 : Int).toNat, none⟩) (Kd.R_mono HO_8.out (fun k_ hk => (⟨hk, fun e_ => hk.2 (by rw [e_]; rfl)⟩ : _ ∧ k_ ≠ go42))) (fun _ hk => hk.2) (.int .i64 (Go.bits .or .i64 (rd x294001_3 x12_2) (ji41)))) (fun _ hk => ⟨hk.1.1, hk.1.2⟩))⟩, ⟨Kd.R_g (Kd.R_mono (Kd.R_far (p := ⟨go42, (x12_2 : Int).toNat, none⟩) (Kd.R_mono HO_9.out (fun k_ hk => (⟨hk, fun e_ => hk.2 (by rw [e_]; rfl)⟩ : _ ∧ k_ ≠ go42))) (fun _ hk => hk.2) (.int .i64 (Go.bits .or .i64 (rd x294001_3 x12_2) (ji41)))) (fun _ hk => ⟨hk.1.1, hk.1.2⟩))⟩, ⟨Kd.R_g HQ48.out⟩, ⟨by (with_reducible repeat (first | refine blk_drewN ?_ _ | refine blk_drew ?_ | refine blk_alloc ?_ _)); refine blk_far ?_ (by have h_ := Kd.R_ne HO_294001.out BK286.out (by decide); intro e_; exact h_ (by rw [e_]; rfl)) _; (with_reducible repeat (first | refine blk_drewN ?_ _ | refine blk_drew ?_ | refine blk_alloc ?_ _)); exact BK286.out⟩, ⟨by (with_reducible repeat (first | refine blk_drewN ?_ _ | refine blk_drew ?_ | refine blk_alloc ?_ _)); refine blk_far ?_ (by have h_ := Kd.R_ne HO_294001.out BK293.out (by decide); intro e_; exact h_ (by rw [e_]; rfl)) _; (with_reducible repeat (first | refine blk_drewN ?_ _ | refine blk_drew ?_ | refine blk_alloc ?_ _)); exact BK293.out⟩, ⟨by exact st49_3 HI0.out HN0_go42.out NB0_286.out NB0_293.out⟩, ⟨by exact kb49_3 HK.out GB42.out GW286.out GW293.out⟩, ⟨by repeat (first | (with_reducible first | exact HB.out | apply below_alloc | apply pw_below_drewN | apply below_drew1 | refine below_set ?_ (Nat.le_trans HL.out GB42.out) | refine below_set ?_ (IsS49.ge HI0.out) | refine below_set ?_ GE286.out | refine below_set ?_ GE293.out) | exact HB.out)⟩⟩
           ·rcases iteP H with ⟨c49, H⟩ | ⟨c49, H⟩
            ·have c49b0 := beq_iff_eq.mpr c49
             have c49b1 := bne_eq_false_iff_eq.mpr c49
             clear c49
             rcases iteE H with ⟨c50b0, H⟩ | ⟨c50b0, H⟩
             ·obtain ⟨⟨t322, t323, t324⟩, A51, H⟩ := obE H
              dsimp only at H
              by_cases c52 : t322 = true
              ·subst c52
               replace H := ifT H
               obtain ⟨c53b0, H⟩ := itND H
               have c54b0 := eq_true (ofd : 0 ≤ x13_3)
               obtain ⟨ji55, hji55⟩ : ∃ j_ : Int, (shl .i64 1 x13_3) = j_ := ⟨_, rfl⟩
               first | rw [hji55] at H | simp only [hji55] at H
               (try rw [hji55] at A51)
               have hji55_ : (IntKind.i64.wrap (1 * 2 ^ min x13_3.toNat 64)) = ji55 := hji55
               have hji55z : x13_3 ≤ 64 → (IntKind.i64.wrap (1 * 2 ^ x13_3.toNat)) = ji55 := shl_small hji55
               have hji55u : (IntKind.i64.wrap (2 ^ min x13_3.toNat 64)) = ji55 := by have h_ := hji55_; rw [Int.one_mul] at h_; exact h_
               have hji55v : x13_3 ≤ 64 → (IntKind.i64.wrap (2 ^ x13_3.toNat)) = ji55 := fun hle_ => by have h_ := hji55z hle_; rw [Int.one_mul] at h_; exact h_
               have hji55y : (wrap64 (1 * 2 ^ min x13_3.toNat 64)) = ji55 := (i64_w _).symm.trans hji55_
               have hji55x : x13_3 ≤ 64 → (wrap64 (1 * 2 ^ x13_3.toNat)) = ji55 := fun h_ => (i64_w _).symm.trans (hji55z h_)
               obtain ⟨y326, hy326⟩ : ∃ y_ : List Int, y_ = (x294001_3.set (x12_2 : Int).toNat (Go.bits .or .i64 (rd x294001_3 x12_2) (ji55))) := ⟨_, rfl⟩
               rw [← hy326] at H
               have Ny326 := mkA hy326
               clear hy326
               have H' := mkA H
               clear H
               try go_wp2
               replace HO_8 := mkA (Kd.R_drew HO_8.out)
               replace HO_9 := mkA (Kd.R_drew HO_9.out)
               replace HO_294001 := mkA (Kd.R_drew HO_294001.out)
               replace BK286 := mkA (blk_drew BK286.out)
               replace BK293 := mkA (blk_drew BK293.out)
               replace HI0 := mkA (IsS49.drew HI0.out)
               replace HK := mkA (keep_drew HK.out)
               replace HB := mkA (below_drew1 HB.out)
               obtain ⟨Ao58, co58, eo58⟩ := Kd.R_slice HO_9.out
               (first | subst eo58 | (injection eo58 with f1_ f2_ f3_; have f4_ := f1_.symm; have f5_ := f3_.symm; clear f1_ f2_ f3_; subst f4_; subst f5_))
               obtain ⟨p318, q318, ad318, e318, hx318_0⟩ := atI (Kd.R_reads' HO_9.out).2.2 x12_2
               cases e318
               obtain ⟨Ao59, co59, eo59⟩ := Kd.R_slice HO_8.out
               (first | subst eo59 | (injection eo59 with f1_ f2_ f3_; have f4_ := f1_.symm; have f5_ := f3_.symm; clear f1_ f2_ f3_; subst f4_; subst f5_))
               obtain ⟨p319, q319, ad319, e319, hx319_0⟩ := atI (Kd.R_reads' HO_8.out).2.2 x13_3
               cases e319
               refine start_ (n := 26) (S := fun w' => w'.cell? (ad318.add (x12_2).toNat) = some (.int .i64 (rd x9_3 x12_2)) ∧ w'.cell? (ad319.add (x13_3).toNat) = some (.int .i64 (rd x8_3 x13_3))) (ds := []) (bm 26 0) (by kernel_rfl) rfl (by kernel_rfl) ⟨hx318_0, hx319_0⟩ (fun hHeld => ?_); refine with_tabW spec_l1Cur_order.tab19 spec_l1Cur_order.bits19 (fun HT_ HW_ => ?_)
               generalize wr.drew = w57 at HO_8 HO_9 HO_294001 BK286 BK293 HI0 HK HB hx318_0 hx319_0 hHeld ⊢
               refine purW 0 61 26 1 HT_ ?_
               refine purW 1 62 26 3 HT_ ?_
               refine purW 2 63 26 7 HT_ ?_
               refine purW 3 64 26 15 HT_ ?_
               refine purW 4 65 26 31 HT_ ?_
               refine purW 5 66 26 63 HT_ ?_
               refine purW 7 68 26 191 HT_ ?_
               refine purW 8 69 26 447 HT_ ?_
               refine purW 9 70 26 959 HT_ ?_
               refine takeW 6 (some 67) (bm 26 1023) HT_ HW_ hHeld ?_
               refine takeW 10 (some 71) (bm 26 2047) HT_ HW_ hHeld ?_
               refine purW 11 72 26 4095 HT_ ?_
               refine purW 12 73 26 8191 HT_ ?_
               refine purW 13 74 26 16383 HT_ ?_
               refine purW 14 75 26 32767 HT_ ?_
               refine purW 15 76 26 65535 HT_ ?_
               refine purW 16 77 26 131071 HT_ ?_
               refine purW 17 78 26 262143 HT_ ?_
               refine purW 18 79 26 524287 HT_ ?_
               refine purW 19 80 26 1048575 HT_ ?_
               refine purW 20 81 26 2097151 HT_ ?_
               refine purW 21 82 26 4194303 HT_ ?_
               refine purW 22 83 26 8388607 HT_ ?_
               refine oneW 23 (some 84) (bm 26 16777215) HT_ (fun K hK => ?_)
               refine goesR Tryd.func30 #[.pointer (some ⟨g, 0, none⟩), .int .i64 3] ?_
               with_reducible refine (spec_l1Cur_one.calls g s0_0 x1001_3 x1002_3 3 true t323 t324 w0 _ ?s1 ?s2 A51.out).mono ?_
               (case s1 => exact st49_2 HI0.out NB0_286.out NB0_293.out)
               (case s2 => exact bl49_2 HB.out HI0.out GE286.out GE293.out)
               rintro e w60 ⟨rfl, hi, hb, hk⟩
               have HS0_ := keep_cell hk (hHeld.1) (by first | (rw [add_block]; exact Kd.own_blk (IsS49.own_ne HI0.out HO_9.out (by decide))) | (show (Addr.add _ _).block ≠ _; rw [add_block]; exact Kd.own_blk (IsS49.own_ne HI0.out HO_9.out (by decide))) | exact Kd.own_blk (IsS49.own_ne HI0.out HO_9.out (by decide)))
               have HS1_ := keep_cell hk (hHeld.2) (by first | (rw [add_block]; exact Kd.own_blk (IsS49.own_ne HI0.out HO_8.out (by decide))) | (show (Addr.add _ _).block ≠ _; rw [add_block]; exact Kd.own_blk (IsS49.own_ne HI0.out HO_8.out (by decide))) | exact Kd.own_blk (IsS49.own_ne HI0.out HO_8.out (by decide)))
               refine ⟨_, rfl, ?_⟩
               replace HO_8 := rK (IsS49.apart (show IsS49 w0 _ g s0_0 x1001_3 x1002_3 from by exact st49_2 HI0.out NB0_286.out NB0_293.out) (Kd.R_g HO_8.out) (by decide)) hk
               replace HO_9 := rK (IsS49.apart (show IsS49 w0 _ g s0_0 x1001_3 x1002_3 from by exact st49_2 HI0.out NB0_286.out NB0_293.out) (Kd.R_g HO_9.out) (by decide)) hk
               replace HO_294001 := rK (IsS49.apart (show IsS49 w0 _ g s0_0 x1001_3 x1002_3 from by exact st49_2 HI0.out NB0_286.out NB0_293.out) (Kd.R_g HO_294001.out) (by decide)) hk
               replace BK286 := kB hk BK286
               replace BK293 := kB hk BK293
               replace HK := kT (by exact kb49_2 HK.out GW286.out GW293.out) hk
               replace HI0 := mkA (hi)
               replace HB := mkA (hb)
               (try clear hb)
               (try clear hb2)
               (try clear hk)
               (try clear hi)
               refine hK.out _ _ ⟨HS0_, HS1_⟩ (fun hHeld => ?_)
               clear hK K
               refine normW 84 ?_
               refine purW 24 85 26 33554431 HT_ ?_
               refine purW 25 86 26 67108863 HT_ ?_
               refine doneW HT_ ?_
               try go_wp2
               replace HO_8 := mkA (Kd.R_drew HO_8.out)
               replace HO_9 := mkA (Kd.R_drew HO_9.out)
               replace HO_294001 := mkA (Kd.R_drew HO_294001.out)
               replace BK286 := mkA (blk_drew BK286.out)
               replace BK293 := mkA (blk_drew BK293.out)
               replace HI0 := mkA (IsS49.drew HI0.out)
               replace HK := mkA (keep_drew HK.out)
               replace HB := mkA (below_drew1 HB.out)
               obtain ⟨Ao62, co62, eo62⟩ := Kd.R_slice HO_294001.out
               (first | subst eo62 | (injection eo62 with f1_ f2_ f3_; have f4_ := f1_.symm; have f5_ := f3_.symm; clear f1_ f2_ f3_; subst f4_; subst f5_))
               obtain ⟨p325, q325, ad325, e325, hx325_0⟩ := atI (Kd.R_reads' HO_294001.out).2.2 x12_2
               cases e325
               have p56 : 0 ≤ (x12_2 : Int) := ofd
               have q56 : (x12_2 : Int) < ((x294001_3.length : Int) : Int) := ofd
               obtain ⟨go56, co56, eo56, gb56, gl56, cl56, HG56⟩ := Kd.R_form HO_294001.out (by omega)
               (first | cases eo56 | (injection eo56 with ea_ en_ ec_; (first | subst ea_ | (injection ea_ with ea_; subst ea_)); subst ec_; clear en_))
               have GB56 : Ge _ _ := ⟨gb56⟩
               have GG56 := mkA HG56
               clear gb56 gl56 HG56
               (first | simp only [add_plain] at hx325_0 | skip)
               obtain ⟨hx56_0, hf56_0⟩ := Kd.R_celln 0 HO_294001.out (x12_2 : Int) p56 q56
               replace p56 := eq_true p56
               replace q56 := eq_true q56
               have HN0_go56 := mkA (show g ≠ go56 from by have h_ := IsS49.own_ne HI0.out HO_294001.out (by decide); intro e_; exact h_ (by rw [e_]; rfl))
               have HP63 := Kd.R_putn HO_294001.out (x12_2 : Int) (Go.bits .or .i64 (rd x294001_3 x12_2) (ji55))
               rw [← Ny326.out] at HP63
               have HQ63 := mkA HP63
               clear HP63
               refine start_ (n := 10) (S := fun w' => w'.cell? ⟨gb293, 0, none⟩ = some (.int .i64 t287) ∧ w'.cell? ⟨gb293, 1, none⟩ = some (.slice (some ⟨go56, 0, none⟩) x294001_3.length co62) ∧ w'.cell? ⟨go56, (x12_2).toNat, none⟩ = some (.int .i64 (rd x294001_3 x12_2))) (ds := [9]) (bm 10 0) (by kernel_rfl) rfl rfl ⟨(blk_cell BK293.out 0).trans rfl, (blk_cell BK293.out 1).trans rfl, hx325_0⟩ (fun hHeld => ?_); refine with_tabW spec_l1Cur_order.tab20 spec_l1Cur_order.bits20 (fun HT_ HW_ => ?_)
               generalize w60.drew = w61 at HO_8 HO_9 HO_294001 BK286 BK293 HI0 HK HB GG56 HQ63 hf56_0 hx325_0 hx56_0 hHeld ⊢
               refine purW 0 87 10 1 HT_ ?_
               refine purW 2 89 10 5 HT_ ?_
               refine purW 5 92 10 37 HT_ ?_
               refine purW 6 93 10 101 HT_ ?_
               refine takeW 1 (some 88) (bm 10 103) HT_ HW_ hHeld ?_
               refine purW 3 90 10 111 HT_ ?_
               refine takeW 4 (some 91) (bm 10 127) HT_ HW_ hHeld ?_
               refine purW 7 94 10 255 HT_ ?_
               refine purW 8 95 10 511 HT_ ?_
               refine last_ (i := 9) (N := none) (bm 10 1023) rfl rfl (one_of HT_.out (by kernel_rfl)) (by decide) (fun K hK => ?_)
               refine skip_ (w1 := ?_) (by rfl) rfl ?_ ?_
               rotate_left
               ·go_simp
                rfl
               refine hK.out _ _ ?_
               clear hK K
               refine doneW HT_ ?_
               try go_wp2
               go_roundg k3
               case measure => have := HK1.out; have := HK2.out; have := HK3.out; omega
               case rel => exact ⟨(x8_3), (x9_3), (wrap64 (x13_3 + 1)), (t323), (t324), (y326), (.slice (some ⟨go56, 0, none⟩) x294001_3.length co62), eqS, H', ⟨by have := HK1.out; have := HK2.out; have := HK3.out; omega⟩, ⟨Kd.R_g (Kd.R_mono (Kd.R_far (p := ⟨go56, (x12_2 : Int).toNat, none⟩) (Kd.R_mono HO_8.out (fun k_ hk => (⟨hk, fun e_ => hk.2 (by rw [e_]; rfl)⟩ : _ ∧ k_ ≠ go56))) (fun _ hk => hk.2) (.int .i64 (Go.bits .or .i64 (rd x294001_3 x12_2) (ji55)))) (fun _ hk => ⟨hk.1.1, hk.1.2⟩))⟩, ⟨Kd.R_g (Kd.R_mono (Kd.R_far (p := ⟨go56, (x12_2 : Int).toNat, none⟩) (Kd.R_mono HO_9.out (fun k_ hk => (⟨hk, fun e_ => hk.2 (by rw [e_]; rfl)⟩ : _ ∧ k_ ≠ go56))) (fun _ hk => hk.2) (.int .i64 (Go.bits .or .i64 (rd x294001_3 x12_2) (ji55)))) (fun _ hk => ⟨hk.1.1, hk.1.2⟩))⟩, ⟨Kd.R_g HQ63.out⟩, ⟨by (with_reducible repeat (first | refine blk_drewN ?_ _ | refine blk_drew ?_ | refine blk_alloc ?_ _)); refine blk_far ?_ (by have h_ := Kd.R_ne HO_294001.out BK286.out (by decide); intro e_; exact h_ (by rw [e_]; rfl)) _; (with_reducible repeat (first | refine blk_drewN ?_ _ | refine blk_drew ?_ | refine blk_alloc ?_ _)); exact BK286.out⟩, ⟨by (with_reducible repeat (first | refine blk_drewN ?_ _ | refine blk_drew ?_ | refine blk_alloc ?_ _)); refine blk_far ?_ (by have h_ := Kd.R_ne HO_294001.out BK293.out (by decide); intro e_; exact h_ (by rw [e_]; rfl)) _; (with_reducible repeat (first | refine blk_drewN ?_ _ | refine blk_drew ?_ | refine blk_alloc ?_ _)); exact BK293.out⟩, ⟨by exact st49_3 HI0.out HN0_go56.out NB0_286.out NB0_293.out⟩, ⟨by exact kb49_3 HK.out GB56.out GW286.out GW293.out⟩, ⟨by repeat (first | (with_reducible first | exact HB.out | apply below_alloc | apply pw_below_drewN | apply below_drew1 | refine below_set ?_ (Nat.le_trans HL.out GB56.out) | refine below_set ?_ (IsS49.ge HI0.out) | refine below_set ?_ GE286.out | refine below_set ?_ GE293.out) | exact HB.out)⟩⟩
              ·replace c52 := Bool.eq_false_iff.mpr c52
               subst c52
               replace H := ifF H
               have H' := mkA H
               clear H
               try go_wp2
               replace HO_8 := mkA (Kd.R_drew HO_8.out)
               replace HO_9 := mkA (Kd.R_drew HO_9.out)
               replace HO_294001 := mkA (Kd.R_drew HO_294001.out)
               replace BK286 := mkA (blk_drew BK286.out)
               replace BK293 := mkA (blk_drew BK293.out)
               replace HI0 := mkA (IsS49.drew HI0.out)
               replace HK := mkA (keep_drew HK.out)
               replace HB := mkA (below_drew1 HB.out)
               obtain ⟨Ao65, co65, eo65⟩ := Kd.R_slice HO_9.out
               (first | subst eo65 | (injection eo65 with f1_ f2_ f3_; have f4_ := f1_.symm; have f5_ := f3_.symm; clear f1_ f2_ f3_; subst f4_; subst f5_))
               obtain ⟨p318, q318, ad318, e318, hx318_0⟩ := atI (Kd.R_reads' HO_9.out).2.2 x12_2
               cases e318
               obtain ⟨Ao66, co66, eo66⟩ := Kd.R_slice HO_8.out
               (first | subst eo66 | (injection eo66 with f1_ f2_ f3_; have f4_ := f1_.symm; have f5_ := f3_.symm; clear f1_ f2_ f3_; subst f4_; subst f5_))
               obtain ⟨p319, q319, ad319, e319, hx319_0⟩ := atI (Kd.R_reads' HO_8.out).2.2 x13_3
               cases e319
               refine start_ (n := 26) (S := fun w' => w'.cell? (ad318.add (x12_2).toNat) = some (.int .i64 (rd x9_3 x12_2)) ∧ w'.cell? (ad319.add (x13_3).toNat) = some (.int .i64 (rd x8_3 x13_3))) (ds := []) (bm 26 0) (by kernel_rfl) rfl (by kernel_rfl) ⟨hx318_0, hx319_0⟩ (fun hHeld => ?_); refine with_tabW spec_l1Cur_order.tab19 spec_l1Cur_order.bits19 (fun HT_ HW_ => ?_)
               generalize wr.drew = w64 at HO_8 HO_9 HO_294001 BK286 BK293 HI0 HK HB hx318_0 hx319_0 hHeld ⊢
               refine purW 0 61 26 1 HT_ ?_
               refine purW 1 62 26 3 HT_ ?_
               refine purW 2 63 26 7 HT_ ?_
               refine purW 3 64 26 15 HT_ ?_
               refine purW 4 65 26 31 HT_ ?_
               refine purW 5 66 26 63 HT_ ?_
               refine purW 7 68 26 191 HT_ ?_
               refine purW 8 69 26 447 HT_ ?_
               refine purW 9 70 26 959 HT_ ?_
               refine takeW 6 (some 67) (bm 26 1023) HT_ HW_ hHeld ?_
               refine takeW 10 (some 71) (bm 26 2047) HT_ HW_ hHeld ?_
               refine purW 11 72 26 4095 HT_ ?_
               refine purW 12 73 26 8191 HT_ ?_
               refine purW 13 74 26 16383 HT_ ?_
               refine purW 14 75 26 32767 HT_ ?_
               refine purW 15 76 26 65535 HT_ ?_
               refine purW 16 77 26 131071 HT_ ?_
               refine purW 17 78 26 262143 HT_ ?_
               refine purW 18 79 26 524287 HT_ ?_
               refine purW 19 80 26 1048575 HT_ ?_
               refine purW 20 81 26 2097151 HT_ ?_
               refine purW 21 82 26 4194303 HT_ ?_
               refine purW 22 83 26 8388607 HT_ ?_
               refine oneW 23 (some 84) (bm 26 16777215) HT_ (fun K hK => ?_)
               refine goesR Tryd.func30 #[.pointer (some ⟨g, 0, none⟩), .int .i64 3] ?_
               with_reducible refine (spec_l1Cur_one.calls g s0_0 x1001_3 x1002_3 3 false t323 t324 w0 _ ?s1 ?s2 A51.out).mono ?_
               (case s1 => exact st49_2 HI0.out NB0_286.out NB0_293.out)
               (case s2 => exact bl49_2 HB.out HI0.out GE286.out GE293.out)
               rintro e w67 ⟨rfl, hi, hb, hk⟩
               have HS0_ := keep_cell hk (hHeld.1) (by first | (rw [add_block]; exact Kd.own_blk (IsS49.own_ne HI0.out HO_9.out (by decide))) | (show (Addr.add _ _).block ≠ _; rw [add_block]; exact Kd.own_blk (IsS49.own_ne HI0.out HO_9.out (by decide))) | exact Kd.own_blk (IsS49.own_ne HI0.out HO_9.out (by decide)))
               have HS1_ := keep_cell hk (hHeld.2) (by first | (rw [add_block]; exact Kd.own_blk (IsS49.own_ne HI0.out HO_8.out (by decide))) | (show (Addr.add _ _).block ≠ _; rw [add_block]; exact Kd.own_blk (IsS49.own_ne HI0.out HO_8.out (by decide))) | exact Kd.own_blk (IsS49.own_ne HI0.out HO_8.out (by decide)))
               refine ⟨_, rfl, ?_⟩
               replace HO_8 := rK (IsS49.apart (show IsS49 w0 _ g s0_0 x1001_3 x1002_3 from by exact st49_2 HI0.out NB0_286.out NB0_293.out) (Kd.R_g HO_8.out) (by decide)) hk
               replace HO_9 := rK (IsS49.apart (show IsS49 w0 _ g s0_0 x1001_3 x1002_3 from by exact st49_2 HI0.out NB0_286.out NB0_293.out) (Kd.R_g HO_9.out) (by decide)) hk
               replace HO_294001 := rK (IsS49.apart (show IsS49 w0 _ g s0_0 x1001_3 x1002_3 from by exact st49_2 HI0.out NB0_286.out NB0_293.out) (Kd.R_g HO_294001.out) (by decide)) hk
               replace BK286 := kB hk BK286
               replace BK293 := kB hk BK293
               replace HK := kT (by exact kb49_2 HK.out GW286.out GW293.out) hk
               replace HI0 := mkA (hi)
               replace HB := mkA (hb)
               (try clear hb)
               (try clear hb2)
               (try clear hk)
               (try clear hi)
               refine hK.out _ _ ⟨HS0_, HS1_⟩ (fun hHeld => ?_)
               clear hK K
               refine normW 84 ?_
               refine purW 24 85 26 33554431 HT_ ?_
               refine purW 25 86 26 67108863 HT_ ?_
               refine doneW HT_ ?_
               try go_wp2
               go_roundg k3
               case measure => have := HK1.out; have := HK2.out; have := HK3.out; omega
               case rel => exact ⟨(x8_3), (x9_3), (wrap64 (x13_3 + 1)), (t323), (t324), (x294001_3), (u294001), eqS, H', ⟨by have := HK1.out; have := HK2.out; have := HK3.out; omega⟩, rg HO_8, rg HO_9, rg HO_294001, bg BK286, bg BK293, ⟨by exact st49_2 HI0.out NB0_286.out NB0_293.out⟩, ⟨by exact kb49_2 HK.out GW286.out GW293.out⟩, ⟨by exact bl49_2 HB.out HI0.out GE286.out GE293.out⟩⟩
             ·have H' := mkA H
              clear H
              try go_wp2
              replace HO_8 := mkA (Kd.R_drew HO_8.out)
              replace HO_9 := mkA (Kd.R_drew HO_9.out)
              replace HO_294001 := mkA (Kd.R_drew HO_294001.out)
              replace BK286 := mkA (blk_drew BK286.out)
              replace BK293 := mkA (blk_drew BK293.out)
              replace HI0 := mkA (IsS49.drew HI0.out)
              replace HK := mkA (keep_drew HK.out)
              replace HB := mkA (below_drew1 HB.out)
              obtain ⟨Ao69, co69, eo69⟩ := Kd.R_slice HO_9.out
              (first | subst eo69 | (injection eo69 with f1_ f2_ f3_; have f4_ := f1_.symm; have f5_ := f3_.symm; clear f1_ f2_ f3_; subst f4_; subst f5_))
              obtain ⟨p318, q318, ad318, e318, hx318_0⟩ := atI (Kd.R_reads' HO_9.out).2.2 x12_2
              cases e318
              obtain ⟨Ao70, co70, eo70⟩ := Kd.R_slice HO_8.out
              (first | subst eo70 | (injection eo70 with f1_ f2_ f3_; have f4_ := f1_.symm; have f5_ := f3_.symm; clear f1_ f2_ f3_; subst f4_; subst f5_))
              obtain ⟨p319, q319, ad319, e319, hx319_0⟩ := atI (Kd.R_reads' HO_8.out).2.2 x13_3
              cases e319
              refine start_ (n := 26) (S := fun w' => w'.cell? (ad318.add (x12_2).toNat) = some (.int .i64 (rd x9_3 x12_2)) ∧ w'.cell? (ad319.add (x13_3).toNat) = some (.int .i64 (rd x8_3 x13_3))) (ds := []) (bm 26 0) (by kernel_rfl) rfl (by kernel_rfl) ⟨hx318_0, hx319_0⟩ (fun hHeld => ?_); refine with_tabW spec_l1Cur_order.tab19 spec_l1Cur_order.bits19 (fun HT_ HW_ => ?_)
              generalize wr.drew = w68 at HO_8 HO_9 HO_294001 BK286 BK293 HI0 HK HB hx318_0 hx319_0 hHeld ⊢
              refine purW 0 61 26 1 HT_ ?_
              refine purW 1 62 26 3 HT_ ?_
              refine purW 2 63 26 7 HT_ ?_
              refine purW 3 64 26 15 HT_ ?_
              refine purW 4 65 26 31 HT_ ?_
              refine purW 5 66 26 63 HT_ ?_
              refine purW 7 68 26 191 HT_ ?_
              refine purW 8 69 26 447 HT_ ?_
              refine purW 9 70 26 959 HT_ ?_
              refine takeW 6 (some 67) (bm 26 1023) HT_ HW_ hHeld ?_
              refine takeW 10 (some 71) (bm 26 2047) HT_ HW_ hHeld ?_
              refine purW 11 72 26 4095 HT_ ?_
              refine purW 12 73 26 8191 HT_ ?_
              refine purW 13 74 26 16383 HT_ ?_
              refine purW 14 75 26 32767 HT_ ?_
              refine purW 15 76 26 65535 HT_ ?_
              refine purW 16 77 26 131071 HT_ ?_
              refine purW 17 78 26 262143 HT_ ?_
              refine purW 18 79 26 524287 HT_ ?_
              refine purW 19 80 26 1048575 HT_ ?_
              refine purW 20 81 26 2097151 HT_ ?_
              refine purW 21 82 26 4194303 HT_ ?_
              refine purG 22 83 26 8388607 HT_ ?_
              refine purG 23 84 26 16777215 HT_ ?_
              refine purW 24 85 26 33554431 HT_ ?_
              refine purW 25 86 26 67108863 HT_ ?_
              refine doneW HT_ ?_
              try go_wp2
              go_roundg k3
              case measure => have := HK1.out; have := HK2.out; have := HK3.out; omega
              case rel => exact ⟨(x8_3), (x9_3), (wrap64 (x13_3 + 1)), (x1001_3), (x1002_3), (x294001_3), (u294001), eqS, H', ⟨by have := HK1.out; have := HK2.out; have := HK3.out; omega⟩, rg HO_8, rg HO_9, rg HO_294001, bg BK286, bg BK293, ⟨by exact st49_2 HI0.out NB0_286.out NB0_293.out⟩, ⟨by exact kb49_2 HK.out GW286.out GW293.out⟩, ⟨by exact bl49_2 HB.out HI0.out GE286.out GE293.out⟩⟩
            ·have c49b0 := beq_eq_false_iff_ne.mpr c49
             have c49b1 := bne_iff_ne.mpr c49
             have H' := mkA H
             clear H
             try go_wp2
             replace HO_8 := mkA (Kd.R_drew HO_8.out)
             replace HO_9 := mkA (Kd.R_drew HO_9.out)
             replace HO_294001 := mkA (Kd.R_drew HO_294001.out)
             replace BK286 := mkA (blk_drew BK286.out)
             replace BK293 := mkA (blk_drew BK293.out)
             replace HI0 := mkA (IsS49.drew HI0.out)
             replace HK := mkA (keep_drew HK.out)
             replace HB := mkA (below_drew1 HB.out)
             obtain ⟨Ao72, co72, eo72⟩ := Kd.R_slice HO_9.out
             (first | subst eo72 | (injection eo72 with f1_ f2_ f3_; have f4_ := f1_.symm; have f5_ := f3_.symm; clear f1_ f2_ f3_; subst f4_; subst f5_))
             obtain ⟨p318, q318, ad318, e318, hx318_0⟩ := atI (Kd.R_reads' HO_9.out).2.2 x12_2
             cases e318
             obtain ⟨Ao73, co73, eo73⟩ := Kd.R_slice HO_8.out
             (first | subst eo73 | (injection eo73 with f1_ f2_ f3_; have f4_ := f1_.symm; have f5_ := f3_.symm; clear f1_ f2_ f3_; subst f4_; subst f5_))
             obtain ⟨p319, q319, ad319, e319, hx319_0⟩ := atI (Kd.R_reads' HO_8.out).2.2 x13_3
             cases e319
             refine start_ (n := 26) (S := fun w' => w'.cell? (ad318.add (x12_2).toNat) = some (.int .i64 (rd x9_3 x12_2)) ∧ w'.cell? (ad319.add (x13_3).toNat) = some (.int .i64 (rd x8_3 x13_3))) (ds := []) (bm 26 0) (by kernel_rfl) rfl (by kernel_rfl) ⟨hx318_0, hx319_0⟩ (fun hHeld => ?_); refine with_tabW spec_l1Cur_order.tab19 spec_l1Cur_order.bits19 (fun HT_ HW_ => ?_)
             generalize wr.drew = w71 at HO_8 HO_9 HO_294001 BK286 BK293 HI0 HK HB hx318_0 hx319_0 hHeld ⊢
             refine purW 0 61 26 1 HT_ ?_
             refine purW 1 62 26 3 HT_ ?_
             refine purW 2 63 26 7 HT_ ?_
             refine purW 3 64 26 15 HT_ ?_
             refine purW 4 65 26 31 HT_ ?_
             refine purW 5 66 26 63 HT_ ?_
             refine purW 7 68 26 191 HT_ ?_
             refine purW 8 69 26 447 HT_ ?_
             refine purW 9 70 26 959 HT_ ?_
             refine takeW 6 (some 67) (bm 26 1023) HT_ HW_ hHeld ?_
             refine takeW 10 (some 71) (bm 26 2047) HT_ HW_ hHeld ?_
             refine purW 11 72 26 4095 HT_ ?_
             refine purW 12 73 26 8191 HT_ ?_
             refine purW 13 74 26 16383 HT_ ?_
             refine purW 14 75 26 32767 HT_ ?_
             refine purW 15 76 26 65535 HT_ ?_
             refine purW 16 77 26 131071 HT_ ?_
             refine purG 17 78 26 262143 HT_ ?_
             refine purG 18 79 26 524287 HT_ ?_
             refine purG 19 80 26 1048575 HT_ ?_
             refine purW 20 81 26 2097151 HT_ ?_
             refine purW 21 82 26 4194303 HT_ ?_
             refine purG 22 83 26 8388607 HT_ ?_
             refine purG 23 84 26 16777215 HT_ ?_
             refine purW 24 85 26 33554431 HT_ ?_
             refine purW 25 86 26 67108863 HT_ ?_
             refine doneW HT_ ?_
             try go_wp2
             go_roundg k3
             case measure => have := HK1.out; have := HK2.out; have := HK3.out; omega
             case rel => exact ⟨(x8_3), (x9_3), (wrap64 (x13_3 + 1)), (x1001_3), (x1002_3), (x294001_3), (u294001), eqS, H', ⟨by have := HK1.out; have := HK2.out; have := HK3.out; omega⟩, rg HO_8, rg HO_9, rg HO_294001, bg BK286, bg BK293, ⟨by exact st49_2 HI0.out NB0_286.out NB0_293.out⟩, ⟨by exact kb49_2 HK.out GW286.out GW293.out⟩, ⟨by exact bl49_2 HB.out HI0.out GE286.out GE293.out⟩⟩
          ·have c33b0 := decide_eq_false c33
           clear c33
           rcases iteP H with ⟨c74, H⟩ | ⟨c74, H⟩
           ·have c74b0 := beq_iff_eq.mpr c74
            have c74b1 := bne_eq_false_iff_eq.mpr c74
            clear c74
            rcases iteE H with ⟨c75b0, H⟩ | ⟨c75b0, H⟩
            ·obtain ⟨⟨t327, t328, t329⟩, A76, H⟩ := obE H
             dsimp only at H
             by_cases c77 : t327 = true
             ·subst c77
              replace H := ifT H
              obtain ⟨c78b0, H⟩ := itND H
              obtain ⟨c79b0, H⟩ := itND H
              obtain ⟨c80b0, c80b1, H⟩ := itNQ H
              obtain ⟨ji81, hji81⟩ : ∃ j_ : Int, (shl .i64 1 x13_3) = j_ := ⟨_, rfl⟩
              first | rw [hji81] at H | simp only [hji81] at H
              (try rw [hji81] at A76)
              have hji81_ : (IntKind.i64.wrap (1 * 2 ^ min x13_3.toNat 64)) = ji81 := hji81
              have hji81z : x13_3 ≤ 64 → (IntKind.i64.wrap (1 * 2 ^ x13_3.toNat)) = ji81 := shl_small hji81
              have hji81u : (IntKind.i64.wrap (2 ^ min x13_3.toNat 64)) = ji81 := by have h_ := hji81_; rw [Int.one_mul] at h_; exact h_
              have hji81v : x13_3 ≤ 64 → (IntKind.i64.wrap (2 ^ x13_3.toNat)) = ji81 := fun hle_ => by have h_ := hji81z hle_; rw [Int.one_mul] at h_; exact h_
              have hji81y : (wrap64 (1 * 2 ^ min x13_3.toNat 64)) = ji81 := (i64_w _).symm.trans hji81_
              have hji81x : x13_3 ≤ 64 → (wrap64 (1 * 2 ^ x13_3.toNat)) = ji81 := fun h_ => (i64_w _).symm.trans (hji81z h_)
              obtain ⟨y331, hy331⟩ : ∃ y_ : List Int, y_ = (x294001_3.set (x12_2 : Int).toNat (Go.bits .or .i64 (rd x294001_3 x12_2) (ji81))) := ⟨_, rfl⟩
              rw [← hy331] at H
              have Ny331 := mkA hy331
              clear hy331
              have H' := mkA H
              clear H
              try go_wp2
              replace HO_8 := mkA (Kd.R_drew HO_8.out)
              replace HO_9 := mkA (Kd.R_drew HO_9.out)
              replace HO_294001 := mkA (Kd.R_drew HO_294001.out)
              replace BK286 := mkA (blk_drew BK286.out)
              replace BK293 := mkA (blk_drew BK293.out)
              replace HI0 := mkA (IsS49.drew HI0.out)
              replace HK := mkA (keep_drew HK.out)
              replace HB := mkA (below_drew1 HB.out)
              refine start_ (n := 26) (S := fun w' => True) (ds := []) (bm 26 0) (by kernel_rfl) rfl (by kernel_rfl) trivial (fun hHeld => ?_); refine with_tabW spec_l1Cur_order.tab19 spec_l1Cur_order.bits19 (fun HT_ HW_ => ?_)
              generalize wr.drew = w83 at HO_8 HO_9 HO_294001 BK286 BK293 HI0 HK HB hHeld ⊢
              refine purW 0 61 26 1 HT_ ?_
              refine purW 1 62 26 3 HT_ ?_
              refine purW 2 63 26 7 HT_ ?_
              refine purG 3 64 26 15 HT_ ?_
              refine purG 4 65 26 31 HT_ ?_
              refine purG 5 66 26 63 HT_ ?_
              refine purG 6 67 26 127 HT_ ?_
              refine purG 7 68 26 255 HT_ ?_
              refine purG 8 69 26 511 HT_ ?_
              refine purG 9 70 26 1023 HT_ ?_
              refine purG 10 71 26 2047 HT_ ?_
              refine purG 11 72 26 4095 HT_ ?_
              refine purW 12 73 26 8191 HT_ ?_
              refine purW 13 74 26 16383 HT_ ?_
              refine purW 14 75 26 32767 HT_ ?_
              refine purW 15 76 26 65535 HT_ ?_
              refine purW 16 77 26 131071 HT_ ?_
              refine purW 17 78 26 262143 HT_ ?_
              refine purW 18 79 26 524287 HT_ ?_
              refine purW 19 80 26 1048575 HT_ ?_
              refine purW 20 81 26 2097151 HT_ ?_
              refine purW 21 82 26 4194303 HT_ ?_
              refine purW 22 83 26 8388607 HT_ ?_
              refine oneW 23 (some 84) (bm 26 16777215) HT_ (fun K hK => ?_)
              refine goesR Tryd.func30 #[.pointer (some ⟨g, 0, none⟩), .int .i64 3] ?_
              with_reducible refine (spec_l1Cur_one.calls g s0_0 x1001_3 x1002_3 3 true t328 t329 w0 _ ?s1 ?s2 A76.out).mono ?_
              (case s1 => exact st49_2 HI0.out NB0_286.out NB0_293.out)
              (case s2 => exact bl49_2 HB.out HI0.out GE286.out GE293.out)
              rintro e w84 ⟨rfl, hi, hb, hk⟩
              refine ⟨_, rfl, ?_⟩
              replace HO_8 := rK (IsS49.apart (show IsS49 w0 _ g s0_0 x1001_3 x1002_3 from by exact st49_2 HI0.out NB0_286.out NB0_293.out) (Kd.R_g HO_8.out) (by decide)) hk
              replace HO_9 := rK (IsS49.apart (show IsS49 w0 _ g s0_0 x1001_3 x1002_3 from by exact st49_2 HI0.out NB0_286.out NB0_293.out) (Kd.R_g HO_9.out) (by decide)) hk
              replace HO_294001 := rK (IsS49.apart (show IsS49 w0 _ g s0_0 x1001_3 x1002_3 from by exact st49_2 HI0.out NB0_286.out NB0_293.out) (Kd.R_g HO_294001.out) (by decide)) hk
              replace BK286 := kB hk BK286
              replace BK293 := kB hk BK293
              replace HK := kT (by exact kb49_2 HK.out GW286.out GW293.out) hk
              replace HI0 := mkA (hi)
              replace HB := mkA (hb)
              (try clear hb)
              (try clear hb2)
              (try clear hk)
              (try clear hi)
              refine hK.out _ _ trivial (fun hHeld => ?_)
              clear hK K
              refine normW 84 ?_
              refine purW 24 85 26 33554431 HT_ ?_
              refine purW 25 86 26 67108863 HT_ ?_
              refine doneW HT_ ?_
              try go_wp2
              replace HO_8 := mkA (Kd.R_drew HO_8.out)
              replace HO_9 := mkA (Kd.R_drew HO_9.out)
              replace HO_294001 := mkA (Kd.R_drew HO_294001.out)
              replace BK286 := mkA (blk_drew BK286.out)
              replace BK293 := mkA (blk_drew BK293.out)
              replace HI0 := mkA (IsS49.drew HI0.out)
              replace HK := mkA (keep_drew HK.out)
              replace HB := mkA (below_drew1 HB.out)
              obtain ⟨Ao86, co86, eo86⟩ := Kd.R_slice HO_294001.out
              (first | subst eo86 | (injection eo86 with f1_ f2_ f3_; have f4_ := f1_.symm; have f5_ := f3_.symm; clear f1_ f2_ f3_; subst f4_; subst f5_))
              obtain ⟨p330, q330, ad330, e330, hx330_0⟩ := atI (Kd.R_reads' HO_294001.out).2.2 x12_2
              cases e330
              have p82 : 0 ≤ (x12_2 : Int) := ofd
              have q82 : (x12_2 : Int) < ((x294001_3.length : Int) : Int) := ofd
              obtain ⟨go82, co82, eo82, gb82, gl82, cl82, HG82⟩ := Kd.R_form HO_294001.out (by omega)
              (first | cases eo82 | (injection eo82 with ea_ en_ ec_; (first | subst ea_ | (injection ea_ with ea_; subst ea_)); subst ec_; clear en_))
              have GB82 : Ge _ _ := ⟨gb82⟩
              have GG82 := mkA HG82
              clear gb82 gl82 HG82
              (first | simp only [add_plain] at hx330_0 | skip)
              obtain ⟨hx82_0, hf82_0⟩ := Kd.R_celln 0 HO_294001.out (x12_2 : Int) p82 q82
              replace p82 := eq_true p82
              replace q82 := eq_true q82
              have HN0_go82 := mkA (show g ≠ go82 from by have h_ := IsS49.own_ne HI0.out HO_294001.out (by decide); intro e_; exact h_ (by rw [e_]; rfl))
              have HP87 := Kd.R_putn HO_294001.out (x12_2 : Int) (Go.bits .or .i64 (rd x294001_3 x12_2) (ji81))
              rw [← Ny331.out] at HP87
              have HQ87 := mkA HP87
              clear HP87
              refine start_ (n := 10) (S := fun w' => w'.cell? ⟨gb293, 0, none⟩ = some (.int .i64 t287) ∧ w'.cell? ⟨gb293, 1, none⟩ = some (.slice (some ⟨go82, 0, none⟩) x294001_3.length co86) ∧ w'.cell? ⟨go82, (x12_2).toNat, none⟩ = some (.int .i64 (rd x294001_3 x12_2))) (ds := [9]) (bm 10 0) (by kernel_rfl) rfl rfl ⟨(blk_cell BK293.out 0).trans rfl, (blk_cell BK293.out 1).trans rfl, hx330_0⟩ (fun hHeld => ?_); refine with_tabW spec_l1Cur_order.tab20 spec_l1Cur_order.bits20 (fun HT_ HW_ => ?_)
              generalize w84.drew = w85 at HO_8 HO_9 HO_294001 BK286 BK293 HI0 HK HB GG82 HQ87 hf82_0 hx330_0 hx82_0 hHeld ⊢
              refine purW 0 87 10 1 HT_ ?_
              refine purW 2 89 10 5 HT_ ?_
              refine purW 5 92 10 37 HT_ ?_
              refine purW 6 93 10 101 HT_ ?_
              refine takeW 1 (some 88) (bm 10 103) HT_ HW_ hHeld ?_
              refine purW 3 90 10 111 HT_ ?_
              refine takeW 4 (some 91) (bm 10 127) HT_ HW_ hHeld ?_
              refine purW 7 94 10 255 HT_ ?_
              refine purW 8 95 10 511 HT_ ?_
              refine last_ (i := 9) (N := none) (bm 10 1023) rfl rfl (one_of HT_.out (by kernel_rfl)) (by decide) (fun K hK => ?_)
              refine skip_ (w1 := ?_) (by rfl) rfl ?_ ?_
              rotate_left
              ·go_simp
               rfl
              refine hK.out _ _ ?_
              clear hK K
              refine doneW HT_ ?_
              try go_wp2
              go_roundg k3
              case measure => have := HK1.out; have := HK2.out; have := HK3.out; omega
              case rel => exact ⟨(x8_3), (x9_3), (wrap64 (x13_3 + 1)), (t328), (t329), (y331), (.slice (some ⟨go82, 0, none⟩) x294001_3.length co86), eqS, H', ⟨by have := HK1.out; have := HK2.out; have := HK3.out; omega⟩, ⟨Kd.R_g (Kd.R_mono (Kd.R_far (p := ⟨go82, (x12_2 : Int).toNat, none⟩) (Kd.R_mono HO_8.out (fun k_ hk => (⟨hk, fun e_ => hk.2 (by rw [e_]; rfl)⟩ : _ ∧ k_ ≠ go82))) (fun _ hk => hk.2) (.int .i64 (Go.bits .or .i64 (rd x294001_3 x12_2) (ji81)))) (fun _ hk => ⟨hk.1.1, hk.1.2⟩))⟩, ⟨Kd.R_g (Kd.R_mono (Kd.R_far (p := ⟨go82, (x12_2 : Int).toNat, none⟩) (Kd.R_mono HO_9.out (fun k_ hk => (⟨hk, fun e_ => hk.2 (by rw [e_]; rfl)⟩ : _ ∧ k_ ≠ go82))) (fun _ hk => hk.2) (.int .i64 (Go.bits .or .i64 (rd x294001_3 x12_2) (ji81)))) (fun _ hk => ⟨hk.1.1, hk.1.2⟩))⟩, ⟨Kd.R_g HQ87.out⟩, ⟨by (with_reducible repeat (first | refine blk_drewN ?_ _ | refine blk_drew ?_ | refine blk_alloc ?_ _)); refine blk_far ?_ (by have h_ := Kd.R_ne HO_294001.out BK286.out (by decide); intro e_; exact h_ (by rw [e_]; rfl)) _; (with_reducible repeat (first | refine blk_drewN ?_ _ | refine blk_drew ?_ | refine blk_alloc ?_ _)); exact BK286.out⟩, ⟨by (with_reducible repeat (first | refine blk_drewN ?_ _ | refine blk_drew ?_ | refine blk_alloc ?_ _)); refine blk_far ?_ (by have h_ := Kd.R_ne HO_294001.out BK293.out (by decide); intro e_; exact h_ (by rw [e_]; rfl)) _; (with_reducible repeat (first | refine blk_drewN ?_ _ | refine blk_drew ?_ | refine blk_alloc ?_ _)); exact BK293.out⟩, ⟨by exact st49_3 HI0.out HN0_go82.out NB0_286.out NB0_293.out⟩, ⟨by exact kb49_3 HK.out GB82.out GW286.out GW293.out⟩, ⟨by repeat (first | (with_reducible first | exact HB.out | apply below_alloc | apply pw_below_drewN | apply below_drew1 | refine below_set ?_ (Nat.le_trans HL.out GB82.out) | refine below_set ?_ (IsS49.ge HI0.out) | refine below_set ?_ GE286.out | refine below_set ?_ GE293.out) | exact HB.out)⟩⟩
             ·replace c77 := Bool.eq_false_iff.mpr c77
              subst c77
              replace H := ifF H
              have H' := mkA H
              clear H
              try go_wp2
              replace HO_8 := mkA (Kd.R_drew HO_8.out)
              replace HO_9 := mkA (Kd.R_drew HO_9.out)
              replace HO_294001 := mkA (Kd.R_drew HO_294001.out)
              replace BK286 := mkA (blk_drew BK286.out)
              replace BK293 := mkA (blk_drew BK293.out)
              replace HI0 := mkA (IsS49.drew HI0.out)
              replace HK := mkA (keep_drew HK.out)
              replace HB := mkA (below_drew1 HB.out)
              refine start_ (n := 26) (S := fun w' => True) (ds := []) (bm 26 0) (by kernel_rfl) rfl (by kernel_rfl) trivial (fun hHeld => ?_); refine with_tabW spec_l1Cur_order.tab19 spec_l1Cur_order.bits19 (fun HT_ HW_ => ?_)
              generalize wr.drew = w88 at HO_8 HO_9 HO_294001 BK286 BK293 HI0 HK HB hHeld ⊢
              refine purW 0 61 26 1 HT_ ?_
              refine purW 1 62 26 3 HT_ ?_
              refine purW 2 63 26 7 HT_ ?_
              refine purG 3 64 26 15 HT_ ?_
              refine purG 4 65 26 31 HT_ ?_
              refine purG 5 66 26 63 HT_ ?_
              refine purG 6 67 26 127 HT_ ?_
              refine purG 7 68 26 255 HT_ ?_
              refine purG 8 69 26 511 HT_ ?_
              refine purG 9 70 26 1023 HT_ ?_
              refine purG 10 71 26 2047 HT_ ?_
              refine purG 11 72 26 4095 HT_ ?_
              refine purW 12 73 26 8191 HT_ ?_
              refine purW 13 74 26 16383 HT_ ?_
              refine purW 14 75 26 32767 HT_ ?_
              refine purW 15 76 26 65535 HT_ ?_
              refine purW 16 77 26 131071 HT_ ?_
              refine purW 17 78 26 262143 HT_ ?_
              refine purW 18 79 26 524287 HT_ ?_
              refine purW 19 80 26 1048575 HT_ ?_
              refine purW 20 81 26 2097151 HT_ ?_
              refine purW 21 82 26 4194303 HT_ ?_
              refine purW 22 83 26 8388607 HT_ ?_
              refine oneW 23 (some 84) (bm 26 16777215) HT_ (fun K hK => ?_)
              refine goesR Tryd.func30 #[.pointer (some ⟨g, 0, none⟩), .int .i64 3] ?_
              with_reducible refine (spec_l1Cur_one.calls g s0_0 x1001_3 x1002_3 3 false t328 t329 w0 _ ?s1 ?s2 A76.out).mono ?_
              (case s1 => exact st49_2 HI0.out NB0_286.out NB0_293.out)
              (case s2 => exact bl49_2 HB.out HI0.out GE286.out GE293.out)
              rintro e w89 ⟨rfl, hi, hb, hk⟩
              refine ⟨_, rfl, ?_⟩
              replace HO_8 := rK (IsS49.apart (show IsS49 w0 _ g s0_0 x1001_3 x1002_3 from by exact st49_2 HI0.out NB0_286.out NB0_293.out) (Kd.R_g HO_8.out) (by decide)) hk
              replace HO_9 := rK (IsS49.apart (show IsS49 w0 _ g s0_0 x1001_3 x1002_3 from by exact st49_2 HI0.out NB0_286.out NB0_293.out) (Kd.R_g HO_9.out) (by decide)) hk
              replace HO_294001 := rK (IsS49.apart (show IsS49 w0 _ g s0_0 x1001_3 x1002_3 from by exact st49_2 HI0.out NB0_286.out NB0_293.out) (Kd.R_g HO_294001.out) (by decide)) hk
              replace BK286 := kB hk BK286
              replace BK293 := kB hk BK293
              replace HK := kT (by exact kb49_2 HK.out GW286.out GW293.out) hk
              replace HI0 := mkA (hi)
              replace HB := mkA (hb)
              (try clear hb)
              (try clear hb2)
              (try clear hk)
              (try clear hi)
              refine hK.out _ _ trivial (fun hHeld => ?_)
              clear hK K
              refine normW 84 ?_
              refine purW 24 85 26 33554431 HT_ ?_
              refine purW 25 86 26 67108863 HT_ ?_
              refine doneW HT_ ?_
              try go_wp2
              go_roundg k3
              case measure => have := HK1.out; have := HK2.out; have := HK3.out; omega
              case rel => exact ⟨(x8_3), (x9_3), (wrap64 (x13_3 + 1)), (t328), (t329), (x294001_3), (u294001), eqS, H', ⟨by have := HK1.out; have := HK2.out; have := HK3.out; omega⟩, rg HO_8, rg HO_9, rg HO_294001, bg BK286, bg BK293, ⟨by exact st49_2 HI0.out NB0_286.out NB0_293.out⟩, ⟨by exact kb49_2 HK.out GW286.out GW293.out⟩, ⟨by exact bl49_2 HB.out HI0.out GE286.out GE293.out⟩⟩
            ·have H' := mkA H
             clear H
             try go_wp2
             replace HO_8 := mkA (Kd.R_drew HO_8.out)
             replace HO_9 := mkA (Kd.R_drew HO_9.out)
             replace HO_294001 := mkA (Kd.R_drew HO_294001.out)
             replace BK286 := mkA (blk_drew BK286.out)
             replace BK293 := mkA (blk_drew BK293.out)
             replace HI0 := mkA (IsS49.drew HI0.out)
             replace HK := mkA (keep_drew HK.out)
             replace HB := mkA (below_drew1 HB.out)
             refine start_ (n := 26) (S := fun w' => True) (ds := []) (bm 26 0) (by kernel_rfl) rfl (by kernel_rfl) trivial (fun hHeld => ?_); refine with_tabW spec_l1Cur_order.tab19 spec_l1Cur_order.bits19 (fun HT_ HW_ => ?_)
             generalize wr.drew = w90 at HO_8 HO_9 HO_294001 BK286 BK293 HI0 HK HB hHeld ⊢
             refine purW 0 61 26 1 HT_ ?_
             refine purW 1 62 26 3 HT_ ?_
             refine purW 2 63 26 7 HT_ ?_
             refine purG 3 64 26 15 HT_ ?_
             refine purG 4 65 26 31 HT_ ?_
             refine purG 5 66 26 63 HT_ ?_
             refine purG 6 67 26 127 HT_ ?_
             refine purG 7 68 26 255 HT_ ?_
             refine purG 8 69 26 511 HT_ ?_
             refine purG 9 70 26 1023 HT_ ?_
             refine purG 10 71 26 2047 HT_ ?_
             refine purG 11 72 26 4095 HT_ ?_
             refine purW 12 73 26 8191 HT_ ?_
             refine purW 13 74 26 16383 HT_ ?_
             refine purW 14 75 26 32767 HT_ ?_
             refine purW 15 76 26 65535 HT_ ?_
             refine purW 16 77 26 131071 HT_ ?_
             refine purW 17 78 26 262143 HT_ ?_
             refine purW 18 79 26 524287 HT_ ?_
             refine purW 19 80 26 1048575 HT_ ?_
             refine purW 20 81 26 2097151 HT_ ?_
             refine purW 21 82 26 4194303 HT_ ?_
             refine purG 22 83 26 8388607 HT_ ?_
             refine purG 23 84 26 16777215 HT_ ?_
             refine purW 24 85 26 33554431 HT_ ?_
             refine purW 25 86 26 67108863 HT_ ?_
             refine doneW HT_ ?_
             try go_wp2
             go_roundg k3
             case measure => have := HK1.out; have := HK2.out; have := HK3.out; omega
             case rel => exact ⟨(x8_3), (x9_3), (wrap64 (x13_3 + 1)), (x1001_3), (x1002_3), (x294001_3), (u294001), eqS, H', ⟨by have := HK1.out; have := HK2.out; have := HK3.out; omega⟩, rg HO_8, rg HO_9, rg HO_294001, bg BK286, bg BK293, ⟨by exact st49_2 HI0.out NB0_286.out NB0_293.out⟩, ⟨by exact kb49_2 HK.out GW286.out GW293.out⟩, ⟨by exact bl49_2 HB.out HI0.out GE286.out GE293.out⟩⟩
           ·have c74b0 := beq_eq_false_iff_ne.mpr c74
            have c74b1 := bne_iff_ne.mpr c74
            have H' := mkA H
            clear H
            try go_wp2
            replace HO_8 := mkA (Kd.R_drew HO_8.out)
            replace HO_9 := mkA (Kd.R_drew HO_9.out)
            replace HO_294001 := mkA (Kd.R_drew HO_294001.out)
            replace BK286 := mkA (blk_drew BK286.out)
            replace BK293 := mkA (blk_drew BK293.out)
            replace HI0 := mkA (IsS49.drew HI0.out)
            replace HK := mkA (keep_drew HK.out)
            replace HB := mkA (below_drew1 HB.out)
            refine start_ (n := 26) (S := fun w' => True) (ds := []) (bm 26 0) (by kernel_rfl) rfl (by kernel_rfl) trivial (fun hHeld => ?_); refine with_tabW spec_l1Cur_order.tab19 spec_l1Cur_order.bits19 (fun HT_ HW_ => ?_)
            generalize wr.drew = w91 at HO_8 HO_9 HO_294001 BK286 BK293 HI0 HK HB hHeld ⊢
            refine purW 0 61 26 1 HT_ ?_
            refine purW 1 62 26 3 HT_ ?_
            refine purW 2 63 26 7 HT_ ?_
            refine purG 3 64 26 15 HT_ ?_
            refine purG 4 65 26 31 HT_ ?_
            refine purG 5 66 26 63 HT_ ?_
            refine purG 6 67 26 127 HT_ ?_
            refine purG 7 68 26 255 HT_ ?_
            refine purG 8 69 26 511 HT_ ?_
            refine purG 9 70 26 1023 HT_ ?_
            refine purG 10 71 26 2047 HT_ ?_
            refine purG 11 72 26 4095 HT_ ?_
            refine purW 12 73 26 8191 HT_ ?_
            refine purW 13 74 26 16383 HT_ ?_
            refine purW 14 75 26 32767 HT_ ?_
            refine purW 15 76 26 65535 HT_ ?_
            refine purW 16 77 26 131071 HT_ ?_
            refine purG 17 78 26 262143 HT_ ?_
            refine purG 18 79 26 524287 HT_ ?_
            refine purG 19 80 26 1048575 HT_ ?_
            refine purW 20 81 26 2097151 HT_ ?_
            refine purW 21 82 26 4194303 HT_ ?_
            refine purG 22 83 26 8388607 HT_ ?_
            refine purG 23 84 26 16777215 HT_ ?_
            refine purW 24 85 26 33554431 HT_ ?_
            refine purW 25 86 26 67108863 HT_ ?_
            refine doneW HT_ ?_
            try go_wp2
            go_roundg k3
            case measure => have := HK1.out; have := HK2.out; have := HK3.out; omega
            case rel => exact ⟨(x8_3), (x9_3), (wrap64 (x13_3 + 1)), (x1001_3), (x1002_3), (x294001_3), (u294001), eqS, H', ⟨by have := HK1.out; have := HK2.out; have := HK3.out; omega⟩, rg HO_8, rg HO_9, rg HO_294001, bg BK286, bg BK293, ⟨by exact st49_2 HI0.out NB0_286.out NB0_293.out⟩, ⟨by exact kb49_2 HK.out GW286.out GW293.out⟩, ⟨by exact bl49_2 HB.out HI0.out GE286.out GE293.out⟩⟩
         ·have H' := mkA H
          clear H
          go_wp2
          go_roundg k3
          case measure => have := HK1.out; have := HK2.out; have := HK3.out; omega
          case rel => exact ⟨(x8_3), (x9_3), (wrap64 (x12_2 + 1)), (x1001_3), (x1002_3), (x294001_3), (u294001), eqS, H', ⟨by have := HK1.out; have := HK2.out; have := HK3.out; omega⟩, rg HO_8, rg HO_9, rg HO_294001, bg BK286, bg BK293, ⟨by exact st49_2 HI0.out NB0_286.out NB0_293.out⟩, ⟨by exact kb49_2 HK.out GW286.out GW293.out⟩, ⟨by exact bl49_2 HB.out HI0.out GE286.out GE293.out⟩⟩
      ·rcases iteP H with ⟨c92, H⟩ | ⟨c92, H⟩
       ·have c92b0 := decide_eq_true c92
        clear c92
        simp only [Option.some.injEq, Prod.mk.injEq] at H
        obtain ⟨rfl, rfl, rfl, rfl⟩ := H
        obtain ⟨_, _, _, _⟩ := blk2 BK293
        obtain ⟨_, _, _, _⟩ := blk2 BK286
        obtain ⟨Ao98, co98, rfl⟩ := Kd.R_slice HO_294001.out
        go_wp2
        refine bodyPost_ret (results_cell_row rfl _ _ gb286 32 #[.int .i64 t287, .slice Ao98 x294001_2.length co98] (0, 0) _ rfl (blkT BK286) Tryd.underlying32 rfl (by kernel_rfl)) rfl ?_
        exact ⟨_, eqE, Kd.R_g (Kd.R_mono (rF HO_294001 BK286) (fun _ _ => trivial)), by exact st49_2 HI0.out NB0_286.out NB0_293.out, by exact bl49_2 HB.out HI0.out GE286.out GE293.out, by exact kb49_2 HK.out GW286.out GW293.out⟩
       ·have c92b0 := decide_eq_false c92
        clear c92
        obtain ⟨⟨t312, t313, t316⟩, A99, H⟩ := obE H
        dsimp only at H
        simp only [Option.some.injEq, Prod.mk.injEq] at H
        obtain ⟨rfl, rfl, rfl, rfl⟩ := H
        obtain ⟨_, _, _, _⟩ := blk2 BK293
        obtain ⟨Ao103, co103, rfl⟩ := Kd.R_slice HO_294001.out
        go_wp2_with (first | ((with_reducible refine gate_callee (f := 66) rfl ?_); refine goesQ (some 101) Tryd.func66 #[.agg #[.int .i64 t287, .slice Ao103 x294001_2.length co103]] ?_; (with_reducible refine (spec_CloseRelation.calls k2 t287 _ _ x294001_2 t312 t313 t316 _ ?_ ?_ A99.out).mono ?_); exact rC HO_294001; exact rL HO_294001; rintro e w104 ⟨v314, rfl, ho0, hb⟩; refine ⟨_, rfl, ?_⟩; have HO315 := mkA (Kd.R_lower (rN (rN (rN ho0 HO_8) HO_9) HO_294001) (keep_size (w := w) (g := g) (row := none) (by exact kb49_2 HK.out GW286.out GW293.out))); replace HO_8 := rE HO_8 ho0 hb; replace HO_9 := rE HO_9 ho0 hb; replace HO_294001 := rE HO_294001 ho0 hb; replace BK286 := blkB BK286 hb; replace BK293 := blkB BK293 hb; replace HK := kU (g := g) (by exact kb49_2 HK.out GW286.out GW293.out) hb; replace HB := mkA (below_step (by exact bl49_2 HB.out HI0.out GE286.out GE293.out) hb); replace HI0 := mkA (IsS49.below (by exact st49_2 HI0.out NB0_286.out NB0_293.out) hb); clear hb ho0) | ((with_reducible refine gate_dst (N := 14) rfl ?_); refine boxE (N := 14) (cs := #[.int .i64 0, .slice none 0 0]) (t := 32) ?_; intro gb317 hg w105 hbox hb; replace HO_8 := rB HO_8 hb; replace HO_9 := rB HO_9 hb; replace HO_294001 := rB HO_294001 hb; replace HO315 := rB HO315 hb; have BK317 := mkA (hbox); have GW317 := mkA ((by rw [hg]; exact (keep_size (w := w) (g := g) (row := none) (by exact kb49_2 HK.out GW286.out GW293.out)) : w.heap.size ≤ gb317)); have GE317 := mkA (Nat.le_trans HW0.out GW317.out); replace HK := kU (g := g) (by exact kb49_2 HK.out GW286.out GW293.out) hb; have NB286_317 := neL7 BK286 hg; have NB317_286 := neR7 BK286 hg; replace BK286 := blkB BK286 hb; have NB293_317 := neL7 BK293 hg; have NB317_293 := neR7 BK293 hg; replace BK293 := blkB BK293 hb; have NB0_317 : NeB _ _ := ⟨(by rw [hg]; exact Nat.ne_of_lt (IsS49.lt (show IsS49 w0 _ g s0_0 x1001_2 x1002_2 from by exact st49_2 HI0.out NB0_286.out NB0_293.out)) : g ≠ gb317)⟩; have NB317_0 : NeB _ _ := ⟨(by rw [hg]; exact Nat.ne_of_gt (IsS49.lt (show IsS49 w0 _ g s0_0 x1001_2 x1002_2 from by exact st49_2 HI0.out NB0_286.out NB0_293.out)) : gb317 ≠ g)⟩; replace HB := mkA (below_step (by exact bl49_2 HB.out HI0.out GE286.out GE293.out) hb); replace HI0 := mkA (IsS49.below (by exact st49_2 HI0.out NB0_286.out NB0_293.out) hb); clear hb hbox hg; obtain ⟨_, _, _, _⟩ := blk2 BK317; obtain ⟨Ao110, co110, rfl⟩ := Kd.R_slice HO315.out; obtain ⟨_, _, _, _⟩ := blk2 BK286))
        refine bodyPost_ret (results_cell_row rfl _ _ gb286 32 #[.int .i64 t312, .slice Ao110 t313.length co110] (0, 0) _ rfl (blkT BK286) Tryd.underlying32 rfl (by kernel_rfl)) rfl ?_
        exact ⟨_, eqE, Kd.R_g (Kd.R_mono (Kd.R_far (p := ⟨gb286, 1, none⟩) (Kd.R_far (p := ⟨gb286, 0, none⟩) (Kd.R_far (p := ⟨gb317, 1, none⟩) (Kd.R_far (p := ⟨gb317, 0, none⟩) (Kd.R_types (Kd.R_types HO315.out BK317.out (by decide)) BK286.out (by decide)) (fun _ hk => hk.1.2) (.int .i64 t312)) (fun _ hk => hk.1.2) (.slice Ao110 t313.length co110)) (fun _ hk => hk.2) (.int .i64 t312)) (fun _ hk => hk.2) (.slice Ao110 t313.length co110)) (fun _ hk => trivial)), by exact st49_3 HI0.out NB0_286.out NB0_293.out NB0_317.out, by exact bl49_3 HB.out HI0.out GE286.out GE293.out GE317.out, by exact kb49_3 HK.out GW286.out GW293.out GW317.out⟩
end Go.Proofs.YtlfjnllnddpgoaaDoor.Q
