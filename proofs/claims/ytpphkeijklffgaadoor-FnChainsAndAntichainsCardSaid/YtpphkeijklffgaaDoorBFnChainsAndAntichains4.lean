import Derived.Test.YtpphkeijklffgaaDoorBFnChainsAndAntichains3
namespace Go.Proofs.YtpphkeijklffgaaDoor.Q
open Go.RowKit Go.Proofs.YtpphkeijklffgaaDoorW.PrintWords Go.Proofs.YtpphkeijklffgaaDoorW.PrintLast Go.Proofs.YtpphkeijklffgaaDoorW.PrintMore
attribute [local go_sem] max2_int min2_int max_two min_two max_three min_three max_four min_four neB_f
set_option linter.unusedVariables false
set_option maxHeartbeats 8000000
set_option maxRecDepth 100000
set_option linter.unusedSimpArgs false
mutual
def spec_l1Cur_order.l0 : Nat → Int → Int → List Int → List Int → Int → List Int → Int → Int → Int → List Int → Option (Int × List Int × Int × Int)
 | 0, _, _, _, _, _, _, _, _, _, _ => none
 | k + 1, x5, x7, x8, x9, x10, x1000, x1001, x1002, x142000, x142001 => if x10 < x5 then ((spec_l1Cur_pick.f x1000 x1001 x1002 8).bind fun bt145 => (if x8.length < 17592186044416 then ((some (x8 ++ [bt145.1] : List Int)).bind fun y148 => (if x7 = 1 then ((spec_l1Cur_pick.f x1000 bt145.2.1 bt145.2.2 4).bind fun bt151 => (if x9.length < 17592186044416 then (spec_l1Cur_order.l0 k x5 x7 y148 (x9 ++ [wrap64 (bt145.1 + bt151.1)]) (wrap64 (x10 + 1)) x1000 bt151.2.1 bt151.2.2 x142000 x142001) else (none))) else (if x9.length < 17592186044416 then (spec_l1Cur_order.l0 k x5 x7 y148 (x9 ++ [wrap64 (bt145.1 + 2)]) (wrap64 (x10 + 1)) x1000 bt145.2.1 bt145.2.2 x142000 x142001) else (none)))) else (none))) else (spec_l1Cur_order.l1 k x5 x7 x8 x9 0 x1000 x1001 x1002 x142000 x142001)
def spec_l1Cur_order.l1 : Nat → Int → Int → List Int → List Int → Int → List Int → Int → Int → Int → List Int → Option (Int × List Int × Int × Int)
 | 0, _, _, _, _, _, _, _, _, _, _ => none
 | k + 1, x5, x7, x8, x9, x12, x1000, x1001, x1002, x142000, x142001 => if x12 < x5 then (spec_l1Cur_order.l2 k x5 x7 x8 x9 x12 0 x1000 x1001 x1002 x142000 x142001) else (if x7 > 0 then (some (x142000, x142001, x1001, x1002)) else ((spec_CloseRelation.f k x142000 x142001).bind fun bt160 => (some (bt160.1, bt160.2.1, x1001, x1002))))
def spec_l1Cur_order.l2 : Nat → Int → Int → List Int → List Int → Int → Int → List Int → Int → Int → Int → List Int → Option (Int × List Int × Int × Int)
 | 0, _, _, _, _, _, _, _, _, _, _, _ => none
 | k + 1, x5, x7, x8, x9, x12, x13, x1000, x1001, x1002, x142000, x142001 => if x13 < x5 then (if x7 > 0 then (if 0 ≤ x12 then (if x12 < (x9.length : Int) then (if 0 ≤ x13 then (if x13 < (x8.length : Int) then (if (rd x9 x12) < (rd x8 x13) then (if x12 < (x142001.length : Int) then (spec_l1Cur_order.l2 k x5 x7 x8 x9 x12 (wrap64 (x13 + 1)) x1000 x1001 x1002 x142000 (x142001.set (x12 : Int).toNat (Go.bits .or .i64 (rd x142001 x12) (shl .i64 1 x13)))) else (none)) else (if x7 = 0 then (if x12 < x13 then ((spec_l1Cur_one.f x1000 x1001 x1002 3).bind fun bt170 => (if bt170.1 = true then (if x12 < (x142001.length : Int) then (spec_l1Cur_order.l2 k x5 x7 x8 x9 x12 (wrap64 (x13 + 1)) x1000 bt170.2.1 bt170.2.2 x142000 (x142001.set (x12 : Int).toNat (Go.bits .or .i64 (rd x142001 x12) (shl .i64 1 x13)))) else (none)) else (spec_l1Cur_order.l2 k x5 x7 x8 x9 x12 (wrap64 (x13 + 1)) x1000 bt170.2.1 bt170.2.2 x142000 x142001))) else (spec_l1Cur_order.l2 k x5 x7 x8 x9 x12 (wrap64 (x13 + 1)) x1000 x1001 x1002 x142000 x142001)) else (spec_l1Cur_order.l2 k x5 x7 x8 x9 x12 (wrap64 (x13 + 1)) x1000 x1001 x1002 x142000 x142001))) else (none)) else (none)) else (none)) else (none)) else (if x7 = 0 then (if x12 < x13 then ((spec_l1Cur_one.f x1000 x1001 x1002 3).bind fun bt175 => (if bt175.1 = true then (if 0 ≤ x12 then (if x12 < (x142001.length : Int) then (if 0 ≤ x13 then (spec_l1Cur_order.l2 k x5 x7 x8 x9 x12 (wrap64 (x13 + 1)) x1000 bt175.2.1 bt175.2.2 x142000 (x142001.set (x12 : Int).toNat (Go.bits .or .i64 (rd x142001 x12) (shl .i64 1 x13)))) else (none)) else (none)) else (none)) else (spec_l1Cur_order.l2 k x5 x7 x8 x9 x12 (wrap64 (x13 + 1)) x1000 bt175.2.1 bt175.2.2 x142000 x142001))) else (spec_l1Cur_order.l2 k x5 x7 x8 x9 x12 (wrap64 (x13 + 1)) x1000 x1001 x1002 x142000 x142001)) else (spec_l1Cur_order.l2 k x5 x7 x8 x9 x12 (wrap64 (x13 + 1)) x1000 x1001 x1002 x142000 x142001))) else (spec_l1Cur_order.l1 k x5 x7 x8 x9 (wrap64 (x12 + 1)) x1000 x1001 x1002 x142000 x142001)
end
def spec_l1Cur_order.f (k : Nat) (s0_0 : List Int) (s0_1 : Int) (s0_2 : Int) (a1 : Int) : Option (Int × List Int × Int × Int) := (spec_l1Cur_pick.f s0_0 s0_1 s0_2 (wrap64 (a1 + 1))).bind fun bt135 => (if 0 ≤ bt135.1 then (if (bt135.1 : Int).toNat ≤ 35184372088832 then ((spec_l1Cur_pick.f s0_0 bt135.2.1 bt135.2.2 3).bind fun bt142 => (spec_l1Cur_order.l0 k bt135.1 bt142.1 ([] : List Int) ([] : List Int) 0 s0_0 bt142.2.1 bt142.2.2 bt135.1 (List.replicate (bt135.1 : Int).toNat 0))) else (none)) else (none))
theorem spec_l1Cur_order.mono_l : ∀ k, (∀ y0 y1 y2 y3 y4 y5 y6 y7 y8 y9, LeO (spec_l1Cur_order.l0 k y0 y1 y2 y3 y4 y5 y6 y7 y8 y9) (spec_l1Cur_order.l0 (k + 1) y0 y1 y2 y3 y4 y5 y6 y7 y8 y9)) ∧ (∀ y0 y1 y2 y3 y4 y5 y6 y7 y8 y9, LeO (spec_l1Cur_order.l1 k y0 y1 y2 y3 y4 y5 y6 y7 y8 y9) (spec_l1Cur_order.l1 (k + 1) y0 y1 y2 y3 y4 y5 y6 y7 y8 y9)) ∧ (∀ y0 y1 y2 y3 y4 y5 y6 y7 y8 y9 y10, LeO (spec_l1Cur_order.l2 k y0 y1 y2 y3 y4 y5 y6 y7 y8 y9 y10) (spec_l1Cur_order.l2 (k + 1) y0 y1 y2 y3 y4 y5 y6 y7 y8 y9 y10))
 | 0 => ⟨fun _ _ _ _ _ _ _ _ _ _ r h => by simp [spec_l1Cur_order.l0] at h, fun _ _ _ _ _ _ _ _ _ _ r h => by simp [spec_l1Cur_order.l1] at h, fun _ _ _ _ _ _ _ _ _ _ _ r h => by simp [spec_l1Cur_order.l2] at h⟩
 | k + 1 => by
  obtain ⟨ih0, ih1, ih2⟩ := spec_l1Cur_order.mono_l k
  refine ⟨?_, ?_, ?_⟩ <;> intros
  unfold spec_l1Cur_order.l0
  rotate_left
  unfold spec_l1Cur_order.l1
  rotate_left
  unfold spec_l1Cur_order.l2
  rotate_left
  all_goals repeat' (with_reducible first|apply ih0|apply ih1|apply ih2|apply spec_CloseRelation.mono|apply LeO.refl|apply LeO.none|apply LeO.ite|apply LeO.bind|intro)
theorem spec_l1Cur_order.mono : ∀ a0 a1 a2 a3 k, LeO (spec_l1Cur_order.f k a0 a1 a2 a3) (spec_l1Cur_order.f (k + 1) a0 a1 a2 a3) := by
 intro a0 a1 a2 a3 k
 obtain ⟨ih0, ih1, ih2⟩ := spec_l1Cur_order.mono_l k
 unfold spec_l1Cur_order.f
 repeat' (with_reducible first|apply ih0|apply ih1|apply ih2|apply spec_CloseRelation.mono|apply LeO.refl|apply LeO.none|apply LeO.ite|apply LeO.bind|intro)
def spec_l1Cur_order.T19 : Bool × List (List Nat × List Nat) := (true, [([], []), ([0], [0]), ([1], [1]), ([2], [2]), ([2], [2]), ([3, 4, 2], [2, 3, 4]), ([5, 2], [2, 5]), ([2], [2]), ([2], [2]), ([7, 8, 2], [2, 7, 8]), ([9, 2], [2, 9]), ([6, 10, 2], [2, 6, 10]), ([2, 11], [2, 11]), ([12, 2], [12]), ([13], [13]), ([14, 13], [13, 14]), ([15, 13, 13], [13, 15]), ([16], [16]), ([16], [16]), ([17, 18, 16], [16, 17, 18]), ([16, 19, 13], [13, 16, 19]), ([20, 16, 13], [13, 20]), ([21], [21]), ([22, 21, 21], [21, 22]), ([21, 23, 13], [13, 21, 23]), ([13, 24], [13, 24])])
def spec_l1Cur_order.B19 : List Nat := [0, 1, 3, 7, 7, 31, 63, 7, 7, 391, 903, 2047, 4095, 8191, 16383, 32767, 65535, 131071, 131071, 524287, 1048575, 2097151, 4194303, 8388607, 16777215, 33554431]
theorem spec_l1Cur_order.tab19 : rtab .any (opsOf Tryd.f30 19) = spec_l1Cur_order.T19 := by kernel_rfl
theorem spec_l1Cur_order.bits19 : waitsOk spec_l1Cur_order.T19.2 spec_l1Cur_order.B19 = true := by kernel_rfl
def spec_l1Cur_order.T20 : Bool × List (List Nat × List Nat) := (true, [([], []), ([0], [0]), ([], []), ([1, 2], [1, 2]), ([3], [3]), ([], []), ([5], [5]), ([4, 6], [4, 6]), ([1, 2, 0, 1, 2, 3, 4, 5, 6, 7], [1, 2]), ([8, 7, 0, 1, 2, 3, 4, 5, 6, 7], [7, 8])])
def spec_l1Cur_order.B20 : List Nat := [0, 1, 0, 7, 15, 0, 32, 127, 255, 511]
theorem spec_l1Cur_order.tab20 : rtab .any (opsOf Tryd.f30 20) = spec_l1Cur_order.T20 := by kernel_rfl
theorem spec_l1Cur_order.bits20 : waitsOk spec_l1Cur_order.T20.2 spec_l1Cur_order.B20 = true := by kernel_rfl
theorem spec_l1Cur_order.calls (k : Nat) (g : Nat) (s0_0 : List Int) (s0_1 : Int) (s0_2 : Int) (a1 : Int) (r1 : Int) (r2 : List Int) (r3 : Int) (r4 : Int) (w0 w : World) (hI : IsS36 w0 w g s0_0 s0_1 s0_2) (hB : Below w0.heap.size w0 w) (h : spec_l1Cur_order.f k s0_0 s0_1 s0_2 a1 = some (r1, r2, r3, r4)) :
  Calls Tryd.prog 30 #[.pointer (some ⟨g, 0, none⟩), .int .i64 a1] w fun e w' => ∃ v1_ : Value, e = .returned (.agg #[.int .i64 r1, v1_]) ∧ Kd.R (Kd.int .i64) 3 w' w.heap.size (fun _ => True) v1_ r2 ∧ IsS36 w0 w' g s0_0 r3 r4 ∧ Below w0.heap.size w0 w' ∧ KeepBut w w' g none := by
 have hu26 := Tryd.underlying26
 have HI0 := mkA hI
 have HK := mkA (KeepBut.refl w g none)
 have HL := mkA hB.size
 clear hI
 have HW0 := mkA hB.size
 have HB := mkA hB
 clear hB
 have H := h
 clear h
 unfold spec_l1Cur_order.f at H
 obtain ⟨⟨t135, t136, t137⟩, A3, H⟩ := obE H
 dsimp only at H
 obtain ⟨c4b0, c4b1, H⟩ := itNQ H
 obtain ⟨c5b0, c5b1, H⟩ := itNQ H
 obtain ⟨y138, hy138⟩ : ∃ y_ : List Int, y_ = (List.replicate (t135 : Int).toNat 0) := ⟨_, rfl⟩
 rw [← hy138] at H
 have Ny138 := mkA hy138
 clear hy138
 obtain ⟨⟨t142, t143, t144⟩, A6, H⟩ := obE H
 dsimp only at H
 have H' := mkA H
 clear H
 go_enter Tryd.func30, Tryd.ntmps30
 go_wp2_with (first | ((with_reducible refine gate_dst (N := 4) rfl ?_); refine boxE (N := 4) (cs := #[.int .i64 0, .slice none 0 0]) (t := 26) ?_; intro gb134 hg w7 hbox hb; have BK134 := mkA (hbox); have GW134 := mkA ((by rw [hg]; exact (keep_size (w := w) (g := g) (row := none) (by exact kb36_0 HK.out)) : w.heap.size ≤ gb134)); have GE134 := mkA (Nat.le_trans HW0.out GW134.out); replace HK := kU (g := g) (by exact kb36_0 HK.out) hb; have NB0_134 : NeB _ _ := ⟨(by rw [hg]; exact Nat.ne_of_lt (IsS36.lt (show IsS36 w0 _ g s0_0 s0_1 s0_2 from by exact st36_0 HI0.out)) : g ≠ gb134)⟩; have NB134_0 : NeB _ _ := ⟨(by rw [hg]; exact Nat.ne_of_gt (IsS36.lt (show IsS36 w0 _ g s0_0 s0_1 s0_2 from by exact st36_0 HI0.out)) : gb134 ≠ g)⟩; replace HB := mkA (below_step (by exact bl36_0 HB.out HI0.out) hb); replace HI0 := mkA (IsS36.below (by exact st36_0 HI0.out) hb); clear hb hbox hg) | ((with_reducible refine gate_callee (f := 31) rfl ?_); refine goesQ (some 19) Tryd.func31 #[.pointer (some ⟨g, 0, none⟩), .int .i64 (wrap64 (a1 + 1))] ?_; (with_reducible refine (spec_l1Cur_pick.calls g s0_0 s0_1 s0_2 (wrap64 (a1 + 1)) t135 t136 t137 w0 _ ?_ ?_ A3.out).mono ?_); exact st36_1 HI0.out NB0_134.out; exact bl36_1 HB.out HI0.out GE134.out; rintro e w8 ⟨rfl, hi, hb, hk⟩; refine ⟨_, rfl, ?_⟩; replace BK134 := kB hk BK134; replace HK := kT (by exact kb36_1 HK.out GW134.out) hk; replace HI0 := mkA (hi); replace HB := mkA (hb); clear hb hk hi) | ((with_reducible refine gate_dst (N := 22) rfl ?_); refine Kd.R_make (Kd.int .i64) _ 3 rfl (N := 22) rfl 24 _ _ rfl t135 rfl rfl Tryd.underlying24 (.int .i64 0) 8 info3 rfl (by decide) (by omega) 0 (ok := fun _ => True) (okp := fun _ => True) rfl (fun _ hk => hk) trivial (ofd) (Nat.le_trans (Nat.mul_le_mul_right _ (ofd : t135.toNat ≤ 35184372088832)) (by omega)) (Below.refl _ _) (Nat.le_refl _) ?_; intro v139 w9 ho10 hb hg_ hnew_; clear hg_ hnew_; (first | rw [← Ny138.out] at ho10 | (simp only [Int.reduceToNat] at ho10; rw [← Ny138.out] at ho10)); have HO140 := mkA (Kd.R_lower ho10 (keep_size (w := w) (g := g) (row := none) (by exact kb36_1 HK.out GW134.out))); replace BK134 := blkB BK134 hb; replace HK := kU (g := g) (by exact kb36_1 HK.out GW134.out) hb; replace HB := mkA (below_step (by exact bl36_1 HB.out HI0.out GE134.out) hb); replace HI0 := mkA (IsS36.below (by exact st36_1 HI0.out NB0_134.out) hb); clear hb ho10; obtain ⟨Ao11, co11, rfl⟩ := Kd.R_slice HO140.out) | ((with_reducible refine gate_dst (N := 6) rfl ?_); refine boxE (N := 6) (cs := #[.int .i64 0, .slice none 0 0]) (t := 26) ?_; intro gb141 hg w12 hbox hb; replace HO140 := rB HO140 hb; have BK141 := mkA (hbox); have GW141 := mkA ((by rw [hg]; exact (keep_size (w := w) (g := g) (row := none) (by exact kb36_1 HK.out GW134.out)) : w.heap.size ≤ gb141)); have GE141 := mkA (Nat.le_trans HW0.out GW141.out); replace HK := kU (g := g) (by exact kb36_1 HK.out GW134.out) hb; have NB134_141 := neL7 BK134 hg; have NB141_134 := neR7 BK134 hg; replace BK134 := blkB BK134 hb; have NB0_141 : NeB _ _ := ⟨(by rw [hg]; exact Nat.ne_of_lt (IsS36.lt (show IsS36 w0 _ g s0_0 t136 t137 from by exact st36_1 HI0.out NB0_134.out)) : g ≠ gb141)⟩; have NB141_0 : NeB _ _ := ⟨(by rw [hg]; exact Nat.ne_of_gt (IsS36.lt (show IsS36 w0 _ g s0_0 t136 t137 from by exact st36_1 HI0.out NB0_134.out)) : gb141 ≠ g)⟩; replace HB := mkA (below_step (by exact bl36_1 HB.out HI0.out GE134.out) hb); replace HI0 := mkA (IsS36.below (by exact st36_1 HI0.out NB0_134.out) hb); clear hb hbox hg; obtain ⟨_, _, _, _⟩ := blk2 BK141) | ((with_reducible refine gate_callee (f := 31) rfl ?_); refine goesQ (some 25) Tryd.func31 #[.pointer (some ⟨g, 0, none⟩), .int .i64 3] ?_; (with_reducible refine (spec_l1Cur_pick.calls g s0_0 t136 t137 3 t142 t143 t144 w0 _ ?_ ?_ A6.out).mono ?_); exact st36_2 HI0.out NB0_134.out NB0_141.out; exact bl36_2 HB.out HI0.out GE134.out GE141.out; rintro e w16 ⟨rfl, hi, hb, hk⟩; refine ⟨_, rfl, ?_⟩; replace BK134 := kR hk BK134; replace HO140 := rK (IsS36.apart (show IsS36 w0 _ g s0_0 t136 t137 from by exact st36_2 HI0.out NB0_134.out NB0_141.out) (rFg HO140 BK141) (by decide)) hk; replace BK141 := kR hk BK141; replace HK := kT (by exact kb36_2 HK.out GW134.out GW141.out) hk; replace HI0 := mkA (hi); replace HB := mkA (hb); clear hb hk hi))
 go_loopg [8, 9, 10] k (fun kq v8 v9 v10 w' => ∃ (x8_1 : List Int) (x9_1 : List Int) (x10_1 : Int) (x1001_1 : Int) (x1002_1 : Int), v10 = .int .i64 x10_1 ∧ Fc (spec_l1Cur_order.l0 kq t135 t142 x8_1 x9_1 x10_1 s0_0 x1001_1 x1002_1 t135 y138 = some (r1, r2, r3, r4)) ∧ Fc (kq ≤ k) ∧ Fc (Kd.R (Kd.int .i64) 3 w' w.heap.size (fun k_ => some k_ ≠ (v9 : Value).ownBlock ∧ some k_ ≠ ((.slice Ao11 y138.length co11) : Value).ownBlock) v8 x8_1) ∧ Fc (Kd.R (Kd.int .i64) 3 w' w.heap.size (fun k_ => some k_ ≠ (v8 : Value).ownBlock ∧ some k_ ≠ ((.slice Ao11 y138.length co11) : Value).ownBlock) v9 x9_1) ∧ Fc (Kd.R (Kd.int .i64) 3 w' w.heap.size (fun k_ => some k_ ≠ (v8 : Value).ownBlock ∧ some k_ ≠ (v9 : Value).ownBlock) (.slice Ao11 y138.length co11) y138) ∧ Fc (w'.heap[gb134]? = some (.cells #[.int .i64 0, (.slice none 0 0)] 26 (0, 0))) ∧ Fc (w'.heap[gb141]? = some (.cells #[.int .i64 t135, (.slice Ao11 y138.length co11)] 26 (0, 0))) ∧ Fc (IsS36 w0 w' g s0_0 x1001_1 x1002_1) ∧ Fc (KeepBut w w' g none) ∧ Fc (Below w0.heap.size w0 w'))
 case atStart => exact ⟨(([] : List Int)), (([] : List Int)), (0), (t143), (t144), eqS, H', ⟨Nat.le_refl _⟩, ⟨nilE⟩, ⟨nilE⟩, ⟨Kd.R_g (Kd.R_mono HO140.out (fun _ hk => ⟨(by simp [Value.ownBlock]), (by simp [Value.ownBlock])⟩))⟩, bg BK134, bg BK141, ⟨by exact st36_2 HI0.out NB0_134.out NB0_141.out⟩, ⟨by exact kb36_2 HK.out GW134.out GW141.out⟩, ⟨by exact bl36_2 HB.out HI0.out GE134.out GE141.out⟩⟩
 case round =>
  clear H'
  try clear c4
  try clear c4b0
  try clear c4b1
  try clear c5
  try clear c5b0
  try clear c5b1
  obtain ⟨x8_1, x9_1, x10_1, x1001_1, x1002_1, rfl, HA, HK1, HO_8, HO_9, HO_142001, BK134, BK141, HI0, HK, HB⟩ := hrel
  cases gk with
  | zero => exact absurd HA.out (by simp [spec_l1Cur_order.l0])
  | succ k1 =>
   have H := HA.out
   clear HA
   simp only [spec_l1Cur_order.l0] at H
   rcases iteE H with ⟨c17b0, H⟩ | ⟨c17b0, H⟩
   ·obtain ⟨⟨t145, t146, t147⟩, A18, H⟩ := obE H
    dsimp only at H
    obtain ⟨c19, H⟩ := itNP H
    have LMc19 := mkA c19
    clear c19
    obtain ⟨y148, Ny148, H⟩ := nmE H
    rcases iteP H with ⟨c20, H⟩ | ⟨c20, H⟩
    ·have c20b0 := beq_iff_eq.mpr c20
     have c20b1 := bne_eq_false_iff_eq.mpr c20
     clear c20
     obtain ⟨⟨t151, t152, t153⟩, A21, H⟩ := obE H
     dsimp only at H
     obtain ⟨c22, H⟩ := itNP H
     have LMc22 := mkA c22
     clear c22
     obtain ⟨y154, hy154⟩ : ∃ y_ : List Int, y_ = (x9_1 ++ [wrap64 (t145 + t151)]) := ⟨_, rfl⟩
     rw [← hy154] at H
     have Ny154 := mkA hy154
     clear hy154
     have H' := mkA H
     clear H
     go_wp2_with (first | ((with_reducible refine gate_callee (f := 31) rfl ?_); refine goesQ (some 32) Tryd.func31 #[.pointer (some ⟨g, 0, none⟩), .int .i64 8] ?_; (with_reducible refine (spec_l1Cur_pick.calls g s0_0 x1001_1 x1002_1 8 t145 t146 t147 w0 _ ?_ ?_ A18.out).mono ?_); exact st36_2 HI0.out NB0_134.out NB0_141.out; exact bl36_2 HB.out HI0.out GE134.out GE141.out; rintro e w23 ⟨rfl, hi, hb, hk⟩; refine ⟨_, rfl, ?_⟩; replace HO_8 := rK (IsS36.apart (show IsS36 w0 _ g s0_0 x1001_1 x1002_1 from by exact st36_2 HI0.out NB0_134.out NB0_141.out) (Kd.R_g HO_8.out) (by decide)) hk; replace HO_9 := rK (IsS36.apart (show IsS36 w0 _ g s0_0 x1001_1 x1002_1 from by exact st36_2 HI0.out NB0_134.out NB0_141.out) (Kd.R_g HO_9.out) (by decide)) hk; replace HO_142001 := rK (IsS36.apart (show IsS36 w0 _ g s0_0 x1001_1 x1002_1 from by exact st36_2 HI0.out NB0_134.out NB0_141.out) (Kd.R_g HO_142001.out) (by decide)) hk; replace BK134 := kB hk BK134; replace BK141 := kB hk BK141; replace HK := kT (by exact kb36_2 HK.out GW134.out GW141.out) hk; replace HI0 := mkA (hi); replace HB := mkA (hb); clear hb hk hi) | ((with_reducible refine gate_builtin (b := .append) (xs := #[.tmp 33, .tmp 35]) rfl ?_); at_builtin; refine Kd.R_append (Kd.int .i64) w.heap.size rfl (.tmp 33) (.tmp 35) 24 3 (.int .i64 0) 8 rfl Tryd.underlying24 info3 rfl (by decide) (by omega) u8 x8_1 t145 [.int .i64 t145] (fun k_ => some k_ ≠ (u9 : Value).ownBlock ∧ some k_ ≠ (.slice Ao11 y138.length co11 : Value).ownBlock) (fun _ => False) rfl rfl ?aP (fun _ hk => hk.elim) ?aF ?aO (Below.refl _ _) ?aS ?aL ?_; (case aP => exact rfl); (case aF => exact (fun k_ hk => ⟨Kd.fresh' (Kd.R_lt (Kd.R_g HO_9.out)) k_ hk, Kd.fresh' (Kd.R_lt (Kd.R_g HO_142001.out)) k_ hk⟩)); (case aO => exact (Kd.R_g HO_8.out)); (case aS => exact (keep_size (w := w) (g := g) (row := none) (by exact kb36_2 HK.out GW134.out GW141.out))); (case aL => have := LMc19.out; omega); intro v149 w24 ho hb hg hat; rw [← Ny148.out] at ho; replace HO_9 := mkA (Kd.R_after (ok := (fun k_ => some k_ ≠ (.slice Ao11 y138.length co11 : Value).ownBlock)) (Kd.R_g (Kd.R_mono HO_9.out (fun _ hk => ⟨hk.2, hk.1⟩))) hg hat); replace HO_142001 := mkA (Kd.R_after (ok := (fun k_ => some k_ ≠ (u9 : Value).ownBlock)) (Kd.R_g (Kd.R_mono HO_142001.out (fun _ hk => ⟨hk.2, hk.1⟩))) hg hat); replace BK134 := mkA (blk_grown (g := gb134) (o := .cells #[.int .i64 0, .slice none 0 0] 26 (0, 0)) (blk_g BK134.out) hg (Kd.R_ne HO_8.out BK134.out (by decide))); replace BK141 := mkA (blk_grown (g := gb141) (o := .cells #[.int .i64 t135, .slice Ao11 y138.length co11] 26 (0, 0)) (blk_g BK141.out) hg (Kd.R_ne HO_8.out BK141.out (by decide))); replace HK := mkA (KeepBut.trans (by exact kb36_2 HK.out GW134.out GW141.out) (KeepBut.of_grown hg g) (Kd.R_base2 HO_8.out)); have HO150 := mkA (ho); replace HB := mkA (below_weaken (by exact bl36_2 HB.out HI0.out GE134.out GE141.out) HL.out hb); replace HI0 := mkA (IsS36.grown (by exact st36_2 HI0.out NB0_134.out NB0_141.out) hg (IsS36.own_ne HI0.out HO_8.out (by decide))); clear HO_8; clear ho hb hg hat) | ((with_reducible refine gate_callee (f := 31) rfl ?_); refine goesQ (some 42) Tryd.func31 #[.pointer (some ⟨g, 0, none⟩), .int .i64 4] ?_; (with_reducible refine (spec_l1Cur_pick.calls g s0_0 t146 t147 4 t151 t152 t153 w0 _ ?_ ?_ A21.out).mono ?_); exact st36_2 HI0.out NB0_134.out NB0_141.out; exact bl36_2 HB.out HI0.out GE134.out GE141.out; rintro e w25 ⟨rfl, hi, hb, hk⟩; refine ⟨_, rfl, ?_⟩; replace HO_9 := rK (IsS36.apart (show IsS36 w0 _ g s0_0 t146 t147 from by exact st36_2 HI0.out NB0_134.out NB0_141.out) (Kd.R_g HO_9.out) (by decide)) hk; replace HO_142001 := rK (IsS36.apart (show IsS36 w0 _ g s0_0 t146 t147 from by exact st36_2 HI0.out NB0_134.out NB0_141.out) (Kd.R_g HO_142001.out) (by decide)) hk; replace BK134 := kB hk BK134; replace BK141 := kB hk BK141; replace HO150 := rK (IsS36.apart (show IsS36 w0 _ g s0_0 t146 t147 from by exact st36_2 HI0.out NB0_134.out NB0_141.out) (Kd.R_g HO150.out) (by decide)) hk; replace HK := kT (by exact kb36_2 HK.out GW134.out GW141.out) hk; replace HI0 := mkA (hi); replace HB := mkA (hb); clear hb hk hi) | ((with_reducible refine gate_builtin (b := .append) (xs := #[.tmp 39, .tmp 44]) rfl ?_); at_builtin; refine Kd.R_append (Kd.int .i64) w.heap.size rfl (.tmp 39) (.tmp 44) 24 3 (.int .i64 0) 8 rfl Tryd.underlying24 info3 rfl (by decide) (by omega) u9 x9_1 (wrap64 (t145 + t151)) [.int .i64 (wrap64 (t145 + t151))] (fun k_ => some k_ ≠ (.slice Ao11 y138.length co11 : Value).ownBlock ∧ some k_ ≠ (v149 : Value).ownBlock) (fun _ => False) rfl rfl ?aP (fun _ hk => hk.elim) ?aF ?aO (Below.refl _ _) ?aS ?aL ?_; (case aP => exact rfl); (case aF => exact (fun k_ hk => ⟨Kd.fresh' (Kd.R_lt (Kd.R_g HO_142001.out)) k_ hk, Kd.fresh' (Kd.R_lt (Kd.R_g HO150.out)) k_ hk⟩)); (case aO => exact (Kd.R_g HO_9.out)); (case aS => exact (keep_size (w := w) (g := g) (row := none) (by exact kb36_2 HK.out GW134.out GW141.out))); (case aL => have := LMc22.out; omega); intro v155 w26 ho hb hg hat; rw [← Ny154.out] at ho; replace HO_142001 := mkA (Kd.R_after (ok := (fun k_ => some k_ ≠ (v149 : Value).ownBlock)) (Kd.R_g (Kd.R_mono HO_142001.out (fun _ hk => ⟨hk.2, hk.1⟩))) hg hat); replace BK134 := mkA (blk_grown (g := gb134) (o := .cells #[.int .i64 0, .slice none 0 0] 26 (0, 0)) (blk_g BK134.out) hg (Kd.R_ne HO_9.out BK134.out (by decide))); replace BK141 := mkA (blk_grown (g := gb141) (o := .cells #[.int .i64 t135, .slice Ao11 y138.length co11] 26 (0, 0)) (blk_g BK141.out) hg (Kd.R_ne HO_9.out BK141.out (by decide))); replace HO150 := mkA (Kd.R_after (ok := (fun k_ => some k_ ≠ (.slice Ao11 y138.length co11 : Value).ownBlock)) (Kd.R_g (Kd.R_mono HO150.out (fun _ hk => ⟨hk.2, hk.1⟩))) hg hat); replace HK := mkA (KeepBut.trans (by exact kb36_2 HK.out GW134.out GW141.out) (KeepBut.of_grown hg g) (Kd.R_base2 HO_9.out)); have HO156 := mkA (ho); replace HB := mkA (below_weaken (by exact bl36_2 HB.out HI0.out GE134.out GE141.out) HL.out hb); replace HI0 := mkA (IsS36.grown (by exact st36_2 HI0.out NB0_134.out NB0_141.out) hg (IsS36.own_ne HI0.out HO_9.out (by decide))); clear HO_9; clear ho hb hg hat))
     go_roundg k1
     case measure => have := HK1.out; omega
     case rel => exact ⟨(y148), (y154), (wrap64 (x10_1 + 1)), (t152), (t153), eqS, H', ⟨by have := HK1.out; omega⟩, ⟨Kd.R_g (Kd.R_mono HO150.out (fun _ hk => ⟨hk.2, hk.1⟩))⟩, ⟨Kd.R_g (Kd.R_mono HO156.out (fun _ hk => ⟨hk.2, hk.1⟩))⟩, rg HO_142001, bg BK134, bg BK141, ⟨by exact st36_2 HI0.out NB0_134.out NB0_141.out⟩, ⟨by exact kb36_2 HK.out GW134.out GW141.out⟩, ⟨by exact bl36_2 HB.out HI0.out GE134.out GE141.out⟩⟩
    ·have c20b0 := beq_eq_false_iff_ne.mpr c20
     have c20b1 := bne_iff_ne.mpr c20
     obtain ⟨c27, H⟩ := itNP H
     have LMc27 := mkA c27
     clear c27
     obtain ⟨y157, hy157⟩ : ∃ y_ : List Int, y_ = (x9_1 ++ [wrap64 (t145 + 2)]) := ⟨_, rfl⟩
     rw [← hy157] at H
     have Ny157 := mkA hy157
     clear hy157
     have H' := mkA H
     clear H
     go_wp2_with (first | ((with_reducible refine gate_callee (f := 31) rfl ?_); refine goesQ (some 32) Tryd.func31 #[.pointer (some ⟨g, 0, none⟩), .int .i64 8] ?_; (with_reducible refine (spec_l1Cur_pick.calls g s0_0 x1001_1 x1002_1 8 t145 t146 t147 w0 _ ?_ ?_ A18.out).mono ?_); exact st36_2 HI0.out NB0_134.out NB0_141.out; exact bl36_2 HB.out HI0.out GE134.out GE141.out; rintro e w28 ⟨rfl, hi, hb, hk⟩; refine ⟨_, rfl, ?_⟩; replace HO_8 := rK (IsS36.apart (show IsS36 w0 _ g s0_0 x1001_1 x1002_1 from by exact st36_2 HI0.out NB0_134.out NB0_141.out) (Kd.R_g HO_8.out) (by decide)) hk; replace HO_9 := rK (IsS36.apart (show IsS36 w0 _ g s0_0 x1001_1 x1002_1 from by exact st36_2 HI0.out NB0_134.out NB0_141.out) (Kd.R_g HO_9.out) (by decide)) hk; replace HO_142001 := rK (IsS36.apart (show IsS36 w0 _ g s0_0 x1001_1 x1002_1 from by exact st36_2 HI0.out NB0_134.out NB0_141.out) (Kd.R_g HO_142001.out) (by decide)) hk; replace BK134 := kB hk BK134; replace BK141 := kB hk BK141; replace HK := kT (by exact kb36_2 HK.out GW134.out GW141.out) hk; replace HI0 := mkA (hi); replace HB := mkA (hb); clear hb hk hi) | ((with_reducible refine gate_builtin (b := .append) (xs := #[.tmp 33, .tmp 35]) rfl ?_); at_builtin; refine Kd.R_append (Kd.int .i64) w.heap.size rfl (.tmp 33) (.tmp 35) 24 3 (.int .i64 0) 8 rfl Tryd.underlying24 info3 rfl (by decide) (by omega) u8 x8_1 t145 [.int .i64 t145] (fun k_ => some k_ ≠ (u9 : Value).ownBlock ∧ some k_ ≠ (.slice Ao11 y138.length co11 : Value).ownBlock) (fun _ => False) rfl rfl ?aP (fun _ hk => hk.elim) ?aF ?aO (Below.refl _ _) ?aS ?aL ?_; (case aP => exact rfl); (case aF => exact (fun k_ hk => ⟨Kd.fresh' (Kd.R_lt (Kd.R_g HO_9.out)) k_ hk, Kd.fresh' (Kd.R_lt (Kd.R_g HO_142001.out)) k_ hk⟩)); (case aO => exact (Kd.R_g HO_8.out)); (case aS => exact (keep_size (w := w) (g := g) (row := none) (by exact kb36_2 HK.out GW134.out GW141.out))); (case aL => have := LMc19.out; omega); intro v149 w29 ho hb hg hat; rw [← Ny148.out] at ho; replace HO_9 := mkA (Kd.R_after (ok := (fun k_ => some k_ ≠ (.slice Ao11 y138.length co11 : Value).ownBlock)) (Kd.R_g (Kd.R_mono HO_9.out (fun _ hk => ⟨hk.2, hk.1⟩))) hg hat); replace HO_142001 := mkA (Kd.R_after (ok := (fun k_ => some k_ ≠ (u9 : Value).ownBlock)) (Kd.R_g (Kd.R_mono HO_142001.out (fun _ hk => ⟨hk.2, hk.1⟩))) hg hat); replace BK134 := mkA (blk_grown (g := gb134) (o := .cells #[.int .i64 0, .slice none 0 0] 26 (0, 0)) (blk_g BK134.out) hg (Kd.R_ne HO_8.out BK134.out (by decide))); replace BK141 := mkA (blk_grown (g := gb141) (o := .cells #[.int .i64 t135, .slice Ao11 y138.length co11] 26 (0, 0)) (blk_g BK141.out) hg (Kd.R_ne HO_8.out BK141.out (by decide))); replace HK := mkA (KeepBut.trans (by exact kb36_2 HK.out GW134.out GW141.out) (KeepBut.of_grown hg g) (Kd.R_base2 HO_8.out)); have HO150 := mkA (ho); replace HB := mkA (below_weaken (by exact bl36_2 HB.out HI0.out GE134.out GE141.out) HL.out hb); replace HI0 := mkA (IsS36.grown (by exact st36_2 HI0.out NB0_134.out NB0_141.out) hg (IsS36.own_ne HI0.out HO_8.out (by decide))); clear HO_8; clear ho hb hg hat) | ((with_reducible refine gate_builtin (b := .append) (xs := #[.tmp 46, .tmp 49]) rfl ?_); at_builtin; refine Kd.R_append (Kd.int .i64) w.heap.size rfl (.tmp 46) (.tmp 49) 24 3 (.int .i64 0) 8 rfl Tryd.underlying24 info3 rfl (by decide) (by omega) u9 x9_1 (wrap64 (t145 + 2)) [.int .i64 (wrap64 (t145 + 2))] (fun k_ => some k_ ≠ (.slice Ao11 y138.length co11 : Value).ownBlock ∧ some k_ ≠ (v149 : Value).ownBlock) (fun _ => False) rfl rfl ?aP (fun _ hk => hk.elim) ?aF ?aO (Below.refl _ _) ?aS ?aL ?_; (case aP => exact rfl); (case aF => exact (fun k_ hk => ⟨Kd.fresh' (Kd.R_lt (Kd.R_g HO_142001.out)) k_ hk, Kd.fresh' (Kd.R_lt (Kd.R_g HO150.out)) k_ hk⟩)); (case aO => exact (Kd.R_g HO_9.out)); (case aS => exact (keep_size (w := w) (g := g) (row := none) (by exact kb36_2 HK.out GW134.out GW141.out))); (case aL => have := LMc27.out; omega); intro v158 w30 ho hb hg hat; rw [← Ny157.out] at ho; replace HO_142001 := mkA (Kd.R_after (ok := (fun k_ => some k_ ≠ (v149 : Value).ownBlock)) (Kd.R_g (Kd.R_mono HO_142001.out (fun _ hk => ⟨hk.2, hk.1⟩))) hg hat); replace BK134 := mkA (blk_grown (g := gb134) (o := .cells #[.int .i64 0, .slice none 0 0] 26 (0, 0)) (blk_g BK134.out) hg (Kd.R_ne HO_9.out BK134.out (by decide))); replace BK141 := mkA (blk_grown (g := gb141) (o := .cells #[.int .i64 t135, .slice Ao11 y138.length co11] 26 (0, 0)) (blk_g BK141.out) hg (Kd.R_ne HO_9.out BK141.out (by decide))); replace HO150 := mkA (Kd.R_after (ok := (fun k_ => some k_ ≠ (.slice Ao11 y138.length co11 : Value).ownBlock)) (Kd.R_g (Kd.R_mono HO150.out (fun _ hk => ⟨hk.2, hk.1⟩))) hg hat); replace HK := mkA (KeepBut.trans (by exact kb36_2 HK.out GW134.out GW141.out) (KeepBut.of_grown hg g) (Kd.R_base2 HO_9.out)); have HO159 := mkA (ho); replace HB := mkA (below_weaken (by exact bl36_2 HB.out HI0.out GE134.out GE141.out) HL.out hb); replace HI0 := mkA (IsS36.grown (by exact st36_2 HI0.out NB0_134.out NB0_141.out) hg (IsS36.own_ne HI0.out HO_9.out (by decide))); clear HO_9; clear ho hb hg hat))
     go_roundg k1
     case measure => have := HK1.out; omega
     case rel => exact ⟨(y148), (y157), (wrap64 (x10_1 + 1)), (t146), (t147), eqS, H', ⟨by have := HK1.out; omega⟩, ⟨Kd.R_g (Kd.R_mono HO150.out (fun _ hk => ⟨hk.2, hk.1⟩))⟩, ⟨Kd.R_g (Kd.R_mono HO159.out (fun _ hk => ⟨hk.2, hk.1⟩))⟩, rg HO_142001, bg BK134, bg BK141, ⟨by exact st36_2 HI0.out NB0_134.out NB0_141.out⟩, ⟨by exact kb36_2 HK.out GW134.out GW141.out⟩, ⟨by exact bl36_2 HB.out HI0.out GE134.out GE141.out⟩⟩
   ·have H' := mkA H
    clear H
    go_wp2
    go_loopg [12] k1 (fun kq v12 w' => ∃ (x8_2 : List Int) (x9_2 : List Int) (x12_2 : Int) (x1001_2 : Int) (x1002_2 : Int) (x142001_2 : List Int) (u142001 : Value), v12 = .int .i64 x12_2 ∧ Fc (spec_l1Cur_order.l1 kq t135 t142 x8_2 x9_2 x12_2 s0_0 x1001_2 x1002_2 t135 x142001_2 = some (r1, r2, r3, r4)) ∧ Fc (kq ≤ k1) ∧ Fc (Kd.R (Kd.int .i64) 3 w' w.heap.size (fun k_ => some k_ ≠ (u9 : Value).ownBlock ∧ some k_ ≠ (u142001 : Value).ownBlock) u8 x8_2) ∧ Fc (Kd.R (Kd.int .i64) 3 w' w.heap.size (fun k_ => some k_ ≠ (u8 : Value).ownBlock ∧ some k_ ≠ (u142001 : Value).ownBlock) u9 x9_2) ∧ Fc (Kd.R (Kd.int .i64) 3 w' w.heap.size (fun k_ => some k_ ≠ (u8 : Value).ownBlock ∧ some k_ ≠ (u9 : Value).ownBlock) u142001 x142001_2) ∧ Fc (w'.heap[gb134]? = some (.cells #[.int .i64 0, (.slice none 0 0)] 26 (0, 0))) ∧ Fc (w'.heap[gb141]? = some (.cells #[.int .i64 t135, u142001] 26 (0, 0))) ∧ Fc (IsS36 w0 w' g s0_0 x1001_2 x1002_2) ∧ Fc (KeepBut w w' g none) ∧ Fc (Below w0.heap.size w0 w'))
    case atStart => exact ⟨(x8_1), (x9_1), (0), (x1001_1), (x1002_1), (y138), (.slice Ao11 y138.length co11), eqS, H', ⟨Nat.le_refl _⟩, rg HO_8, rg HO_9, rg HO_142001, bg BK134, bg BK141, ⟨by exact st36_2 HI0.out NB0_134.out NB0_141.out⟩, ⟨by exact kb36_2 HK.out GW134.out GW141.out⟩, ⟨by exact bl36_2 HB.out HI0.out GE134.out GE141.out⟩⟩
    case round =>
     clear H'
     try clear c4
     try clear c4b0
     try clear c4b1
     try clear c5
     try clear c5b0
     try clear c5b1
     try clear c17b0
     try clear c19
     try clear c20
     try clear c20b0
     try clear c20b1
     try clear c22
     try clear c27
     obtain ⟨x8_2, x9_2, x12_2, x1001_2, x1002_2, x142001_2, u142001, rfl, HA, HK2, HO_8, HO_9, HO_142001, BK134, BK141, HI0, HK, HB⟩ := hrel
     cases gk with
     | zero => exact absurd HA.out (by simp [spec_l1Cur_order.l1])
     | succ k2 =>
      have H := HA.out
      clear HA
      simp only [spec_l1Cur_order.l1] at H
      rcases iteE H with ⟨c31b0, H⟩ | ⟨c31b0, H⟩
      ·have H' := mkA H
       clear H
       go_wp2
       go_loopg [13] k2 (fun kq v13 w' => ∃ (x8_3 : List Int) (x9_3 : List Int) (x13_3 : Int) (x1001_3 : Int) (x1002_3 : Int) (x142001_3 : List Int) (u142001 : Value), v13 = .int .i64 x13_3 ∧ Fc (spec_l1Cur_order.l2 kq t135 t142 x8_3 x9_3 x12_2 x13_3 s0_0 x1001_3 x1002_3 t135 x142001_3 = some (r1, r2, r3, r4)) ∧ Fc (kq ≤ k2) ∧ Fc (Kd.R (Kd.int .i64) 3 w' w.heap.size (fun k_ => some k_ ≠ (u9 : Value).ownBlock ∧ some k_ ≠ (u142001 : Value).ownBlock) u8 x8_3) ∧ Fc (Kd.R (Kd.int .i64) 3 w' w.heap.size (fun k_ => some k_ ≠ (u8 : Value).ownBlock ∧ some k_ ≠ (u142001 : Value).ownBlock) u9 x9_3) ∧ Fc (Kd.R (Kd.int .i64) 3 w' w.heap.size (fun k_ => some k_ ≠ (u8 : Value).ownBlock ∧ some k_ ≠ (u9 : Value).ownBlock) u142001 x142001_3) ∧ Fc (w'.heap[gb134]? = some (.cells #[.int .i64 0, (.slice none 0 0)] 26 (0, 0))) ∧ Fc (w'.heap[gb141]? = some (.cells #[.int .i64 t135, u142001] 26 (0, 0))) ∧ Fc (IsS36 w0 w' g s0_0 x1001_3 x1002_3) ∧ Fc (KeepBut w w' g none) ∧ Fc (Below w0.heap.size w0 w'))
       case atStart => exact ⟨(x8_2), (x9_2), (0), (x1001_2), (x1002_2), (x142001_2), (u142001), eqS, H', ⟨Nat.le_refl _⟩, rg HO_8, rg HO_9, rg HO_142001, bg BK134, bg BK141, ⟨by exact st36_2 HI0.out NB0_134.out NB0_141.out⟩, ⟨by exact kb36_2 HK.out GW134.out GW141.out⟩, ⟨by exact bl36_2 HB.out HI0.out GE134.out GE141.out⟩⟩
       case round =>
        clear H'
        try clear c4
        try clear c4b0
        try clear c4b1
        try clear c5
        try clear c5b0
        try clear c5b1
        try clear c17b0
        try clear c19
        try clear c20
        try clear c20b0
        try clear c20b1
        try clear c22
        try clear c27
        try clear c31b0
        obtain ⟨x8_3, x9_3, x13_3, x1001_3, x1002_3, x142001_3, u142001, rfl, HA, HK3, HO_8, HO_9, HO_142001, BK134, BK141, HI0, HK, HB⟩ := hrel
        cases gk with
        | zero => exact absurd HA.out (by simp [spec_l1Cur_order.l2])
        | succ k3 =>
         have H := HA.out
         clear HA
         simp only [spec_l1Cur_order.l2] at H
         rcases iteE H with ⟨c32b0, H⟩ | ⟨c32b0, H⟩
         ·rcases iteP H with ⟨c33, H⟩ | ⟨c33, H⟩
          ·have c33b0 := decide_eq_true c33
           clear c33
           obtain ⟨c34b0, H⟩ := itND H
           obtain ⟨c35b0, H⟩ := itND H
           obtain ⟨c36b0, H⟩ := itND H
           obtain ⟨c37b0, H⟩ := itND H
           rcases iteE H with ⟨c38b0, H⟩ | ⟨c38b0, H⟩
           ·obtain ⟨c39b0, H⟩ := itND H
            have c40b0 := eq_true (ofd : 0 ≤ x13_3)
            obtain ⟨ji41, hji41⟩ : ∃ j_ : Int, (shl .i64 1 x13_3) = j_ := ⟨_, rfl⟩
            first | rw [hji41] at H | simp only [hji41] at H
            have hji41_ : (IntKind.i64.wrap (1 * 2 ^ min x13_3.toNat 64)) = ji41 := hji41
            have hji41z : x13_3 ≤ 64 → (IntKind.i64.wrap (1 * 2 ^ x13_3.toNat)) = ji41 := shl_small hji41
            have hji41u : (IntKind.i64.wrap (2 ^ min x13_3.toNat 64)) = ji41 := by have h_ := hji41_; rw [Int.one_mul] at h_; exact h_
            have hji41v : x13_3 ≤ 64 → (IntKind.i64.wrap (2 ^ x13_3.toNat)) = ji41 := fun hle_ => by have h_ := hji41z hle_; rw [Int.one_mul] at h_; exact h_
            have hji41y : (wrap64 (1 * 2 ^ min x13_3.toNat 64)) = ji41 := (i64_w _).symm.trans hji41_
            have hji41x : x13_3 ≤ 64 → (wrap64 (1 * 2 ^ x13_3.toNat)) = ji41 := fun h_ => (i64_w _).symm.trans (hji41z h_)
            obtain ⟨y169, hy169⟩ : ∃ y_ : List Int, y_ = (x142001_3.set (x12_2 : Int).toNat (Go.bits .or .i64 (rd x142001_3 x12_2) (ji41))) := ⟨_, rfl⟩
            rw [← hy169] at H
            have Ny169 := mkA hy169
            clear hy169
            have H' := mkA H
            clear H
            try go_wp2
            replace HO_8 := mkA (Kd.R_drew HO_8.out)
            replace HO_9 := mkA (Kd.R_drew HO_9.out)
            replace HO_142001 := mkA (Kd.R_drew HO_142001.out)
            replace BK134 := mkA (blk_drew BK134.out)
            replace BK141 := mkA (blk_drew BK141.out)
            replace HI0 := mkA (IsS36.drew HI0.out)
            replace HK := mkA (keep_drew HK.out)
            replace HB := mkA (below_drew1 HB.out)
            obtain ⟨Ao44, co44, eo44⟩ := Kd.R_slice HO_9.out
            (first | subst eo44 | (injection eo44 with f1_ f2_ f3_; have f4_ := f1_.symm; have f5_ := f3_.symm; clear f1_ f2_ f3_; subst f4_; subst f5_))
            obtain ⟨p166, q166, ad166, e166, hx166_0⟩ := atI (Kd.R_reads' HO_9.out).2.2 x12_2
            cases e166
            obtain ⟨Ao45, co45, eo45⟩ := Kd.R_slice HO_8.out
            (first | subst eo45 | (injection eo45 with f1_ f2_ f3_; have f4_ := f1_.symm; have f5_ := f3_.symm; clear f1_ f2_ f3_; subst f4_; subst f5_))
            obtain ⟨p167, q167, ad167, e167, hx167_0⟩ := atI (Kd.R_reads' HO_8.out).2.2 x13_3
            cases e167
            refine start_ (n := 26) (S := fun w' => w'.cell? (ad166.add (x12_2).toNat) = some (.int .i64 (rd x9_3 x12_2)) ∧ w'.cell? (ad167.add (x13_3).toNat) = some (.int .i64 (rd x8_3 x13_3))) (ds := []) (bm 26 0) (by kernel_rfl) rfl (by kernel_rfl) ⟨hx166_0, hx167_0⟩ (fun hHeld => ?_); refine with_tabW spec_l1Cur_order.tab19 spec_l1Cur_order.bits19 (fun HT_ HW_ => ?_)
            generalize wr.drew = w43 at HO_8 HO_9 HO_142001 BK134 BK141 HI0 HK HB hx166_0 hx167_0 hHeld ⊢
            refine purW 0 61 26 1 HT_ ?_
            refine purW 1 62 26 3 HT_ ?_
            refine purW 2 63 26 7 HT_ ?_
            refine purW 3 64 26 15 HT_ ?_
            refine purW 4 65 26 31 HT_ ?_
            refine purW 5 66 26 63 HT_ ?_
            refine purW 7 68 26 191 HT_ ?_
            refine purW 8 69 26 447 HT_ ?_
            refine purW 9 70 26 959 HT_ ?_
            refine takeW 6 (some 67) (bm 26 1023) HT_ HW_ hHeld ?_
            refine takeW 10 (some 71) (bm 26 2047) HT_ HW_ hHeld ?_
            refine purW 11 72 26 4095 HT_ ?_
            refine purW 12 73 26 8191 HT_ ?_
            refine purW 13 74 26 16383 HT_ ?_
            refine purG 14 75 26 32767 HT_ ?_
            refine purG 15 76 26 65535 HT_ ?_
            refine purG 16 77 26 131071 HT_ ?_
            refine purG 17 78 26 262143 HT_ ?_
            refine purG 18 79 26 524287 HT_ ?_
            refine purG 19 80 26 1048575 HT_ ?_
            refine purG 20 81 26 2097151 HT_ ?_
            refine purG 21 82 26 4194303 HT_ ?_
            refine purG 22 83 26 8388607 HT_ ?_
            refine purG 23 84 26 16777215 HT_ ?_
            refine purG 24 85 26 33554431 HT_ ?_
            refine purW 25 86 26 67108863 HT_ ?_
            refine doneW HT_ ?_
            try go_wp2
            replace HO_8 := mkA (Kd.R_drew HO_8.out)
            replace HO_9 := mkA (Kd.R_drew HO_9.out)
            replace HO_142001 := mkA (Kd.R_drew HO_142001.out)
            replace BK134 := mkA (blk_drew BK134.out)
            replace BK141 := mkA (blk_drew BK141.out)
            replace HI0 := mkA (IsS36.drew HI0.out)
            replace HK := mkA (keep_drew HK.out)
            replace HB := mkA (below_drew1 HB.out)
            obtain ⟨Ao47, co47, eo47⟩ := Kd.R_slice HO_142001.out
            (first | subst eo47 | (injection eo47 with f1_ f2_ f3_; have f4_ := f1_.symm; have f5_ := f3_.symm; clear f1_ f2_ f3_; subst f4_; subst f5_))
            obtain ⟨p168, q168, ad168, e168, hx168_0⟩ := atI (Kd.R_reads' HO_142001.out).2.2 x12_2
            cases e168
            have p42 : 0 ≤ (x12_2 : Int) := ofd
            have q42 : (x12_2 : Int) < ((x142001_3.length : Int) : Int) := ofd
            obtain ⟨go42, co42, eo42, gb42, gl42, cl42, HG42⟩ := Kd.R_form HO_142001.out (by omega)
            (first | cases eo42 | (injection eo42 with ea_ en_ ec_; (first | subst ea_ | (injection ea_ with ea_; subst ea_)); subst ec_; clear en_))
            have GB42 : Ge _ _ := ⟨gb42⟩
            have GG42 := mkA HG42
            clear gb42 gl42 HG42
            (first | simp only [add_plain] at hx168_0 | skip)
            obtain ⟨hx42_0, hf42_0⟩ := Kd.R_celln 0 HO_142001.out (x12_2 : Int) p42 q42
            replace p42 := eq_true p42
            replace q42 := eq_true q42
            have HN0_go42 := mkA (show g ≠ go42 from by have h_ := IsS36.own_ne HI0.out HO_142001.out (by decide); intro e_; exact h_ (by rw [e_]; rfl))
            have HP48 := Kd.R_putn HO_142001.out (x12_2 : Int) (Go.bits .or .i64 (rd x142001_3 x12_2) (ji41))
            rw [← Ny169.out] at HP48
            have HQ48 := mkA HP48
            clear HP48
            refine start_ (n := 10) (S := fun w' => w'.cell? ⟨gb141, 0, none⟩ = some (.int .i64 t135) ∧ w'.cell? ⟨gb141, 1, none⟩ = some (.slice (some ⟨go42, 0, none⟩) x142001_3.length co47) ∧ w'.cell? ⟨go42, (x12_2).toNat, none⟩ = some (.int .i64 (rd x142001_3 x12_2))) (ds := [9]) (bm 10 0) (by kernel_rfl) rfl rfl ⟨(blk_cell BK141.out 0).trans rfl, (blk_cell BK141.out 1).trans rfl, hx168_0⟩ (fun hHeld => ?_); refine with_tabW spec_l1Cur_order.tab20 spec_l1Cur_order.bits20 (fun HT_ HW_ => ?_)
            generalize w43.drew = w46 at HO_8 HO_9 HO_142001 BK134 BK141 HI0 HK HB GG42 HQ48 hf42_0 hx168_0 hx42_0 hHeld ⊢
            refine purW 0 87 10 1 HT_ ?_
            refine purW 2 89 10 5 HT_ ?_
            refine purW 5 92 10 37 HT_ ?_
            refine purW 6 93 10 101 HT_ ?_
            refine takeW 1 (some 88) (bm 10 103) HT_ HW_ hHeld ?_
            refine purW 3 90 10 111 HT_ ?_
            refine takeW 4 (some 91) (bm 10 127) HT_ HW_ hHeld ?_
            refine purW 7 94 10 255 HT_ ?_
            refine purW 8 95 10 511 HT_ ?_
            refine last_ (i := 9) (N := none) (bm 10 1023) rfl rfl (one_of HT_.out (by kernel_rfl)) (by decide) (fun K hK => ?_)
            refine skip_ (w1 := ?_) (by rfl) rfl ?_ ?_
            rotate_left
            ·go_simp
             rfl
            refine hK.out _ _ ?_
            clear hK K
            refine doneW HT_ ?_
            try go_wp2
            go_roundg k3
            case measure => have := HK1.out; have := HK2.out; have := HK3.out; omega
            case rel => exact ⟨(x8_3), (x9_3), (wrap64 (x13_3 + 1)), (x1001_3), (x1002_3), (y169), (.slice (some ⟨go42, 0, none⟩) x142001_3.length co47), eqS, H', ⟨by have := HK1.out; have := HK2.out; have := HK3.out; omega⟩, ⟨Kd.R_g (Kd.R_mono (Kd.R_far (p := ⟨go42, (x12_2 : Int).toNat, none⟩) (Kd.R_mono HO_8.out (fun k_ hk => (⟨hk, fun e_ => hk.2 (by rw [e_]; rfl)⟩ : _ ∧ k_ ≠ go42))) (fun _ hk => hk.2) (.int .i64 (Go.bits .or .i64 (rd x142001_3 x12_2) (ji41)))) (fun _ hk => ⟨hk.1.1, hk.1.2⟩))⟩, ⟨Kd.R_g (Kd.R_mono (Kd.R_far (p := ⟨go42, (x12_2 : Int).toNat, none⟩) (Kd.R_mono HO_9.out (fun k_ hk => (⟨hk, fun e_ => hk.2 (by rw [e_]; rfl)⟩ : _ ∧ k_ ≠ go42))) (fun _ hk => hk.2) (.int .i64 (Go.bits .or .i64 (rd x142001_3 x12_2) (ji41)))) (fun _ hk => ⟨hk.1.1, hk.1.2⟩))⟩, ⟨Kd.R_g HQ48.out⟩, ⟨by (with_reducible repeat (first | refine blk_drewN ?_ _ | refine blk_drew ?_ | refine blk_alloc ?_ _)); refine blk_far ?_ (by have h_ := Kd.R_ne HO_142001.out BK134.out (by decide); intro e_; exact h_ (by rw [e_]; rfl)) _; (with_reducible repeat (first | refine blk_drewN ?_ _ | refine blk_drew ?_ | refine blk_alloc ?_ _)); exact BK134.out⟩, ⟨by (with_reducible repeat (first | refine blk_drewN ?_ _ | refine blk_drew ?_ | refine blk_alloc ?_ _)); refine blk_far ?_ (by have h_ := Kd.R_ne HO_142001.out BK141.out (by decide); intro e_; exact h_ (by rw [e_]; rfl)) _; (with_reducible repeat (first | refine blk_drewN ?_ _ | refine blk_drew ?_ | refine blk_alloc ?_ _)); exact BK141.out⟩, ⟨by exact st36_3 HI0.out HN0_go42.out NB0_134.out NB0_141.out⟩, ⟨by exact kb36_3 HK.out GB42.out GW134.out GW141.out⟩, ⟨by repeat (first | (with_reducible first | exact HB.out | apply below_alloc | apply pw_below_drewN | apply below_drew1 | refine below_set ?_ (Nat.le_trans HL.out GB42.out) | refine below_set ?_ (IsS36.ge HI0.out) | refine below_set ?_ GE134.out | refine below_set ?_ GE141.out) | exact HB.out)⟩⟩
           ·rcases iteP H with ⟨c49, H⟩ | ⟨c49, H⟩
            ·have c49b0 := beq_iff_eq.mpr c49
             have c49b1 := bne_eq_false_iff_eq.mpr c49
             clear c49
             rcases iteE H with ⟨c50b0, H⟩ | ⟨c50b0, H⟩
             ·obtain ⟨⟨t170, t171, t172⟩, A51, H⟩ := obE H
              dsimp only at H
              by_cases c52 : t170 = true
              ·subst c52
               replace H := ifT H
               obtain ⟨c53b0, H⟩ := itND H
               have c54b0 := eq_true (ofd : 0 ≤ x13_3)
               obtain ⟨ji55, hji55⟩ : ∃ j_ : Int, (shl .i64 1 x13_3) = j_ := ⟨_, rfl⟩
               first | rw [hji55] at H | simp only [hji55] at H
               (try rw [hji55] at A51)
               have hji55_ : (IntKind.i64.wrap (1 * 2 ^ min x13_3.toNat 64)) = ji55 := hji55
               have hji55z : x13_3 ≤ 64 → (IntKind.i64.wrap (1 * 2 ^ x13_3.toNat)) = ji55 := shl_small hji55
               have hji55u : (IntKind.i64.wrap (2 ^ min x13_3.toNat 64)) = ji55 := by have h_ := hji55_; rw [Int.one_mul] at h_; exact h_
               have hji55v : x13_3 ≤ 64 → (IntKind.i64.wrap (2 ^ x13_3.toNat)) = ji55 := fun hle_ => by have h_ := hji55z hle_; rw [Int.one_mul] at h_; exact h_
               have hji55y : (wrap64 (1 * 2 ^ min x13_3.toNat 64)) = ji55 := (i64_w _).symm.trans hji55_
               have hji55x : x13_3 ≤ 64 → (wrap64 (1 * 2 ^ x13_3.toNat)) = ji55 := fun h_ => (i64_w _).symm.trans (hji55z h_)
               obtain ⟨y174, hy174⟩ : ∃ y_ : List Int, y_ = (x142001_3.set (x12_2 : Int).toNat (Go.bits .or .i64 (rd x142001_3 x12_2) (ji55))) := ⟨_, rfl⟩
               rw [← hy174] at H
               have Ny174 := mkA hy174
               clear hy174
               have H' := mkA H
               clear H
               try go_wp2
               replace HO_8 := mkA (Kd.R_drew HO_8.out)
               replace HO_9 := mkA (Kd.R_drew HO_9.out)
               replace HO_142001 := mkA (Kd.R_drew HO_142001.out)
               replace BK134 := mkA (blk_drew BK134.out)
               replace BK141 := mkA (blk_drew BK141.out)
               replace HI0 := mkA (IsS36.drew HI0.out)
               replace HK := mkA (keep_drew HK.out)
               replace HB := mkA (below_drew1 HB.out)
               obtain ⟨Ao58, co58, eo58⟩ := Kd.R_slice HO_9.out
               (first | subst eo58 | (injection eo58 with f1_ f2_ f3_; have f4_ := f1_.symm; have f5_ := f3_.symm; clear f1_ f2_ f3_; subst f4_; subst f5_))
               obtain ⟨p166, q166, ad166, e166, hx166_0⟩ := atI (Kd.R_reads' HO_9.out).2.2 x12_2
               cases e166
               obtain ⟨Ao59, co59, eo59⟩ := Kd.R_slice HO_8.out
               (first | subst eo59 | (injection eo59 with f1_ f2_ f3_; have f4_ := f1_.symm; have f5_ := f3_.symm; clear f1_ f2_ f3_; subst f4_; subst f5_))
               obtain ⟨p167, q167, ad167, e167, hx167_0⟩ := atI (Kd.R_reads' HO_8.out).2.2 x13_3
               cases e167
               refine start_ (n := 26) (S := fun w' => w'.cell? (ad166.add (x12_2).toNat) = some (.int .i64 (rd x9_3 x12_2)) ∧ w'.cell? (ad167.add (x13_3).toNat) = some (.int .i64 (rd x8_3 x13_3))) (ds := []) (bm 26 0) (by kernel_rfl) rfl (by kernel_rfl) ⟨hx166_0, hx167_0⟩ (fun hHeld => ?_); refine with_tabW spec_l1Cur_order.tab19 spec_l1Cur_order.bits19 (fun HT_ HW_ => ?_)
               generalize wr.drew = w57 at HO_8 HO_9 HO_142001 BK134 BK141 HI0 HK HB hx166_0 hx167_0 hHeld ⊢
               refine purW 0 61 26 1 HT_ ?_
               refine purW 1 62 26 3 HT_ ?_
               refine purW 2 63 26 7 HT_ ?_
               refine purW 3 64 26 15 HT_ ?_
               refine purW 4 65 26 31 HT_ ?_
               refine purW 5 66 26 63 HT_ ?_
               refine purW 7 68 26 191 HT_ ?_
               refine purW 8 69 26 447 HT_ ?_
               refine purW 9 70 26 959 HT_ ?_
               refine takeW 6 (some 67) (bm 26 1023) HT_ HW_ hHeld ?_
               refine takeW 10 (some 71) (bm 26 2047) HT_ HW_ hHeld ?_
               refine purW 11 72 26 4095 HT_ ?_
               refine purW 12 73 26 8191 HT_ ?_
               refine purW 13 74 26 16383 HT_ ?_
               refine purW 14 75 26 32767 HT_ ?_
               refine purW 15 76 26 65535 HT_ ?_
               refine purW 16 77 26 131071 HT_ ?_
               refine purW 17 78 26 262143 HT_ ?_
               refine purW 18 79 26 524287 HT_ ?_
               refine purW 19 80 26 1048575 HT_ ?_
               refine purW 20 81 26 2097151 HT_ ?_
               refine purW 21 82 26 4194303 HT_ ?_
               refine purW 22 83 26 8388607 HT_ ?_
               refine oneW 23 (some 84) (bm 26 16777215) HT_ (fun K hK => ?_)
               refine goesR Tryd.func39 #[.pointer (some ⟨g, 0, none⟩), .int .i64 3] ?_
               with_reducible refine (spec_l1Cur_one.calls g s0_0 x1001_3 x1002_3 3 true t171 t172 w0 _ ?s1 ?s2 A51.out).mono ?_
               (case s1 => exact st36_2 HI0.out NB0_134.out NB0_141.out)
               (case s2 => exact bl36_2 HB.out HI0.out GE134.out GE141.out)
               rintro e w60 ⟨rfl, hi, hb, hk⟩
               have HS0_ := keep_cell hk (hHeld.1) (by first | (rw [add_block]; exact Kd.own_blk (IsS36.own_ne HI0.out HO_9.out (by decide))) | (show (Addr.add _ _).block ≠ _; rw [add_block]; exact Kd.own_blk (IsS36.own_ne HI0.out HO_9.out (by decide))) | exact Kd.own_blk (IsS36.own_ne HI0.out HO_9.out (by decide)))
               have HS1_ := keep_cell hk (hHeld.2) (by first | (rw [add_block]; exact Kd.own_blk (IsS36.own_ne HI0.out HO_8.out (by decide))) | (show (Addr.add _ _).block ≠ _; rw [add_block]; exact Kd.own_blk (IsS36.own_ne HI0.out HO_8.out (by decide))) | exact Kd.own_blk (IsS36.own_ne HI0.out HO_8.out (by decide)))
               refine ⟨_, rfl, ?_⟩
               replace HO_8 := rK (IsS36.apart (show IsS36 w0 _ g s0_0 x1001_3 x1002_3 from by exact st36_2 HI0.out NB0_134.out NB0_141.out) (Kd.R_g HO_8.out) (by decide)) hk
               replace HO_9 := rK (IsS36.apart (show IsS36 w0 _ g s0_0 x1001_3 x1002_3 from by exact st36_2 HI0.out NB0_134.out NB0_141.out) (Kd.R_g HO_9.out) (by decide)) hk
               replace HO_142001 := rK (IsS36.apart (show IsS36 w0 _ g s0_0 x1001_3 x1002_3 from by exact st36_2 HI0.out NB0_134.out NB0_141.out) (Kd.R_g HO_142001.out) (by decide)) hk
               replace BK134 := kB hk BK134
               replace BK141 := kB hk BK141
               replace HK := kT (by exact kb36_2 HK.out GW134.out GW141.out) hk
               replace HI0 := mkA (hi)
               replace HB := mkA (hb)
               (try clear hb)
               (try clear hb2)
               (try clear hk)
               (try clear hi)
               refine hK.out _ _ ⟨HS0_, HS1_⟩ (fun hHeld => ?_)
               clear hK K
               refine normW 84 ?_
               refine purW 24 85 26 33554431 HT_ ?_
               refine purW 25 86 26 67108863 HT_ ?_
               refine doneW HT_ ?_
               try go_wp2
               replace HO_8 := mkA (Kd.R_drew HO_8.out)
               replace HO_9 := mkA (Kd.R_drew HO_9.out)
               replace HO_142001 := mkA (Kd.R_drew HO_142001.out)
               replace BK134 := mkA (blk_drew BK134.out)
               replace BK141 := mkA (blk_drew BK141.out)
               replace HI0 := mkA (IsS36.drew HI0.out)
               replace HK := mkA (keep_drew HK.out)
               replace HB := mkA (below_drew1 HB.out)
               obtain ⟨Ao62, co62, eo62⟩ := Kd.R_slice HO_142001.out
               (first | subst eo62 | (injection eo62 with f1_ f2_ f3_; have f4_ := f1_.symm; have f5_ := f3_.symm; clear f1_ f2_ f3_; subst f4_; subst f5_))
               obtain ⟨p173, q173, ad173, e173, hx173_0⟩ := atI (Kd.R_reads' HO_142001.out).2.2 x12_2
               cases e173
               have p56 : 0 ≤ (x12_2 : Int) := ofd
               have q56 : (x12_2 : Int) < ((x142001_3.length : Int) : Int) := ofd
               obtain ⟨go56, co56, eo56, gb56, gl56, cl56, HG56⟩ := Kd.R_form HO_142001.out (by omega)
               (first | cases eo56 | (injection eo56 with ea_ en_ ec_; (first | subst ea_ | (injection ea_ with ea_; subst ea_)); subst ec_; clear en_))
               have GB56 : Ge _ _ := ⟨gb56⟩
               have GG56 := mkA HG56
               clear gb56 gl56 HG56
               (first | simp only [add_plain] at hx173_0 | skip)
               obtain ⟨hx56_0, hf56_0⟩ := Kd.R_celln 0 HO_142001.out (x12_2 : Int) p56 q56
               replace p56 := eq_true p56
               replace q56 := eq_true q56
               have HN0_go56 := mkA (show g ≠ go56 from by have h_ := IsS36.own_ne HI0.out HO_142001.out (by decide); intro e_; exact h_ (by rw [e_]; rfl))
               have HP63 := Kd.R_putn HO_142001.out (x12_2 : Int) (Go.bits .or .i64 (rd x142001_3 x12_2) (ji55))
               rw [← Ny174.out] at HP63
               have HQ63 := mkA HP63
               clear HP63
               refine start_ (n := 10) (S := fun w' => w'.cell? ⟨gb141, 0, none⟩ = some (.int .i64 t135) ∧ w'.cell? ⟨gb141, 1, none⟩ = some (.slice (some ⟨go56, 0, none⟩) x142001_3.length co62) ∧ w'.cell? ⟨go56, (x12_2).toNat, none⟩ = some (.int .i64 (rd x142001_3 x12_2))) (ds := [9]) (bm 10 0) (by kernel_rfl) rfl rfl ⟨(blk_cell BK141.out 0).trans rfl, (blk_cell BK141.out 1).trans rfl, hx173_0⟩ (fun hHeld => ?_); refine with_tabW spec_l1Cur_order.tab20 spec_l1Cur_order.bits20 (fun HT_ HW_ => ?_)
               generalize w60.drew = w61 at HO_8 HO_9 HO_142001 BK134 BK141 HI0 HK HB GG56 HQ63 hf56_0 hx173_0 hx56_0 hHeld ⊢
               refine purW 0 87 10 1 HT_ ?_
               refine purW 2 89 10 5 HT_ ?_
               refine purW 5 92 10 37 HT_ ?_
               refine purW 6 93 10 101 HT_ ?_
               refine takeW 1 (some 88) (bm 10 103) HT_ HW_ hHeld ?_
               refine purW 3 90 10 111 HT_ ?_
               refine takeW 4 (some 91) (bm 10 127) HT_ HW_ hHeld ?_
               refine purW 7 94 10 255 HT_ ?_
               refine purW 8 95 10 511 HT_ ?_
               refine last_ (i := 9) (N := none) (bm 10 1023) rfl rfl (one_of HT_.out (by kernel_rfl)) (by decide) (fun K hK => ?_)
               refine skip_ (w1 := ?_) (by rfl) rfl ?_ ?_
               rotate_left
               ·go_simp
                rfl
               refine hK.out _ _ ?_
               clear hK K
               refine doneW HT_ ?_
               try go_wp2
               go_roundg k3
               case measure => have := HK1.out; have := HK2.out; have := HK3.out; omega
               case rel => exact ⟨(x8_3), (x9_3), (wrap64 (x13_3 + 1)), (t171), (t172), (y174), (.slice (some ⟨go56, 0, none⟩) x142001_3.length co62), eqS, H', ⟨by have := HK1.out; have := HK2.out; have := HK3.out; omega⟩, ⟨Kd.R_g (Kd.R_mono (Kd.R_far (p := ⟨go56, (x12_2 : Int).toNat, none⟩) (Kd.R_mono HO_8.out (fun k_ hk => (⟨hk, fun e_ => hk.2 (by rw [e_]; rfl)⟩ : _ ∧ k_ ≠ go56))) (fun _ hk => hk.2) (.int .i64 (Go.bits .or .i64 (rd x142001_3 x12_2) (ji55)))) (fun _ hk => ⟨hk.1.1, hk.1.2⟩))⟩, ⟨Kd.R_g (Kd.R_mono (Kd.R_far (p := ⟨go56, (x12_2 : Int).toNat, none⟩) (Kd.R_mono HO_9.out (fun k_ hk => (⟨hk, fun e_ => hk.2 (by rw [e_]; rfl)⟩ : _ ∧ k_ ≠ go56))) (fun _ hk => hk.2) (.int .i64 (Go.bits .or .i64 (rd x142001_3 x12_2) (ji55)))) (fun _ hk => ⟨hk.1.1, hk.1.2⟩))⟩, ⟨Kd.R_g HQ63.out⟩, ⟨by (with_reducible repeat (first | refine blk_drewN ?_ _ | refine blk_drew ?_ | refine blk_alloc ?_ _)); refine blk_far ?_ (by have h_ := Kd.R_ne HO_142001.out BK134.out (by decide); intro e_; exact h_ (by rw [e_]; rfl)) _; (with_reducible repeat (first | refine blk_drewN ?_ _ | refine blk_drew ?_ | refine blk_alloc ?_ _)); exact BK134.out⟩, ⟨by (with_reducible repeat (first | refine blk_drewN ?_ _ | refine blk_drew ?_ | refine blk_alloc ?_ _)); refine blk_far ?_ (by have h_ := Kd.R_ne HO_142001.out BK141.out (by decide); intro e_; exact h_ (by rw [e_]; rfl)) _; (with_reducible repeat (first | refine blk_drewN ?_ _ | refine blk_drew ?_ | refine blk_alloc ?_ _)); exact BK141.out⟩, ⟨by exact st36_3 HI0.out HN0_go56.out NB0_134.out NB0_141.out⟩, ⟨by exact kb36_3 HK.out GB56.out GW134.out GW141.out⟩, ⟨by repeat (first | (with_reducible first | exact HB.out | apply below_alloc | apply pw_below_drewN | apply below_drew1 | refine below_set ?_ (Nat.le_trans HL.out GB56.out) | refine below_set ?_ (IsS36.ge HI0.out) | refine below_set ?_ GE134.out | refine below_set ?_ GE141.out) | exact HB.out)⟩⟩
              ·replace c52 := Bool.eq_false_iff.mpr c52
               subst c52
               replace H := ifF H
               have H' := mkA H
               clear H
               try go_wp2
               replace HO_8 := mkA (Kd.R_drew HO_8.out)
               replace HO_9 := mkA (Kd.R_drew HO_9.out)
               replace HO_142001 := mkA (Kd.R_drew HO_142001.out)
               replace BK134 := mkA (blk_drew BK134.out)
               replace BK141 := mkA (blk_drew BK141.out)
               replace HI0 := mkA (IsS36.drew HI0.out)
               replace HK := mkA (keep_drew HK.out)
               replace HB := mkA (below_drew1 HB.out)
               obtain ⟨Ao65, co65, eo65⟩ := Kd.R_slice HO_9.out
               (first | subst eo65 | (injection eo65 with f1_ f2_ f3_; have f4_ := f1_.symm; have f5_ := f3_.symm; clear f1_ f2_ f3_; subst f4_; subst f5_))
               obtain ⟨p166, q166, ad166, e166, hx166_0⟩ := atI (Kd.R_reads' HO_9.out).2.2 x12_2
               cases e166
               obtain ⟨Ao66, co66, eo66⟩ := Kd.R_slice HO_8.out
               (first | subst eo66 | (injection eo66 with f1_ f2_ f3_; have f4_ := f1_.symm; have f5_ := f3_.symm; clear f1_ f2_ f3_; subst f4_; subst f5_))
               obtain ⟨p167, q167, ad167, e167, hx167_0⟩ := atI (Kd.R_reads' HO_8.out).2.2 x13_3
               cases e167
               refine start_ (n := 26) (S := fun w' => w'.cell? (ad166.add (x12_2).toNat) = some (.int .i64 (rd x9_3 x12_2)) ∧ w'.cell? (ad167.add (x13_3).toNat) = some (.int .i64 (rd x8_3 x13_3))) (ds := []) (bm 26 0) (by kernel_rfl) rfl (by kernel_rfl) ⟨hx166_0, hx167_0⟩ (fun hHeld => ?_); refine with_tabW spec_l1Cur_order.tab19 spec_l1Cur_order.bits19 (fun HT_ HW_ => ?_)
               generalize wr.drew = w64 at HO_8 HO_9 HO_142001 BK134 BK141 HI0 HK HB hx166_0 hx167_0 hHeld ⊢
               refine purW 0 61 26 1 HT_ ?_
               refine purW 1 62 26 3 HT_ ?_
               refine purW 2 63 26 7 HT_ ?_
               refine purW 3 64 26 15 HT_ ?_
               refine purW 4 65 26 31 HT_ ?_
               refine purW 5 66 26 63 HT_ ?_
               refine purW 7 68 26 191 HT_ ?_
               refine purW 8 69 26 447 HT_ ?_
               refine purW 9 70 26 959 HT_ ?_
               refine takeW 6 (some 67) (bm 26 1023) HT_ HW_ hHeld ?_
               refine takeW 10 (some 71) (bm 26 2047) HT_ HW_ hHeld ?_
               refine purW 11 72 26 4095 HT_ ?_
               refine purW 12 73 26 8191 HT_ ?_
               refine purW 13 74 26 16383 HT_ ?_
               refine purW 14 75 26 32767 HT_ ?_
               refine purW 15 76 26 65535 HT_ ?_
               refine purW 16 77 26 131071 HT_ ?_
               refine purW 17 78 26 262143 HT_ ?_
               refine purW 18 79 26 524287 HT_ ?_
               refine purW 19 80 26 1048575 HT_ ?_
               refine purW 20 81 26 2097151 HT_ ?_
               refine purW 21 82 26 4194303 HT_ ?_
               refine purW 22 83 26 8388607 HT_ ?_
               refine oneW 23 (some 84) (bm 26 16777215) HT_ (fun K hK => ?_)
               refine goesR Tryd.func39 #[.pointer (some ⟨g, 0, none⟩), .int .i64 3] ?_
               with_reducible refine (spec_l1Cur_one.calls g s0_0 x1001_3 x1002_3 3 false t171 t172 w0 _ ?s1 ?s2 A51.out).mono ?_
               (case s1 => exact st36_2 HI0.out NB0_134.out NB0_141.out)
               (case s2 => exact bl36_2 HB.out HI0.out GE134.out GE141.out)
               rintro e w67 ⟨rfl, hi, hb, hk⟩
               have HS0_ := keep_cell hk (hHeld.1) (by first | (rw [add_block]; exact Kd.own_blk (IsS36.own_ne HI0.out HO_9.out (by decide))) | (show (Addr.add _ _).block ≠ _; rw [add_block]; exact Kd.own_blk (IsS36.own_ne HI0.out HO_9.out (by decide))) | exact Kd.own_blk (IsS36.own_ne HI0.out HO_9.out (by decide)))
               have HS1_ := keep_cell hk (hHeld.2) (by first | (rw [add_block]; exact Kd.own_blk (IsS36.own_ne HI0.out HO_8.out (by decide))) | (show (Addr.add _ _).block ≠ _; rw [add_block]; exact Kd.own_blk (IsS36.own_ne HI0.out HO_8.out (by decide))) | exact Kd.own_blk (IsS36.own_ne HI0.out HO_8.out (by decide)))
               refine ⟨_, rfl, ?_⟩
               replace HO_8 := rK (IsS36.apart (show IsS36 w0 _ g s0_0 x1001_3 x1002_3 from by exact st36_2 HI0.out NB0_134.out NB0_141.out) (Kd.R_g HO_8.out) (by decide)) hk
               replace HO_9 := rK (IsS36.apart (show IsS36 w0 _ g s0_0 x1001_3 x1002_3 from by exact st36_2 HI0.out NB0_134.out NB0_141.out) (Kd.R_g HO_9.out) (by decide)) hk
               replace HO_142001 := rK (IsS36.apart (show IsS36 w0 _ g s0_0 x1001_3 x1002_3 from by exact st36_2 HI0.out NB0_134.out NB0_141.out) (Kd.R_g HO_142001.out) (by decide)) hk
               replace BK134 := kB hk BK134
               replace BK141 := kB hk BK141
               replace HK := kT (by exact kb36_2 HK.out GW134.out GW141.out) hk
               replace HI0 := mkA (hi)
               replace HB := mkA (hb)
               (try clear hb)
               (try clear hb2)
               (try clear hk)
               (try clear hi)
               refine hK.out _ _ ⟨HS0_, HS1_⟩ (fun hHeld => ?_)
               clear hK K
               refine normW 84 ?_
               refine purW 24 85 26 33554431 HT_ ?_
               refine purW 25 86 26 67108863 HT_ ?_
               refine doneW HT_ ?_
               try go_wp2
               go_roundg k3
               case measure => have := HK1.out; have := HK2.out; have := HK3.out; omega
               case rel => exact ⟨(x8_3), (x9_3), (wrap64 (x13_3 + 1)), (t171), (t172), (x142001_3), (u142001), eqS, H', ⟨by have := HK1.out; have := HK2.out; have := HK3.out; omega⟩, rg HO_8, rg HO_9, rg HO_142001, bg BK134, bg BK141, ⟨by exact st36_2 HI0.out NB0_134.out NB0_141.out⟩, ⟨by exact kb36_2 HK.out GW134.out GW141.out⟩, ⟨by exact bl36_2 HB.out HI0.out GE134.out GE141.out⟩⟩
             ·have H' := mkA H
              clear H
              try go_wp2
              replace HO_8 := mkA (Kd.R_drew HO_8.out)
              replace HO_9 := mkA (Kd.R_drew HO_9.out)
              replace HO_142001 := mkA (Kd.R_drew HO_142001.out)
              replace BK134 := mkA (blk_drew BK134.out)
              replace BK141 := mkA (blk_drew BK141.out)
              replace HI0 := mkA (IsS36.drew HI0.out)
              replace HK := mkA (keep_drew HK.out)
              replace HB := mkA (below_drew1 HB.out)
              obtain ⟨Ao69, co69, eo69⟩ := Kd.R_slice HO_9.out
              (first | subst eo69 | (injection eo69 with f1_ f2_ f3_; have f4_ := f1_.symm; have f5_ := f3_.symm; clear f1_ f2_ f3_; subst f4_; subst f5_))
              obtain ⟨p166, q166, ad166, e166, hx166_0⟩ := atI (Kd.R_reads' HO_9.out).2.2 x12_2
              cases e166
              obtain ⟨Ao70, co70, eo70⟩ := Kd.R_slice HO_8.out
              (first | subst eo70 | (injection eo70 with f1_ f2_ f3_; have f4_ := f1_.symm; have f5_ := f3_.symm; clear f1_ f2_ f3_; subst f4_; subst f5_))
              obtain ⟨p167, q167, ad167, e167, hx167_0⟩ := atI (Kd.R_reads' HO_8.out).2.2 x13_3
              cases e167
              refine start_ (n := 26) (S := fun w' => w'.cell? (ad166.add (x12_2).toNat) = some (.int .i64 (rd x9_3 x12_2)) ∧ w'.cell? (ad167.add (x13_3).toNat) = some (.int .i64 (rd x8_3 x13_3))) (ds := []) (bm 26 0) (by kernel_rfl) rfl (by kernel_rfl) ⟨hx166_0, hx167_0⟩ (fun hHeld => ?_); refine with_tabW spec_l1Cur_order.tab19 spec_l1Cur_order.bits19 (fun HT_ HW_ => ?_)
              generalize wr.drew = w68 at HO_8 HO_9 HO_142001 BK134 BK141 HI0 HK HB hx166_0 hx167_0 hHeld ⊢
              refine purW 0 61 26 1 HT_ ?_
              refine purW 1 62 26 3 HT_ ?_
              refine purW 2 63 26 7 HT_ ?_
              refine purW 3 64 26 15 HT_ ?_
              refine purW 4 65 26 31 HT_ ?_
              refine purW 5 66 26 63 HT_ ?_
              refine purW 7 68 26 191 HT_ ?_
              refine purW 8 69 26 447 HT_ ?_
              refine purW 9 70 26 959 HT_ ?_
              refine takeW 6 (some 67) (bm 26 1023) HT_ HW_ hHeld ?_
              refine takeW 10 (some 71) (bm 26 2047) HT_ HW_ hHeld ?_
              refine purW 11 72 26 4095 HT_ ?_
              refine purW 12 73 26 8191 HT_ ?_
              refine purW 13 74 26 16383 HT_ ?_
              refine purW 14 75 26 32767 HT_ ?_
              refine purW 15 76 26 65535 HT_ ?_
              refine purW 16 77 26 131071 HT_ ?_
              refine purW 17 78 26 262143 HT_ ?_
              refine purW 18 79 26 524287 HT_ ?_
              refine purW 19 80 26 1048575 HT_ ?_
              refine purW 20 81 26 2097151 HT_ ?_
              refine purW 21 82 26 4194303 HT_ ?_
              refine purG 22 83 26 8388607 HT_ ?_
              refine purG 23 84 26 16777215 HT_ ?_
              refine purW 24 85 26 33554431 HT_ ?_
              refine purW 25 86 26 67108863 HT_ ?_
              refine doneW HT_ ?_
              try go_wp2
              go_roundg k3
              case measure => have := HK1.out; have := HK2.out; have := HK3.out; omega
              case rel => exact ⟨(x8_3), (x9_3), (wrap64 (x13_3 + 1)), (x1001_3), (x1002_3), (x142001_3), (u142001), eqS, H', ⟨by have := HK1.out; have := HK2.out; have := HK3.out; omega⟩, rg HO_8, rg HO_9, rg HO_142001, bg BK134, bg BK141, ⟨by exact st36_2 HI0.out NB0_134.out NB0_141.out⟩, ⟨by exact kb36_2 HK.out GW134.out GW141.out⟩, ⟨by exact bl36_2 HB.out HI0.out GE134.out GE141.out⟩⟩
            ·have c49b0 := beq_eq_false_iff_ne.mpr c49
             have c49b1 := bne_iff_ne.mpr c49
             have H' := mkA H
             clear H
             try go_wp2
             replace HO_8 := mkA (Kd.R_drew HO_8.out)
             replace HO_9 := mkA (Kd.R_drew HO_9.out)
             replace HO_142001 := mkA (Kd.R_drew HO_142001.out)
             replace BK134 := mkA (blk_drew BK134.out)
             replace BK141 := mkA (blk_drew BK141.out)
             replace HI0 := mkA (IsS36.drew HI0.out)
             replace HK := mkA (keep_drew HK.out)
             replace HB := mkA (below_drew1 HB.out)
             obtain ⟨Ao72, co72, eo72⟩ := Kd.R_slice HO_9.out
             (first | subst eo72 | (injection eo72 with f1_ f2_ f3_; have f4_ := f1_.symm; have f5_ := f3_.symm; clear f1_ f2_ f3_; subst f4_; subst f5_))
             obtain ⟨p166, q166, ad166, e166, hx166_0⟩ := atI (Kd.R_reads' HO_9.out).2.2 x12_2
             cases e166
             obtain ⟨Ao73, co73, eo73⟩ := Kd.R_slice HO_8.out
             (first | subst eo73 | (injection eo73 with f1_ f2_ f3_; have f4_ := f1_.symm; have f5_ := f3_.symm; clear f1_ f2_ f3_; subst f4_; subst f5_))
             obtain ⟨p167, q167, ad167, e167, hx167_0⟩ := atI (Kd.R_reads' HO_8.out).2.2 x13_3
             cases e167
             refine start_ (n := 26) (S := fun w' => w'.cell? (ad166.add (x12_2).toNat) = some (.int .i64 (rd x9_3 x12_2)) ∧ w'.cell? (ad167.add (x13_3).toNat) = some (.int .i64 (rd x8_3 x13_3))) (ds := []) (bm 26 0) (by kernel_rfl) rfl (by kernel_rfl) ⟨hx166_0, hx167_0⟩ (fun hHeld => ?_); refine with_tabW spec_l1Cur_order.tab19 spec_l1Cur_order.bits19 (fun HT_ HW_ => ?_)
             generalize wr.drew = w71 at HO_8 HO_9 HO_142001 BK134 BK141 HI0 HK HB hx166_0 hx167_0 hHeld ⊢
             refine purW 0 61 26 1 HT_ ?_
             refine purW 1 62 26 3 HT_ ?_
             refine purW 2 63 26 7 HT_ ?_
             refine purW 3 64 26 15 HT_ ?_
             refine purW 4 65 26 31 HT_ ?_
             refine purW 5 66 26 63 HT_ ?_
             refine purW 7 68 26 191 HT_ ?_
             refine purW 8 69 26 447 HT_ ?_
             refine purW 9 70 26 959 HT_ ?_
             refine takeW 6 (some 67) (bm 26 1023) HT_ HW_ hHeld ?_
             refine takeW 10 (some 71) (bm 26 2047) HT_ HW_ hHeld ?_
             refine purW 11 72 26 4095 HT_ ?_
             refine purW 12 73 26 8191 HT_ ?_
             refine purW 13 74 26 16383 HT_ ?_
             refine purW 14 75 26 32767 HT_ ?_
             refine purW 15 76 26 65535 HT_ ?_
             refine purW 16 77 26 131071 HT_ ?_
             refine purG 17 78 26 262143 HT_ ?_
             refine purG 18 79 26 524287 HT_ ?_
             refine purG 19 80 26 1048575 HT_ ?_
             refine purW 20 81 26 2097151 HT_ ?_
             refine purW 21 82 26 4194303 HT_ ?_
             refine purG 22 83 26 8388607 HT_ ?_
             refine purG 23 84 26 16777215 HT_ ?_
             refine purW 24 85 26 33554431 HT_ ?_
             refine purW 25 86 26 67108863 HT_ ?_
             refine doneW HT_ ?_
             try go_wp2
             go_roundg k3
             case measure => have := HK1.out; have := HK2.out; have := HK3.out; omega
             case rel => exact ⟨(x8_3), (x9_3), (wrap64 (x13_3 + 1)), (x1001_3), (x1002_3), (x142001_3), (u142001), eqS, H', ⟨by have := HK1.out; have := HK2.out; have := HK3.out; omega⟩, rg HO_8, rg HO_9, rg HO_142001, bg BK134, bg BK141, ⟨by exact st36_2 HI0.out NB0_134.out NB0_141.out⟩, ⟨by exact kb36_2 HK.out GW134.out GW141.out⟩, ⟨by exact bl36_2 HB.out HI0.out GE134.out GE141.out⟩⟩
          ·have c33b0 := decide_eq_false c33
           clear c33
           rcases iteP H with ⟨c74, H⟩ | ⟨c74, H⟩
           ·have c74b0 := beq_iff_eq.mpr c74
            have c74b1 := bne_eq_false_iff_eq.mpr c74
            clear c74
            rcases iteE H with ⟨c75b0, H⟩ | ⟨c75b0, H⟩
            ·obtain ⟨⟨t175, t176, t177⟩, A76, H⟩ := obE H
             dsimp only at H
             by_cases c77 : t175 = true
             ·subst c77
              replace H := ifT H
              obtain ⟨c78b0, H⟩ := itND H
              obtain ⟨c79b0, H⟩ := itND H
              obtain ⟨c80b0, c80b1, H⟩ := itNQ H
              obtain ⟨ji81, hji81⟩ : ∃ j_ : Int, (shl .i64 1 x13_3) = j_ := ⟨_, rfl⟩
              first | rw [hji81] at H | simp only [hji81] at H
              (try rw [hji81] at A76)
              have hji81_ : (IntKind.i64.wrap (1 * 2 ^ min x13_3.toNat 64)) = ji81 := hji81
              have hji81z : x13_3 ≤ 64 → (IntKind.i64.wrap (1 * 2 ^ x13_3.toNat)) = ji81 := shl_small hji81
              have hji81u : (IntKind.i64.wrap (2 ^ min x13_3.toNat 64)) = ji81 := by have h_ := hji81_; rw [Int.one_mul] at h_; exact h_
              have hji81v : x13_3 ≤ 64 → (IntKind.i64.wrap (2 ^ x13_3.toNat)) = ji81 := fun hle_ => by have h_ := hji81z hle_; rw [Int.one_mul] at h_; exact h_
              have hji81y : (wrap64 (1 * 2 ^ min x13_3.toNat 64)) = ji81 := (i64_w _).symm.trans hji81_
              have hji81x : x13_3 ≤ 64 → (wrap64 (1 * 2 ^ x13_3.toNat)) = ji81 := fun h_ => (i64_w _).symm.trans (hji81z h_)
              obtain ⟨y179, hy179⟩ : ∃ y_ : List Int, y_ = (x142001_3.set (x12_2 : Int).toNat (Go.bits .or .i64 (rd x142001_3 x12_2) (ji81))) := ⟨_, rfl⟩
              rw [← hy179] at H
              have Ny179 := mkA hy179
              clear hy179
              have H' := mkA H
              clear H
              try go_wp2
              replace HO_8 := mkA (Kd.R_drew HO_8.out)
              replace HO_9 := mkA (Kd.R_drew HO_9.out)
              replace HO_142001 := mkA (Kd.R_drew HO_142001.out)
              replace BK134 := mkA (blk_drew BK134.out)
              replace BK141 := mkA (blk_drew BK141.out)
              replace HI0 := mkA (IsS36.drew HI0.out)
              replace HK := mkA (keep_drew HK.out)
              replace HB := mkA (below_drew1 HB.out)
              refine start_ (n := 26) (S := fun w' => True) (ds := []) (bm 26 0) (by kernel_rfl) rfl (by kernel_rfl) trivial (fun hHeld => ?_); refine with_tabW spec_l1Cur_order.tab19 spec_l1Cur_order.bits19 (fun HT_ HW_ => ?_)
              generalize wr.drew = w83 at HO_8 HO_9 HO_142001 BK134 BK141 HI0 HK HB hHeld ⊢
              refine purW 0 61 26 1 HT_ ?_
              refine purW 1 62 26 3 HT_ ?_
              refine purW 2 63 26 7 HT_ ?_
              refine purG 3 64 26 15 HT_ ?_
              refine purG 4 65 26 31 HT_ ?_
              refine purG 5 66 26 63 HT_ ?_
              refine purG 6 67 26 127 HT_ ?_
              refine purG 7 68 26 255 HT_ ?_
              refine purG 8 69 26 511 HT_ ?_
              refine purG 9 70 26 1023 HT_ ?_
              refine purG 10 71 26 2047 HT_ ?_
              refine purG 11 72 26 4095 HT_ ?_
              refine purW 12 73 26 8191 HT_ ?_
              refine purW 13 74 26 16383 HT_ ?_
              refine purW 14 75 26 32767 HT_ ?_
              refine purW 15 76 26 65535 HT_ ?_
              refine purW 16 77 26 131071 HT_ ?_
              refine purW 17 78 26 262143 HT_ ?_
              refine purW 18 79 26 524287 HT_ ?_
              refine purW 19 80 26 1048575 HT_ ?_
              refine purW 20 81 26 2097151 HT_ ?_
              refine purW 21 82 26 4194303 HT_ ?_
              refine purW 22 83 26 8388607 HT_ ?_
              refine oneW 23 (some 84) (bm 26 16777215) HT_ (fun K hK => ?_)
              refine goesR Tryd.func39 #[.pointer (some ⟨g, 0, none⟩), .int .i64 3] ?_
              with_reducible refine (spec_l1Cur_one.calls g s0_0 x1001_3 x1002_3 3 true t176 t177 w0 _ ?s1 ?s2 A76.out).mono ?_
              (case s1 => exact st36_2 HI0.out NB0_134.out NB0_141.out)
              (case s2 => exact bl36_2 HB.out HI0.out GE134.out GE141.out)
              rintro e w84 ⟨rfl, hi, hb, hk⟩
              refine ⟨_, rfl, ?_⟩
              replace HO_8 := rK (IsS36.apart (show IsS36 w0 _ g s0_0 x1001_3 x1002_3 from by exact st36_2 HI0.out NB0_134.out NB0_141.out) (Kd.R_g HO_8.out) (by decide)) hk
              replace HO_9 := rK (IsS36.apart (show IsS36 w0 _ g s0_0 x1001_3 x1002_3 from by exact st36_2 HI0.out NB0_134.out NB0_141.out) (Kd.R_g HO_9.out) (by decide)) hk
              replace HO_142001 := rK (IsS36.apart (show IsS36 w0 _ g s0_0 x1001_3 x1002_3 from by exact st36_2 HI0.out NB0_134.out NB0_141.out) (Kd.R_g HO_142001.out) (by decide)) hk
              replace BK134 := kB hk BK134
              replace BK141 := kB hk BK141
              replace HK := kT (by exact kb36_2 HK.out GW134.out GW141.out) hk
              replace HI0 := mkA (hi)
              replace HB := mkA (hb)
              (try clear hb)
              (try clear hb2)
              (try clear hk)
              (try clear hi)
              refine hK.out _ _ trivial (fun hHeld => ?_)
              clear hK K
              refine normW 84 ?_
              refine purW 24 85 26 33554431 HT_ ?_
              refine purW 25 86 26 67108863 HT_ ?_
              refine doneW HT_ ?_
              try go_wp2
              replace HO_8 := mkA (Kd.R_drew HO_8.out)
              replace HO_9 := mkA (Kd.R_drew HO_9.out)
              replace HO_142001 := mkA (Kd.R_drew HO_142001.out)
              replace BK134 := mkA (blk_drew BK134.out)
              replace BK141 := mkA (blk_drew BK141.out)
              replace HI0 := mkA (IsS36.drew HI0.out)
              replace HK := mkA (keep_drew HK.out)
              replace HB := mkA (below_drew1 HB.out)
              obtain ⟨Ao86, co86, eo86⟩ := Kd.R_slice HO_142001.out
              (first | subst eo86 | (injection eo86 with f1_ f2_ f3_; have f4_ := f1_.symm; have f5_ := f3_.symm; clear f1_ f2_ f3_; subst f4_; subst f5_))
              obtain ⟨p178, q178, ad178, e178, hx178_0⟩ := atI (Kd.R_reads' HO_142001.out).2.2 x12_2
              cases e178
              have p82 : 0 ≤ (x12_2 : Int) := ofd
              have q82 : (x12_2 : Int) < ((x142001_3.length : Int) : Int) := ofd
              obtain ⟨go82, co82, eo82, gb82, gl82, cl82, HG82⟩ := Kd.R_form HO_142001.out (by omega)
              (first | cases eo82 | (injection eo82 with ea_ en_ ec_; (first | subst ea_ | (injection ea_ with ea_; subst ea_)); subst ec_; clear en_))
              have GB82 : Ge _ _ := ⟨gb82⟩
              have GG82 := mkA HG82
              clear gb82 gl82 HG82
              (first | simp only [add_plain] at hx178_0 | skip)
              obtain ⟨hx82_0, hf82_0⟩ := Kd.R_celln 0 HO_142001.out (x12_2 : Int) p82 q82
              replace p82 := eq_true p82
              replace q82 := eq_true q82
              have HN0_go82 := mkA (show g ≠ go82 from by have h_ := IsS36.own_ne HI0.out HO_142001.out (by decide); intro e_; exact h_ (by rw [e_]; rfl))
              have HP87 := Kd.R_putn HO_142001.out (x12_2 : Int) (Go.bits .or .i64 (rd x142001_3 x12_2) (ji81))
              rw [← Ny179.out] at HP87
              have HQ87 := mkA HP87
              clear HP87
              refine start_ (n := 10) (S := fun w' => w'.cell? ⟨gb141, 0, none⟩ = some (.int .i64 t135) ∧ w'.cell? ⟨gb141, 1, none⟩ = some (.slice (some ⟨go82, 0, none⟩) x142001_3.length co86) ∧ w'.cell? ⟨go82, (x12_2).toNat, none⟩ = some (.int .i64 (rd x142001_3 x12_2))) (ds := [9]) (bm 10 0) (by kernel_rfl) rfl rfl ⟨(blk_cell BK141.out 0).trans rfl, (blk_cell BK141.out 1).trans rfl, hx178_0⟩ (fun hHeld => ?_); refine with_tabW spec_l1Cur_order.tab20 spec_l1Cur_order.bits20 (fun HT_ HW_ => ?_)
              generalize w84.drew = w85 at HO_8 HO_9 HO_142001 BK134 BK141 HI0 HK HB GG82 HQ87 hf82_0 hx178_0 hx82_0 hHeld ⊢
              refine purW 0 87 10 1 HT_ ?_
              refine purW 2 89 10 5 HT_ ?_
              refine purW 5 92 10 37 HT_ ?_
              refine purW 6 93 10 101 HT_ ?_
              refine takeW 1 (some 88) (bm 10 103) HT_ HW_ hHeld ?_
              refine purW 3 90 10 111 HT_ ?_
              refine takeW 4 (some 91) (bm 10 127) HT_ HW_ hHeld ?_
              refine purW 7 94 10 255 HT_ ?_
              refine purW 8 95 10 511 HT_ ?_
              refine last_ (i := 9) (N := none) (bm 10 1023) rfl rfl (one_of HT_.out (by kernel_rfl)) (by decide) (fun K hK => ?_)
              refine skip_ (w1 := ?_) (by rfl) rfl ?_ ?_
              rotate_left
              ·go_simp
               rfl
              refine hK.out _ _ ?_
              clear hK K
              refine doneW HT_ ?_
              try go_wp2
              go_roundg k3
              case measure => have := HK1.out; have := HK2.out; have := HK3.out; omega
              case rel => exact ⟨(x8_3), (x9_3), (wrap64 (x13_3 + 1)), (t176), (t177), (y179), (.slice (some ⟨go82, 0, none⟩) x142001_3.length co86), eqS, H', ⟨by have := HK1.out; have := HK2.out; have := HK3.out; omega⟩, ⟨Kd.R_g (Kd.R_mono (Kd.R_far (p := ⟨go82, (x12_2 : Int).toNat, none⟩) (Kd.R_mono HO_8.out (fun k_ hk => (⟨hk, fun e_ => hk.2 (by rw [e_]; rfl)⟩ : _ ∧ k_ ≠ go82))) (fun _ hk => hk.2) (.int .i64 (Go.bits .or .i64 (rd x142001_3 x12_2) (ji81)))) (fun _ hk => ⟨hk.1.1, hk.1.2⟩))⟩, ⟨Kd.R_g (Kd.R_mono (Kd.R_far (p := ⟨go82, (x12_2 : Int).toNat, none⟩) (Kd.R_mono HO_9.out (fun k_ hk => (⟨hk, fun e_ => hk.2 (by rw [e_]; rfl)⟩ : _ ∧ k_ ≠ go82))) (fun _ hk => hk.2) (.int .i64 (Go.bits .or .i64 (rd x142001_3 x12_2) (ji81)))) (fun _ hk => ⟨hk.1.1, hk.1.2⟩))⟩, ⟨Kd.R_g HQ87.out⟩, ⟨by (with_reducible repeat (first | refine blk_drewN ?_ _ | refine blk_drew ?_ | refine blk_alloc ?_ _)); refine blk_far ?_ (by have h_ := Kd.R_ne HO_142001.out BK134.out (by decide); intro e_; exact h_ (by rw [e_]; rfl)) _; (with_reducible repeat (first | refine blk_drewN ?_ _ | refine blk_drew ?_ | refine blk_alloc ?_ _)); exact BK134.out⟩, ⟨by (with_reducible repeat (first | refine blk_drewN ?_ _ | refine blk_drew ?_ | refine blk_alloc ?_ _)); refine blk_far ?_ (by have h_ := Kd.R_ne HO_142001.out BK141.out (by decide); intro e_; exact h_ (by rw [e_]; rfl)) _; (with_reducible repeat (first | refine blk_drewN ?_ _ | refine blk_drew ?_ | refine blk_alloc ?_ _)); exact BK141.out⟩, ⟨by exact st36_3 HI0.out HN0_go82.out NB0_134.out NB0_141.out⟩, ⟨by exact kb36_3 HK.out GB82.out GW134.out GW141.out⟩, ⟨by repeat (first | (with_reducible first | exact HB.out | apply below_alloc | apply pw_below_drewN | apply below_drew1 | refine below_set ?_ (Nat.le_trans HL.out GB82.out) | refine below_set ?_ (IsS36.ge HI0.out) | refine below_set ?_ GE134.out | refine below_set ?_ GE141.out) | exact HB.out)⟩⟩
             ·replace c77 := Bool.eq_false_iff.mpr c77
              subst c77
              replace H := ifF H
              have H' := mkA H
              clear H
              try go_wp2
              replace HO_8 := mkA (Kd.R_drew HO_8.out)
              replace HO_9 := mkA (Kd.R_drew HO_9.out)
              replace HO_142001 := mkA (Kd.R_drew HO_142001.out)
              replace BK134 := mkA (blk_drew BK134.out)
              replace BK141 := mkA (blk_drew BK141.out)
              replace HI0 := mkA (IsS36.drew HI0.out)
              replace HK := mkA (keep_drew HK.out)
              replace HB := mkA (below_drew1 HB.out)
              refine start_ (n := 26) (S := fun w' => True) (ds := []) (bm 26 0) (by kernel_rfl) rfl (by kernel_rfl) trivial (fun hHeld => ?_); refine with_tabW spec_l1Cur_order.tab19 spec_l1Cur_order.bits19 (fun HT_ HW_ => ?_)
              generalize wr.drew = w88 at HO_8 HO_9 HO_142001 BK134 BK141 HI0 HK HB hHeld ⊢
              refine purW 0 61 26 1 HT_ ?_
              refine purW 1 62 26 3 HT_ ?_
              refine purW 2 63 26 7 HT_ ?_
              refine purG 3 64 26 15 HT_ ?_
              refine purG 4 65 26 31 HT_ ?_
              refine purG 5 66 26 63 HT_ ?_
              refine purG 6 67 26 127 HT_ ?_
              refine purG 7 68 26 255 HT_ ?_
              refine purG 8 69 26 511 HT_ ?_
              refine purG 9 70 26 1023 HT_ ?_
              refine purG 10 71 26 2047 HT_ ?_
              refine purG 11 72 26 4095 HT_ ?_
              refine purW 12 73 26 8191 HT_ ?_
              refine purW 13 74 26 16383 HT_ ?_
              refine purW 14 75 26 32767 HT_ ?_
              refine purW 15 76 26 65535 HT_ ?_
              refine purW 16 77 26 131071 HT_ ?_
              refine purW 17 78 26 262143 HT_ ?_
              refine purW 18 79 26 524287 HT_ ?_
              refine purW 19 80 26 1048575 HT_ ?_
              refine purW 20 81 26 2097151 HT_ ?_
              refine purW 21 82 26 4194303 HT_ ?_
              refine purW 22 83 26 8388607 HT_ ?_
              refine oneW 23 (some 84) (bm 26 16777215) HT_ (fun K hK => ?_)
              refine goesR Tryd.func39 #[.pointer (some ⟨g, 0, none⟩), .int .i64 3] ?_
              with_reducible refine (spec_l1Cur_one.calls g s0_0 x1001_3 x1002_3 3 false t176 t177 w0 _ ?s1 ?s2 A76.out).mono ?_
              (case s1 => exact st36_2 HI0.out NB0_134.out NB0_141.out)
              (case s2 => exact bl36_2 HB.out HI0.out GE134.out GE141.out)
              rintro e w89 ⟨rfl, hi, hb, hk⟩
              refine ⟨_, rfl, ?_⟩
              replace HO_8 := rK (IsS36.apart (show IsS36 w0 _ g s0_0 x1001_3 x1002_3 from by exact st36_2 HI0.out NB0_134.out NB0_141.out) (Kd.R_g HO_8.out) (by decide)) hk
              replace HO_9 := rK (IsS36.apart (show IsS36 w0 _ g s0_0 x1001_3 x1002_3 from by exact st36_2 HI0.out NB0_134.out NB0_141.out) (Kd.R_g HO_9.out) (by decide)) hk
              replace HO_142001 := rK (IsS36.apart (show IsS36 w0 _ g s0_0 x1001_3 x1002_3 from by exact st36_2 HI0.out NB0_134.out NB0_141.out) (Kd.R_g HO_142001.out) (by decide)) hk
              replace BK134 := kB hk BK134
              replace BK141 := kB hk BK141
              replace HK := kT (by exact kb36_2 HK.out GW134.out GW141.out) hk
              replace HI0 := mkA (hi)
              replace HB := mkA (hb)
              (try clear hb)
              (try clear hb2)
              (try clear hk)
              (try clear hi)
              refine hK.out _ _ trivial (fun hHeld => ?_)
              clear hK K
              refine normW 84 ?_
              refine purW 24 85 26 33554431 HT_ ?_
              refine purW 25 86 26 67108863 HT_ ?_
              refine doneW HT_ ?_
              try go_wp2
              go_roundg k3
              case measure => have := HK1.out; have := HK2.out; have := HK3.out; omega
              case rel => exact ⟨(x8_3), (x9_3), (wrap64 (x13_3 + 1)), (t176), (t177), (x142001_3), (u142001), eqS, H', ⟨by have := HK1.out; have := HK2.out; have := HK3.out; omega⟩, rg HO_8, rg HO_9, rg HO_142001, bg BK134, bg BK141, ⟨by exact st36_2 HI0.out NB0_134.out NB0_141.out⟩, ⟨by exact kb36_2 HK.out GW134.out GW141.out⟩, ⟨by exact bl36_2 HB.out HI0.out GE134.out GE141.out⟩⟩
            ·have H' := mkA H
             clear H
             try go_wp2
             replace HO_8 := mkA (Kd.R_drew HO_8.out)
             replace HO_9 := mkA (Kd.R_drew HO_9.out)
             replace HO_142001 := mkA (Kd.R_drew HO_142001.out)
             replace BK134 := mkA (blk_drew BK134.out)
             replace BK141 := mkA (blk_drew BK141.out)
             replace HI0 := mkA (IsS36.drew HI0.out)
             replace HK := mkA (keep_drew HK.out)
             replace HB := mkA (below_drew1 HB.out)
             refine start_ (n := 26) (S := fun w' => True) (ds := []) (bm 26 0) (by kernel_rfl) rfl (by kernel_rfl) trivial (fun hHeld => ?_); refine with_tabW spec_l1Cur_order.tab19 spec_l1Cur_order.bits19 (fun HT_ HW_ => ?_)
             generalize wr.drew = w90 at HO_8 HO_9 HO_142001 BK134 BK141 HI0 HK HB hHeld ⊢
             refine purW 0 61 26 1 HT_ ?_
             refine purW 1 62 26 3 HT_ ?_
             refine purW 2 63 26 7 HT_ ?_
             refine purG 3 64 26 15 HT_ ?_
             refine purG 4 65 26 31 HT_ ?_
             refine purG 5 66 26 63 HT_ ?_
             refine purG 6 67 26 127 HT_ ?_
             refine purG 7 68 26 255 HT_ ?_
             refine purG 8 69 26 511 HT_ ?_
             refine purG 9 70 26 1023 HT_ ?_
             refine purG 10 71 26 2047 HT_ ?_
             refine purG 11 72 26 4095 HT_ ?_
             refine purW 12 73 26 8191 HT_ ?_
             refine purW 13 74 26 16383 HT_ ?_
             refine purW 14 75 26 32767 HT_ ?_
             refine purW 15 76 26 65535 HT_ ?_
             refine purW 16 77 26 131071 HT_ ?_
             refine purW 17 78 26 262143 HT_ ?_
             refine purW 18 79 26 524287 HT_ ?_
             refine purW 19 80 26 1048575 HT_ ?_
             refine purW 20 81 26 2097151 HT_ ?_
             refine purW 21 82 26 4194303 HT_ ?_
             refine purG 22 83 26 8388607 HT_ ?_
             refine purG 23 84 26 16777215 HT_ ?_
             refine purW 24 85 26 33554431 HT_ ?_
             refine purW 25 86 26 67108863 HT_ ?_
             refine doneW HT_ ?_
             try go_wp2
             go_roundg k3
             case measure => have := HK1.out; have := HK2.out; have := HK3.out; omega
             case rel => exact ⟨(x8_3), (x9_3), (wrap64 (x13_3 + 1)), (x1001_3), (x1002_3), (x142001_3), (u142001), eqS, H', ⟨by have := HK1.out; have := HK2.out; have := HK3.out; omega⟩, rg HO_8, rg HO_9, rg HO_142001, bg BK134, bg BK141, ⟨by exact st36_2 HI0.out NB0_134.out NB0_141.out⟩, ⟨by exact kb36_2 HK.out GW134.out GW141.out⟩, ⟨by exact bl36_2 HB.out HI0.out GE134.out GE141.out⟩⟩
           ·have c74b0 := beq_eq_false_iff_ne.mpr c74
            have c74b1 := bne_iff_ne.mpr c74
            have H' := mkA H
            clear H
            try go_wp2
            replace HO_8 := mkA (Kd.R_drew HO_8.out)
            replace HO_9 := mkA (Kd.R_drew HO_9.out)
            replace HO_142001 := mkA (Kd.R_drew HO_142001.out)
            replace BK134 := mkA (blk_drew BK134.out)
            replace BK141 := mkA (blk_drew BK141.out)
            replace HI0 := mkA (IsS36.drew HI0.out)
            replace HK := mkA (keep_drew HK.out)
            replace HB := mkA (below_drew1 HB.out)
            refine start_ (n := 26) (S := fun w' => True) (ds := []) (bm 26 0) (by kernel_rfl) rfl (by kernel_rfl) trivial (fun hHeld => ?_); refine with_tabW spec_l1Cur_order.tab19 spec_l1Cur_order.bits19 (fun HT_ HW_ => ?_)
            generalize wr.drew = w91 at HO_8 HO_9 HO_142001 BK134 BK141 HI0 HK HB hHeld ⊢
            refine purW 0 61 26 1 HT_ ?_
            refine purW 1 62 26 3 HT_ ?_
            refine purW 2 63 26 7 HT_ ?_
            refine purG 3 64 26 15 HT_ ?_
            refine purG 4 65 26 31 HT_ ?_
            refine purG 5 66 26 63 HT_ ?_
            refine purG 6 67 26 127 HT_ ?_
            refine purG 7 68 26 255 HT_ ?_
            refine purG 8 69 26 511 HT_ ?_
            refine purG 9 70 26 1023 HT_ ?_
            refine purG 10 71 26 2047 HT_ ?_
            refine purG 11 72 26 4095 HT_ ?_
            refine purW 12 73 26 8191 HT_ ?_
            refine purW 13 74 26 16383 HT_ ?_
            refine purW 14 75 26 32767 HT_ ?_
            refine purW 15 76 26 65535 HT_ ?_
            refine purW 16 77 26 131071 HT_ ?_
            refine purG 17 78 26 262143 HT_ ?_
            refine purG 18 79 26 524287 HT_ ?_
            refine purG 19 80 26 1048575 HT_ ?_
            refine purW 20 81 26 2097151 HT_ ?_
            refine purW 21 82 26 4194303 HT_ ?_
            refine purG 22 83 26 8388607 HT_ ?_
            refine purG 23 84 26 16777215 HT_ ?_
            refine purW 24 85 26 33554431 HT_ ?_
            refine purW 25 86 26 67108863 HT_ ?_
            refine doneW HT_ ?_
            try go_wp2
            go_roundg k3
            case measure => have := HK1.out; have := HK2.out; have := HK3.out; omega
            case rel => exact ⟨(x8_3), (x9_3), (wrap64 (x13_3 + 1)), (x1001_3), (x1002_3), (x142001_3), (u142001), eqS, H', ⟨by have := HK1.out; have := HK2.out; have := HK3.out; omega⟩, rg HO_8, rg HO_9, rg HO_142001, bg BK134, bg BK141, ⟨by exact st36_2 HI0.out NB0_134.out NB0_141.out⟩, ⟨by exact kb36_2 HK.out GW134.out GW141.out⟩, ⟨by exact bl36_2 HB.out HI0.out GE134.out GE141.out⟩⟩
         ·have H' := mkA H
          clear H
          go_wp2
          go_roundg k3
          case measure => have := HK1.out; have := HK2.out; have := HK3.out; omega
          case rel => exact ⟨(x8_3), (x9_3), (wrap64 (x12_2 + 1)), (x1001_3), (x1002_3), (x142001_3), (u142001), eqS, H', ⟨by have := HK1.out; have := HK2.out; have := HK3.out; omega⟩, rg HO_8, rg HO_9, rg HO_142001, bg BK134, bg BK141, ⟨by exact st36_2 HI0.out NB0_134.out NB0_141.out⟩, ⟨by exact kb36_2 HK.out GW134.out GW141.out⟩, ⟨by exact bl36_2 HB.out HI0.out GE134.out GE141.out⟩⟩
      ·rcases iteP H with ⟨c92, H⟩ | ⟨c92, H⟩
       ·have c92b0 := decide_eq_true c92
        clear c92
        simp only [Option.some.injEq, Prod.mk.injEq] at H
        obtain ⟨rfl, rfl, rfl, rfl⟩ := H
        obtain ⟨_, _, _, _⟩ := blk2 BK141
        obtain ⟨_, _, _, _⟩ := blk2 BK134
        obtain ⟨Ao98, co98, rfl⟩ := Kd.R_slice HO_142001.out
        go_wp2
        refine bodyPost_ret (results_cell_row rfl _ _ gb134 26 #[.int .i64 t135, .slice Ao98 x142001_2.length co98] (0, 0) _ rfl (blkT BK134) Tryd.underlying26 rfl (by kernel_rfl)) rfl ?_
        exact ⟨_, eqE, Kd.R_g (Kd.R_mono (rF HO_142001 BK134) (fun _ _ => trivial)), by exact st36_2 HI0.out NB0_134.out NB0_141.out, by exact bl36_2 HB.out HI0.out GE134.out GE141.out, by exact kb36_2 HK.out GW134.out GW141.out⟩
       ·have c92b0 := decide_eq_false c92
        clear c92
        obtain ⟨⟨t160, t161, t164⟩, A99, H⟩ := obE H
        dsimp only at H
        simp only [Option.some.injEq, Prod.mk.injEq] at H
        obtain ⟨rfl, rfl, rfl, rfl⟩ := H
        obtain ⟨_, _, _, _⟩ := blk2 BK141
        obtain ⟨Ao103, co103, rfl⟩ := Kd.R_slice HO_142001.out
        go_wp2_with (first | ((with_reducible refine gate_callee (f := 50) rfl ?_); refine goesQ (some 101) Tryd.func50 #[.agg #[.int .i64 t135, .slice Ao103 x142001_2.length co103]] ?_; (with_reducible refine (spec_CloseRelation.calls k2 t135 _ _ x142001_2 t160 t161 t164 _ ?_ ?_ A99.out).mono ?_); exact rC HO_142001; exact rL HO_142001; rintro e w104 ⟨v162, rfl, ho0, hb⟩; refine ⟨_, rfl, ?_⟩; have HO163 := mkA (Kd.R_lower (rN (rN (rN ho0 HO_8) HO_9) HO_142001) (keep_size (w := w) (g := g) (row := none) (by exact kb36_2 HK.out GW134.out GW141.out))); replace HO_8 := rE HO_8 ho0 hb; replace HO_9 := rE HO_9 ho0 hb; replace HO_142001 := rE HO_142001 ho0 hb; replace BK134 := blkB BK134 hb; replace BK141 := blkB BK141 hb; replace HK := kU (g := g) (by exact kb36_2 HK.out GW134.out GW141.out) hb; replace HB := mkA (below_step (by exact bl36_2 HB.out HI0.out GE134.out GE141.out) hb); replace HI0 := mkA (IsS36.below (by exact st36_2 HI0.out NB0_134.out NB0_141.out) hb); clear hb ho0) | ((with_reducible refine gate_dst (N := 14) rfl ?_); refine boxE (N := 14) (cs := #[.int .i64 0, .slice none 0 0]) (t := 26) ?_; intro gb165 hg w105 hbox hb; replace HO_8 := rB HO_8 hb; replace HO_9 := rB HO_9 hb; replace HO_142001 := rB HO_142001 hb; replace HO163 := rB HO163 hb; have BK165 := mkA (hbox); have GW165 := mkA ((by rw [hg]; exact (keep_size (w := w) (g := g) (row := none) (by exact kb36_2 HK.out GW134.out GW141.out)) : w.heap.size ≤ gb165)); have GE165 := mkA (Nat.le_trans HW0.out GW165.out); replace HK := kU (g := g) (by exact kb36_2 HK.out GW134.out GW141.out) hb; have NB134_165 := neL7 BK134 hg; have NB165_134 := neR7 BK134 hg; replace BK134 := blkB BK134 hb; have NB141_165 := neL7 BK141 hg; have NB165_141 := neR7 BK141 hg; replace BK141 := blkB BK141 hb; have NB0_165 : NeB _ _ := ⟨(by rw [hg]; exact Nat.ne_of_lt (IsS36.lt (show IsS36 w0 _ g s0_0 x1001_2 x1002_2 from by exact st36_2 HI0.out NB0_134.out NB0_141.out)) : g ≠ gb165)⟩; have NB165_0 : NeB _ _ := ⟨(by rw [hg]; exact Nat.ne_of_gt (IsS36.lt (show IsS36 w0 _ g s0_0 x1001_2 x1002_2 from by exact st36_2 HI0.out NB0_134.out NB0_141.out)) : gb165 ≠ g)⟩; replace HB := mkA (below_step (by exact bl36_2 HB.out HI0.out GE134.out GE141.out) hb); replace HI0 := mkA (IsS36.below (by exact st36_2 HI0.out NB0_134.out NB0_141.out) hb); clear hb hbox hg; obtain ⟨_, _, _, _⟩ := blk2 BK165; obtain ⟨Ao110, co110, rfl⟩ := Kd.R_slice HO163.out; obtain ⟨_, _, _, _⟩ := blk2 BK134))
        refine bodyPost_ret (results_cell_row rfl _ _ gb134 26 #[.int .i64 t160, .slice Ao110 t161.length co110] (0, 0) _ rfl (blkT BK134) Tryd.underlying26 rfl (by kernel_rfl)) rfl ?_
        exact ⟨_, eqE, Kd.R_g (Kd.R_mono (Kd.R_far (p := ⟨gb134, 1, none⟩) (Kd.R_far (p := ⟨gb134, 0, none⟩) (Kd.R_far (p := ⟨gb165, 1, none⟩) (Kd.R_far (p := ⟨gb165, 0, none⟩) (Kd.R_types (Kd.R_types HO163.out BK165.out (by decide)) BK134.out (by decide)) (fun _ hk => hk.1.2) (.int .i64 t160)) (fun _ hk => hk.1.2) (.slice Ao110 t161.length co110)) (fun _ hk => hk.2) (.int .i64 t160)) (fun _ hk => hk.2) (.slice Ao110 t161.length co110)) (fun _ hk => trivial)), by exact st36_3 HI0.out NB0_134.out NB0_141.out NB0_165.out, by exact bl36_3 HB.out HI0.out GE134.out GE141.out GE165.out, by exact kb36_3 HK.out GW134.out GW141.out GW165.out⟩
end Go.Proofs.YtpphkeijklffgaaDoor.Q
