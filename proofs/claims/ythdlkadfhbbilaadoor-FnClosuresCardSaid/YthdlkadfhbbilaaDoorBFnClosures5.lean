import Derived.Test.YthdlkadfhbbilaaDoorBFnClosures2
import Derived.Test.YthdlkadfhbbilaaDoorBFnClosures3
namespace Go.Proofs.YthdlkadfhbbilaaDoor.Q
open Go.RowKit Go.Proofs.YthdlkadfhbbilaaDoorW.PrintWords Go.Proofs.YthdlkadfhbbilaaDoorW.PrintLast Go.Proofs.YthdlkadfhbbilaaDoorW.PrintMore
attribute [local go_sem] max2_int min2_int max_two min_two max_three min_three max_four min_four neB_f
set_option linter.unusedVariables false
set_option maxHeartbeats 8000000
set_option maxRecDepth 100000
set_option linter.unusedSimpArgs false
mutual
def spec_l1Cur_order.l0 : Nat → Int → Int → List Int → List Int → Int → List Int → Int → Int → Int → List Int → Option (Int × List Int × Int × Int)
 | 0, _, _, _, _, _, _, _, _, _, _ => none
 | k + 1, x5, x7, x8, x9, x10, x1000, x1001, x1002, x153000, x153001 => if x10 < x5 then ((spec_l1Cur_pick.f x1000 x1001 x1002 8).bind fun bt156 => (if x8.length < 17592186044416 then ((some (x8 ++ [bt156.1] : List Int)).bind fun y159 => (if x7 = 1 then ((spec_l1Cur_pick.f x1000 bt156.2.1 bt156.2.2 4).bind fun bt162 => (if x9.length < 17592186044416 then (spec_l1Cur_order.l0 k x5 x7 y159 (x9 ++ [wrap64 (bt156.1 + bt162.1)]) (wrap64 (x10 + 1)) x1000 bt162.2.1 bt162.2.2 x153000 x153001) else (none))) else (if x9.length < 17592186044416 then (spec_l1Cur_order.l0 k x5 x7 y159 (x9 ++ [wrap64 (bt156.1 + 2)]) (wrap64 (x10 + 1)) x1000 bt156.2.1 bt156.2.2 x153000 x153001) else (none)))) else (none))) else (spec_l1Cur_order.l1 k x5 x7 x8 x9 0 x1000 x1001 x1002 x153000 x153001)
def spec_l1Cur_order.l1 : Nat → Int → Int → List Int → List Int → Int → List Int → Int → Int → Int → List Int → Option (Int × List Int × Int × Int)
 | 0, _, _, _, _, _, _, _, _, _, _ => none
 | k + 1, x5, x7, x8, x9, x12, x1000, x1001, x1002, x153000, x153001 => if x12 < x5 then (spec_l1Cur_order.l2 k x5 x7 x8 x9 x12 0 x1000 x1001 x1002 x153000 x153001) else (if x7 > 0 then (some (x153000, x153001, x1001, x1002)) else ((spec_CloseRelation.f k x153000 x153001).bind fun bt171 => (some (bt171.1, bt171.2.1, x1001, x1002))))
def spec_l1Cur_order.l2 : Nat → Int → Int → List Int → List Int → Int → Int → List Int → Int → Int → Int → List Int → Option (Int × List Int × Int × Int)
 | 0, _, _, _, _, _, _, _, _, _, _, _ => none
 | k + 1, x5, x7, x8, x9, x12, x13, x1000, x1001, x1002, x153000, x153001 => if x13 < x5 then (if x7 > 0 then (if 0 ≤ x12 then (if x12 < (x9.length : Int) then (if 0 ≤ x13 then (if x13 < (x8.length : Int) then (if (rd x9 x12) < (rd x8 x13) then (if x12 < (x153001.length : Int) then (spec_l1Cur_order.l2 k x5 x7 x8 x9 x12 (wrap64 (x13 + 1)) x1000 x1001 x1002 x153000 (x153001.set (x12 : Int).toNat (Go.bits .or .i64 (rd x153001 x12) (shl .i64 1 x13)))) else (none)) else (if x7 = 0 then (if x12 < x13 then ((spec_l1Cur_one.f x1000 x1001 x1002 3).bind fun bt181 => (if bt181.1 = true then (if x12 < (x153001.length : Int) then (spec_l1Cur_order.l2 k x5 x7 x8 x9 x12 (wrap64 (x13 + 1)) x1000 bt181.2.1 bt181.2.2 x153000 (x153001.set (x12 : Int).toNat (Go.bits .or .i64 (rd x153001 x12) (shl .i64 1 x13)))) else (none)) else (spec_l1Cur_order.l2 k x5 x7 x8 x9 x12 (wrap64 (x13 + 1)) x1000 bt181.2.1 bt181.2.2 x153000 x153001))) else (spec_l1Cur_order.l2 k x5 x7 x8 x9 x12 (wrap64 (x13 + 1)) x1000 x1001 x1002 x153000 x153001)) else (spec_l1Cur_order.l2 k x5 x7 x8 x9 x12 (wrap64 (x13 + 1)) x1000 x1001 x1002 x153000 x153001))) else (none)) else (none)) else (none)) else (none)) else (if x7 = 0 then (if x12 < x13 then ((spec_l1Cur_one.f x1000 x1001 x1002 3).bind fun bt186 => (if bt186.1 = true then (if 0 ≤ x12 then (if x12 < (x153001.length : Int) then (if 0 ≤ x13 then (spec_l1Cur_order.l2 k x5 x7 x8 x9 x12 (wrap64 (x13 + 1)) x1000 bt186.2.1 bt186.2.2 x153000 (x153001.set (x12 : Int).toNat (Go.bits .or .i64 (rd x153001 x12) (shl .i64 1 x13)))) else (none)) else (none)) else (none)) else (spec_l1Cur_order.l2 k x5 x7 x8 x9 x12 (wrap64 (x13 + 1)) x1000 bt186.2.1 bt186.2.2 x153000 x153001))) else (spec_l1Cur_order.l2 k x5 x7 x8 x9 x12 (wrap64 (x13 + 1)) x1000 x1001 x1002 x153000 x153001)) else (spec_l1Cur_order.l2 k x5 x7 x8 x9 x12 (wrap64 (x13 + 1)) x1000 x1001 x1002 x153000 x153001))) else (spec_l1Cur_order.l1 k x5 x7 x8 x9 (wrap64 (x12 + 1)) x1000 x1001 x1002 x153000 x153001)
end
def spec_l1Cur_order.f (k : Nat) (s0_0 : List Int) (s0_1 : Int) (s0_2 : Int) (a1 : Int) : Option (Int × List Int × Int × Int) := (spec_l1Cur_pick.f s0_0 s0_1 s0_2 (wrap64 (a1 + 1))).bind fun bt146 => (if 0 ≤ bt146.1 then (if (bt146.1 : Int).toNat ≤ 35184372088832 then ((spec_l1Cur_pick.f s0_0 bt146.2.1 bt146.2.2 3).bind fun bt153 => (spec_l1Cur_order.l0 k bt146.1 bt153.1 ([] : List Int) ([] : List Int) 0 s0_0 bt153.2.1 bt153.2.2 bt146.1 (List.replicate (bt146.1 : Int).toNat 0))) else (none)) else (none))
theorem spec_l1Cur_order.mono_l : ∀ k, (∀ y0 y1 y2 y3 y4 y5 y6 y7 y8 y9, LeO (spec_l1Cur_order.l0 k y0 y1 y2 y3 y4 y5 y6 y7 y8 y9) (spec_l1Cur_order.l0 (k + 1) y0 y1 y2 y3 y4 y5 y6 y7 y8 y9)) ∧ (∀ y0 y1 y2 y3 y4 y5 y6 y7 y8 y9, LeO (spec_l1Cur_order.l1 k y0 y1 y2 y3 y4 y5 y6 y7 y8 y9) (spec_l1Cur_order.l1 (k + 1) y0 y1 y2 y3 y4 y5 y6 y7 y8 y9)) ∧ (∀ y0 y1 y2 y3 y4 y5 y6 y7 y8 y9 y10, LeO (spec_l1Cur_order.l2 k y0 y1 y2 y3 y4 y5 y6 y7 y8 y9 y10) (spec_l1Cur_order.l2 (k + 1) y0 y1 y2 y3 y4 y5 y6 y7 y8 y9 y10))
 | 0 => ⟨fun _ _ _ _ _ _ _ _ _ _ r h => by simp [spec_l1Cur_order.l0] at h, fun _ _ _ _ _ _ _ _ _ _ r h => by simp [spec_l1Cur_order.l1] at h, fun _ _ _ _ _ _ _ _ _ _ _ r h => by simp [spec_l1Cur_order.l2] at h⟩
 | k + 1 => by
  obtain ⟨ih0, ih1, ih2⟩ := spec_l1Cur_order.mono_l k
  refine ⟨?_, ?_, ?_⟩ <;> intros
  unfold spec_l1Cur_order.l0
  rotate_left
  unfold spec_l1Cur_order.l1
  rotate_left
  unfold spec_l1Cur_order.l2
  rotate_left
  all_goals repeat' (with_reducible first|apply ih0|apply ih1|apply ih2|apply spec_CloseRelation.mono|apply LeO.refl|apply LeO.none|apply LeO.ite|apply LeO.bind|intro)
theorem spec_l1Cur_order.mono : ∀ a0 a1 a2 a3 k, LeO (spec_l1Cur_order.f k a0 a1 a2 a3) (spec_l1Cur_order.f (k + 1) a0 a1 a2 a3) := by
 intro a0 a1 a2 a3 k
 obtain ⟨ih0, ih1, ih2⟩ := spec_l1Cur_order.mono_l k
 unfold spec_l1Cur_order.f
 repeat' (with_reducible first|apply ih0|apply ih1|apply ih2|apply spec_CloseRelation.mono|apply LeO.refl|apply LeO.none|apply LeO.ite|apply LeO.bind|intro)
def spec_l1Cur_order.T19 : Bool × List (List Nat × List Nat) := (true, [([], []), ([0], [0]), ([1], [1]), ([2], [2]), ([2], [2]), ([3, 4, 2], [2, 3, 4]), ([5, 2], [2, 5]), ([2], [2]), ([2], [2]), ([7, 8, 2], [2, 7, 8]), ([9, 2], [2, 9]), ([6, 10, 2], [2, 6, 10]), ([2, 11], [2, 11]), ([12, 2], [12]), ([13], [13]), ([14, 13], [13, 14]), ([15, 13, 13], [13, 15]), ([16], [16]), ([16], [16]), ([17, 18, 16], [16, 17, 18]), ([16, 19, 13], [13, 16, 19]), ([20, 16, 13], [13, 20]), ([21], [21]), ([22, 21, 21], [21, 22]), ([21, 23, 13], [13, 21, 23]), ([13, 24], [13, 24])])
def spec_l1Cur_order.B19 : List Nat := [0, 1, 3, 7, 7, 31, 63, 7, 7, 391, 903, 2047, 4095, 8191, 16383, 32767, 65535, 131071, 131071, 524287, 1048575, 2097151, 4194303, 8388607, 16777215, 33554431]
theorem spec_l1Cur_order.tab19 : rtab .any (opsOf Tryd.f30 19) = spec_l1Cur_order.T19 := by kernel_rfl
theorem spec_l1Cur_order.bits19 : waitsOk spec_l1Cur_order.T19.2 spec_l1Cur_order.B19 = true := by kernel_rfl
def spec_l1Cur_order.T20 : Bool × List (List Nat × List Nat) := (true, [([], []), ([0], [0]), ([], []), ([1, 2], [1, 2]), ([3], [3]), ([], []), ([5], [5]), ([4, 6], [4, 6]), ([1, 2, 0, 1, 2, 3, 4, 5, 6, 7], [1, 2]), ([8, 7, 0, 1, 2, 3, 4, 5, 6, 7], [7, 8])])
def spec_l1Cur_order.B20 : List Nat := [0, 1, 0, 7, 15, 0, 32, 127, 255, 511]
theorem spec_l1Cur_order.tab20 : rtab .any (opsOf Tryd.f30 20) = spec_l1Cur_order.T20 := by kernel_rfl
theorem spec_l1Cur_order.bits20 : waitsOk spec_l1Cur_order.T20.2 spec_l1Cur_order.B20 = true := by kernel_rfl
theorem spec_l1Cur_order.calls (k : Nat) (g : Nat) (s0_0 : List Int) (s0_1 : Int) (s0_2 : Int) (a1 : Int) (r1 : Int) (r2 : List Int) (r3 : Int) (r4 : Int) (w0 w : World) (hI : IsS36 w0 w g s0_0 s0_1 s0_2) (hB : Below w0.heap.size w0 w) (h : spec_l1Cur_order.f k s0_0 s0_1 s0_2 a1 = some (r1, r2, r3, r4)) :
  Calls Tryd.prog 30 #[.pointer (some ⟨g, 0, none⟩), .int .i64 a1] w fun e w' => ∃ v1_ : Value, e = .returned (.agg #[.int .i64 r1, v1_]) ∧ Kd.R (Kd.int .i64) 3 w' w.heap.size (fun _ => True) v1_ r2 ∧ IsS36 w0 w' g s0_0 r3 r4 ∧ Below w0.heap.size w0 w' ∧ KeepBut w w' g none := by
 have hu26 := Tryd.underlying26
 have HI0 := mkA hI
 have HK := mkA (KeepBut.refl w g none)
 have HL := mkA hB.size
 clear hI
 have HW0 := mkA hB.size
 have HB := mkA hB
 clear hB
 have H := h
 clear h
 unfold spec_l1Cur_order.f at H
 obtain ⟨⟨t146, t147, t148⟩, A3, H⟩ := obE H
 dsimp only at H
 obtain ⟨c4b0, c4b1, H⟩ := itNQ H
 obtain ⟨c5b0, c5b1, H⟩ := itNQ H
 obtain ⟨y149, hy149⟩ : ∃ y_ : List Int, y_ = (List.replicate (t146 : Int).toNat 0) := ⟨_, rfl⟩
 rw [← hy149] at H
 have Ny149 := mkA hy149
 clear hy149
 obtain ⟨⟨t153, t154, t155⟩, A6, H⟩ := obE H
 dsimp only at H
 have H' := mkA H
 clear H
 go_enter Tryd.func30, Tryd.ntmps30
 go_wp2_with (first | ((with_reducible refine gate_dst (N := 4) rfl ?_); refine boxE (N := 4) (cs := #[.int .i64 0, .slice none 0 0]) (t := 26) ?_; intro gb145 hg w7 hbox hb; have BK145 := mkA (hbox); have GW145 := mkA ((by rw [hg]; exact (keep_size (w := w) (g := g) (row := none) (by exact kb36_0 HK.out)) : w.heap.size ≤ gb145)); have GE145 := mkA (Nat.le_trans HW0.out GW145.out); replace HK := kU (g := g) (by exact kb36_0 HK.out) hb; have NB0_145 : NeB _ _ := ⟨(by rw [hg]; exact Nat.ne_of_lt (IsS36.lt (show IsS36 w0 _ g s0_0 s0_1 s0_2 from by exact st36_0 HI0.out)) : g ≠ gb145)⟩; have NB145_0 : NeB _ _ := ⟨(by rw [hg]; exact Nat.ne_of_gt (IsS36.lt (show IsS36 w0 _ g s0_0 s0_1 s0_2 from by exact st36_0 HI0.out)) : gb145 ≠ g)⟩; replace HB := mkA (below_step (by exact bl36_0 HB.out HI0.out) hb); replace HI0 := mkA (IsS36.below (by exact st36_0 HI0.out) hb); clear hb hbox hg) | ((with_reducible refine gate_callee (f := 29) rfl ?_); refine goesQ (some 19) Tryd.func29 #[.pointer (some ⟨g, 0, none⟩), .int .i64 (wrap64 (a1 + 1))] ?_; (with_reducible refine (spec_l1Cur_pick.calls g s0_0 s0_1 s0_2 (wrap64 (a1 + 1)) t146 t147 t148 w0 _ ?_ ?_ A3.out).mono ?_); exact st36_1 HI0.out NB0_145.out; exact bl36_1 HB.out HI0.out GE145.out; rintro e w8 ⟨rfl, hi, hb, hk⟩; refine ⟨_, rfl, ?_⟩; replace BK145 := kB hk BK145; replace HK := kT (by exact kb36_1 HK.out GW145.out) hk; replace HI0 := mkA (hi); replace HB := mkA (hb); clear hb hk hi) | ((with_reducible refine gate_dst (N := 22) rfl ?_); refine Kd.R_make (Kd.int .i64) _ 3 rfl (N := 22) rfl 24 _ _ rfl t146 rfl rfl Tryd.underlying24 (.int .i64 0) 8 info3 rfl (by decide) (by omega) 0 (ok := fun _ => True) (okp := fun _ => True) rfl (fun _ hk => hk) trivial (ofd) (Nat.le_trans (Nat.mul_le_mul_right _ (ofd : t146.toNat ≤ 35184372088832)) (by omega)) (Below.refl _ _) (Nat.le_refl _) ?_; intro v150 w9 ho10 hb hg_ hnew_; clear hg_ hnew_; (first | rw [← Ny149.out] at ho10 | (simp only [Int.reduceToNat] at ho10; rw [← Ny149.out] at ho10)); have HO151 := mkA (Kd.R_lower ho10 (keep_size (w := w) (g := g) (row := none) (by exact kb36_1 HK.out GW145.out))); replace BK145 := blkB BK145 hb; replace HK := kU (g := g) (by exact kb36_1 HK.out GW145.out) hb; replace HB := mkA (below_step (by exact bl36_1 HB.out HI0.out GE145.out) hb); replace HI0 := mkA (IsS36.below (by exact st36_1 HI0.out NB0_145.out) hb); clear hb ho10; obtain ⟨Ao11, co11, rfl⟩ := Kd.R_slice HO151.out) | ((with_reducible refine gate_dst (N := 6) rfl ?_); refine boxE (N := 6) (cs := #[.int .i64 0, .slice none 0 0]) (t := 26) ?_; intro gb152 hg w12 hbox hb; replace HO151 := rB HO151 hb; have BK152 := mkA (hbox); have GW152 := mkA ((by rw [hg]; exact (keep_size (w := w) (g := g) (row := none) (by exact kb36_1 HK.out GW145.out)) : w.heap.size ≤ gb152)); have GE152 := mkA (Nat.le_trans HW0.out GW152.out); replace HK := kU (g := g) (by exact kb36_1 HK.out GW145.out) hb; have NB145_152 := neL7 BK145 hg; have NB152_145 := neR7 BK145 hg; replace BK145 := blkB BK145 hb; have NB0_152 : NeB _ _ := ⟨(by rw [hg]; exact Nat.ne_of_lt (IsS36.lt (show IsS36 w0 _ g s0_0 t147 t148 from by exact st36_1 HI0.out NB0_145.out)) : g ≠ gb152)⟩; have NB152_0 : NeB _ _ := ⟨(by rw [hg]; exact Nat.ne_of_gt (IsS36.lt (show IsS36 w0 _ g s0_0 t147 t148 from by exact st36_1 HI0.out NB0_145.out)) : gb152 ≠ g)⟩; replace HB := mkA (below_step (by exact bl36_1 HB.out HI0.out GE145.out) hb); replace HI0 := mkA (IsS36.below (by exact st36_1 HI0.out NB0_145.out) hb); clear hb hbox hg; obtain ⟨_, _, _, _⟩ := blk2 BK152) | ((with_reducible refine gate_callee (f := 29) rfl ?_); refine goesQ (some 25) Tryd.func29 #[.pointer (some ⟨g, 0, none⟩), .int .i64 3] ?_; (with_reducible refine (spec_l1Cur_pick.calls g s0_0 t147 t148 3 t153 t154 t155 w0 _ ?_ ?_ A6.out).mono ?_); exact st36_2 HI0.out NB0_145.out NB0_152.out; exact bl36_2 HB.out HI0.out GE145.out GE152.out; rintro e w16 ⟨rfl, hi, hb, hk⟩; refine ⟨_, rfl, ?_⟩; replace BK145 := kR hk BK145; replace HO151 := rK (IsS36.apart (show IsS36 w0 _ g s0_0 t147 t148 from by exact st36_2 HI0.out NB0_145.out NB0_152.out) (rFg HO151 BK152) (by decide)) hk; replace BK152 := kR hk BK152; replace HK := kT (by exact kb36_2 HK.out GW145.out GW152.out) hk; replace HI0 := mkA (hi); replace HB := mkA (hb); clear hb hk hi))
 go_loopg [8, 9, 10] k (fun kq v8 v9 v10 w' => ∃ (x8_1 : List Int) (x9_1 : List Int) (x10_1 : Int) (x1001_1 : Int) (x1002_1 : Int), v10 = .int .i64 x10_1 ∧ Fc (spec_l1Cur_order.l0 kq t146 t153 x8_1 x9_1 x10_1 s0_0 x1001_1 x1002_1 t146 y149 = some (r1, r2, r3, r4)) ∧ Fc (kq ≤ k) ∧ Fc (Kd.R (Kd.int .i64) 3 w' w.heap.size (fun k_ => some k_ ≠ (v9 : Value).ownBlock ∧ some k_ ≠ ((.slice Ao11 y149.length co11) : Value).ownBlock) v8 x8_1) ∧ Fc (Kd.R (Kd.int .i64) 3 w' w.heap.size (fun k_ => some k_ ≠ (v8 : Value).ownBlock ∧ some k_ ≠ ((.slice Ao11 y149.length co11) : Value).ownBlock) v9 x9_1) ∧ Fc (Kd.R (Kd.int .i64) 3 w' w.heap.size (fun k_ => some k_ ≠ (v8 : Value).ownBlock ∧ some k_ ≠ (v9 : Value).ownBlock) (.slice Ao11 y149.length co11) y149) ∧ Fc (w'.heap[gb145]? = some (.cells #[.int .i64 0, (.slice none 0 0)] 26 (0, 0))) ∧ Fc (w'.heap[gb152]? = some (.cells #[.int .i64 t146, (.slice Ao11 y149.length co11)] 26 (0, 0))) ∧ Fc (IsS36 w0 w' g s0_0 x1001_1 x1002_1) ∧ Fc (KeepBut w w' g none) ∧ Fc (Below w0.heap.size w0 w'))
 case atStart => exact ⟨(([] : List Int)), (([] : List Int)), (0), (t154), (t155), eqS, H', ⟨Nat.le_refl _⟩, ⟨nilE⟩, ⟨nilE⟩, ⟨Kd.R_g (Kd.R_mono HO151.out (fun _ hk => ⟨(by simp [Value.ownBlock]), (by simp [Value.ownBlock])⟩))⟩, bg BK145, bg BK152, ⟨by exact st36_2 HI0.out NB0_145.out NB0_152.out⟩, ⟨by exact kb36_2 HK.out GW145.out GW152.out⟩, ⟨by exact bl36_2 HB.out HI0.out GE145.out GE152.out⟩⟩
 case round =>
  clear H'
  try clear c4
  try clear c4b0
  try clear c4b1
  try clear c5
  try clear c5b0
  try clear c5b1
  obtain ⟨x8_1, x9_1, x10_1, x1001_1, x1002_1, rfl, HA, HK1, HO_8, HO_9, HO_153001, BK145, BK152, HI0, HK, HB⟩ := hrel
  cases gk with
  | zero => exact absurd HA.out (by simp [spec_l1Cur_order.l0])
  | succ k1 =>
   have H := HA.out
   clear HA
   simp only [spec_l1Cur_order.l0] at H
   rcases iteE H with ⟨c17b0, H⟩ | ⟨c17b0, H⟩
   ·obtain ⟨⟨t156, t157, t158⟩, A18, H⟩ := obE H
    dsimp only at H
    obtain ⟨c19, H⟩ := itNP H
    have LMc19 := mkA c19
    clear c19
    obtain ⟨y159, Ny159, H⟩ := nmE H
    rcases iteP H with ⟨c20, H⟩ | ⟨c20, H⟩
    ·have c20b0 := beq_iff_eq.mpr c20
     have c20b1 := bne_eq_false_iff_eq.mpr c20
     clear c20
     obtain ⟨⟨t162, t163, t164⟩, A21, H⟩ := obE H
     dsimp only at H
     obtain ⟨c22, H⟩ := itNP H
     have LMc22 := mkA c22
     clear c22
     obtain ⟨y165, hy165⟩ : ∃ y_ : List Int, y_ = (x9_1 ++ [wrap64 (t156 + t162)]) := ⟨_, rfl⟩
     rw [← hy165] at H
     have Ny165 := mkA hy165
     clear hy165
     have H' := mkA H
     clear H
     go_wp2_with (first | ((with_reducible refine gate_callee (f := 29) rfl ?_); refine goesQ (some 32) Tryd.func29 #[.pointer (some ⟨g, 0, none⟩), .int .i64 8] ?_; (with_reducible refine (spec_l1Cur_pick.calls g s0_0 x1001_1 x1002_1 8 t156 t157 t158 w0 _ ?_ ?_ A18.out).mono ?_); exact st36_2 HI0.out NB0_145.out NB0_152.out; exact bl36_2 HB.out HI0.out GE145.out GE152.out; rintro e w23 ⟨rfl, hi, hb, hk⟩; refine ⟨_, rfl, ?_⟩; replace HO_8 := rK (IsS36.apart (show IsS36 w0 _ g s0_0 x1001_1 x1002_1 from by exact st36_2 HI0.out NB0_145.out NB0_152.out) (Kd.R_g HO_8.out) (by decide)) hk; replace HO_9 := rK (IsS36.apart (show IsS36 w0 _ g s0_0 x1001_1 x1002_1 from by exact st36_2 HI0.out NB0_145.out NB0_152.out) (Kd.R_g HO_9.out) (by decide)) hk; replace HO_153001 := rK (IsS36.apart (show IsS36 w0 _ g s0_0 x1001_1 x1002_1 from by exact st36_2 HI0.out NB0_145.out NB0_152.out) (Kd.R_g HO_153001.out) (by decide)) hk; replace BK145 := kB hk BK145; replace BK152 := kB hk BK152; replace HK := kT (by exact kb36_2 HK.out GW145.out GW152.out) hk; replace HI0 := mkA (hi); replace HB := mkA (hb); clear hb hk hi) | ((with_reducible refine gate_builtin (b := .append) (xs := #[.tmp 33, .tmp 35]) rfl ?_); at_builtin; refine Kd.R_append (Kd.int .i64) w.heap.size rfl (.tmp 33) (.tmp 35) 24 3 (.int .i64 0) 8 rfl Tryd.underlying24 info3 rfl (by decide) (by omega) u8 x8_1 t156 [.int .i64 t156] (fun k_ => some k_ ≠ (u9 : Value).ownBlock ∧ some k_ ≠ (.slice Ao11 y149.length co11 : Value).ownBlock) (fun _ => False) rfl rfl ?aP (fun _ hk => hk.elim) ?aF ?aO (Below.refl _ _) ?aS ?aL ?_; (case aP => exact rfl); (case aF => exact (fun k_ hk => ⟨Kd.fresh' (Kd.R_lt (Kd.R_g HO_9.out)) k_ hk, Kd.fresh' (Kd.R_lt (Kd.R_g HO_153001.out)) k_ hk⟩)); (case aO => exact (Kd.R_g HO_8.out)); (case aS => exact (keep_size (w := w) (g := g) (row := none) (by exact kb36_2 HK.out GW145.out GW152.out))); (case aL => have := LMc19.out; omega); intro v160 w24 ho hb hg hat; rw [← Ny159.out] at ho; replace HO_9 := mkA (Kd.R_after (ok := (fun k_ => some k_ ≠ (.slice Ao11 y149.length co11 : Value).ownBlock)) (Kd.R_g (Kd.R_mono HO_9.out (fun _ hk => ⟨hk.2, hk.1⟩))) hg hat); replace HO_153001 := mkA (Kd.R_after (ok := (fun k_ => some k_ ≠ (u9 : Value).ownBlock)) (Kd.R_g (Kd.R_mono HO_153001.out (fun _ hk => ⟨hk.2, hk.1⟩))) hg hat); replace BK145 := mkA (blk_grown (g := gb145) (o := .cells #[.int .i64 0, .slice none 0 0] 26 (0, 0)) (blk_g BK145.out) hg (Kd.R_ne HO_8.out BK145.out (by decide))); replace BK152 := mkA (blk_grown (g := gb152) (o := .cells #[.int .i64 t146, .slice Ao11 y149.length co11] 26 (0, 0)) (blk_g BK152.out) hg (Kd.R_ne HO_8.out BK152.out (by decide))); replace HK := mkA (KeepBut.trans (by exact kb36_2 HK.out GW145.out GW152.out) (KeepBut.of_grown hg g) (Kd.R_base2 HO_8.out)); have HO161 := mkA (ho); replace HB := mkA (below_weaken (by exact bl36_2 HB.out HI0.out GE145.out GE152.out) HL.out hb); replace HI0 := mkA (IsS36.grown (by exact st36_2 HI0.out NB0_145.out NB0_152.out) hg (IsS36.own_ne HI0.out HO_8.out (by decide))); clear HO_8; clear ho hb hg hat) | ((with_reducible refine gate_callee (f := 29) rfl ?_); refine goesQ (some 42) Tryd.func29 #[.pointer (some ⟨g, 0, none⟩), .int .i64 4] ?_; (with_reducible refine (spec_l1Cur_pick.calls g s0_0 t157 t158 4 t162 t163 t164 w0 _ ?_ ?_ A21.out).mono ?_); exact st36_2 HI0.out NB0_145.out NB0_152.out; exact bl36_2 HB.out HI0.out GE145.out GE152.out; rintro e w25 ⟨rfl, hi, hb, hk⟩; refine ⟨_, rfl, ?_⟩; replace HO_9 := rK (IsS36.apart (show IsS36 w0 _ g s0_0 t157 t158 from by exact st36_2 HI0.out NB0_145.out NB0_152.out) (Kd.R_g HO_9.out) (by decide)) hk; replace HO_153001 := rK (IsS36.apart (show IsS36 w0 _ g s0_0 t157 t158 from by exact st36_2 HI0.out NB0_145.out NB0_152.out) (Kd.R_g HO_153001.out) (by decide)) hk; replace BK145 := kB hk BK145; replace BK152 := kB hk BK152; replace HO161 := rK (IsS36.apart (show IsS36 w0 _ g s0_0 t157 t158 from by exact st36_2 HI0.out NB0_145.out NB0_152.out) (Kd.R_g HO161.out) (by decide)) hk; replace HK := kT (by exact kb36_2 HK.out GW145.out GW152.out) hk; replace HI0 := mkA (hi); replace HB := mkA (hb); clear hb hk hi) | ((with_reducible refine gate_builtin (b := .append) (xs := #[.tmp 39, .tmp 44]) rfl ?_); at_builtin; refine Kd.R_append (Kd.int .i64) w.heap.size rfl (.tmp 39) (.tmp 44) 24 3 (.int .i64 0) 8 rfl Tryd.underlying24 info3 rfl (by decide) (by omega) u9 x9_1 (wrap64 (t156 + t162)) [.int .i64 (wrap64 (t156 + t162))] (fun k_ => some k_ ≠ (.slice Ao11 y149.length co11 : Value).ownBlock ∧ some k_ ≠ (v160 : Value).ownBlock) (fun _ => False) rfl rfl ?aP (fun _ hk => hk.elim) ?aF ?aO (Below.refl _ _) ?aS ?aL ?_; (case aP => exact rfl); (case aF => exact (fun k_ hk => ⟨Kd.fresh' (Kd.R_lt (Kd.R_g HO_153001.out)) k_ hk, Kd.fresh' (Kd.R_lt (Kd.R_g HO161.out)) k_ hk⟩)); (case aO => exact (Kd.R_g HO_9.out)); (case aS => exact (keep_size (w := w) (g := g) (row := none) (by exact kb36_2 HK.out GW145.out GW152.out))); (case aL => have := LMc22.out; omega); intro v166 w26 ho hb hg hat; rw [← Ny165.out] at ho; replace HO_153001 := mkA (Kd.R_after (ok := (fun k_ => some k_ ≠ (v160 : Value).ownBlock)) (Kd.R_g (Kd.R_mono HO_153001.out (fun _ hk => ⟨hk.2, hk.1⟩))) hg hat); replace BK145 := mkA (blk_grown (g := gb145) (o := .cells #[.int .i64 0, .slice none 0 0] 26 (0, 0)) (blk_g BK145.out) hg (Kd.R_ne HO_9.out BK145.out (by decide))); replace BK152 := mkA (blk_grown (g := gb152) (o := .cells #[.int .i64 t146, .slice Ao11 y149.length co11] 26 (0, 0)) (blk_g BK152.out) hg (Kd.R_ne HO_9.out BK152.out (by decide))); replace HO161 := mkA (Kd.R_after (ok := (fun k_ => some k_ ≠ (.slice Ao11 y149.length co11 : Value).ownBlock)) (Kd.R_g (Kd.R_mono HO161.out (fun _ hk => ⟨hk.2, hk.1⟩))) hg hat); replace HK := mkA (KeepBut.trans (by exact kb36_2 HK.out GW145.out GW152.out) (KeepBut.of_grown hg g) (Kd.R_base2 HO_9.out)); have HO167 := mkA (ho); replace HB := mkA (below_weaken (by exact bl36_2 HB.out HI0.out GE145.out GE152.out) HL.out hb); replace HI0 := mkA (IsS36.grown (by exact st36_2 HI0.out NB0_145.out NB0_152.out) hg (IsS36.own_ne HI0.out HO_9.out (by decide))); clear HO_9; clear ho hb hg hat))
     go_roundg k1
     case measure => have := HK1.out; omega
     case rel => exact ⟨(y159), (y165), (wrap64 (x10_1 + 1)), (t163), (t164), eqS, H', ⟨by have := HK1.out; omega⟩, ⟨Kd.R_g (Kd.R_mono HO161.out (fun _ hk => ⟨hk.2, hk.1⟩))⟩, ⟨Kd.R_g (Kd.R_mono HO167.out (fun _ hk => ⟨hk.2, hk.1⟩))⟩, rg HO_153001, bg BK145, bg BK152, ⟨by exact st36_2 HI0.out NB0_145.out NB0_152.out⟩, ⟨by exact kb36_2 HK.out GW145.out GW152.out⟩, ⟨by exact bl36_2 HB.out HI0.out GE145.out GE152.out⟩⟩
    ·have c20b0 := beq_eq_false_iff_ne.mpr c20
     have c20b1 := bne_iff_ne.mpr c20
     obtain ⟨c27, H⟩ := itNP H
     have LMc27 := mkA c27
     clear c27
     obtain ⟨y168, hy168⟩ : ∃ y_ : List Int, y_ = (x9_1 ++ [wrap64 (t156 + 2)]) := ⟨_, rfl⟩
     rw [← hy168] at H
     have Ny168 := mkA hy168
     clear hy168
     have H' := mkA H
     clear H
     go_wp2_with (first | ((with_reducible refine gate_callee (f := 29) rfl ?_); refine goesQ (some 32) Tryd.func29 #[.pointer (some ⟨g, 0, none⟩), .int .i64 8] ?_; (with_reducible refine (spec_l1Cur_pick.calls g s0_0 x1001_1 x1002_1 8 t156 t157 t158 w0 _ ?_ ?_ A18.out).mono ?_); exact st36_2 HI0.out NB0_145.out NB0_152.out; exact bl36_2 HB.out HI0.out GE145.out GE152.out; rintro e w28 ⟨rfl, hi, hb, hk⟩; refine ⟨_, rfl, ?_⟩; replace HO_8 := rK (IsS36.apart (show IsS36 w0 _ g s0_0 x1001_1 x1002_1 from by exact st36_2 HI0.out NB0_145.out NB0_152.out) (Kd.R_g HO_8.out) (by decide)) hk; replace HO_9 := rK (IsS36.apart (show IsS36 w0 _ g s0_0 x1001_1 x1002_1 from by exact st36_2 HI0.out NB0_145.out NB0_152.out) (Kd.R_g HO_9.out) (by decide)) hk; replace HO_153001 := rK (IsS36.apart (show IsS36 w0 _ g s0_0 x1001_1 x1002_1 from by exact st36_2 HI0.out NB0_145.out NB0_152.out) (Kd.R_g HO_153001.out) (by decide)) hk; replace BK145 := kB hk BK145; replace BK152 := kB hk BK152; replace HK := kT (by exact kb36_2 HK.out GW145.out GW152.out) hk; replace HI0 := mkA (hi); replace HB := mkA (hb); clear hb hk hi) | ((with_reducible refine gate_builtin (b := .append) (xs := #[.tmp 33, .tmp 35]) rfl ?_); at_builtin; refine Kd.R_append (Kd.int .i64) w.heap.size rfl (.tmp 33) (.tmp 35) 24 3 (.int .i64 0) 8 rfl Tryd.underlying24 info3 rfl (by decide) (by omega) u8 x8_1 t156 [.int .i64 t156] (fun k_ => some k_ ≠ (u9 : Value).ownBlock ∧ some k_ ≠ (.slice Ao11 y149.length co11 : Value).ownBlock) (fun _ => False) rfl rfl ?aP (fun _ hk => hk.elim) ?aF ?aO (Below.refl _ _) ?aS ?aL ?_; (case aP => exact rfl); (case aF => exact (fun k_ hk => ⟨Kd.fresh' (Kd.R_lt (Kd.R_g HO_9.out)) k_ hk, Kd.fresh' (Kd.R_lt (Kd.R_g HO_153001.out)) k_ hk⟩)); (case aO => exact (Kd.R_g HO_8.out)); (case aS => exact (keep_size (w := w) (g := g) (row := none) (by exact kb36_2 HK.out GW145.out GW152.out))); (case aL => have := LMc19.out; omega); intro v160 w29 ho hb hg hat; rw [← Ny159.out] at ho; replace HO_9 := mkA (Kd.R_after (ok := (fun k_ => some k_ ≠ (.slice Ao11 y149.length co11 : Value).ownBlock)) (Kd.R_g (Kd.R_mono HO_9.out (fun _ hk => ⟨hk.2, hk.1⟩))) hg hat); replace HO_153001 := mkA (Kd.R_after (ok := (fun k_ => some k_ ≠ (u9 : Value).ownBlock)) (Kd.R_g (Kd.R_mono HO_153001.out (fun _ hk => ⟨hk.2, hk.1⟩))) hg hat); replace BK145 := mkA (blk_grown (g := gb145) (o := .cells #[.int .i64 0, .slice none 0 0] 26 (0, 0)) (blk_g BK145.out) hg (Kd.R_ne HO_8.out BK145.out (by decide))); replace BK152 := mkA (blk_grown (g := gb152) (o := .cells #[.int .i64 t146, .slice Ao11 y149.length co11] 26 (0, 0)) (blk_g BK152.out) hg (Kd.R_ne HO_8.out BK152.out (by decide))); replace HK := mkA (KeepBut.trans (by exact kb36_2 HK.out GW145.out GW152.out) (KeepBut.of_grown hg g) (Kd.R_base2 HO_8.out)); have HO161 := mkA (ho); replace HB := mkA (below_weaken (by exact bl36_2 HB.out HI0.out GE145.out GE152.out) HL.out hb); replace HI0 := mkA (IsS36.grown (by exact st36_2 HI0.out NB0_145.out NB0_152.out) hg (IsS36.own_ne HI0.out HO_8.out (by decide))); clear HO_8; clear ho hb hg hat) | ((with_reducible refine gate_builtin (b := .append) (xs := #[.tmp 46, .tmp 49]) rfl ?_); at_builtin; refine Kd.R_append (Kd.int .i64) w.heap.size rfl (.tmp 46) (.tmp 49) 24 3 (.int .i64 0) 8 rfl Tryd.underlying24 info3 rfl (by decide) (by omega) u9 x9_1 (wrap64 (t156 + 2)) [.int .i64 (wrap64 (t156 + 2))] (fun k_ => some k_ ≠ (.slice Ao11 y149.length co11 : Value).ownBlock ∧ some k_ ≠ (v160 : Value).ownBlock) (fun _ => False) rfl rfl ?aP (fun _ hk => hk.elim) ?aF ?aO (Below.refl _ _) ?aS ?aL ?_; (case aP => exact rfl); (case aF => exact (fun k_ hk => ⟨Kd.fresh' (Kd.R_lt (Kd.R_g HO_153001.out)) k_ hk, Kd.fresh' (Kd.R_lt (Kd.R_g HO161.out)) k_ hk⟩)); (case aO => exact (Kd.R_g HO_9.out)); (case aS => exact (keep_size (w := w) (g := g) (row := none) (by exact kb36_2 HK.out GW145.out GW152.out))); (case aL => have := LMc27.out; omega); intro v169 w30 ho hb hg hat; rw [← Ny168.out] at ho; replace HO_153001 := mkA (Kd.R_after (ok := (fun k_ => some k_ ≠ (v160 : Value).ownBlock)) (Kd.R_g (Kd.R_mono HO_153001.out (fun _ hk => ⟨hk.2, hk.1⟩))) hg hat); replace BK145 := mkA (blk_grown (g := gb145) (o := .cells #[.int .i64 0, .slice none 0 0] 26 (0, 0)) (blk_g BK145.out) hg (Kd.R_ne HO_9.out BK145.out (by decide))); replace BK152 := mkA (blk_grown (g := gb152) (o := .cells #[.int .i64 t146, .slice Ao11 y149.length co11] 26 (0, 0)) (blk_g BK152.out) hg (Kd.R_ne HO_9.out BK152.out (by decide))); replace HO161 := mkA (Kd.R_after (ok := (fun k_ => some k_ ≠ (.slice Ao11 y149.length co11 : Value).ownBlock)) (Kd.R_g (Kd.R_mono HO161.out (fun _ hk => ⟨hk.2, hk.1⟩))) hg hat); replace HK := mkA (KeepBut.trans (by exact kb36_2 HK.out GW145.out GW152.out) (KeepBut.of_grown hg g) (Kd.R_base2 HO_9.out)); have HO170 := mkA (ho); replace HB := mkA (below_weaken (by exact bl36_2 HB.out HI0.out GE145.out GE152.out) HL.out hb); replace HI0 := mkA (IsS36.grown (by exact st36_2 HI0.out NB0_145.out NB0_152.out) hg (IsS36.own_ne HI0.out HO_9.out (by decide))); clear HO_9; clear ho hb hg hat))
     go_roundg k1
     case measure => have := HK1.out; omega
     case rel => exact ⟨(y159), (y168), (wrap64 (x10_1 + 1)), (t157), (t158), eqS, H', ⟨by have := HK1.out; omega⟩, ⟨Kd.R_g (Kd.R_mono HO161.out (fun _ hk => ⟨hk.2, hk.1⟩))⟩, ⟨Kd.R_g (Kd.R_mono HO170.out (fun _ hk => ⟨hk.2, hk.1⟩))⟩, rg HO_153001, bg BK145, bg BK152, ⟨by exact st36_2 HI0.out NB0_145.out NB0_152.out⟩, ⟨by exact kb36_2 HK.out GW145.out GW152.out⟩, ⟨by exact bl36_2 HB.out HI0.out GE145.out GE152.out⟩⟩
   ·have H' := mkA H
    clear H
    go_wp2
    go_loopg [12] k1 (fun kq v12 w' => ∃ (x8_2 : List Int) (x9_2 : List Int) (x12_2 : Int) (x1001_2 : Int) (x1002_2 : Int) (x153001_2 : List Int) (u153001 : Value), v12 = .int .i64 x12_2 ∧ Fc (spec_l1Cur_order.l1 kq t146 t153 x8_2 x9_2 x12_2 s0_0 x1001_2 x1002_2 t146 x153001_2 = some (r1, r2, r3, r4)) ∧ Fc (kq ≤ k1) ∧ Fc (Kd.R (Kd.int .i64) 3 w' w.heap.size (fun k_ => some k_ ≠ (u9 : Value).ownBlock ∧ some k_ ≠ (u153001 : Value).ownBlock) u8 x8_2) ∧ Fc (Kd.R (Kd.int .i64) 3 w' w.heap.size (fun k_ => some k_ ≠ (u8 : Value).ownBlock ∧ some k_ ≠ (u153001 : Value).ownBlock) u9 x9_2) ∧ Fc (Kd.R (Kd.int .i64) 3 w' w.heap.size (fun k_ => some k_ ≠ (u8 : Value).ownBlock ∧ some k_ ≠ (u9 : Value).ownBlock) u153001 x153001_2) ∧ Fc (w'.heap[gb145]? = some (.cells #[.int .i64 0, (.slice none 0 0)] 26 (0, 0))) ∧ Fc (w'.heap[gb152]? = some (.cells #[.int .i64 t146, u153001] 26 (0, 0))) ∧ Fc (IsS36 w0 w' g s0_0 x1001_2 x1002_2) ∧ Fc (KeepBut w w' g none) ∧ Fc (Below w0.heap.size w0 w'))
    case atStart => exact ⟨(x8_1), (x9_1), (0), (x1001_1), (x1002_1), (y149), (.slice Ao11 y149.length co11), eqS, H', ⟨Nat.le_refl _⟩, rg HO_8, rg HO_9, rg HO_153001, bg BK145, bg BK152, ⟨by exact st36_2 HI0.out NB0_145.out NB0_152.out⟩, ⟨by exact kb36_2 HK.out GW145.out GW152.out⟩, ⟨by exact bl36_2 HB.out HI0.out GE145.out GE152.out⟩⟩
    case round =>
     clear H'
     try clear c4
     try clear c4b0
     try clear c4b1
     try clear c5
     try clear c5b0
     try clear c5b1
     try clear c17b0
     try clear c19
     try clear c20
     try clear c20b0
     try clear c20b1
     try clear c22
     try clear c27
     obtain ⟨x8_2, x9_2, x12_2, x1001_2, x1002_2, x153001_2, u153001, rfl, HA, HK2, HO_8, HO_9, HO_153001, BK145, BK152, HI0, HK, HB⟩ := hrel
     cases gk with
     | zero => exact absurd HA.out (by simp [spec_l1Cur_order.l1])
     | succ k2 =>
      have H := HA.out
      clear HA
      simp only [spec_l1Cur_order.l1] at H
      rcases iteE H with ⟨c31b0, H⟩ | ⟨c31b0, H⟩
      ·have H' := mkA H
       clear H
       go_wp2
       go_loopg [13] k2 (fun kq v13 w' => ∃ (x8_3 : List Int) (x9_3 : List Int) (x13_3 : Int) (x1001_3 : Int) (x1002_3 : Int) (x153001_3 : List Int) (u153001 : Value), v13 = .int .i64 x13_3 ∧ Fc (spec_l1Cur_order.l2 kq t146 t153 x8_3 x9_3 x12_2 x13_3 s0_0 x1001_3 x1002_3 t146 x153001_3 = some (r1, r2, r3, r4)) ∧ Fc (kq ≤ k2) ∧ Fc (Kd.R (Kd.int .i64) 3 w' w.heap.size (fun k_ => some k_ ≠ (u9 : Value).ownBlock ∧ some k_ ≠ (u153001 : Value).ownBlock) u8 x8_3) ∧ Fc (Kd.R (Kd.int .i64) 3 w' w.heap.size (fun k_ => some k_ ≠ (u8 : Value).ownBlock ∧ some k_ ≠ (u153001 : Value).ownBlock) u9 x9_3) ∧ Fc (Kd.R (Kd.int .i64) 3 w' w.heap.size (fun k_ => some k_ ≠ (u8 : Value).ownBlock ∧ some k_ ≠ (u9 : Value).ownBlock) u153001 x153001_3) ∧ Fc (w'.heap[gb145]? = some (.cells #[.int .i64 0, (.slice none 0 0)] 26 (0, 0))) ∧ Fc (w'.heap[gb152]? = some (.cells #[.int .i64 t146, u153001] 26 (0, 0))) ∧ Fc (IsS36 w0 w' g s0_0 x1001_3 x1002_3) ∧ Fc (KeepBut w w' g none) ∧ Fc (Below w0.heap.size w0 w'))
       case atStart => exact ⟨(x8_2), (x9_2), (0), (x1001_2), (x1002_2), (x153001_2), (u153001), eqS, H', ⟨Nat.le_refl _⟩, rg HO_8, rg HO_9, rg HO_153001, bg BK145, bg BK152, ⟨by exact st36_2 HI0.out NB0_145.out NB0_152.out⟩, ⟨by exact kb36_2 HK.out GW145.out GW152.out⟩, ⟨by exact bl36_2 HB.out HI0.out GE145.out GE152.out⟩⟩
       case round =>
        clear H'
        try clear c4
        try clear c4b0
        try clear c4b1
        try clear c5
        try clear c5b0
        try clear c5b1
        try clear c17b0
        try clear c19
        try clear c20
        try clear c20b0
        try clear c20b1
        try clear c22
        try clear c27
        try clear c31b0
        obtain ⟨x8_3, x9_3, x13_3, x1001_3, x1002_3, x153001_3, u153001, rfl, HA, HK3, HO_8, HO_9, HO_153001, BK145, BK152, HI0, HK, HB⟩ := hrel
        cases gk with
        | zero => exact absurd HA.out (by simp [spec_l1Cur_order.l2])
        | succ k3 =>
         have H := HA.out
         clear HA
         simp only [spec_l1Cur_order.l2] at H
         rcases iteE H with ⟨c32b0, H⟩ | ⟨c32b0, H⟩
         ·rcases iteP H with ⟨c33, H⟩ | ⟨c33, H⟩
          ·have c33b0 := decide_eq_true c33
           clear c33
           obtain ⟨c34b0, H⟩ := itND H
           obtain ⟨c35b0, H⟩ := itND H
           obtain ⟨c36b0, H⟩ := itND H
           obtain ⟨c37b0, H⟩ := itND H
           rcases iteE H with ⟨c38b0, H⟩ | ⟨c38b0, H⟩
           ·obtain ⟨c39b0, H⟩ := itND H
            have c40b0 := eq_true (ofd : 0 ≤ x13_3)
            obtain ⟨ji41, hji41⟩ : ∃ j_ : Int, (shl .i64 1 x13_3) = j_ := ⟨_, rfl⟩
            first | rw [hji41] at H | simp only [hji41] at H
            have hji41_ : (IntKind.i64.wrap (1 * 2 ^ min x13_3.toNat 64)) = ji41 := hji41
            have hji41z : x13_3 ≤ 64 → (IntKind.i64.wrap (1 * 2 ^ x13_3.toNat)) = ji41 := shl_small hji41
            have hji41u : (IntKind.i64.wrap (2 ^ min x13_3.toNat 64)) = ji41 := by have h_ := hji41_; rw [Int.one_mul] at h_; exact h_
            have hji41v : x13_3 ≤ 64 → (IntKind.i64.wrap (2 ^ x13_3.toNat)) = ji41 := fun hle_ => by have h_ := hji41z hle_; rw [Int.one_mul] at h_; exact h_
            have hji41y : (wrap64 (1 * 2 ^ min x13_3.toNat 64)) = ji41 := (i64_w _).symm.trans hji41_
            have hji41x : x13_3 ≤ 64 → (wrap64 (1 * 2 ^ x13_3.toNat)) = ji41 := fun h_ => (i64_w _).symm.trans (hji41z h_)
            obtain ⟨y180, hy180⟩ : ∃ y_ : List Int, y_ = (x153001_3.set (x12_2 : Int).toNat (Go.bits .or .i64 (rd x153001_3 x12_2) (ji41))) := ⟨_, rfl⟩
            rw [← hy180] at H
            have Ny180 := mkA hy180
            clear hy180
            have H' := mkA H
            clear H
            try go_wp2
            replace HO_8 := mkA (Kd.R_drew HO_8.out)
            replace HO_9 := mkA (Kd.R_drew HO_9.out)
            replace HO_153001 := mkA (Kd.R_drew HO_153001.out)
            replace BK145 := mkA (blk_drew BK145.out)
            replace BK152 := mkA (blk_drew BK152.out)
            replace HI0 := mkA (IsS36.drew HI0.out)
            replace HK := mkA (keep_drew HK.out)
            replace HB := mkA (below_drew1 HB.out)
            obtain ⟨Ao44, co44, eo44⟩ := Kd.R_slice HO_9.out
            (first | subst eo44 | (injection eo44 with f1_ f2_ f3_; have f4_ := f1_.symm; have f5_ := f3_.symm; clear f1_ f2_ f3_; subst f4_; subst f5_))
            obtain ⟨p177, q177, ad177, e177, hx177_0⟩ := atI (Kd.R_reads' HO_9.out).2.2 x12_2
            cases e177
            obtain ⟨Ao45, co45, eo45⟩ := Kd.R_slice HO_8.out
            (first | subst eo45 | (injection eo45 with f1_ f2_ f3_; have f4_ := f1_.symm; have f5_ := f3_.symm; clear f1_ f2_ f3_; subst f4_; subst f5_))
            obtain ⟨p178, q178, ad178, e178, hx178_0⟩ := atI (Kd.R_reads' HO_8.out).2.2 x13_3
            cases e178
            refine start_ (n := 26) (S := fun w' => w'.cell? (ad177.add (x12_2).toNat) = some (.int .i64 (rd x9_3 x12_2)) ∧ w'.cell? (ad178.add (x13_3).toNat) = some (.int .i64 (rd x8_3 x13_3))) (ds := []) (bm 26 0) (by kernel_rfl) rfl (by kernel_rfl) ⟨hx177_0, hx178_0⟩ (fun hHeld => ?_); refine with_tabW spec_l1Cur_order.tab19 spec_l1Cur_order.bits19 (fun HT_ HW_ => ?_)
            generalize wr.drew = w43 at HO_8 HO_9 HO_153001 BK145 BK152 HI0 HK HB hx177_0 hx178_0 hHeld ⊢
            refine purW 0 61 26 1 HT_ ?_
            refine purW 1 62 26 3 HT_ ?_
            refine purW 2 63 26 7 HT_ ?_
            refine purW 3 64 26 15 HT_ ?_
            refine purW 4 65 26 31 HT_ ?_
            refine purW 5 66 26 63 HT_ ?_
            refine purW 7 68 26 191 HT_ ?_
            refine purW 8 69 26 447 HT_ ?_
            refine purW 9 70 26 959 HT_ ?_
            refine takeW 6 (some 67) (bm 26 1023) HT_ HW_ hHeld ?_
            refine takeW 10 (some 71) (bm 26 2047) HT_ HW_ hHeld ?_
            refine purW 11 72 26 4095 HT_ ?_
            refine purW 12 73 26 8191 HT_ ?_
            refine purW 13 74 26 16383 HT_ ?_
            refine purG 14 75 26 32767 HT_ ?_
            refine purG 15 76 26 65535 HT_ ?_
            refine purG 16 77 26 131071 HT_ ?_
            refine purG 17 78 26 262143 HT_ ?_
            refine purG 18 79 26 524287 HT_ ?_
            refine purG 19 80 26 1048575 HT_ ?_
            refine purG 20 81 26 2097151 HT_ ?_
            refine purG 21 82 26 4194303 HT_ ?_
            refine purG 22 83 26 8388607 HT_ ?_
            refine purG 23 84 26 16777215 HT_ ?_
            refine purG 24 85 26 33554431 HT_ ?_
            refine purW 25 86 26 67108863 HT_ ?_
            refine doneW HT_ ?_
            try go_wp2
            replace HO_8 := mkA (Kd.R_drew HO_8.out)
            replace HO_9 := mkA (Kd.R_drew HO_9.out)
            replace HO_153001 := mkA (Kd.R_drew HO_153001.out)
            replace BK145 := mkA (blk_drew BK145.out)
            replace BK152 := mkA (blk_drew BK152.out)
            replace HI0 := mkA (IsS36.drew HI0.out)
            replace HK := mkA (keep_drew HK.out)
            replace HB := mkA (below_drew1 HB.out)
            obtain ⟨Ao47, co47, eo47⟩ := Kd.R_slice HO_153001.out
            (first | subst eo47 | (injection eo47 with f1_ f2_ f3_; have f4_ := f1_.symm; have f5_ := f3_.symm; clear f1_ f2_ f3_; subst f4_; subst f5_))
            obtain ⟨p179, q179, ad179, e179, hx179_0⟩ := atI (Kd.R_reads' HO_153001.out).2.2 x12_2
            cases e179
            have p42 : 0 ≤ (x12_2 : Int) := ofd
            have q42 : (x12_2 : Int) < ((x153001_3.length : Int) : Int) := ofd
            obtain ⟨go42, co42, eo42, gb42, gl42, cl42, HG42⟩ := Kd.R_form HO_153001.out (by omega)
            (first | cases eo42 | (injection eo42 with ea_ en_ ec_; (first | subst ea_ | (injection ea_ with ea_; subst ea_)); subst ec_; clear en_))
            have GB42 : Ge _ _ := ⟨gb42⟩
            have GG42 := mkA HG42
            clear gb42 gl42 HG42
            (first | simp only [add_plain] at hx179_0 | skip)
            obtain ⟨hx42_0, hf42_0⟩ := Kd.R_celln 0 HO_153001.out (x12_2 : Int) p42 q42
            replace p42 := eq_true p42
            replace q42 := eq_true q42
            have HN0_go42 := mkA (show g ≠ go42 from by have h_ := IsS36.own_ne HI0.out HO_153001.out (by decide); intro e_; exact h_ (by rw [e_]; rfl))
            have HP48 := Kd.R_putn HO_153001.out (x12_2 : Int) (Go.bits .or .i64 (rd x153001_3 x12_2) (ji41))
            rw [← Ny180.out] at HP48
            have HQ48 := mkA HP48
            clear HP48
            refine start_ (n := 10) (S := fun w' => w'.cell? ⟨gb152, 0, none⟩ = some (.int .i64 t146) ∧ w'.cell? ⟨gb152, 1, none⟩ = some (.slice (some ⟨go42, 0, none⟩) x153001_3.length co47) ∧ w'.cell? ⟨go42, (x12_2).toNat, none⟩ = some (.int .i64 (rd x153001_3 x12_2))) (ds := [9]) (bm 10 0) (by kernel_rfl) rfl rfl ⟨(blk_cell BK152.out 0).trans rfl, (blk_cell BK152.out 1).trans rfl, hx179_0⟩ (fun hHeld => ?_); refine with_tabW spec_l1Cur_order.tab20 spec_l1Cur_order.bits20 (fun HT_ HW_ => ?_)
            generalize w43.drew = w46 at HO_8 HO_9 HO_153001 BK145 BK152 HI0 HK HB GG42 HQ48 hf42_0 hx179_0 hx42_0 hHeld ⊢
            refine purW 0 87 10 1 HT_ ?_
            refine purW 2 89 10 5 HT_ ?_
            refine purW 5 92 10 37 HT_ ?_
            refine purW 6 93 10 101 HT_ ?_
            refine takeW 1 (some 88) (bm 10 103) HT_ HW_ hHeld ?_
            refine purW 3 90 10 111 HT_ ?_
            refine takeW 4 (some 91) (bm 10 127) HT_ HW_ hHeld ?_
            refine purW 7 94 10 255 HT_ ?_
            refine purW 8 95 10 511 HT_ ?_
            refine last_ (i := 9) (N := none) (bm 10 1023) rfl rfl (one_of HT_.out (by kernel_rfl)) (by decide) (fun K hK => ?_)
            refine skip_ (w1 := ?_) (by rfl) rfl ?_ ?_
            rotate_left
            ·go_simp
             rfl
            refine hK.out _ _ ?_
            clear hK K
            refine doneW HT_ ?_
            try go_wp2
            go_roundg k3
            case measure => have := HK1.out; have := HK2.out; have := HK3.out; omega
            case rel => exact ⟨(x8_3), (x9_3), (wrap64 (x13_3 + 1)), (x1001_3), (x1002_3), (y180), (.slice (some ⟨go42, 0, none⟩) x153001_3.length co47), eqS, H', ⟨by have := HK1.out; have := HK2.out; have := HK3.out; omega⟩, ⟨Kd.R_g (Kd.R_mono (Kd.R_far (p := ⟨go42, (x12_2 : Int).toNat, none⟩) (Kd.R_mono HO_8.out (fun k_ hk => (⟨hk, fun e_ => hk.2 (by rw [e_]; rfl)⟩ : _ ∧ k_ ≠ go42))) (fun _ hk => hk.2) (.int .i64 (Go.bits .or .i64 (rd x153001_3 x12_2) (ji41)))) (fun _ hk => ⟨hk.1.1, hk.1.2⟩))⟩, ⟨Kd.R_g (Kd.R_mono (Kd.R_far (p := ⟨go42, (x12_2 : Int).toNat, none⟩) (Kd.R_mono HO_9.out (fun k_ hk => (⟨hk, fun e_ => hk.2 (by rw [e_]; rfl)⟩ : _ ∧ k_ ≠ go42))) (fun _ hk => hk.2) (.int .i64 (Go.bits .or .i64 (rd x153001_3 x12_2) (ji41)))) (fun _ hk => ⟨hk.1.1, hk.1.2⟩))⟩, ⟨Kd.R_g HQ48.out⟩, ⟨by (with_reducible repeat (first | refine blk_drewN ?_ _ | refine blk_drew ?_ | refine blk_alloc ?_ _)); refine blk_far ?_ (by have h_ := Kd.R_ne HO_153001.out BK145.out (by decide); intro e_; exact h_ (by rw [e_]; rfl)) _; (with_reducible repeat (first | refine blk_drewN ?_ _ | refine blk_drew ?_ | refine blk_alloc ?_ _)); exact BK145.out⟩, ⟨by (with_reducible repeat (first | refine blk_drewN ?_ _ | refine blk_drew ?_ | refine blk_alloc ?_ _)); refine blk_far ?_ (by have h_ := Kd.R_ne HO_153001.out BK152.out (by decide); intro e_; exact h_ (by rw [e_]; rfl)) _; (with_reducible repeat (first | refine blk_drewN ?_ _ | refine blk_drew ?_ | refine blk_alloc ?_ _)); exact BK152.out⟩, ⟨by exact st36_3 HI0.out HN0_go42.out NB0_145.out NB0_152.out⟩, ⟨by exact kb36_3 HK.out GB42.out GW145.out GW152.out⟩, ⟨by repeat (first | (with_reducible first | exact HB.out | apply below_alloc | apply pw_below_drewN | apply below_drew1 | refine below_set ?_ (Nat.le_trans HL.out GB42.out) | refine below_set ?_ (IsS36.ge HI0.out) | refine below_set ?_ GE145.out | refine below_set ?_ GE152.out) | exact HB.out)⟩⟩
           ·rcases iteP H with ⟨c49, H⟩ | ⟨c49, H⟩
            ·have c49b0 := beq_iff_eq.mpr c49
             have c49b1 := bne_eq_false_iff_eq.mpr c49
             clear c49
             rcases iteE H with ⟨c50b0, H⟩ | ⟨c50b0, H⟩
             ·obtain ⟨⟨t181, t182, t183⟩, A51, H⟩ := obE H
              dsimp only at H
              by_cases c52 : t181 = true
              ·subst c52
               replace H := ifT H
               obtain ⟨c53b0, H⟩ := itND H
               have c54b0 := eq_true (ofd : 0 ≤ x13_3)
               obtain ⟨ji55, hji55⟩ : ∃ j_ : Int, (shl .i64 1 x13_3) = j_ := ⟨_, rfl⟩
               first | rw [hji55] at H | simp only [hji55] at H
               (try rw [hji55] at A51)
               have hji55_ : (IntKind.i64.wrap (1 * 2 ^ min x13_3.toNat 64)) = ji55 := hji55
               have hji55z : x13_3 ≤ 64 → (IntKind.i64.wrap (1 * 2 ^ x13_3.toNat)) = ji55 := shl_small hji55
               have hji55u : (IntKind.i64.wrap (2 ^ min x13_3.toNat 64)) = ji55 := by have h_ := hji55_; rw [Int.one_mul] at h_; exact h_
               have hji55v : x13_3 ≤ 64 → (IntKind.i64.wrap (2 ^ x13_3.toNat)) = ji55 := fun hle_ => by have h_ := hji55z hle_; rw [Int.one_mul] at h_; exact h_
               have hji55y : (wrap64 (1 * 2 ^ min x13_3.toNat 64)) = ji55 := (i64_w _).symm.trans hji55_
               have hji55x : x13_3 ≤ 64 → (wrap64 (1 * 2 ^ x13_3.toNat)) = ji55 := fun h_ => (i64_w _).symm.trans (hji55z h_)
               obtain ⟨y185, hy185⟩ : ∃ y_ : List Int, y_ = (x153001_3.set (x12_2 : Int).toNat (Go.bits .or .i64 (rd x153001_3 x12_2) (ji55))) := ⟨_, rfl⟩
               rw [← hy185] at H
               have Ny185 := mkA hy185
               clear hy185
               have H' := mkA H
               clear H
               try go_wp2
               replace HO_8 := mkA (Kd.R_drew HO_8.out)
               replace HO_9 := mkA (Kd.R_drew HO_9.out)
               replace HO_153001 := mkA (Kd.R_drew HO_153001.out)
               replace BK145 := mkA (blk_drew BK145.out)
               replace BK152 := mkA (blk_drew BK152.out)
               replace HI0 := mkA (IsS36.drew HI0.out)
               replace HK := mkA (keep_drew HK.out)
               replace HB := mkA (below_drew1 HB.out)
               obtain ⟨Ao58, co58, eo58⟩ := Kd.R_slice HO_9.out
               (first | subst eo58 | (injection eo58 with f1_ f2_ f3_; have f4_ := f1_.symm; have f5_ := f3_.symm; clear f1_ f2_ f3_; subst f4_; subst f5_))
               obtain ⟨p177, q177, ad177, e177, hx177_0⟩ := atI (Kd.R_reads' HO_9.out).2.2 x12_2
               cases e177
               obtain ⟨Ao59, co59, eo59⟩ := Kd.R_slice HO_8.out
               (first | subst eo59 | (injection eo59 with f1_ f2_ f3_; have f4_ := f1_.symm; have f5_ := f3_.symm; clear f1_ f2_ f3_; subst f4_; subst f5_))
               obtain ⟨p178, q178, ad178, e178, hx178_0⟩ := atI (Kd.R_reads' HO_8.out).2.2 x13_3
               cases e178
               refine start_ (n := 26) (S := fun w' => w'.cell? (ad177.add (x12_2).toNat) = some (.int .i64 (rd x9_3 x12_2)) ∧ w'.cell? (ad178.add (x13_3).toNat) = some (.int .i64 (rd x8_3 x13_3))) (ds := []) (bm 26 0) (by kernel_rfl) rfl (by kernel_rfl) ⟨hx177_0, hx178_0⟩ (fun hHeld => ?_); refine with_tabW spec_l1Cur_order.tab19 spec_l1Cur_order.bits19 (fun HT_ HW_ => ?_)
               generalize wr.drew = w57 at HO_8 HO_9 HO_153001 BK145 BK152 HI0 HK HB hx177_0 hx178_0 hHeld ⊢
               refine purW 0 61 26 1 HT_ ?_
               refine purW 1 62 26 3 HT_ ?_
               refine purW 2 63 26 7 HT_ ?_
               refine purW 3 64 26 15 HT_ ?_
               refine purW 4 65 26 31 HT_ ?_
               refine purW 5 66 26 63 HT_ ?_
               refine purW 7 68 26 191 HT_ ?_
               refine purW 8 69 26 447 HT_ ?_
               refine purW 9 70 26 959 HT_ ?_
               refine takeW 6 (some 67) (bm 26 1023) HT_ HW_ hHeld ?_
               refine takeW 10 (some 71) (bm 26 2047) HT_ HW_ hHeld ?_
               refine purW 11 72 26 4095 HT_ ?_
               refine purW 12 73 26 8191 HT_ ?_
               refine purW 13 74 26 16383 HT_ ?_
               refine purW 14 75 26 32767 HT_ ?_
               refine purW 15 76 26 65535 HT_ ?_
               refine purW 16 77 26 131071 HT_ ?_
               refine purW 17 78 26 262143 HT_ ?_
               refine purW 18 79 26 524287 HT_ ?_
               refine purW 19 80 26 1048575 HT_ ?_
               refine purW 20 81 26 2097151 HT_ ?_
               refine purW 21 82 26 4194303 HT_ ?_
               refine purW 22 83 26 8388607 HT_ ?_
               refine oneW 23 (some 84) (bm 26 16777215) HT_ (fun K hK => ?_)
               refine goesR Tryd.func13 #[.pointer (some ⟨g, 0, none⟩), .int .i64 3] ?_
               with_reducible refine (spec_l1Cur_one.calls g s0_0 x1001_3 x1002_3 3 true t182 t183 w0 _ ?s1 ?s2 A51.out).mono ?_
               (case s1 => exact st36_2 HI0.out NB0_145.out NB0_152.out)
               (case s2 => exact bl36_2 HB.out HI0.out GE145.out GE152.out)
               rintro e w60 ⟨rfl, hi, hb, hk⟩
               have HS0_ := keep_cell hk (hHeld.1) (by first | (rw [add_block]; exact Kd.own_blk (IsS36.own_ne HI0.out HO_9.out (by decide))) | (show (Addr.add _ _).block ≠ _; rw [add_block]; exact Kd.own_blk (IsS36.own_ne HI0.out HO_9.out (by decide))) | exact Kd.own_blk (IsS36.own_ne HI0.out HO_9.out (by decide)))
               have HS1_ := keep_cell hk (hHeld.2) (by first | (rw [add_block]; exact Kd.own_blk (IsS36.own_ne HI0.out HO_8.out (by decide))) | (show (Addr.add _ _).block ≠ _; rw [add_block]; exact Kd.own_blk (IsS36.own_ne HI0.out HO_8.out (by decide))) | exact Kd.own_blk (IsS36.own_ne HI0.out HO_8.out (by decide)))
               refine ⟨_, rfl, ?_⟩
               replace HO_8 := rK (IsS36.apart (show IsS36 w0 _ g s0_0 x1001_3 x1002_3 from by exact st36_2 HI0.out NB0_145.out NB0_152.out) (Kd.R_g HO_8.out) (by decide)) hk
               replace HO_9 := rK (IsS36.apart (show IsS36 w0 _ g s0_0 x1001_3 x1002_3 from by exact st36_2 HI0.out NB0_145.out NB0_152.out) (Kd.R_g HO_9.out) (by decide)) hk
               replace HO_153001 := rK (IsS36.apart (show IsS36 w0 _ g s0_0 x1001_3 x1002_3 from by exact st36_2 HI0.out NB0_145.out NB0_152.out) (Kd.R_g HO_153001.out) (by decide)) hk
               replace BK145 := kB hk BK145
               replace BK152 := kB hk BK152
               replace HK := kT (by exact kb36_2 HK.out GW145.out GW152.out) hk
               replace HI0 := mkA (hi)
               replace HB := mkA (hb)
               (try clear hb)
               (try clear hb2)
               (try clear hk)
               (try clear hi)
               refine hK.out _ _ ⟨HS0_, HS1_⟩ (fun hHeld => ?_)
               clear hK K
               refine normW 84 ?_
               refine purW 24 85 26 33554431 HT_ ?_
               refine purW 25 86 26 67108863 HT_ ?_
               refine doneW HT_ ?_
               try go_wp2
               replace HO_8 := mkA (Kd.R_drew HO_8.out)
               replace HO_9 := mkA (Kd.R_drew HO_9.out)
               replace HO_153001 := mkA (Kd.R_drew HO_153001.out)
               replace BK145 := mkA (blk_drew BK145.out)
               replace BK152 := mkA (blk_drew BK152.out)
               replace HI0 := mkA (IsS36.drew HI0.out)
               replace HK := mkA (keep_drew HK.out)
               replace HB := mkA (below_drew1 HB.out)
               obtain ⟨Ao62, co62, eo62⟩ := Kd.R_slice HO_153001.out
               (first | subst eo62 | (injection eo62 with f1_ f2_ f3_; have f4_ := f1_.symm; have f5_ := f3_.symm; clear f1_ f2_ f3_; subst f4_; subst f5_))
               obtain ⟨p184, q184, ad184, e184, hx184_0⟩ := atI (Kd.R_reads' HO_153001.out).2.2 x12_2
               cases e184
               have p56 : 0 ≤ (x12_2 : Int) := ofd
               have q56 : (x12_2 : Int) < ((x153001_3.length : Int) : Int) := ofd
               obtain ⟨go56, co56, eo56, gb56, gl56, cl56, HG56⟩ := Kd.R_form HO_153001.out (by omega)
               (first | cases eo56 | (injection eo56 with ea_ en_ ec_; (first | subst ea_ | (injection ea_ with ea_; subst ea_)); subst ec_; clear en_))
               have GB56 : Ge _ _ := ⟨gb56⟩
               have GG56 := mkA HG56
               clear gb56 gl56 HG56
               (first | simp only [add_plain] at hx184_0 | skip)
               obtain ⟨hx56_0, hf56_0⟩ := Kd.R_celln 0 HO_153001.out (x12_2 : Int) p56 q56
               replace p56 := eq_true p56
               replace q56 := eq_true q56
               have HN0_go56 := mkA (show g ≠ go56 from by have h_ := IsS36.own_ne HI0.out HO_153001.out (by decide); intro e_; exact h_ (by rw [e_]; rfl))
               have HP63 := Kd.R_putn HO_153001.out (x12_2 : Int) (Go.bits .or .i64 (rd x153001_3 x12_2) (ji55))
               rw [← Ny185.out] at HP63
               have HQ63 := mkA HP63
               clear HP63
               refine start_ (n := 10) (S := fun w' => w'.cell? ⟨gb152, 0, none⟩ = some (.int .i64 t146) ∧ w'.cell? ⟨gb152, 1, none⟩ = some (.slice (some ⟨go56, 0, none⟩) x153001_3.length co62) ∧ w'.cell? ⟨go56, (x12_2).toNat, none⟩ = some (.int .i64 (rd x153001_3 x12_2))) (ds := [9]) (bm 10 0) (by kernel_rfl) rfl rfl ⟨(blk_cell BK152.out 0).trans rfl, (blk_cell BK152.out 1).trans rfl, hx184_0⟩ (fun hHeld => ?_); refine with_tabW spec_l1Cur_order.tab20 spec_l1Cur_order.bits20 (fun HT_ HW_ => ?_)
               generalize w60.drew = w61 at HO_8 HO_9 HO_153001 BK145 BK152 HI0 HK HB GG56 HQ63 hf56_0 hx184_0 hx56_0 hHeld ⊢
               refine purW 0 87 10 1 HT_ ?_
               refine purW 2 89 10 5 HT_ ?_
               refine purW 5 92 10 37 HT_ ?_
               refine purW 6 93 10 101 HT_ ?_
               refine takeW 1 (some 88) (bm 10 103) HT_ HW_ hHeld ?_
               refine purW 3 90 10 111 HT_ ?_
               refine takeW 4 (some 91) (bm 10 127) HT_ HW_ hHeld ?_
               refine purW 7 94 10 255 HT_ ?_
               refine purW 8 95 10 511 HT_ ?_
               refine last_ (i := 9) (N := none) (bm 10 1023) rfl rfl (one_of HT_.out (by kernel_rfl)) (by decide) (fun K hK => ?_)
               refine skip_ (w1 := ?_) (by rfl) rfl ?_ ?_
               rotate_left
               ·go_simp
                rfl
               refine hK.out _ _ ?_
               clear hK K
               refine doneW HT_ ?_
               try go_wp2
               go_roundg k3
               case measure => have := HK1.out; have := HK2.out; have := HK3.out; omega
               case rel => exact ⟨(x8_3), (x9_3), (wrap64 (x13_3 + 1)), (t182), (t183), (y185), (.slice (some ⟨go56, 0, none⟩) x153001_3.length co62), eqS, H', ⟨by have := HK1.out; have := HK2.out; have := HK3.out; omega⟩, ⟨Kd.R_g (Kd.R_mono (Kd.R_far (p := ⟨go56, (x12_2 : Int).toNat, none⟩) (Kd.R_mono HO_8.out (fun k_ hk => (⟨hk, fun e_ => hk.2 (by rw [e_]; rfl)⟩ : _ ∧ k_ ≠ go56))) (fun _ hk => hk.2) (.int .i64 (Go.bits .or .i64 (rd x153001_3 x12_2) (ji55)))) (fun _ hk => ⟨hk.1.1, hk.1.2⟩))⟩, ⟨Kd.R_g (Kd.R_mono (Kd.R_far (p := ⟨go56, (x12_2 : Int).toNat, none⟩) (Kd.R_mono HO_9.out (fun k_ hk => (⟨hk, fun e_ => hk.2 (by rw [e_]; rfl)⟩ : _ ∧ k_ ≠ go56))) (fun _ hk => hk.2) (.int .i64 (Go.bits .or .i64 (rd x153001_3 x12_2) (ji55)))) (fun _ hk => ⟨hk.1.1, hk.1.2⟩))⟩, ⟨Kd.R_g HQ63.out⟩, ⟨by (with_reducible repeat (first | refine blk_drewN ?_ _ | refine blk_drew ?_ | refine blk_alloc ?_ _)); refine blk_far ?_ (by have h_ := Kd.R_ne HO_153001.out BK145.out (by decide); intro e_; exact h_ (by rw [e_]; rfl)) _; (with_reducible repeat (first | refine blk_drewN ?_ _ | refine blk_drew ?_ | refine blk_alloc ?_ _)); exact BK145.out⟩, ⟨by (with_reducible repeat (first | refine blk_drewN ?_ _ | refine blk_drew ?_ | refine blk_alloc ?_ _)); refine blk_far ?_ (by have h_ := Kd.R_ne HO_153001.out BK152.out (by decide); intro e_; exact h_ (by rw [e_]; rfl)) _; (with_reducible repeat (first | refine blk_drewN ?_ _ | refine blk_drew ?_ | refine blk_alloc ?_ _)); exact BK152.out⟩, ⟨by exact st36_3 HI0.out HN0_go56.out NB0_145.out NB0_152.out⟩, ⟨by exact kb36_3 HK.out GB56.out GW145.out GW152.out⟩, ⟨by repeat (first | (with_reducible first | exact HB.out | apply below_alloc | apply pw_below_drewN | apply below_drew1 | refine below_set ?_ (Nat.le_trans HL.out GB56.out) | refine below_set ?_ (IsS36.ge HI0.out) | refine below_set ?_ GE145.out | refine below_set ?_ GE152.out) | exact HB.out)⟩⟩
              ·replace c52 := Bool.eq_false_iff.mpr c52
               subst c52
               replace H := ifF H
               have H' := mkA H
               clear H
               try go_wp2
               replace HO_8 := mkA (Kd.R_drew HO_8.out)
               replace HO_9 := mkA (Kd.R_drew HO_9.out)
               replace HO_153001 := mkA (Kd.R_drew HO_153001.out)
               replace BK145 := mkA (blk_drew BK145.out)
               replace BK152 := mkA (blk_drew BK152.out)
               replace HI0 := mkA (IsS36.drew HI0.out)
               replace HK := mkA (keep_drew HK.out)
               replace HB := mkA (below_drew1 HB.out)
               obtain ⟨Ao65, co65, eo65⟩ := Kd.R_slice HO_9.out
               (first | subst eo65 | (injection eo65 with f1_ f2_ f3_; have f4_ := f1_.symm; have f5_ := f3_.symm; clear f1_ f2_ f3_; subst f4_; subst f5_))
               obtain ⟨p177, q177, ad177, e177, hx177_0⟩ := atI (Kd.R_reads' HO_9.out).2.2 x12_2
               cases e177
               obtain ⟨Ao66, co66, eo66⟩ := Kd.R_slice HO_8.out
               (first | subst eo66 | (injection eo66 with f1_ f2_ f3_; have f4_ := f1_.symm; have f5_ := f3_.symm; clear f1_ f2_ f3_; subst f4_; subst f5_))
               obtain ⟨p178, q178, ad178, e178, hx178_0⟩ := atI (Kd.R_reads' HO_8.out).2.2 x13_3
               cases e178
               refine start_ (n := 26) (S := fun w' => w'.cell? (ad177.add (x12_2).toNat) = some (.int .i64 (rd x9_3 x12_2)) ∧ w'.cell? (ad178.add (x13_3).toNat) = some (.int .i64 (rd x8_3 x13_3))) (ds := []) (bm 26 0) (by kernel_rfl) rfl (by kernel_rfl) ⟨hx177_0, hx178_0⟩ (fun hHeld => ?_); refine with_tabW spec_l1Cur_order.tab19 spec_l1Cur_order.bits19 (fun HT_ HW_ => ?_)
               generalize wr.drew = w64 at HO_8 HO_9 HO_153001 BK145 BK152 HI0 HK HB hx177_0 hx178_0 hHeld ⊢
               refine purW 0 61 26 1 HT_ ?_
               refine purW 1 62 26 3 HT_ ?_
               refine purW 2 63 26 7 HT_ ?_
               refine purW 3 64 26 15 HT_ ?_
               refine purW 4 65 26 31 HT_ ?_
               refine purW 5 66 26 63 HT_ ?_
               refine purW 7 68 26 191 HT_ ?_
               refine purW 8 69 26 447 HT_ ?_
               refine purW 9 70 26 959 HT_ ?_
               refine takeW 6 (some 67) (bm 26 1023) HT_ HW_ hHeld ?_
               refine takeW 10 (some 71) (bm 26 2047) HT_ HW_ hHeld ?_
               refine purW 11 72 26 4095 HT_ ?_
               refine purW 12 73 26 8191 HT_ ?_
               refine purW 13 74 26 16383 HT_ ?_
               refine purW 14 75 26 32767 HT_ ?_
               refine purW 15 76 26 65535 HT_ ?_
               refine purW 16 77 26 131071 HT_ ?_
               refine purW 17 78 26 262143 HT_ ?_
               refine purW 18 79 26 524287 HT_ ?_
               refine purW 19 80 26 1048575 HT_ ?_
               refine purW 20 81 26 2097151 HT_ ?_
               refine purW 21 82 26 4194303 HT_ ?_
               refine purW 22 83 26 8388607 HT_ ?_
               refine oneW 23 (some 84) (bm 26 16777215) HT_ (fun K hK => ?_)
               refine goesR Tryd.func13 #[.pointer (some ⟨g, 0, none⟩), .int .i64 3] ?_
               with_reducible refine (spec_l1Cur_one.calls g s0_0 x1001_3 x1002_3 3 false t182 t183 w0 _ ?s1 ?s2 A51.out).mono ?_
               (case s1 => exact st36_2 HI0.out NB0_145.out NB0_152.out)
               (case s2 => exact bl36_2 HB.out HI0.out GE145.out GE152.out)
               rintro e w67 ⟨rfl, hi, hb, hk⟩
               have HS0_ := keep_cell hk (hHeld.1) (by first | (rw [add_block]; exact Kd.own_blk (IsS36.own_ne HI0.out HO_9.out (by decide))) | (show (Addr.add _ _).block ≠ _; rw [add_block]; exact Kd.own_blk (IsS36.own_ne HI0.out HO_9.out (by decide))) | exact Kd.own_blk (IsS36.own_ne HI0.out HO_9.out (by decide)))
               have HS1_ := keep_cell hk (hHeld.2) (by first | (rw [add_block]; exact Kd.own_blk (IsS36.own_ne HI0.out HO_8.out (by decide))) | (show (Addr.add _ _).block ≠ _; rw [add_block]; exact Kd.own_blk (IsS36.own_ne HI0.out HO_8.out (by decide))) | exact Kd.own_blk (IsS36.own_ne HI0.out HO_8.out (by decide)))
               refine ⟨_, rfl, ?_⟩
               replace HO_8 := rK (IsS36.apart (show IsS36 w0 _ g s0_0 x1001_3 x1002_3 from by exact st36_2 HI0.out NB0_145.out NB0_152.out) (Kd.R_g HO_8.out) (by decide)) hk
               replace HO_9 := rK (IsS36.apart (show IsS36 w0 _ g s0_0 x1001_3 x1002_3 from by exact st36_2 HI0.out NB0_145.out NB0_152.out) (Kd.R_g HO_9.out) (by decide)) hk
               replace HO_153001 := rK (IsS36.apart (show IsS36 w0 _ g s0_0 x1001_3 x1002_3 from by exact st36_2 HI0.out NB0_145.out NB0_152.out) (Kd.R_g HO_153001.out) (by decide)) hk
               replace BK145 := kB hk BK145
               replace BK152 := kB hk BK152
               replace HK := kT (by exact kb36_2 HK.out GW145.out GW152.out) hk
               replace HI0 := mkA (hi)
               replace HB := mkA (hb)
               (try clear hb)
               (try clear hb2)
               (try clear hk)
               (try clear hi)
               refine hK.out _ _ ⟨HS0_, HS1_⟩ (fun hHeld => ?_)
               clear hK K
               refine normW 84 ?_
               refine purW 24 85 26 33554431 HT_ ?_
               refine purW 25 86 26 67108863 HT_ ?_
               refine doneW HT_ ?_
               try go_wp2
               go_roundg k3
               case measure => have := HK1.out; have := HK2.out; have := HK3.out; omega
               case rel => exact ⟨(x8_3), (x9_3), (wrap64 (x13_3 + 1)), (t182), (t183), (x153001_3), (u153001), eqS, H', ⟨by have := HK1.out; have := HK2.out; have := HK3.out; omega⟩, rg HO_8, rg HO_9, rg HO_153001, bg BK145, bg BK152, ⟨by exact st36_2 HI0.out NB0_145.out NB0_152.out⟩, ⟨by exact kb36_2 HK.out GW145.out GW152.out⟩, ⟨by exact bl36_2 HB.out HI0.out GE145.out GE152.out⟩⟩
             ·have H' := mkA H
              clear H
              try go_wp2
              replace HO_8 := mkA (Kd.R_drew HO_8.out)
              replace HO_9 := mkA (Kd.R_drew HO_9.out)
              replace HO_153001 := mkA (Kd.R_drew HO_153001.out)
              replace BK145 := mkA (blk_drew BK145.out)
              replace BK152 := mkA (blk_drew BK152.out)
              replace HI0 := mkA (IsS36.drew HI0.out)
              replace HK := mkA (keep_drew HK.out)
              replace HB := mkA (below_drew1 HB.out)
              obtain ⟨Ao69, co69, eo69⟩ := Kd.R_slice HO_9.out
              (first | subst eo69 | (injection eo69 with f1_ f2_ f3_; have f4_ := f1_.symm; have f5_ := f3_.symm; clear f1_ f2_ f3_; subst f4_; subst f5_))
              obtain ⟨p177, q177, ad177, e177, hx177_0⟩ := atI (Kd.R_reads' HO_9.out).2.2 x12_2
              cases e177
              obtain ⟨Ao70, co70, eo70⟩ := Kd.R_slice HO_8.out
              (first | subst eo70 | (injection eo70 with f1_ f2_ f3_; have f4_ := f1_.symm; have f5_ := f3_.symm; clear f1_ f2_ f3_; subst f4_; subst f5_))
              obtain ⟨p178, q178, ad178, e178, hx178_0⟩ := atI (Kd.R_reads' HO_8.out).2.2 x13_3
              cases e178
              refine start_ (n := 26) (S := fun w' => w'.cell? (ad177.add (x12_2).toNat) = some (.int .i64 (rd x9_3 x12_2)) ∧ w'.cell? (ad178.add (x13_3).toNat) = some (.int .i64 (rd x8_3 x13_3))) (ds := []) (bm 26 0) (by kernel_rfl) rfl (by kernel_rfl) ⟨hx177_0, hx178_0⟩ (fun hHeld => ?_); refine with_tabW spec_l1Cur_order.tab19 spec_l1Cur_order.bits19 (fun HT_ HW_ => ?_)
              generalize wr.drew = w68 at HO_8 HO_9 HO_153001 BK145 BK152 HI0 HK HB hx177_0 hx178_0 hHeld ⊢
              refine purW 0 61 26 1 HT_ ?_
              refine purW 1 62 26 3 HT_ ?_
              refine purW 2 63 26 7 HT_ ?_
              refine purW 3 64 26 15 HT_ ?_
              refine purW 4 65 26 31 HT_ ?_
              refine purW 5 66 26 63 HT_ ?_
              refine purW 7 68 26 191 HT_ ?_
              refine purW 8 69 26 447 HT_ ?_
              refine purW 9 70 26 959 HT_ ?_
              refine takeW 6 (some 67) (bm 26 1023) HT_ HW_ hHeld ?_
              refine takeW 10 (some 71) (bm 26 2047) HT_ HW_ hHeld ?_
              refine purW 11 72 26 4095 HT_ ?_
              refine purW 12 73 26 8191 HT_ ?_
              refine purW 13 74 26 16383 HT_ ?_
              refine purW 14 75 26 32767 HT_ ?_
              refine purW 15 76 26 65535 HT_ ?_
              refine purW 16 77 26 131071 HT_ ?_
              refine purW 17 78 26 262143 HT_ ?_
              refine purW 18 79 26 524287 HT_ ?_
              refine purW 19 80 26 1048575 HT_ ?_
              refine purW 20 81 26 2097151 HT_ ?_
              refine purW 21 82 26 4194303 HT_ ?_
              refine purG 22 83 26 8388607 HT_ ?_
              refine purG 23 84 26 16777215 HT_ ?_
              refine purW 24 85 26 33554431 HT_ ?_
              refine purW 25 86 26 67108863 HT_ ?_
              refine doneW HT_ ?_
              try go_wp2
              go_roundg k3
              case measure => have := HK1.out; have := HK2.out; have := HK3.out; omega
              case rel => exact ⟨(x8_3), (x9_3), (wrap64 (x13_3 + 1)), (x1001_3), (x1002_3), (x153001_3), (u153001), eqS, H', ⟨by have := HK1.out; have := HK2.out; have := HK3.out; omega⟩, rg HO_8, rg HO_9, rg HO_153001, bg BK145, bg BK152, ⟨by exact st36_2 HI0.out NB0_145.out NB0_152.out⟩, ⟨by exact kb36_2 HK.out GW145.out GW152.out⟩, ⟨by exact bl36_2 HB.out HI0.out GE145.out GE152.out⟩⟩
            ·have c49b0 := beq_eq_false_iff_ne.mpr c49
             have c49b1 := bne_iff_ne.mpr c49
             have H' := mkA H
             clear H
             try go_wp2
             replace HO_8 := mkA (Kd.R_drew HO_8.out)
             replace HO_9 := mkA (Kd.R_drew HO_9.out)
             replace HO_153001 := mkA (Kd.R_drew HO_153001.out)
             replace BK145 := mkA (blk_drew BK145.out)
             replace BK152 := mkA (blk_drew BK152.out)
             replace HI0 := mkA (IsS36.drew HI0.out)
             replace HK := mkA (keep_drew HK.out)
             replace HB := mkA (below_drew1 HB.out)
             obtain ⟨Ao72, co72, eo72⟩ := Kd.R_slice HO_9.out
             (first | subst eo72 | (injection eo72 with f1_ f2_ f3_; have f4_ := f1_.symm; have f5_ := f3_.symm; clear f1_ f2_ f3_; subst f4_; subst f5_))
             obtain ⟨p177, q177, ad177, e177, hx177_0⟩ := atI (Kd.R_reads' HO_9.out).2.2 x12_2
             cases e177
             obtain ⟨Ao73, co73, eo73⟩ := Kd.R_slice HO_8.out
             (first | subst eo73 | (injection eo73 with f1_ f2_ f3_; have f4_ := f1_.symm; have f5_ := f3_.symm; clear f1_ f2_ f3_; subst f4_; subst f5_))
             obtain ⟨p178, q178, ad178, e178, hx178_0⟩ := atI (Kd.R_reads' HO_8.out).2.2 x13_3
             cases e178
             refine start_ (n := 26) (S := fun w' => w'.cell? (ad177.add (x12_2).toNat) = some (.int .i64 (rd x9_3 x12_2)) ∧ w'.cell? (ad178.add (x13_3).toNat) = some (.int .i64 (rd x8_3 x13_3))) (ds := []) (bm 26 0) (by kernel_rfl) rfl (by kernel_rfl) ⟨hx177_0, hx178_0⟩ (fun hHeld => ?_); refine with_tabW spec_l1Cur_order.tab19 spec_l1Cur_order.bits19 (fun HT_ HW_ => ?_)
             generalize wr.drew = w71 at HO_8 HO_9 HO_153001 BK145 BK152 HI0 HK HB hx177_0 hx178_0 hHeld ⊢
             refine purW 0 61 26 1 HT_ ?_
             refine purW 1 62 26 3 HT_ ?_
             refine purW 2 63 26 7 HT_ ?_
             refine purW 3 64 26 15 HT_ ?_
             refine purW 4 65 26 31 HT_ ?_
             refine purW 5 66 26 63 HT_ ?_
             refine purW 7 68 26 191 HT_ ?_
             refine purW 8 69 26 447 HT_ ?_
             refine purW 9 70 26 959 HT_ ?_
             refine takeW 6 (some 67) (bm 26 1023) HT_ HW_ hHeld ?_
             refine takeW 10 (some 71) (bm 26 2047) HT_ HW_ hHeld ?_
             refine purW 11 72 26 4095 HT_ ?_
             refine purW 12 73 26 8191 HT_ ?_
             refine purW 13 74 26 16383 HT_ ?_
             refine purW 14 75 26 32767 HT_ ?_
             refine purW 15 76 26 65535 HT_ ?_
             refine purW 16 77 26 131071 HT_ ?_
             refine purG 17 78 26 262143 HT_ ?_
             refine purG 18 79 26 524287 HT_ ?_
             refine purG 19 80 26 1048575 HT_ ?_
             refine purW 20 81 26 2097151 HT_ ?_
             refine purW 21 82 26 4194303 HT_ ?_
             refine purG 22 83 26 8388607 HT_ ?_
             refine purG 23 84 26 16777215 HT_ ?_
             refine purW 24 85 26 33554431 HT_ ?_
             refine purW 25 86 26 67108863 HT_ ?_
             refine doneW HT_ ?_
             try go_wp2
             go_roundg k3
             case measure => have := HK1.out; have := HK2.out; have := HK3.out; omega
             case rel => exact ⟨(x8_3), (x9_3), (wrap64 (x13_3 + 1)), (x1001_3), (x1002_3), (x153001_3), (u153001), eqS, H', ⟨by have := HK1.out; have := HK2.out; have := HK3.out; omega⟩, rg HO_8, rg HO_9, rg HO_153001, bg BK145, bg BK152, ⟨by exact st36_2 HI0.out NB0_145.out NB0_152.out⟩, ⟨by exact kb36_2 HK.out GW145.out GW152.out⟩, ⟨by exact bl36_2 HB.out HI0.out GE145.out GE152.out⟩⟩
          ·have c33b0 := decide_eq_false c33
           clear c33
           rcases iteP H with ⟨c74, H⟩ | ⟨c74, H⟩
           ·have c74b0 := beq_iff_eq.mpr c74
            have c74b1 := bne_eq_false_iff_eq.mpr c74
            clear c74
            rcases iteE H with ⟨c75b0, H⟩ | ⟨c75b0, H⟩
            ·obtain ⟨⟨t186, t187, t188⟩, A76, H⟩ := obE H
             dsimp only at H
             by_cases c77 : t186 = true
             ·subst c77
              replace H := ifT H
              obtain ⟨c78b0, H⟩ := itND H
              obtain ⟨c79b0, H⟩ := itND H
              obtain ⟨c80b0, c80b1, H⟩ := itNQ H
              obtain ⟨ji81, hji81⟩ : ∃ j_ : Int, (shl .i64 1 x13_3) = j_ := ⟨_, rfl⟩
              first | rw [hji81] at H | simp only [hji81] at H
              (try rw [hji81] at A76)
              have hji81_ : (IntKind.i64.wrap (1 * 2 ^ min x13_3.toNat 64)) = ji81 := hji81
              have hji81z : x13_3 ≤ 64 → (IntKind.i64.wrap (1 * 2 ^ x13_3.toNat)) = ji81 := shl_small hji81
              have hji81u : (IntKind.i64.wrap (2 ^ min x13_3.toNat 64)) = ji81 := by have h_ := hji81_; rw [Int.one_mul] at h_; exact h_
              have hji81v : x13_3 ≤ 64 → (IntKind.i64.wrap (2 ^ x13_3.toNat)) = ji81 := fun hle_ => by have h_ := hji81z hle_; rw [Int.one_mul] at h_; exact h_
              have hji81y : (wrap64 (1 * 2 ^ min x13_3.toNat 64)) = ji81 := (i64_w _).symm.trans hji81_
              have hji81x : x13_3 ≤ 64 → (wrap64 (1 * 2 ^ x13_3.toNat)) = ji81 := fun h_ => (i64_w _).symm.trans (hji81z h_)
              obtain ⟨y190, hy190⟩ : ∃ y_ : List Int, y_ = (x153001_3.set (x12_2 : Int).toNat (Go.bits .or .i64 (rd x153001_3 x12_2) (ji81))) := ⟨_, rfl⟩
              rw [← hy190] at H
              have Ny190 := mkA hy190
              clear hy190
              have H' := mkA H
              clear H
              try go_wp2
              replace HO_8 := mkA (Kd.R_drew HO_8.out)
              replace HO_9 := mkA (Kd.R_drew HO_9.out)
              replace HO_153001 := mkA (Kd.R_drew HO_153001.out)
              replace BK145 := mkA (blk_drew BK145.out)
              replace BK152 := mkA (blk_drew BK152.out)
              replace HI0 := mkA (IsS36.drew HI0.out)
              replace HK := mkA (keep_drew HK.out)
              replace HB := mkA (below_drew1 HB.out)
              refine start_ (n := 26) (S := fun w' => True) (ds := []) (bm 26 0) (by kernel_rfl) rfl (by kernel_rfl) trivial (fun hHeld => ?_); refine with_tabW spec_l1Cur_order.tab19 spec_l1Cur_order.bits19 (fun HT_ HW_ => ?_)
              generalize wr.drew = w83 at HO_8 HO_9 HO_153001 BK145 BK152 HI0 HK HB hHeld ⊢
              refine purW 0 61 26 1 HT_ ?_
              refine purW 1 62 26 3 HT_ ?_
              refine purW 2 63 26 7 HT_ ?_
              refine purG 3 64 26 15 HT_ ?_
              refine purG 4 65 26 31 HT_ ?_
              refine purG 5 66 26 63 HT_ ?_
              refine purG 6 67 26 127 HT_ ?_
              refine purG 7 68 26 255 HT_ ?_
              refine purG 8 69 26 511 HT_ ?_
              refine purG 9 70 26 1023 HT_ ?_
              refine purG 10 71 26 2047 HT_ ?_
              refine purG 11 72 26 4095 HT_ ?_
              refine purW 12 73 26 8191 HT_ ?_
              refine purW 13 74 26 16383 HT_ ?_
              refine purW 14 75 26 32767 HT_ ?_
              refine purW 15 76 26 65535 HT_ ?_
              refine purW 16 77 26 131071 HT_ ?_
              refine purW 17 78 26 262143 HT_ ?_
              refine purW 18 79 26 524287 HT_ ?_
              refine purW 19 80 26 1048575 HT_ ?_
              refine purW 20 81 26 2097151 HT_ ?_
              refine purW 21 82 26 4194303 HT_ ?_
              refine purW 22 83 26 8388607 HT_ ?_
              refine oneW 23 (some 84) (bm 26 16777215) HT_ (fun K hK => ?_)
              refine goesR Tryd.func13 #[.pointer (some ⟨g, 0, none⟩), .int .i64 3] ?_
              with_reducible refine (spec_l1Cur_one.calls g s0_0 x1001_3 x1002_3 3 true t187 t188 w0 _ ?s1 ?s2 A76.out).mono ?_
              (case s1 => exact st36_2 HI0.out NB0_145.out NB0_152.out)
              (case s2 => exact bl36_2 HB.out HI0.out GE145.out GE152.out)
              rintro e w84 ⟨rfl, hi, hb, hk⟩
              refine ⟨_, rfl, ?_⟩
              replace HO_8 := rK (IsS36.apart (show IsS36 w0 _ g s0_0 x1001_3 x1002_3 from by exact st36_2 HI0.out NB0_145.out NB0_152.out) (Kd.R_g HO_8.out) (by decide)) hk
              replace HO_9 := rK (IsS36.apart (show IsS36 w0 _ g s0_0 x1001_3 x1002_3 from by exact st36_2 HI0.out NB0_145.out NB0_152.out) (Kd.R_g HO_9.out) (by decide)) hk
              replace HO_153001 := rK (IsS36.apart (show IsS36 w0 _ g s0_0 x1001_3 x1002_3 from by exact st36_2 HI0.out NB0_145.out NB0_152.out) (Kd.R_g HO_153001.out) (by decide)) hk
              replace BK145 := kB hk BK145
              replace BK152 := kB hk BK152
              replace HK := kT (by exact kb36_2 HK.out GW145.out GW152.out) hk
              replace HI0 := mkA (hi)
              replace HB := mkA (hb)
              (try clear hb)
              (try clear hb2)
              (try clear hk)
              (try clear hi)
              refine hK.out _ _ trivial (fun hHeld => ?_)
              clear hK K
              refine normW 84 ?_
              refine purW 24 85 26 33554431 HT_ ?_
              refine purW 25 86 26 67108863 HT_ ?_
              refine doneW HT_ ?_
              try go_wp2
              replace HO_8 := mkA (Kd.R_drew HO_8.out)
              replace HO_9 := mkA (Kd.R_drew HO_9.out)
              replace HO_153001 := mkA (Kd.R_drew HO_153001.out)
              replace BK145 := mkA (blk_drew BK145.out)
              replace BK152 := mkA (blk_drew BK152.out)
              replace HI0 := mkA (IsS36.drew HI0.out)
              replace HK := mkA (keep_drew HK.out)
              replace HB := mkA (below_drew1 HB.out)
              obtain ⟨Ao86, co86, eo86⟩ := Kd.R_slice HO_153001.out
              (first | subst eo86 | (injection eo86 with f1_ f2_ f3_; have f4_ := f1_.symm; have f5_ := f3_.symm; clear f1_ f2_ f3_; subst f4_; subst f5_))
              obtain ⟨p189, q189, ad189, e189, hx189_0⟩ := atI (Kd.R_reads' HO_153001.out).2.2 x12_2
              cases e189
              have p82 : 0 ≤ (x12_2 : Int) := ofd
              have q82 : (x12_2 : Int) < ((x153001_3.length : Int) : Int) := ofd
              obtain ⟨go82, co82, eo82, gb82, gl82, cl82, HG82⟩ := Kd.R_form HO_153001.out (by omega)
              (first | cases eo82 | (injection eo82 with ea_ en_ ec_; (first | subst ea_ | (injection ea_ with ea_; subst ea_)); subst ec_; clear en_))
              have GB82 : Ge _ _ := ⟨gb82⟩
              have GG82 := mkA HG82
              clear gb82 gl82 HG82
              (first | simp only [add_plain] at hx189_0 | skip)
              obtain ⟨hx82_0, hf82_0⟩ := Kd.R_celln 0 HO_153001.out (x12_2 : Int) p82 q82
              replace p82 := eq_true p82
              replace q82 := eq_true q82
              have HN0_go82 := mkA (show g ≠ go82 from by have h_ := IsS36.own_ne HI0.out HO_153001.out (by decide); intro e_; exact h_ (by rw [e_]; rfl))
              have HP87 := Kd.R_putn HO_153001.out (x12_2 : Int) (Go.bits .or .i64 (rd x153001_3 x12_2) (ji81))
              rw [← Ny190.out] at HP87
              have HQ87 := mkA HP87
              clear HP87
              refine start_ (n := 10) (S := fun w' => w'.cell? ⟨gb152, 0, none⟩ = some (.int .i64 t146) ∧ w'.cell? ⟨gb152, 1, none⟩ = some (.slice (some ⟨go82, 0, none⟩) x153001_3.length co86) ∧ w'.cell? ⟨go82, (x12_2).toNat, none⟩ = some (.int .i64 (rd x153001_3 x12_2))) (ds := [9]) (bm 10 0) (by kernel_rfl) rfl rfl ⟨(blk_cell BK152.out 0).trans rfl, (blk_cell BK152.out 1).trans rfl, hx189_0⟩ (fun hHeld => ?_); refine with_tabW spec_l1Cur_order.tab20 spec_l1Cur_order.bits20 (fun HT_ HW_ => ?_)
              generalize w84.drew = w85 at HO_8 HO_9 HO_153001 BK145 BK152 HI0 HK HB GG82 HQ87 hf82_0 hx189_0 hx82_0 hHeld ⊢
              refine purW 0 87 10 1 HT_ ?_
              refine purW 2 89 10 5 HT_ ?_
              refine purW 5 92 10 37 HT_ ?_
              refine purW 6 93 10 101 HT_ ?_
              refine takeW 1 (some 88) (bm 10 103) HT_ HW_ hHeld ?_
              refine purW 3 90 10 111 HT_ ?_
              refine takeW 4 (some 91) (bm 10 127) HT_ HW_ hHeld ?_
              refine purW 7 94 10 255 HT_ ?_
              refine purW 8 95 10 511 HT_ ?_
              refine last_ (i := 9) (N := none) (bm 10 1023) rfl rfl (one_of HT_.out (by kernel_rfl)) (by decide) (fun K hK => ?_)
              refine skip_ (w1 := ?_) (by rfl) rfl ?_ ?_
              rotate_left
              ·go_simp
               rfl
              refine hK.out _ _ ?_
              clear hK K
              refine doneW HT_ ?_
              try go_wp2
              go_roundg k3
              case measure => have := HK1.out; have := HK2.out; have := HK3.out; omega
              case rel => exact ⟨(x8_3), (x9_3), (wrap64 (x13_3 + 1)), (t187), (t188), (y190), (.slice (some ⟨go82, 0, none⟩) x153001_3.length co86), eqS, H', ⟨by have := HK1.out; have := HK2.out; have := HK3.out; omega⟩, ⟨Kd.R_g (Kd.R_mono (Kd.R_far (p := ⟨go82, (x12_2 : Int).toNat, none⟩) (Kd.R_mono HO_8.out (fun k_ hk => (⟨hk, fun e_ => hk.2 (by rw [e_]; rfl)⟩ : _ ∧ k_ ≠ go82))) (fun _ hk => hk.2) (.int .i64 (Go.bits .or .i64 (rd x153001_3 x12_2) (ji81)))) (fun _ hk => ⟨hk.1.1, hk.1.2⟩))⟩, ⟨Kd.R_g (Kd.R_mono (Kd.R_far (p := ⟨go82, (x12_2 : Int).toNat, none⟩) (Kd.R_mono HO_9.out (fun k_ hk => (⟨hk, fun e_ => hk.2 (by rw [e_]; rfl)⟩ : _ ∧ k_ ≠ go82))) (fun _ hk => hk.2) (.int .i64 (Go.bits .or .i64 (rd x153001_3 x12_2) (ji81)))) (fun _ hk => ⟨hk.1.1, hk.1.2⟩))⟩, ⟨Kd.R_g HQ87.out⟩, ⟨by (with_reducible repeat (first | refine blk_drewN ?_ _ | refine blk_drew ?_ | refine blk_alloc ?_ _)); refine blk_far ?_ (by have h_ := Kd.R_ne HO_153001.out BK145.out (by decide); intro e_; exact h_ (by rw [e_]; rfl)) _; (with_reducible repeat (first | refine blk_drewN ?_ _ | refine blk_drew ?_ | refine blk_alloc ?_ _)); exact BK145.out⟩, ⟨by (with_reducible repeat (first | refine blk_drewN ?_ _ | refine blk_drew ?_ | refine blk_alloc ?_ _)); refine blk_far ?_ (by have h_ := Kd.R_ne HO_153001.out BK152.out (by decide); intro e_; exact h_ (by rw [e_]; rfl)) _; (with_reducible repeat (first | refine blk_drewN ?_ _ | refine blk_drew ?_ | refine blk_alloc ?_ _)); exact BK152.out⟩, ⟨by exact st36_3 HI0.out HN0_go82.out NB0_145.out NB0_152.out⟩, ⟨by exact kb36_3 HK.out GB82.out GW145.out GW152.out⟩, ⟨by repeat (first | (with_reducible first | exact HB.out | apply below_alloc | apply pw_below_drewN | apply below_drew1 | refine below_set ?_ (Nat.le_trans HL.out GB82.out) | refine below_set ?_ (IsS36.ge HI0.out) | refine below_set ?_ GE145.out | refine below_set ?_ GE152.out) | exact HB.out)⟩⟩
             ·replace c77 := Bool.eq_false_iff.mpr c77
              subst c77
              replace H := ifF H
              have H' := mkA H
              clear H
              try go_wp2
              replace HO_8 := mkA (Kd.R_drew HO_8.out)
              replace HO_9 := mkA (Kd.R_drew HO_9.out)
              replace HO_153001 := mkA (Kd.R_drew HO_153001.out)
              replace BK145 := mkA (blk_drew BK145.out)
              replace BK152 := mkA (blk_drew BK152.out)
              replace HI0 := mkA (IsS36.drew HI0.out)
              replace HK := mkA (keep_drew HK.out)
              replace HB := mkA (below_drew1 HB.out)
              refine start_ (n := 26) (S := fun w' => True) (ds := []) (bm 26 0) (by kernel_rfl) rfl (by kernel_rfl) trivial (fun hHeld => ?_); refine with_tabW spec_l1Cur_order.tab19 spec_l1Cur_order.bits19 (fun HT_ HW_ => ?_)
              generalize wr.drew = w88 at HO_8 HO_9 HO_153001 BK145 BK152 HI0 HK HB hHeld ⊢
              refine purW 0 61 26 1 HT_ ?_
              refine purW 1 62 26 3 HT_ ?_
              refine purW 2 63 26 7 HT_ ?_
              refine purG 3 64 26 15 HT_ ?_
              refine purG 4 65 26 31 HT_ ?_
              refine purG 5 66 26 63 HT_ ?_
              refine purG 6 67 26 127 HT_ ?_
              refine purG 7 68 26 255 HT_ ?_
              refine purG 8 69 26 511 HT_ ?_
              refine purG 9 70 26 1023 HT_ ?_
              refine purG 10 71 26 2047 HT_ ?_
              refine purG 11 72 26 4095 HT_ ?_
              refine purW 12 73 26 8191 HT_ ?_
              refine purW 13 74 26 16383 HT_ ?_
              refine purW 14 75 26 32767 HT_ ?_
              refine purW 15 76 26 65535 HT_ ?_
              refine purW 16 77 26 131071 HT_ ?_
              refine purW 17 78 26 262143 HT_ ?_
              refine purW 18 79 26 524287 HT_ ?_
              refine purW 19 80 26 1048575 HT_ ?_
              refine purW 20 81 26 2097151 HT_ ?_
              refine purW 21 82 26 4194303 HT_ ?_
              refine purW 22 83 26 8388607 HT_ ?_
              refine oneW 23 (some 84) (bm 26 16777215) HT_ (fun K hK => ?_)
              refine goesR Tryd.func13 #[.pointer (some ⟨g, 0, none⟩), .int .i64 3] ?_
              with_reducible refine (spec_l1Cur_one.calls g s0_0 x1001_3 x1002_3 3 false t187 t188 w0 _ ?s1 ?s2 A76.out).mono ?_
              (case s1 => exact st36_2 HI0.out NB0_145.out NB0_152.out)
              (case s2 => exact bl36_2 HB.out HI0.out GE145.out GE152.out)
              rintro e w89 ⟨rfl, hi, hb, hk⟩
              refine ⟨_, rfl, ?_⟩
              replace HO_8 := rK (IsS36.apart (show IsS36 w0 _ g s0_0 x1001_3 x1002_3 from by exact st36_2 HI0.out NB0_145.out NB0_152.out) (Kd.R_g HO_8.out) (by decide)) hk
              replace HO_9 := rK (IsS36.apart (show IsS36 w0 _ g s0_0 x1001_3 x1002_3 from by exact st36_2 HI0.out NB0_145.out NB0_152.out) (Kd.R_g HO_9.out) (by decide)) hk
              replace HO_153001 := rK (IsS36.apart (show IsS36 w0 _ g s0_0 x1001_3 x1002_3 from by exact st36_2 HI0.out NB0_145.out NB0_152.out) (Kd.R_g HO_153001.out) (by decide)) hk
              replace BK145 := kB hk BK145
              replace BK152 := kB hk BK152
              replace HK := kT (by exact kb36_2 HK.out GW145.out GW152.out) hk
              replace HI0 := mkA (hi)
              replace HB := mkA (hb)
              (try clear hb)
              (try clear hb2)
              (try clear hk)
              (try clear hi)
              refine hK.out _ _ trivial (fun hHeld => ?_)
              clear hK K
              refine normW 84 ?_
              refine purW 24 85 26 33554431 HT_ ?_
              refine purW 25 86 26 67108863 HT_ ?_
              refine doneW HT_ ?_
              try go_wp2
              go_roundg k3
              case measure => have := HK1.out; have := HK2.out; have := HK3.out; omega
              case rel => exact ⟨(x8_3), (x9_3), (wrap64 (x13_3 + 1)), (t187), (t188), (x153001_3), (u153001), eqS, H', ⟨by have := HK1.out; have := HK2.out; have := HK3.out; omega⟩, rg HO_8, rg HO_9, rg HO_153001, bg BK145, bg BK152, ⟨by exact st36_2 HI0.out NB0_145.out NB0_152.out⟩, ⟨by exact kb36_2 HK.out GW145.out GW152.out⟩, ⟨by exact bl36_2 HB.out HI0.out GE145.out GE152.out⟩⟩
            ·have H' := mkA H
             clear H
             try go_wp2
             replace HO_8 := mkA (Kd.R_drew HO_8.out)
             replace HO_9 := mkA (Kd.R_drew HO_9.out)
             replace HO_153001 := mkA (Kd.R_drew HO_153001.out)
             replace BK145 := mkA (blk_drew BK145.out)
             replace BK152 := mkA (blk_drew BK152.out)
             replace HI0 := mkA (IsS36.drew HI0.out)
             replace HK := mkA (keep_drew HK.out)
             replace HB := mkA (below_drew1 HB.out)
             refine start_ (n := 26) (S := fun w' => True) (ds := []) (bm 26 0) (by kernel_rfl) rfl (by kernel_rfl) trivial (fun hHeld => ?_); refine with_tabW spec_l1Cur_order.tab19 spec_l1Cur_order.bits19 (fun HT_ HW_ => ?_)
             generalize wr.drew = w90 at HO_8 HO_9 HO_153001 BK145 BK152 HI0 HK HB hHeld ⊢
             refine purW 0 61 26 1 HT_ ?_
             refine purW 1 62 26 3 HT_ ?_
             refine purW 2 63 26 7 HT_ ?_
             refine purG 3 64 26 15 HT_ ?_
             refine purG 4 65 26 31 HT_ ?_
             refine purG 5 66 26 63 HT_ ?_
             refine purG 6 67 26 127 HT_ ?_
             refine purG 7 68 26 255 HT_ ?_
             refine purG 8 69 26 511 HT_ ?_
             refine purG 9 70 26 1023 HT_ ?_
             refine purG 10 71 26 2047 HT_ ?_
             refine purG 11 72 26 4095 HT_ ?_
             refine purW 12 73 26 8191 HT_ ?_
             refine purW 13 74 26 16383 HT_ ?_
             refine purW 14 75 26 32767 HT_ ?_
             refine purW 15 76 26 65535 HT_ ?_
             refine purW 16 77 26 131071 HT_ ?_
             refine purW 17 78 26 262143 HT_ ?_
             refine purW 18 79 26 524287 HT_ ?_
             refine purW 19 80 26 1048575 HT_ ?_
             refine purW 20 81 26 2097151 HT_ ?_
             refine purW 21 82 26 4194303 HT_ ?_
             refine purG 22 83 26 8388607 HT_ ?_
             refine purG 23 84 26 16777215 HT_ ?_
             refine purW 24 85 26 33554431 HT_ ?_
             refine purW 25 86 26 67108863 HT_ ?_
             refine doneW HT_ ?_
             try go_wp2
             go_roundg k3
             case measure => have := HK1.out; have := HK2.out; have := HK3.out; omega
             case rel => exact ⟨(x8_3), (x9_3), (wrap64 (x13_3 + 1)), (x1001_3), (x1002_3), (x153001_3), (u153001), eqS, H', ⟨by have := HK1.out; have := HK2.out; have := HK3.out; omega⟩, rg HO_8, rg HO_9, rg HO_153001, bg BK145, bg BK152, ⟨by exact st36_2 HI0.out NB0_145.out NB0_152.out⟩, ⟨by exact kb36_2 HK.out GW145.out GW152.out⟩, ⟨by exact bl36_2 HB.out HI0.out GE145.out GE152.out⟩⟩
           ·have c74b0 := beq_eq_false_iff_ne.mpr c74
            have c74b1 := bne_iff_ne.mpr c74
            have H' := mkA H
            clear H
            try go_wp2
            replace HO_8 := mkA (Kd.R_drew HO_8.out)
            replace HO_9 := mkA (Kd.R_drew HO_9.out)
            replace HO_153001 := mkA (Kd.R_drew HO_153001.out)
            replace BK145 := mkA (blk_drew BK145.out)
            replace BK152 := mkA (blk_drew BK152.out)
            replace HI0 := mkA (IsS36.drew HI0.out)
            replace HK := mkA (keep_drew HK.out)
            replace HB := mkA (below_drew1 HB.out)
            refine start_ (n := 26) (S := fun w' => True) (ds := []) (bm 26 0) (by kernel_rfl) rfl (by kernel_rfl) trivial (fun hHeld => ?_); refine with_tabW spec_l1Cur_order.tab19 spec_l1Cur_order.bits19 (fun HT_ HW_ => ?_)
            generalize wr.drew = w91 at HO_8 HO_9 HO_153001 BK145 BK152 HI0 HK HB hHeld ⊢
            refine purW 0 61 26 1 HT_ ?_
            refine purW 1 62 26 3 HT_ ?_
            refine purW 2 63 26 7 HT_ ?_
            refine purG 3 64 26 15 HT_ ?_
            refine purG 4 65 26 31 HT_ ?_
            refine purG 5 66 26 63 HT_ ?_
            refine purG 6 67 26 127 HT_ ?_
            refine purG 7 68 26 255 HT_ ?_
            refine purG 8 69 26 511 HT_ ?_
            refine purG 9 70 26 1023 HT_ ?_
            refine purG 10 71 26 2047 HT_ ?_
            refine purG 11 72 26 4095 HT_ ?_
            refine purW 12 73 26 8191 HT_ ?_
            refine purW 13 74 26 16383 HT_ ?_
            refine purW 14 75 26 32767 HT_ ?_
            refine purW 15 76 26 65535 HT_ ?_
            refine purW 16 77 26 131071 HT_ ?_
            refine purG 17 78 26 262143 HT_ ?_
            refine purG 18 79 26 524287 HT_ ?_
            refine purG 19 80 26 1048575 HT_ ?_
            refine purW 20 81 26 2097151 HT_ ?_
            refine purW 21 82 26 4194303 HT_ ?_
            refine purG 22 83 26 8388607 HT_ ?_
            refine purG 23 84 26 16777215 HT_ ?_
            refine purW 24 85 26 33554431 HT_ ?_
            refine purW 25 86 26 67108863 HT_ ?_
            refine doneW HT_ ?_
            try go_wp2
            go_roundg k3
            case measure => have := HK1.out; have := HK2.out; have := HK3.out; omega
            case rel => exact ⟨(x8_3), (x9_3), (wrap64 (x13_3 + 1)), (x1001_3), (x1002_3), (x153001_3), (u153001), eqS, H', ⟨by have := HK1.out; have := HK2.out; have := HK3.out; omega⟩, rg HO_8, rg HO_9, rg HO_153001, bg BK145, bg BK152, ⟨by exact st36_2 HI0.out NB0_145.out NB0_152.out⟩, ⟨by exact kb36_2 HK.out GW145.out GW152.out⟩, ⟨by exact bl36_2 HB.out HI0.out GE145.out GE152.out⟩⟩
         ·have H' := mkA H
          clear H
          go_wp2
          go_roundg k3
          case measure => have := HK1.out; have := HK2.out; have := HK3.out; omega
          case rel => exact ⟨(x8_3), (x9_3), (wrap64 (x12_2 + 1)), (x1001_3), (x1002_3), (x153001_3), (u153001), eqS, H', ⟨by have := HK1.out; have := HK2.out; have := HK3.out; omega⟩, rg HO_8, rg HO_9, rg HO_153001, bg BK145, bg BK152, ⟨by exact st36_2 HI0.out NB0_145.out NB0_152.out⟩, ⟨by exact kb36_2 HK.out GW145.out GW152.out⟩, ⟨by exact bl36_2 HB.out HI0.out GE145.out GE152.out⟩⟩
      ·rcases iteP H with ⟨c92, H⟩ | ⟨c92, H⟩
       ·have c92b0 := decide_eq_true c92
        clear c92
        simp only [Option.some.injEq, Prod.mk.injEq] at H
        obtain ⟨rfl, rfl, rfl, rfl⟩ := H
        obtain ⟨_, _, _, _⟩ := blk2 BK152
        obtain ⟨_, _, _, _⟩ := blk2 BK145
        obtain ⟨Ao98, co98, rfl⟩ := Kd.R_slice HO_153001.out
        go_wp2
        refine bodyPost_ret (results_cell_row rfl _ _ gb145 26 #[.int .i64 t146, .slice Ao98 x153001_2.length co98] (0, 0) _ rfl (blkT BK145) Tryd.underlying26 rfl (by kernel_rfl)) rfl ?_
        exact ⟨_, eqE, Kd.R_g (Kd.R_mono (rF HO_153001 BK145) (fun _ _ => trivial)), by exact st36_2 HI0.out NB0_145.out NB0_152.out, by exact bl36_2 HB.out HI0.out GE145.out GE152.out, by exact kb36_2 HK.out GW145.out GW152.out⟩
       ·have c92b0 := decide_eq_false c92
        clear c92
        obtain ⟨⟨t171, t172, t175⟩, A99, H⟩ := obE H
        dsimp only at H
        simp only [Option.some.injEq, Prod.mk.injEq] at H
        obtain ⟨rfl, rfl, rfl, rfl⟩ := H
        obtain ⟨_, _, _, _⟩ := blk2 BK152
        obtain ⟨Ao103, co103, rfl⟩ := Kd.R_slice HO_153001.out
        go_wp2_with (first | ((with_reducible refine gate_callee (f := 7) rfl ?_); refine goesQ (some 101) Tryd.func7 #[.agg #[.int .i64 t146, .slice Ao103 x153001_2.length co103]] ?_; (with_reducible refine (spec_CloseRelation.calls k2 t146 _ _ x153001_2 t171 t172 t175 _ ?_ ?_ A99.out).mono ?_); exact rC HO_153001; exact rL HO_153001; rintro e w104 ⟨v173, rfl, ho0, hb⟩; refine ⟨_, rfl, ?_⟩; have HO174 := mkA (Kd.R_lower (rN (rN (rN ho0 HO_8) HO_9) HO_153001) (keep_size (w := w) (g := g) (row := none) (by exact kb36_2 HK.out GW145.out GW152.out))); replace HO_8 := rE HO_8 ho0 hb; replace HO_9 := rE HO_9 ho0 hb; replace HO_153001 := rE HO_153001 ho0 hb; replace BK145 := blkB BK145 hb; replace BK152 := blkB BK152 hb; replace HK := kU (g := g) (by exact kb36_2 HK.out GW145.out GW152.out) hb; replace HB := mkA (below_step (by exact bl36_2 HB.out HI0.out GE145.out GE152.out) hb); replace HI0 := mkA (IsS36.below (by exact st36_2 HI0.out NB0_145.out NB0_152.out) hb); clear hb ho0) | ((with_reducible refine gate_dst (N := 14) rfl ?_); refine boxE (N := 14) (cs := #[.int .i64 0, .slice none 0 0]) (t := 26) ?_; intro gb176 hg w105 hbox hb; replace HO_8 := rB HO_8 hb; replace HO_9 := rB HO_9 hb; replace HO_153001 := rB HO_153001 hb; replace HO174 := rB HO174 hb; have BK176 := mkA (hbox); have GW176 := mkA ((by rw [hg]; exact (keep_size (w := w) (g := g) (row := none) (by exact kb36_2 HK.out GW145.out GW152.out)) : w.heap.size ≤ gb176)); have GE176 := mkA (Nat.le_trans HW0.out GW176.out); replace HK := kU (g := g) (by exact kb36_2 HK.out GW145.out GW152.out) hb; have NB145_176 := neL7 BK145 hg; have NB176_145 := neR7 BK145 hg; replace BK145 := blkB BK145 hb; have NB152_176 := neL7 BK152 hg; have NB176_152 := neR7 BK152 hg; replace BK152 := blkB BK152 hb; have NB0_176 : NeB _ _ := ⟨(by rw [hg]; exact Nat.ne_of_lt (IsS36.lt (show IsS36 w0 _ g s0_0 x1001_2 x1002_2 from by exact st36_2 HI0.out NB0_145.out NB0_152.out)) : g ≠ gb176)⟩; have NB176_0 : NeB _ _ := ⟨(by rw [hg]; exact Nat.ne_of_gt (IsS36.lt (show IsS36 w0 _ g s0_0 x1001_2 x1002_2 from by exact st36_2 HI0.out NB0_145.out NB0_152.out)) : gb176 ≠ g)⟩; replace HB := mkA (below_step (by exact bl36_2 HB.out HI0.out GE145.out GE152.out) hb); replace HI0 := mkA (IsS36.below (by exact st36_2 HI0.out NB0_145.out NB0_152.out) hb); clear hb hbox hg; obtain ⟨_, _, _, _⟩ := blk2 BK176; obtain ⟨Ao110, co110, rfl⟩ := Kd.R_slice HO174.out; obtain ⟨_, _, _, _⟩ := blk2 BK145))
        refine bodyPost_ret (results_cell_row rfl _ _ gb145 26 #[.int .i64 t171, .slice Ao110 t172.length co110] (0, 0) _ rfl (blkT BK145) Tryd.underlying26 rfl (by kernel_rfl)) rfl ?_
        exact ⟨_, eqE, Kd.R_g (Kd.R_mono (Kd.R_far (p := ⟨gb145, 1, none⟩) (Kd.R_far (p := ⟨gb145, 0, none⟩) (Kd.R_far (p := ⟨gb176, 1, none⟩) (Kd.R_far (p := ⟨gb176, 0, none⟩) (Kd.R_types (Kd.R_types HO174.out BK176.out (by decide)) BK145.out (by decide)) (fun _ hk => hk.1.2) (.int .i64 t171)) (fun _ hk => hk.1.2) (.slice Ao110 t172.length co110)) (fun _ hk => hk.2) (.int .i64 t171)) (fun _ hk => hk.2) (.slice Ao110 t172.length co110)) (fun _ hk => trivial)), by exact st36_3 HI0.out NB0_145.out NB0_152.out NB0_176.out, by exact bl36_3 HB.out HI0.out GE145.out GE152.out GE176.out, by exact kb36_3 HK.out GW145.out GW152.out GW176.out⟩
end Go.Proofs.YthdlkadfhbbilaaDoor.Q
