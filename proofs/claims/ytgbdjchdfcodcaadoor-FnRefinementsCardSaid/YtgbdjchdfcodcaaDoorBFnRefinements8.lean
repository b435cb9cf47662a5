import Derived.Test.YtgbdjchdfcodcaaDoorBFnRefinements7
namespace Go.Proofs.YtgbdjchdfcodcaaDoor.Q
open Go.RowKit Go.Proofs.YtgbdjchdfcodcaaDoorW.PrintWords Go.Proofs.YtgbdjchdfcodcaaDoorW.PrintLast Go.Proofs.YtgbdjchdfcodcaaDoorW.PrintMore
attribute [local go_sem] max2_int min2_int max_two min_two max_three min_three max_four min_four neB_f
set_option linter.unusedVariables false
set_option maxHeartbeats 8000000
set_option maxRecDepth 100000
set_option linter.unusedSimpArgs false
mutual
def spec_l1Cur_order.l0 : Nat → Int → Int → List Int → List Int → Int → List Int → Int → Int → Int → List Int → Option (Int × List Int × Int × Int)
 | 0, _, _, _, _, _, _, _, _, _, _ => none
 | k + 1, x5, x7, x8, x9, x10, x1000, x1001, x1002, x233000, x233001 => if x10 < x5 then ((spec_l1Cur_pick.f x1000 x1001 x1002 8).bind fun bt236 => (if x8.length < 17592186044416 then ((some (x8 ++ [bt236.1] : List Int)).bind fun y239 => (if x7 = 1 then ((spec_l1Cur_pick.f x1000 bt236.2.1 bt236.2.2 4).bind fun bt242 => (if x9.length < 17592186044416 then (spec_l1Cur_order.l0 k x5 x7 y239 (x9 ++ [wrap64 (bt236.1 + bt242.1)]) (wrap64 (x10 + 1)) x1000 bt242.2.1 bt242.2.2 x233000 x233001) else (none))) else (if x9.length < 17592186044416 then (spec_l1Cur_order.l0 k x5 x7 y239 (x9 ++ [wrap64 (bt236.1 + 2)]) (wrap64 (x10 + 1)) x1000 bt236.2.1 bt236.2.2 x233000 x233001) else (none)))) else (none))) else (spec_l1Cur_order.l1 k x5 x7 x8 x9 0 x1000 x1001 x1002 x233000 x233001)
def spec_l1Cur_order.l1 : Nat → Int → Int → List Int → List Int → Int → List Int → Int → Int → Int → List Int → Option (Int × List Int × Int × Int)
 | 0, _, _, _, _, _, _, _, _, _, _ => none
 | k + 1, x5, x7, x8, x9, x12, x1000, x1001, x1002, x233000, x233001 => if x12 < x5 then (spec_l1Cur_order.l2 k x5 x7 x8 x9 x12 0 x1000 x1001 x1002 x233000 x233001) else (if x7 > 0 then (some (x233000, x233001, x1001, x1002)) else ((spec_CloseRelation.f k x233000 x233001).bind fun bt251 => (some (bt251.1, bt251.2.1, x1001, x1002))))
def spec_l1Cur_order.l2 : Nat → Int → Int → List Int → List Int → Int → Int → List Int → Int → Int → Int → List Int → Option (Int × List Int × Int × Int)
 | 0, _, _, _, _, _, _, _, _, _, _, _ => none
 | k + 1, x5, x7, x8, x9, x12, x13, x1000, x1001, x1002, x233000, x233001 => if x13 < x5 then (if x7 > 0 then (if 0 ≤ x12 then (if x12 < (x9.length : Int) then (if 0 ≤ x13 then (if x13 < (x8.length : Int) then (if (rd x9 x12) < (rd x8 x13) then (if x12 < (x233001.length : Int) then (spec_l1Cur_order.l2 k x5 x7 x8 x9 x12 (wrap64 (x13 + 1)) x1000 x1001 x1002 x233000 (x233001.set (x12 : Int).toNat (Go.bits .or .i64 (rd x233001 x12) (shl .i64 1 x13)))) else (none)) else (if x7 = 0 then (if x12 < x13 then ((spec_l1Cur_one.f x1000 x1001 x1002 3).bind fun bt261 => (if bt261.1 = true then (if x12 < (x233001.length : Int) then (spec_l1Cur_order.l2 k x5 x7 x8 x9 x12 (wrap64 (x13 + 1)) x1000 bt261.2.1 bt261.2.2 x233000 (x233001.set (x12 : Int).toNat (Go.bits .or .i64 (rd x233001 x12) (shl .i64 1 x13)))) else (none)) else (spec_l1Cur_order.l2 k x5 x7 x8 x9 x12 (wrap64 (x13 + 1)) x1000 bt261.2.1 bt261.2.2 x233000 x233001))) else (spec_l1Cur_order.l2 k x5 x7 x8 x9 x12 (wrap64 (x13 + 1)) x1000 x1001 x1002 x233000 x233001)) else (spec_l1Cur_order.l2 k x5 x7 x8 x9 x12 (wrap64 (x13 + 1)) x1000 x1001 x1002 x233000 x233001))) else (none)) else (none)) else (none)) else (none)) else (if x7 = 0 then (if x12 < x13 then ((spec_l1Cur_one.f x1000 x1001 x1002 3).bind fun bt266 => (if bt266.1 = true then (if 0 ≤ x12 then (if x12 < (x233001.length : Int) then (if 0 ≤ x13 then (spec_l1Cur_order.l2 k x5 x7 x8 x9 x12 (wrap64 (x13 + 1)) x1000 bt266.2.1 bt266.2.2 x233000 (x233001.set (x12 : Int).toNat (Go.bits .or .i64 (rd x233001 x12) (shl .i64 1 x13)))) else (none)) else (none)) else (none)) else (spec_l1Cur_order.l2 k x5 x7 x8 x9 x12 (wrap64 (x13 + 1)) x1000 bt266.2.1 bt266.2.2 x233000 x233001))) else (spec_l1Cur_order.l2 k x5 x7 x8 x9 x12 (wrap64 (x13 + 1)) x1000 x1001 x1002 x233000 x233001)) else (spec_l1Cur_order.l2 k x5 x7 x8 x9 x12 (wrap64 (x13 + 1)) x1000 x1001 x1002 x233000 x233001))) else (spec_l1Cur_order.l1 k x5 x7 x8 x9 (wrap64 (x12 + 1)) x1000 x1001 x1002 x233000 x233001)
end
def spec_l1Cur_order.f (k : Nat) (s0_0 : List Int) (s0_1 : Int) (s0_2 : Int) (a1 : Int) : Option (Int × List Int × Int × Int) := (spec_l1Cur_pick.f s0_0 s0_1 s0_2 (wrap64 (a1 + 1))).bind fun bt226 => (if 0 ≤ bt226.1 then (if (bt226.1 : Int).toNat ≤ 35184372088832 then ((spec_l1Cur_pick.f s0_0 bt226.2.1 bt226.2.2 3).bind fun bt233 => (spec_l1Cur_order.l0 k bt226.1 bt233.1 ([] : List Int) ([] : List Int) 0 s0_0 bt233.2.1 bt233.2.2 bt226.1 (List.replicate (bt226.1 : Int).toNat 0))) else (none)) else (none))
theorem spec_l1Cur_order.mono_l : ∀ k, (∀ y0 y1 y2 y3 y4 y5 y6 y7 y8 y9, LeO (spec_l1Cur_order.l0 k y0 y1 y2 y3 y4 y5 y6 y7 y8 y9) (spec_l1Cur_order.l0 (k + 1) y0 y1 y2 y3 y4 y5 y6 y7 y8 y9)) ∧ (∀ y0 y1 y2 y3 y4 y5 y6 y7 y8 y9, LeO (spec_l1Cur_order.l1 k y0 y1 y2 y3 y4 y5 y6 y7 y8 y9) (spec_l1Cur_order.l1 (k + 1) y0 y1 y2 y3 y4 y5 y6 y7 y8 y9)) ∧ (∀ y0 y1 y2 y3 y4 y5 y6 y7 y8 y9 y10, LeO (spec_l1Cur_order.l2 k y0 y1 y2 y3 y4 y5 y6 y7 y8 y9 y10) (spec_l1Cur_order.l2 (k + 1) y0 y1 y2 y3 y4 y5 y6 y7 y8 y9 y10))
 | 0 => ⟨fun _ _ _ _ _ _ _ _ _ _ r h => by simp [spec_l1Cur_order.l0] at h, fun _ _ _ _ _ _ _ _ _ _ r h => by simp [spec_l1Cur_order.l1] at h, fun _ _ _ _ _ _ _ _ _ _ _ r h => by simp [spec_l1Cur_order.l2] at h⟩
 | k + 1 => by
  obtain ⟨ih0, ih1, ih2⟩ := spec_l1Cur_order.mono_l k
  refine ⟨?_, ?_, ?_⟩ <;> intros
  unfold spec_l1Cur_order.l0
  rotate_left
  unfold spec_l1Cur_order.l1
  rotate_left
  unfold spec_l1Cur_order.l2
  rotate_left
  all_goals repeat' (with_reducible first|exact ih0 _ _ _ _ _ _ _ _ _ _|exact ih1 _ _ _ _ _ _ _ _ _ _|exact ih2 _ _ _ _ _ _ _ _ _ _ _|exact spec_CloseRelation.mono _ _ _|exact LeO.refl _|exact LeO.none _|refine LeO.ite ?_ ?_|refine LeO.bind ?_ (fun _ => ?_))
theorem spec_l1Cur_order.mono : ∀ a0 a1 a2 a3 k, LeO (spec_l1Cur_order.f k a0 a1 a2 a3) (spec_l1Cur_order.f (k + 1) a0 a1 a2 a3) := by
 intro a0 a1 a2 a3 k
 obtain ⟨ih0, ih1, ih2⟩ := spec_l1Cur_order.mono_l k
 unfold spec_l1Cur_order.f
 repeat' (with_reducible first|exact ih0 _ _ _ _ _ _ _ _ _ _|exact ih1 _ _ _ _ _ _ _ _ _ _|exact ih2 _ _ _ _ _ _ _ _ _ _ _|exact spec_CloseRelation.mono _ _ _|exact LeO.refl _|exact LeO.none _|refine LeO.ite ?_ ?_|refine LeO.bind ?_ (fun _ => ?_))
def spec_l1Cur_order.T19 : Bool × List (List Nat × List Nat) := (true, [([], []), ([0], [0]), ([1], [1]), ([2], [2]), ([2], [2]), ([3, 4, 2], [2, 3, 4]), ([5, 2], [2, 5]), ([2], [2]), ([2], [2]), ([7, 8, 2], [2, 7, 8]), ([9, 2], [2, 9]), ([6, 10, 2], [2, 6, 10]), ([2, 11], [2, 11]), ([12, 2], [12]), ([13], [13]), ([14, 13], [13, 14]), ([15, 13, 13], [13, 15]), ([16], [16]), ([16], [16]), ([17, 18, 16], [16, 17, 18]), ([16, 19, 13], [13, 16, 19]), ([20, 16, 13], [13, 20]), ([21], [21]), ([22, 21, 21], [21, 22]), ([21, 23, 13], [13, 21, 23]), ([13, 24], [13, 24])])
def spec_l1Cur_order.B19 : List Nat := [0, 1, 3, 7, 7, 31, 63, 7, 7, 391, 903, 2047, 4095, 8191, 16383, 32767, 65535, 131071, 131071, 524287, 1048575, 2097151, 4194303, 8388607, 16777215, 33554431]
theorem spec_l1Cur_order.tab19 : rtab .any (opsOf Tryd.f62 19) = spec_l1Cur_order.T19 := by kernel_rfl
theorem spec_l1Cur_order.bits19 : waitsOk spec_l1Cur_order.T19.2 spec_l1Cur_order.B19 = true := by kernel_rfl
def spec_l1Cur_order.T20 : Bool × List (List Nat × List Nat) := (true, [([], []), ([0], [0]), ([], []), ([1, 2], [1, 2]), ([3], [3]), ([], []), ([5], [5]), ([4, 6], [4, 6]), ([1, 2, 0, 1, 2, 3, 4, 5, 6, 7], [1, 2]), ([8, 7, 0, 1, 2, 3, 4, 5, 6, 7], [7, 8])])
def spec_l1Cur_order.B20 : List Nat := [0, 1, 0, 7, 15, 0, 32, 127, 255, 511]
theorem spec_l1Cur_order.tab20 : rtab .any (opsOf Tryd.f62 20) = spec_l1Cur_order.T20 := by kernel_rfl
theorem spec_l1Cur_order.bits20 : waitsOk spec_l1Cur_order.T20.2 spec_l1Cur_order.B20 = true := by kernel_rfl
theorem spec_l1Cur_order.calls (k : Nat) (g : Nat) (s0_0 : List Int) (s0_1 : Int) (s0_2 : Int) (a1 : Int) (r1 : Int) (r2 : List Int) (r3 : Int) (r4 : Int) (w0 w : World) (hI : IsS47 w0 w g s0_0 s0_1 s0_2) (hB : Below w0.heap.size w0 w) (h : spec_l1Cur_order.f k s0_0 s0_1 s0_2 a1 = some (r1, r2, r3, r4)) :
  Calls Tryd.prog 62 #[.pointer (some ⟨g, 0, none⟩), .int .i64 a1] w fun e w' => ∃ v1_ : Value, e = .returned (.agg #[.int .i64 r1, v1_]) ∧ Kd.R (Kd.int .i64) 3 w' w.heap.size (fun _ => True) v1_ r2 ∧ IsS47 w0 w' g s0_0 r3 r4 ∧ Below w0.heap.size w0 w' ∧ KeepBut w w' g none := by
 have hu26 := Tryd.underlying26
 have HI0 := mkA hI
 have HK := mkA (KeepBut.refl w g none)
 have HL := mkA hB.size
 clear hI
 have HW0 := mkA hB.size
 have HB := mkA hB
 clear hB
 have H := h
 clear h
 unfold spec_l1Cur_order.f at H
 obtain ⟨⟨t226, t227, t228⟩, A3, H⟩ := obE H
 dsimp only at H
 obtain ⟨c4, H⟩ := itNP H
 have c4b0 := eq_true c4
 have c4b1 : decide (0 ≤ t226) = true := decide_eq_true c4
 clear c4
 obtain ⟨c5, H⟩ := itNP H
 have c5b0 := eq_true c5
 have c5b1 : decide ((t226 : Int).toNat ≤ 35184372088832) = true := decide_eq_true c5
 clear c5
 obtain ⟨y229, hy229⟩ : ∃ y_ : List Int, y_ = (List.replicate (t226 : Int).toNat 0) := ⟨_, rfl⟩
 replace H : ((spec_l1Cur_pick.f s0_0 t227 t228 3).bind fun bt233 => (spec_l1Cur_order.l0 k t226 bt233.1 ([] : List Int) ([] : List Int) 0 s0_0 bt233.2.1 bt233.2.2 t226 y229)) = some (r1, r2, r3, r4) := by first | (rw [hy229]; with_reducible exact H) | (have H2_ := (Option.bind_some _ _).symm.trans H; rw [hy229]; with_reducible exact H2_) | (have H2_ := (Option.bind_some _ _).symm.trans H; with_reducible exact H2_) | with_reducible exact H | (rw [hy229]; exact H) | exact H
 have Ny229 := mkA hy229
 clear hy229
 obtain ⟨⟨t233, t234, t235⟩, A6, H⟩ := obE H
 dsimp only at H
 have H' := mkA H
 clear H
 go_enter Tryd.func62, Tryd.ntmps62
 go_wp2_with (first | ((with_reducible refine gate_dst (N := 4) rfl ?_); refine boxE (N := 4) (cs := #[.int .i64 0, .slice none 0 0]) (t := 26) ?_; intro gb225 hg w7 hbox hb; have BK225 := mkA (hbox); have GW225 := mkA ((by rw [hg]; exact (keep_size (w := w) (g := g) (row := none) (by exact kb47_0 HK.out)) : w.heap.size ≤ gb225)); have GE225 := mkA (Nat.le_trans HW0.out GW225.out); replace HK := kU (g := g) (by exact kb47_0 HK.out) hb; have NB0_225 : NeB _ _ := ⟨(by rw [hg]; exact Nat.ne_of_lt (IsS47.lt (show IsS47 w0 _ g s0_0 s0_1 s0_2 from by exact st47_0 HI0.out)) : g ≠ gb225)⟩; have NB225_0 : NeB _ _ := ⟨(by rw [hg]; exact Nat.ne_of_gt (IsS47.lt (show IsS47 w0 _ g s0_0 s0_1 s0_2 from by exact st47_0 HI0.out)) : gb225 ≠ g)⟩; replace HB := mkA (below_step (by exact bl47_0 HB.out HI0.out) hb); replace HI0 := mkA (IsS47.below (by exact st47_0 HI0.out) hb); clear hb hbox hg) | ((with_reducible refine gate_callee (f := 41) rfl ?_); refine goesQ (some 19) Tryd.func41 #[.pointer (some ⟨g, 0, none⟩), .int .i64 (wrap64 (a1 + 1))] ?_; (with_reducible refine (spec_l1Cur_pick.calls g s0_0 s0_1 s0_2 (wrap64 (a1 + 1)) t226 t227 t228 w0 _ ?s1 ?s2 A3.out).mono ?_); (case s1 => exact st47_1 HI0.out NB0_225.out); (case s2 => exact bl47_1 HB.out HI0.out GE225.out); rintro e w8 ⟨rfl, hi, hb, hk⟩; refine ⟨_, rfl, ?_⟩; replace BK225 := kB hk BK225; replace HK := kT (by exact kb47_1 HK.out GW225.out) hk; replace HI0 := mkA (hi); replace HB := mkA (hb); (try clear hb); (try clear hk); (try clear hi)) | ((with_reducible refine gate_dst (N := 22) rfl ?_); refine Kd.R_make (Kd.int .i64) _ 3 rfl (N := 22) rfl 24 _ _ rfl t226 rfl rfl Tryd.underlying24 (.int .i64 0) 8 info3 rfl (by decide) (by omega) 0 (ok := fun _ => True) (okp := fun _ => True) rfl (fun _ hk => hk) trivial (ofd) (Nat.le_trans (Nat.mul_le_mul_right _ (ofd : t226.toNat ≤ 35184372088832)) (by omega)) (Below.refl _ _) (Nat.le_refl _) ?_; intro v230 w9 ho10 hb hg_ hnew_; clear hg_ hnew_; (first | rw [← Ny229.out] at ho10 | (simp only [Int.reduceToNat] at ho10; rw [← Ny229.out] at ho10)); have HO231 := mkA (Kd.R_lower ho10 (keep_size (w := w) (g := g) (row := none) (by exact kb47_1 HK.out GW225.out))); replace BK225 := blkB BK225 hb; replace HK := kU (g := g) (by exact kb47_1 HK.out GW225.out) hb; replace HB := mkA (below_step (by exact bl47_1 HB.out HI0.out GE225.out) hb); replace HI0 := mkA (IsS47.below (by exact st47_1 HI0.out NB0_225.out) hb); clear hb ho10; obtain ⟨Ao11, co11, eo11⟩ := Kd.R_slice HO231.out; subst eo11) | ((with_reducible refine gate_dst (N := 6) rfl ?_); refine boxE (N := 6) (cs := #[.int .i64 0, .slice none 0 0]) (t := 26) ?_; intro gb232 hg w12 hbox hb; replace HO231 := rB HO231 hb; have BK232 := mkA (hbox); have GW232 := mkA ((by rw [hg]; exact (keep_size (w := w) (g := g) (row := none) (by exact kb47_1 HK.out GW225.out)) : w.heap.size ≤ gb232)); have GE232 := mkA (Nat.le_trans HW0.out GW232.out); replace HK := kU (g := g) (by exact kb47_1 HK.out GW225.out) hb; have NB225_232 := neL7 BK225 hg; have NB232_225 := neR7 BK225 hg; replace BK225 := blkB BK225 hb; have NB0_232 : NeB _ _ := ⟨(by rw [hg]; exact Nat.ne_of_lt (IsS47.lt (show IsS47 w0 _ g s0_0 t227 t228 from by exact st47_1 HI0.out NB0_225.out)) : g ≠ gb232)⟩; have NB232_0 : NeB _ _ := ⟨(by rw [hg]; exact Nat.ne_of_gt (IsS47.lt (show IsS47 w0 _ g s0_0 t227 t228 from by exact st47_1 HI0.out NB0_225.out)) : gb232 ≠ g)⟩; replace HB := mkA (below_step (by exact bl47_1 HB.out HI0.out GE225.out) hb); replace HI0 := mkA (IsS47.below (by exact st47_1 HI0.out NB0_225.out) hb); clear hb hbox hg; obtain ⟨_, _, _, _⟩ := blk2 BK232) | ((with_reducible refine gate_callee (f := 41) rfl ?_); refine goesQ (some 25) Tryd.func41 #[.pointer (some ⟨g, 0, none⟩), .int .i64 3] ?_; (with_reducible refine (spec_l1Cur_pick.calls g s0_0 t227 t228 3 t233 t234 t235 w0 _ ?s1 ?s2 A6.out).mono ?_); (case s1 => exact st47_2 HI0.out NB0_225.out NB0_232.out); (case s2 => exact bl47_2 HB.out HI0.out GE225.out GE232.out); rintro e w16 ⟨rfl, hi, hb, hk⟩; refine ⟨_, rfl, ?_⟩; replace BK225 := kR hk BK225; replace HO231 := rK (IsS47.apart (show IsS47 w0 _ g s0_0 t227 t228 from by exact st47_2 HI0.out NB0_225.out NB0_232.out) (rFg HO231 BK232) (by decide)) hk; replace BK232 := kR hk BK232; replace HK := kT (by exact kb47_2 HK.out GW225.out GW232.out) hk; replace HI0 := mkA (hi); replace HB := mkA (hb); (try clear hb); (try clear hk); (try clear hi)))
 go_loopg [8, 9, 10] k (fun kq v8 v9 v10 w' => ∃ (x8_1 : List Int) (x9_1 : List Int) (x10_1 : Int) (x1001_1 : Int) (x1002_1 : Int), v10 = .int .i64 x10_1 ∧ Fc (spec_l1Cur_order.l0 kq t226 t233 x8_1 x9_1 x10_1 s0_0 x1001_1 x1002_1 t226 y229 = some (r1, r2, r3, r4)) ∧ Fc (kq ≤ k) ∧ Fc (Kd.R (Kd.int .i64) 3 w' w.heap.size (fun k_ => some k_ ≠ (v9 : Value).ownBlock ∧ some k_ ≠ ((.slice Ao11 y229.length co11) : Value).ownBlock) v8 x8_1) ∧ Fc (Kd.R (Kd.int .i64) 3 w' w.heap.size (fun k_ => some k_ ≠ (v8 : Value).ownBlock ∧ some k_ ≠ ((.slice Ao11 y229.length co11) : Value).ownBlock) v9 x9_1) ∧ Fc (Kd.R (Kd.int .i64) 3 w' w.heap.size (fun k_ => some k_ ≠ (v8 : Value).ownBlock ∧ some k_ ≠ (v9 : Value).ownBlock) (.slice Ao11 y229.length co11) y229) ∧ Fc (w'.heap[gb225]? = some (.cells #[.int .i64 0, (.slice none 0 0)] 26 (0, 0))) ∧ Fc (w'.heap[gb232]? = some (.cells #[.int .i64 t226, (.slice Ao11 y229.length co11)] 26 (0, 0))) ∧ Fc (IsS47 w0 w' g s0_0 x1001_1 x1002_1) ∧ Fc (KeepBut w w' g none) ∧ Fc (Below w0.heap.size w0 w'))
 case atStart => exact ⟨(([] : List Int)), (([] : List Int)), (0), (t234), (t235), eqS, H', ⟨Nat.le_refl _⟩, ⟨by first | exact Kd.R_nil _ _ _ _ _ | exact Kd.N_nil _ _ _ _ _ | exact Kd.V_nil _ _ _ _ _ | exact Kd.Q_nil _ _ _ _ _ | exact Kd.S_nil _ _ _ _ _⟩, ⟨by first | exact Kd.R_nil _ _ _ _ _ | exact Kd.N_nil _ _ _ _ _ | exact Kd.V_nil _ _ _ _ _ | exact Kd.Q_nil _ _ _ _ _ | exact Kd.S_nil _ _ _ _ _⟩, ⟨Kd.R_g (Kd.R_mono HO231.out (fun _ hk => ⟨(by simp [Value.ownBlock]), (by simp [Value.ownBlock])⟩))⟩, ⟨blk_g BK225.out⟩, ⟨blk_g BK232.out⟩, ⟨by exact st47_2 HI0.out NB0_225.out NB0_232.out⟩, ⟨by exact kb47_2 HK.out GW225.out GW232.out⟩, ⟨by exact bl47_2 HB.out HI0.out GE225.out GE232.out⟩⟩
 case round =>
  clear H'
  try clear c4
  try clear c4b0
  try clear c4b1
  try clear c5
  try clear c5b0
  try clear c5b1
  obtain ⟨x8_1, x9_1, x10_1, x1001_1, x1002_1, rfl, HA, HK1, HO_8, HO_9, HO_233001, BK225, BK232, HI0, HK, HB⟩ := hrel
  cases gk with
  | zero => exact absurd HA.out (by simp [spec_l1Cur_order.l0])
  | succ k1 =>
   have H := HA.out
   clear HA
   simp only [spec_l1Cur_order.l0] at H
   rcases iteE H with ⟨c17b0, H⟩ | ⟨c17b0, H⟩
   ·obtain ⟨⟨t236, t237, t238⟩, A18, H⟩ := obE H
    dsimp only at H
    obtain ⟨c19, H⟩ := itNP H
    have LMc19 := mkA c19
    clear c19
    obtain ⟨y239, hy239⟩ : ∃ y_ : List Int, y_ = (x8_1 ++ [t236]) := ⟨_, rfl⟩
    replace H : (if t233 = 1 then ((spec_l1Cur_pick.f s0_0 t237 t238 4).bind fun bt242 => (if x9_1.length < 17592186044416 then (spec_l1Cur_order.l0 k1 t226 t233 y239 (x9_1 ++ [wrap64 (t236 + bt242.1)]) (wrap64 (x10_1 + 1)) s0_0 bt242.2.1 bt242.2.2 t226 y229) else (none))) else (if x9_1.length < 17592186044416 then (spec_l1Cur_order.l0 k1 t226 t233 y239 (x9_1 ++ [wrap64 (t236 + 2)]) (wrap64 (x10_1 + 1)) s0_0 t237 t238 t226 y229) else (none))) = some (r1, r2, r3, r4) := by first | (rw [hy239]; with_reducible exact H) | (have H2_ := (Option.bind_some _ _).symm.trans H; rw [hy239]; with_reducible exact H2_) | (have H2_ := (Option.bind_some _ _).symm.trans H; with_reducible exact H2_) | with_reducible exact H | (rw [hy239]; exact H) | exact H
    have Ny239 := mkA hy239
    clear hy239
    rcases iteP H with ⟨c20, H⟩ | ⟨c20, H⟩
    ·have c20b0 : (t233 == 1) = true := beq_iff_eq.mpr c20
     have c20b1 : (t233 != 1) = false := bne_eq_false_iff_eq.mpr c20
     clear c20
     obtain ⟨⟨t242, t243, t244⟩, A21, H⟩ := obE H
     dsimp only at H
     obtain ⟨c22, H⟩ := itNP H
     have LMc22 := mkA c22
     clear c22
     obtain ⟨y245, hy245⟩ : ∃ y_ : List Int, y_ = (x9_1 ++ [wrap64 (t236 + t242)]) := ⟨_, rfl⟩
     replace H : (spec_l1Cur_order.l0 k1 t226 t233 y239 y245 (wrap64 (x10_1 + 1)) s0_0 t243 t244 t226 y229) = some (r1, r2, r3, r4) := by first | (rw [hy245]; with_reducible exact H) | (have H2_ := (Option.bind_some _ _).symm.trans H; rw [hy245]; with_reducible exact H2_) | (have H2_ := (Option.bind_some _ _).symm.trans H; with_reducible exact H2_) | with_reducible exact H | (rw [hy245]; exact H) | exact H
     have Ny245 := mkA hy245
     clear hy245
     have H' := mkA H
     clear H
     go_wp2_with (first | ((with_reducible refine gate_callee (f := 41) rfl ?_); refine goesQ (some 32) Tryd.func41 #[.pointer (some ⟨g, 0, none⟩), .int .i64 8] ?_; (with_reducible refine (spec_l1Cur_pick.calls g s0_0 x1001_1 x1002_1 8 t236 t237 t238 w0 _ ?s1 ?s2 A18.out).mono ?_); (case s1 => exact st47_2 HI0.out NB0_225.out NB0_232.out); (case s2 => exact bl47_2 HB.out HI0.out GE225.out GE232.out); rintro e w23 ⟨rfl, hi, hb, hk⟩; refine ⟨_, rfl, ?_⟩; replace HO_8 := rK (IsS47.apart (show IsS47 w0 _ g s0_0 x1001_1 x1002_1 from by exact st47_2 HI0.out NB0_225.out NB0_232.out) (Kd.R_g HO_8.out) (by decide)) hk; replace HO_9 := rK (IsS47.apart (show IsS47 w0 _ g s0_0 x1001_1 x1002_1 from by exact st47_2 HI0.out NB0_225.out NB0_232.out) (Kd.R_g HO_9.out) (by decide)) hk; replace HO_233001 := rK (IsS47.apart (show IsS47 w0 _ g s0_0 x1001_1 x1002_1 from by exact st47_2 HI0.out NB0_225.out NB0_232.out) (Kd.R_g HO_233001.out) (by decide)) hk; replace BK225 := kB hk BK225; replace BK232 := kB hk BK232; replace HK := kT (by exact kb47_2 HK.out GW225.out GW232.out) hk; replace HI0 := mkA (hi); replace HB := mkA (hb); (try clear hb); (try clear hk); (try clear hi)) | ((with_reducible refine gate_builtin (b := .append) (xs := #[.tmp 33, .tmp 35]) rfl ?_); at_builtin; refine Kd.R_append (Kd.int .i64) w.heap.size rfl (.tmp 33) (.tmp 35) 24 3 (.int .i64 0) 8 rfl Tryd.underlying24 info3 rfl (by decide) (by omega) u8 x8_1 t236 [.int .i64 t236] (fun k_ => some k_ ≠ (u9 : Value).ownBlock ∧ some k_ ≠ (.slice Ao11 y229.length co11 : Value).ownBlock) (fun _ => False) rfl rfl ?aP (fun _ hk => hk.elim) ?aF ?aO (Below.refl _ _) ?aS ?aL ?_; (case aP => exact rfl); (case aF => exact (fun k_ hk => ⟨Kd.fresh' (Kd.R_lt (Kd.R_g HO_9.out)) k_ hk, Kd.fresh' (Kd.R_lt (Kd.R_g HO_233001.out)) k_ hk⟩)); (case aO => exact (Kd.R_g HO_8.out)); (case aS => exact (keep_size (w := w) (g := g) (row := none) (by exact kb47_2 HK.out GW225.out GW232.out))); (case aL => have := LMc19.out; omega); intro v240 w24 ho hb hg hat; rw [← Ny239.out] at ho; replace HO_9 := mkA (Kd.R_after (ok := (fun k_ => some k_ ≠ (.slice Ao11 y229.length co11 : Value).ownBlock)) (Kd.R_g (Kd.R_mono HO_9.out (fun _ hk => ⟨hk.2, hk.1⟩))) hg hat); replace HO_233001 := mkA (Kd.R_after (ok := (fun k_ => some k_ ≠ (u9 : Value).ownBlock)) (Kd.R_g (Kd.R_mono HO_233001.out (fun _ hk => ⟨hk.2, hk.1⟩))) hg hat); replace BK225 := mkA (blk_grown (g := gb225) (o := .cells #[.int .i64 0, .slice none 0 0] 26 (0, 0)) (blk_g BK225.out) hg (Kd.R_ne HO_8.out BK225.out (by decide))); replace BK232 := mkA (blk_grown (g := gb232) (o := .cells #[.int .i64 t226, .slice Ao11 y229.length co11] 26 (0, 0)) (blk_g BK232.out) hg (Kd.R_ne HO_8.out BK232.out (by decide))); replace HK := mkA (KeepBut.trans (by exact kb47_2 HK.out GW225.out GW232.out) (KeepBut.of_grown hg g) (Kd.R_base2 HO_8.out)); have HO241 := mkA (ho); replace HB := mkA (below_weaken (by exact bl47_2 HB.out HI0.out GE225.out GE232.out) HL.out hb); replace HI0 := mkA (IsS47.grown (by exact st47_2 HI0.out NB0_225.out NB0_232.out) hg (IsS47.own_ne HI0.out HO_8.out (by decide))); clear HO_8; clear ho hb hg hat) | ((with_reducible refine gate_callee (f := 41) rfl ?_); refine goesQ (some 42) Tryd.func41 #[.pointer (some ⟨g, 0, none⟩), .int .i64 4] ?_; (with_reducible refine (spec_l1Cur_pick.calls g s0_0 t237 t238 4 t242 t243 t244 w0 _ ?s1 ?s2 A21.out).mono ?_); (case s1 => exact st47_2 HI0.out NB0_225.out NB0_232.out); (case s2 => exact bl47_2 HB.out HI0.out GE225.out GE232.out); rintro e w25 ⟨rfl, hi, hb, hk⟩; refine ⟨_, rfl, ?_⟩; replace HO_9 := rK (IsS47.apart (show IsS47 w0 _ g s0_0 t237 t238 from by exact st47_2 HI0.out NB0_225.out NB0_232.out) (Kd.R_g HO_9.out) (by decide)) hk; replace HO_233001 := rK (IsS47.apart (show IsS47 w0 _ g s0_0 t237 t238 from by exact st47_2 HI0.out NB0_225.out NB0_232.out) (Kd.R_g HO_233001.out) (by decide)) hk; replace BK225 := kB hk BK225; replace BK232 := kB hk BK232; replace HO241 := rK (IsS47.apart (show IsS47 w0 _ g s0_0 t237 t238 from by exact st47_2 HI0.out NB0_225.out NB0_232.out) (Kd.R_g HO241.out) (by decide)) hk; replace HK := kT (by exact kb47_2 HK.out GW225.out GW232.out) hk; replace HI0 := mkA (hi); replace HB := mkA (hb); (try clear hb); (try clear hk); (try clear hi)) | ((with_reducible refine gate_builtin (b := .append) (xs := #[.tmp 39, .tmp 44]) rfl ?_); at_builtin; refine Kd.R_append (Kd.int .i64) w.heap.size rfl (.tmp 39) (.tmp 44) 24 3 (.int .i64 0) 8 rfl Tryd.underlying24 info3 rfl (by decide) (by omega) u9 x9_1 (wrap64 (t236 + t242)) [.int .i64 (wrap64 (t236 + t242))] (fun k_ => some k_ ≠ (.slice Ao11 y229.length co11 : Value).ownBlock ∧ some k_ ≠ (v240 : Value).ownBlock) (fun _ => False) rfl rfl ?aP (fun _ hk => hk.elim) ?aF ?aO (Below.refl _ _) ?aS ?aL ?_; (case aP => exact rfl); (case aF => exact (fun k_ hk => ⟨Kd.fresh' (Kd.R_lt (Kd.R_g HO_233001.out)) k_ hk, Kd.fresh' (Kd.R_lt (Kd.R_g HO241.out)) k_ hk⟩)); (case aO => exact (Kd.R_g HO_9.out)); (case aS => exact (keep_size (w := w) (g := g) (row := none) (by exact kb47_2 HK.out GW225.out GW232.out))); (case aL => have := LMc22.out; omega); intro v246 w26 ho hb hg hat; rw [← Ny245.out] at ho; replace HO_233001 := mkA (Kd.R_after (ok := (fun k_ => some k_ ≠ (v240 : Value).ownBlock)) (Kd.R_g (Kd.R_mono HO_233001.out (fun _ hk => ⟨hk.2, hk.1⟩))) hg hat); replace BK225 := mkA (blk_grown (g := gb225) (o := .cells #[.int .i64 0, .slice none 0 0] 26 (0, 0)) (blk_g BK225.out) hg (Kd.R_ne HO_9.out BK225.out (by decide))); replace BK232 := mkA (blk_grown (g := gb232) (o := .cells #[.int .i64 t226, .slice Ao11 y229.length co11] 26 (0, 0)) (blk_g BK232.out) hg (Kd.R_ne HO_9.out BK232.out (by decide))); replace HO241 := mkA (Kd.R_after (ok := (fun k_ => some k_ ≠ (.slice Ao11 y229.length co11 : Value).ownBlock)) (Kd.R_g (Kd.R_mono HO241.out (fun _ hk => ⟨hk.2, hk.1⟩))) hg hat); replace HK := mkA (KeepBut.trans (by exact kb47_2 HK.out GW225.out GW232.out) (KeepBut.of_grown hg g) (Kd.R_base2 HO_9.out)); have HO247 := mkA (ho); replace HB := mkA (below_weaken (by exact bl47_2 HB.out HI0.out GE225.out GE232.out) HL.out hb); replace HI0 := mkA (IsS47.grown (by exact st47_2 HI0.out NB0_225.out NB0_232.out) hg (IsS47.own_ne HI0.out HO_9.out (by decide))); clear HO_9; clear ho hb hg hat))
     go_roundg k1
     case measure => have := HK1.out; omega
     case rel => exact ⟨(y239), (y245), (wrap64 (x10_1 + 1)), (t243), (t244), eqS, H', ⟨by have := HK1.out; omega⟩, ⟨Kd.R_g (Kd.R_mono HO241.out (fun _ hk => ⟨hk.2, hk.1⟩))⟩, ⟨Kd.R_g (Kd.R_mono HO247.out (fun _ hk => ⟨hk.2, hk.1⟩))⟩, ⟨Kd.R_g HO_233001.out⟩, ⟨blk_g BK225.out⟩, ⟨blk_g BK232.out⟩, ⟨by exact st47_2 HI0.out NB0_225.out NB0_232.out⟩, ⟨by exact kb47_2 HK.out GW225.out GW232.out⟩, ⟨by exact bl47_2 HB.out HI0.out GE225.out GE232.out⟩⟩
    ·have c20b0 : (t233 == 1) = false := beq_eq_false_iff_ne.mpr c20
     have c20b1 : (t233 != 1) = true := bne_iff_ne.mpr c20
     obtain ⟨c27, H⟩ := itNP H
     have LMc27 := mkA c27
     clear c27
     obtain ⟨y248, hy248⟩ : ∃ y_ : List Int, y_ = (x9_1 ++ [wrap64 (t236 + 2)]) := ⟨_, rfl⟩
     replace H : (spec_l1Cur_order.l0 k1 t226 t233 y239 y248 (wrap64 (x10_1 + 1)) s0_0 t237 t238 t226 y229) = some (r1, r2, r3, r4) := by first | (rw [hy248]; with_reducible exact H) | (have H2_ := (Option.bind_some _ _).symm.trans H; rw [hy248]; with_reducible exact H2_) | (have H2_ := (Option.bind_some _ _).symm.trans H; with_reducible exact H2_) | with_reducible exact H | (rw [hy248]; exact H) | exact H
     have Ny248 := mkA hy248
     clear hy248
     have H' := mkA H
     clear H
     go_wp2_with (first | ((with_reducible refine gate_callee (f := 41) rfl ?_); refine goesQ (some 32) Tryd.func41 #[.pointer (some ⟨g, 0, none⟩), .int .i64 8] ?_; (with_reducible refine (spec_l1Cur_pick.calls g s0_0 x1001_1 x1002_1 8 t236 t237 t238 w0 _ ?s1 ?s2 A18.out).mono ?_); (case s1 => exact st47_2 HI0.out NB0_225.out NB0_232.out); (case s2 => exact bl47_2 HB.out HI0.out GE225.out GE232.out); rintro e w28 ⟨rfl, hi, hb, hk⟩; refine ⟨_, rfl, ?_⟩; replace HO_8 := rK (IsS47.apart (show IsS47 w0 _ g s0_0 x1001_1 x1002_1 from by exact st47_2 HI0.out NB0_225.out NB0_232.out) (Kd.R_g HO_8.out) (by decide)) hk; replace HO_9 := rK (IsS47.apart (show IsS47 w0 _ g s0_0 x1001_1 x1002_1 from by exact st47_2 HI0.out NB0_225.out NB0_232.out) (Kd.R_g HO_9.out) (by decide)) hk; replace HO_233001 := rK (IsS47.apart (show IsS47 w0 _ g s0_0 x1001_1 x1002_1 from by exact st47_2 HI0.out NB0_225.out NB0_232.out) (Kd.R_g HO_233001.out) (by decide)) hk; replace BK225 := kB hk BK225; replace BK232 := kB hk BK232; replace HK := kT (by exact kb47_2 HK.out GW225.out GW232.out) hk; replace HI0 := mkA (hi); replace HB := mkA (hb); (try clear hb); (try clear hk); (try clear hi)) | ((with_reducible refine gate_builtin (b := .append) (xs := #[.tmp 33, .tmp 35]) rfl ?_); at_builtin; refine Kd.R_append (Kd.int .i64) w.heap.size rfl (.tmp 33) (.tmp 35) 24 3 (.int .i64 0) 8 rfl Tryd.underlying24 info3 rfl (by decide) (by omega) u8 x8_1 t236 [.int .i64 t236] (fun k_ => some k_ ≠ (u9 : Value).ownBlock ∧ some k_ ≠ (.slice Ao11 y229.length co11 : Value).ownBlock) (fun _ => False) rfl rfl ?aP (fun _ hk => hk.elim) ?aF ?aO (Below.refl _ _) ?aS ?aL ?_; (case aP => exact rfl); (case aF => exact (fun k_ hk => ⟨Kd.fresh' (Kd.R_lt (Kd.R_g HO_9.out)) k_ hk, Kd.fresh' (Kd.R_lt (Kd.R_g HO_233001.out)) k_ hk⟩)); (case aO => exact (Kd.R_g HO_8.out)); (case aS => exact (keep_size (w := w) (g := g) (row := none) (by exact kb47_2 HK.out GW225.out GW232.out))); (case aL => have := LMc19.out; omega); intro v240 w29 ho hb hg hat; rw [← Ny239.out] at ho; replace HO_9 := mkA (Kd.R_after (ok := (fun k_ => some k_ ≠ (.slice Ao11 y229.length co11 : Value).ownBlock)) (Kd.R_g (Kd.R_mono HO_9.out (fun _ hk => ⟨hk.2, hk.1⟩))) hg hat); replace HO_233001 := mkA (Kd.R_after (ok := (fun k_ => some k_ ≠ (u9 : Value).ownBlock)) (Kd.R_g (Kd.R_mono HO_233001.out (fun _ hk => ⟨hk.2, hk.1⟩))) hg hat); replace BK225 := mkA (blk_grown (g := gb225) (o := .cells #[.int .i64 0, .slice none 0 0] 26 (0, 0)) (blk_g BK225.out) hg (Kd.R_ne HO_8.out BK225.out (by decide))); replace BK232 := mkA (blk_grown (g := gb232) (o := .cells #[.int .i64 t226, .slice Ao11 y229.length co11] 26 (0, 0)) (blk_g BK232.out) hg (Kd.R_ne HO_8.out BK232.out (by decide))); replace HK := mkA (KeepBut.trans (by exact kb47_2 HK.out GW225.out GW232.out) (KeepBut.of_grown hg g) (Kd.R_base2 HO_8.out)); have HO241 := mkA (ho); replace HB := mkA (below_weaken (by exact bl47_2 HB.out HI0.out GE225.out GE232.out) HL.out hb); replace HI0 := mkA (IsS47.grown (by exact st47_2 HI0.out NB0_225.out NB0_232.out) hg (IsS47.own_ne HI0.out HO_8.out (by decide))); clear HO_8; clear ho hb hg hat) | ((with_reducible refine gate_builtin (b := .append) (xs := #[.tmp 46, .tmp 49]) rfl ?_); at_builtin; refine Kd.R_append (Kd.int .i64) w.heap.size rfl (.tmp 46) (.tmp 49) 24 3 (.int .i64 0) 8 rfl Tryd.underlying24 info3 rfl (by decide) (by omega) u9 x9_1 (wrap64 (t236 + 2)) [.int .i64 (wrap64 (t236 + 2))] (fun k_ => some k_ ≠ (.slice Ao11 y229.length co11 : Value).ownBlock ∧ some k_ ≠ (v240 : Value).ownBlock) (fun _ => False) rfl rfl ?aP (fun _ hk => hk.elim) ?aF ?aO (Below.refl _ _) ?aS ?aL ?_; (case aP => exact rfl); (case aF => exact (fun k_ hk => ⟨Kd.fresh' (Kd.R_lt (Kd.R_g HO_233001.out)) k_ hk, Kd.fresh' (Kd.R_lt (Kd.R_g HO241.out)) k_ hk⟩)); (case aO => exact (Kd.R_g HO_9.out)); (case aS => exact (keep_size (w := w) (g := g) (row := none) (by exact kb47_2 HK.out GW225.out GW232.out))); (case aL => have := LMc27.out; omega); intro v249 w30 ho hb hg hat; rw [← Ny248.out] at ho; replace HO_233001 := mkA (Kd.R_after (ok := (fun k_ => some k_ ≠ (v240 : Value).ownBlock)) (Kd.R_g (Kd.R_mono HO_233001.out (fun _ hk => ⟨hk.2, hk.1⟩))) hg hat); replace BK225 := mkA (blk_grown (g := gb225) (o := .cells #[.int .i64 0, .slice none 0 0] 26 (0, 0)) (blk_g BK225.out) hg (Kd.R_ne HO_9.out BK225.out (by decide))); replace BK232 := mkA (blk_grown (g := gb232) (o := .cells #[.int .i64 t226, .slice Ao11 y229.length co11] 26 (0, 0)) (blk_g BK232.out) hg (Kd.R_ne HO_9.out BK232.out (by decide))); replace HO241 := mkA (Kd.R_after (ok := (fun k_ => some k_ ≠ (.slice Ao11 y229.length co11 : Value).ownBlock)) (Kd.R_g (Kd.R_mono HO241.out (fun _ hk => ⟨hk.2, hk.1⟩))) hg hat); replace HK := mkA (KeepBut.trans (by exact kb47_2 HK.out GW225.out GW232.out) (KeepBut.of_grown hg g) (Kd.R_base2 HO_9.out)); have HO250 := mkA (ho); replace HB := mkA (below_weaken (by exact bl47_2 HB.out HI0.out GE225.out GE232.out) HL.out hb); replace HI0 := mkA (IsS47.grown (by exact st47_2 HI0.out NB0_225.out NB0_232.out) hg (IsS47.own_ne HI0.out HO_9.out (by decide))); clear HO_9; clear ho hb hg hat))
     go_roundg k1
     case measure => have := HK1.out; omega
     case rel => exact ⟨(y239), (y248), (wrap64 (x10_1 + 1)), (t237), (t238), eqS, H', ⟨by have := HK1.out; omega⟩, ⟨Kd.R_g (Kd.R_mono HO241.out (fun _ hk => ⟨hk.2, hk.1⟩))⟩, ⟨Kd.R_g (Kd.R_mono HO250.out (fun _ hk => ⟨hk.2, hk.1⟩))⟩, ⟨Kd.R_g HO_233001.out⟩, ⟨blk_g BK225.out⟩, ⟨blk_g BK232.out⟩, ⟨by exact st47_2 HI0.out NB0_225.out NB0_232.out⟩, ⟨by exact kb47_2 HK.out GW225.out GW232.out⟩, ⟨by exact bl47_2 HB.out HI0.out GE225.out GE232.out⟩⟩
   ·have H' := mkA H
    clear H
    go_wp2
    go_loopg [12] k1 (fun kq v12 w' => ∃ (x8_2 : List Int) (x9_2 : List Int) (x12_2 : Int) (x1001_2 : Int) (x1002_2 : Int) (x233001_2 : List Int) (u233001 : Value), v12 = .int .i64 x12_2 ∧ Fc (spec_l1Cur_order.l1 kq t226 t233 x8_2 x9_2 x12_2 s0_0 x1001_2 x1002_2 t226 x233001_2 = some (r1, r2, r3, r4)) ∧ Fc (kq ≤ k1) ∧ Fc (Kd.R (Kd.int .i64) 3 w' w.heap.size (fun k_ => some k_ ≠ (u9 : Value).ownBlock ∧ some k_ ≠ (u233001 : Value).ownBlock) u8 x8_2) ∧ Fc (Kd.R (Kd.int .i64) 3 w' w.heap.size (fun k_ => some k_ ≠ (u8 : Value).ownBlock ∧ some k_ ≠ (u233001 : Value).ownBlock) u9 x9_2) ∧ Fc (Kd.R (Kd.int .i64) 3 w' w.heap.size (fun k_ => some k_ ≠ (u8 : Value).ownBlock ∧ some k_ ≠ (u9 : Value).ownBlock) u233001 x233001_2) ∧ Fc (w'.heap[gb225]? = some (.cells #[.int .i64 0, (.slice none 0 0)] 26 (0, 0))) ∧ Fc (w'.heap[gb232]? = some (.cells #[.int .i64 t226, u233001] 26 (0, 0))) ∧ Fc (IsS47 w0 w' g s0_0 x1001_2 x1002_2) ∧ Fc (KeepBut w w' g none) ∧ Fc (Below w0.heap.size w0 w'))
    case atStart => exact ⟨(x8_1), (x9_1), (0), (x1001_1), (x1002_1), (y229), (.slice Ao11 y229.length co11), eqS, H', ⟨Nat.le_refl _⟩, ⟨Kd.R_g HO_8.out⟩, ⟨Kd.R_g HO_9.out⟩, ⟨Kd.R_g HO_233001.out⟩, ⟨blk_g BK225.out⟩, ⟨blk_g BK232.out⟩, ⟨by exact st47_2 HI0.out NB0_225.out NB0_232.out⟩, ⟨by exact kb47_2 HK.out GW225.out GW232.out⟩, ⟨by exact bl47_2 HB.out HI0.out GE225.out GE232.out⟩⟩
    case round =>
     clear H'
     try clear c4
     try clear c4b0
     try clear c4b1
     try clear c5
     try clear c5b0
     try clear c5b1
     try clear c17b0
     try clear c19
     try clear c20
     try clear c20b0
     try clear c20b1
     try clear c22
     try clear c27
     obtain ⟨x8_2, x9_2, x12_2, x1001_2, x1002_2, x233001_2, u233001, rfl, HA, HK2, HO_8, HO_9, HO_233001, BK225, BK232, HI0, HK, HB⟩ := hrel
     cases gk with
     | zero => exact absurd HA.out (by simp [spec_l1Cur_order.l1])
     | succ k2 =>
      have H := HA.out
      clear HA
      simp only [spec_l1Cur_order.l1] at H
      rcases iteE H with ⟨c31b0, H⟩ | ⟨c31b0, H⟩
      ·have H' := mkA H
       clear H
       go_wp2
       go_loopg [13] k2 (fun kq v13 w' => ∃ (x8_3 : List Int) (x9_3 : List Int) (x13_3 : Int) (x1001_3 : Int) (x1002_3 : Int) (x233001_3 : List Int) (u233001 : Value), v13 = .int .i64 x13_3 ∧ Fc (spec_l1Cur_order.l2 kq t226 t233 x8_3 x9_3 x12_2 x13_3 s0_0 x1001_3 x1002_3 t226 x233001_3 = some (r1, r2, r3, r4)) ∧ Fc (kq ≤ k2) ∧ Fc (Kd.R (Kd.int .i64) 3 w' w.heap.size (fun k_ => some k_ ≠ (u9 : Value).ownBlock ∧ some k_ ≠ (u233001 : Value).ownBlock) u8 x8_3) ∧ Fc (Kd.R (Kd.int .i64) 3 w' w.heap.size (fun k_ => some k_ ≠ (u8 : Value).ownBlock ∧ some k_ ≠ (u233001 : Value).ownBlock) u9 x9_3) ∧ Fc (Kd.R (Kd.int .i64) 3 w' w.heap.size (fun k_ => some k_ ≠ (u8 : Value).ownBlock ∧ some k_ ≠ (u9 : Value).ownBlock) u233001 x233001_3) ∧ Fc (w'.heap[gb225]? = some (.cells #[.int .i64 0, (.slice none 0 0)] 26 (0, 0))) ∧ Fc (w'.heap[gb232]? = some (.cells #[.int .i64 t226, u233001] 26 (0, 0))) ∧ Fc (IsS47 w0 w' g s0_0 x1001_3 x1002_3) ∧ Fc (KeepBut w w' g none) ∧ Fc (Below w0.heap.size w0 w'))
       case atStart => exact ⟨(x8_2), (x9_2), (0), (x1001_2), (x1002_2), (x233001_2), (u233001), eqS, H', ⟨Nat.le_refl _⟩, ⟨Kd.R_g HO_8.out⟩, ⟨Kd.R_g HO_9.out⟩, ⟨Kd.R_g HO_233001.out⟩, ⟨blk_g BK225.out⟩, ⟨blk_g BK232.out⟩, ⟨by exact st47_2 HI0.out NB0_225.out NB0_232.out⟩, ⟨by exact kb47_2 HK.out GW225.out GW232.out⟩, ⟨by exact bl47_2 HB.out HI0.out GE225.out GE232.out⟩⟩
       case round =>
        clear H'
        try clear c4
        try clear c4b0
        try clear c4b1
        try clear c5
        try clear c5b0
        try clear c5b1
        try clear c17b0
        try clear c19
        try clear c20
        try clear c20b0
        try clear c20b1
        try clear c22
        try clear c27
        try clear c31b0
        obtain ⟨x8_3, x9_3, x13_3, x1001_3, x1002_3, x233001_3, u233001, rfl, HA, HK3, HO_8, HO_9, HO_233001, BK225, BK232, HI0, HK, HB⟩ := hrel
        cases gk with
        | zero => exact absurd HA.out (by simp [spec_l1Cur_order.l2])
        | succ k3 =>
         have H := HA.out
         clear HA
         simp only [spec_l1Cur_order.l2] at H
         rcases iteE H with ⟨c32b0, H⟩ | ⟨c32b0, H⟩
         ·rcases iteP H with ⟨c33, H⟩ | ⟨c33, H⟩
          ·have c33b0 : decide (0 < t233) = true := decide_eq_true c33
           clear c33
           obtain ⟨c34, H⟩ := itNP H
           have c34b0 : decide (0 ≤ x12_2) = true := decide_eq_true c34
           clear c34
           obtain ⟨c35, H⟩ := itNP H
           have c35b0 : decide (x12_2 < (x9_3.length : Int)) = true := decide_eq_true c35
           clear c35
           obtain ⟨c36, H⟩ := itNP H
           have c36b0 : decide (0 ≤ x13_3) = true := decide_eq_true c36
           clear c36
           obtain ⟨c37, H⟩ := itNP H
           have c37b0 : decide (x13_3 < (x8_3.length : Int)) = true := decide_eq_true c37
           clear c37
           rcases iteE H with ⟨c38b0, H⟩ | ⟨c38b0, H⟩
           ·obtain ⟨c39, H⟩ := itNP H
            have c39b0 : decide (x12_2 < (x233001_3.length : Int)) = true := decide_eq_true c39
            clear c39
            have c40b0 := eq_true (ofd : 0 ≤ x13_3)
            obtain ⟨ji41, hji41⟩ : ∃ j_ : Int, (shl .i64 1 x13_3) = j_ := ⟨_, rfl⟩
            replace H : (spec_l1Cur_order.l2 k3 t226 t233 x8_3 x9_3 x12_2 (wrap64 (x13_3 + 1)) s0_0 x1001_3 x1002_3 t226 (x233001_3.set (x12_2 : Int).toNat (Go.bits .or .i64 (rd x233001_3 x12_2) (ji41)))) = some (r1, r2, r3, r4) := by first | (rw [hji41] at H; exact H) | (simp only [hji41] at H ⊢; exact H)
            have hji41_ : (IntKind.i64.wrap (1 * 2 ^ min x13_3.toNat 64)) = ji41 := hji41
            have hji41z : x13_3 ≤ 64 → (IntKind.i64.wrap (1 * 2 ^ x13_3.toNat)) = ji41 := shl_small hji41
            have hji41u : (IntKind.i64.wrap (2 ^ min x13_3.toNat 64)) = ji41 := by have h_ := hji41_; rw [Int.one_mul] at h_; exact h_
            have hji41v : x13_3 ≤ 64 → (IntKind.i64.wrap (2 ^ x13_3.toNat)) = ji41 := fun hle_ => by have h_ := hji41z hle_; rw [Int.one_mul] at h_; exact h_
            have hji41y : (wrap64 (1 * 2 ^ min x13_3.toNat 64)) = ji41 := (i64_w _).symm.trans hji41_
            have hji41x : x13_3 ≤ 64 → (wrap64 (1 * 2 ^ x13_3.toNat)) = ji41 := fun h_ => (i64_w _).symm.trans (hji41z h_)
            obtain ⟨y260, hy260⟩ : ∃ y_ : List Int, y_ = (x233001_3.set (x12_2 : Int).toNat (Go.bits .or .i64 (rd x233001_3 x12_2) (ji41))) := ⟨_, rfl⟩
            replace H : (spec_l1Cur_order.l2 k3 t226 t233 x8_3 x9_3 x12_2 (wrap64 (x13_3 + 1)) s0_0 x1001_3 x1002_3 t226 y260) = some (r1, r2, r3, r4) := by first | (rw [hy260]; with_reducible exact H) | (have H2_ := (Option.bind_some _ _).symm.trans H; rw [hy260]; with_reducible exact H2_) | (have H2_ := (Option.bind_some _ _).symm.trans H; with_reducible exact H2_) | with_reducible exact H | (rw [hy260]; exact H) | exact H
            have Ny260 := mkA hy260
            clear hy260
            have H' := mkA H
            clear H
            try go_wp2
            replace HO_8 := mkA (Kd.R_drew HO_8.out)
            replace HO_9 := mkA (Kd.R_drew HO_9.out)
            replace HO_233001 := mkA (Kd.R_drew HO_233001.out)
            replace BK225 := mkA (blk_drew BK225.out)
            replace BK232 := mkA (blk_drew BK232.out)
            replace HI0 := mkA (IsS47.drew HI0.out)
            replace HK := mkA (keep_drew HK.out)
            replace HB := mkA (below_drew1 HB.out)
            obtain ⟨Ao44, co44, eo44⟩ := Kd.R_slice HO_9.out
            (first | subst eo44 | (injection eo44 with f1_ f2_ f3_; have f4_ := f1_.symm; have f5_ := f3_.symm; clear f1_ f2_ f3_; subst f4_; subst f5_))
            have p257 : 0 ≤ (x12_2 : Int) := ofd
            have q257 : x12_2 < (x9_3.length : Int) := ofd
            obtain ⟨ad257, e257, hx257_0⟩ := Kd.at_int (Kd.R_reads' HO_9.out).2.2 x12_2 p257 q257
            cases e257
            replace p257 := eq_true p257
            replace q257 := eq_true q257
            obtain ⟨Ao45, co45, eo45⟩ := Kd.R_slice HO_8.out
            (first | subst eo45 | (injection eo45 with f1_ f2_ f3_; have f4_ := f1_.symm; have f5_ := f3_.symm; clear f1_ f2_ f3_; subst f4_; subst f5_))
            have p258 : 0 ≤ (x13_3 : Int) := ofd
            have q258 : x13_3 < (x8_3.length : Int) := ofd
            obtain ⟨ad258, e258, hx258_0⟩ := Kd.at_int (Kd.R_reads' HO_8.out).2.2 x13_3 p258 q258
            cases e258
            replace p258 := eq_true p258
            replace q258 := eq_true q258
            refine start_ (n := 26) (S := fun w' => w'.cell? (ad257.add (x12_2).toNat) = some (.int .i64 (rd x9_3 x12_2)) ∧ w'.cell? (ad258.add (x13_3).toNat) = some (.int .i64 (rd x8_3 x13_3))) (ds := []) (bm 26 0) (by kernel_rfl) rfl (by kernel_rfl) ⟨hx257_0, hx258_0⟩ (fun hHeld => ?_); refine with_tabW spec_l1Cur_order.tab19 spec_l1Cur_order.bits19 (fun HT_ HW_ => ?_)
            generalize wr.drew = w43 at HO_8 HO_9 HO_233001 BK225 BK232 HI0 HK HB hx257_0 hx258_0 hHeld ⊢
            refine purW 0 61 26 1 HT_ ?_
            refine purW 1 62 26 3 HT_ ?_
            refine purW 2 63 26 7 HT_ ?_
            refine purW 3 64 26 15 HT_ ?_
            refine purW 4 65 26 31 HT_ ?_
            refine purW 5 66 26 63 HT_ ?_
            refine purW 7 68 26 191 HT_ ?_
            refine purW 8 69 26 447 HT_ ?_
            refine purW 9 70 26 959 HT_ ?_
            refine takeW 6 (some 67) (bm 26 1023) HT_ HW_ hHeld ?_
            refine takeW 10 (some 71) (bm 26 2047) HT_ HW_ hHeld ?_
            refine purW 11 72 26 4095 HT_ ?_
            refine purW 12 73 26 8191 HT_ ?_
            refine purW 13 74 26 16383 HT_ ?_
            refine purG 14 75 26 32767 HT_ ?_
            refine purG 15 76 26 65535 HT_ ?_
            refine purG 16 77 26 131071 HT_ ?_
            refine purG 17 78 26 262143 HT_ ?_
            refine purG 18 79 26 524287 HT_ ?_
            refine purG 19 80 26 1048575 HT_ ?_
            refine purG 20 81 26 2097151 HT_ ?_
            refine purG 21 82 26 4194303 HT_ ?_
            refine purG 22 83 26 8388607 HT_ ?_
            refine purG 23 84 26 16777215 HT_ ?_
            refine purG 24 85 26 33554431 HT_ ?_
            refine purW 25 86 26 67108863 HT_ ?_
            refine doneW HT_ ?_
            try go_wp2
            replace HO_8 := mkA (Kd.R_drew HO_8.out)
            replace HO_9 := mkA (Kd.R_drew HO_9.out)
            replace HO_233001 := mkA (Kd.R_drew HO_233001.out)
            replace BK225 := mkA (blk_drew BK225.out)
            replace BK232 := mkA (blk_drew BK232.out)
            replace HI0 := mkA (IsS47.drew HI0.out)
            replace HK := mkA (keep_drew HK.out)
            replace HB := mkA (below_drew1 HB.out)
            obtain ⟨Ao47, co47, eo47⟩ := Kd.R_slice HO_233001.out
            (first | subst eo47 | (injection eo47 with f1_ f2_ f3_; have f4_ := f1_.symm; have f5_ := f3_.symm; clear f1_ f2_ f3_; subst f4_; subst f5_))
            have p259 : 0 ≤ (x12_2 : Int) := ofd
            have q259 : x12_2 < (x233001_3.length : Int) := ofd
            obtain ⟨ad259, e259, hx259_0⟩ := Kd.at_int (Kd.R_reads' HO_233001.out).2.2 x12_2 p259 q259
            cases e259
            replace p259 := eq_true p259
            replace q259 := eq_true q259
            have p42 : 0 ≤ (x12_2 : Int) := ofd
            have q42 : (x12_2 : Int) < ((x233001_3.length : Int) : Int) := ofd
            obtain ⟨go42, co42, eo42, gb42, gl42, cl42, HG42⟩ := Kd.R_form HO_233001.out (by omega)
            (first | cases eo42 | (injection eo42 with ea_ en_ ec_; (first | subst ea_ | (injection ea_ with ea_; subst ea_)); subst ec_; clear en_))
            have GB42 : Ge _ _ := ⟨gb42⟩
            have GG42 := mkA HG42
            clear gb42 gl42 HG42
            (first | simp only [add_plain] at hx259_0 | skip)
            obtain ⟨hx42_0, hf42_0⟩ := Kd.R_celln 0 HO_233001.out (x12_2 : Int) p42 q42
            replace p42 := eq_true p42
            replace q42 := eq_true q42
            have HN0_go42 := mkA (show g ≠ go42 from by have h_ := IsS47.own_ne HI0.out HO_233001.out (by decide); intro e_; exact h_ (by rw [e_]; rfl))
            have HP48 := Kd.R_putn HO_233001.out (x12_2 : Int) (Go.bits .or .i64 (rd x233001_3 x12_2) (ji41))
            rw [← Ny260.out] at HP48
            have HQ48 := mkA HP48
            clear HP48
            refine start_ (n := 10) (S := fun w' => w'.cell? ⟨gb232, 0, none⟩ = some (.int .i64 t226) ∧ w'.cell? ⟨gb232, 1, none⟩ = some (.slice (some ⟨go42, 0, none⟩) x233001_3.length co47) ∧ w'.cell? ⟨go42, (x12_2).toNat, none⟩ = some (.int .i64 (rd x233001_3 x12_2))) (ds := [9]) (bm 10 0) (by kernel_rfl) rfl rfl ⟨(blk_cell BK232.out 0).trans rfl, (blk_cell BK232.out 1).trans rfl, hx259_0⟩ (fun hHeld => ?_); refine with_tabW spec_l1Cur_order.tab20 spec_l1Cur_order.bits20 (fun HT_ HW_ => ?_)
            generalize w43.drew = w46 at HO_8 HO_9 HO_233001 BK225 BK232 HI0 HK HB GG42 HQ48 hf42_0 hx259_0 hx42_0 hHeld ⊢
            refine purW 0 87 10 1 HT_ ?_
            refine purW 2 89 10 5 HT_ ?_
            refine purW 5 92 10 37 HT_ ?_
            refine purW 6 93 10 101 HT_ ?_
            refine takeW 1 (some 88) (bm 10 103) HT_ HW_ hHeld ?_
            refine purW 3 90 10 111 HT_ ?_
            refine takeW 4 (some 91) (bm 10 127) HT_ HW_ hHeld ?_
            refine purW 7 94 10 255 HT_ ?_
            refine purW 8 95 10 511 HT_ ?_
            refine last_ (i := 9) (N := none) (bm 10 1023) rfl rfl (one_of HT_.out (by kernel_rfl)) (by decide) (fun K hK => ?_)
            refine skip_ (w1 := ?_) (by rfl) rfl ?_ ?_
            rotate_left
            ·go_simp
             rfl
            refine hK.out _ _ ?_
            clear hK K
            refine doneW HT_ ?_
            try go_wp2
            go_roundg k3
            case measure => have := HK1.out; have := HK2.out; have := HK3.out; omega
            case rel => exact ⟨(x8_3), (x9_3), (wrap64 (x13_3 + 1)), (x1001_3), (x1002_3), (y260), (.slice (some ⟨go42, 0, none⟩) x233001_3.length co47), eqS, H', ⟨by have := HK1.out; have := HK2.out; have := HK3.out; omega⟩, ⟨Kd.R_g (Kd.R_mono (Kd.R_far (p := ⟨go42, (x12_2 : Int).toNat, none⟩) (Kd.R_mono HO_8.out (fun k_ hk => (⟨hk, fun e_ => hk.2 (by rw [e_]; rfl)⟩ : _ ∧ k_ ≠ go42))) (fun _ hk => hk.2) (.int .i64 (Go.bits .or .i64 (rd x233001_3 x12_2) (ji41)))) (fun _ hk => ⟨hk.1.1, hk.1.2⟩))⟩, ⟨Kd.R_g (Kd.R_mono (Kd.R_far (p := ⟨go42, (x12_2 : Int).toNat, none⟩) (Kd.R_mono HO_9.out (fun k_ hk => (⟨hk, fun e_ => hk.2 (by rw [e_]; rfl)⟩ : _ ∧ k_ ≠ go42))) (fun _ hk => hk.2) (.int .i64 (Go.bits .or .i64 (rd x233001_3 x12_2) (ji41)))) (fun _ hk => ⟨hk.1.1, hk.1.2⟩))⟩, ⟨Kd.R_g HQ48.out⟩, ⟨by (with_reducible repeat (first | refine blk_drewN ?_ _ | refine blk_drew ?_ | refine blk_alloc ?_ _)); refine blk_far ?_ (by have h_ := Kd.R_ne HO_233001.out BK225.out (by decide); intro e_; exact h_ (by rw [e_]; rfl)) _; (with_reducible repeat (first | refine blk_drewN ?_ _ | refine blk_drew ?_ | refine blk_alloc ?_ _)); exact BK225.out⟩, ⟨by (with_reducible repeat (first | refine blk_drewN ?_ _ | refine blk_drew ?_ | refine blk_alloc ?_ _)); refine blk_far ?_ (by have h_ := Kd.R_ne HO_233001.out BK232.out (by decide); intro e_; exact h_ (by rw [e_]; rfl)) _; (with_reducible repeat (first | refine blk_drewN ?_ _ | refine blk_drew ?_ | refine blk_alloc ?_ _)); exact BK232.out⟩, ⟨by exact st47_3 HI0.out HN0_go42.out NB0_225.out NB0_232.out⟩, ⟨by exact kb47_3 HK.out GB42.out GW225.out GW232.out⟩, ⟨by repeat (first | (with_reducible first | exact HB.out | apply below_alloc | apply pw_below_drewN | apply below_drew1 | refine below_set ?_ (Nat.le_trans HL.out GB42.out) | refine below_set ?_ (IsS47.ge HI0.out) | refine below_set ?_ GE225.out | refine below_set ?_ GE232.out) | exact HB.out)⟩⟩
           ·rcases iteP H with ⟨c49, H⟩ | ⟨c49, H⟩
            ·have c49b0 : (t233 == 0) = true := beq_iff_eq.mpr c49
             have c49b1 : (t233 != 0) = false := bne_eq_false_iff_eq.mpr c49
             clear c49
             rcases iteE H with ⟨c50b0, H⟩ | ⟨c50b0, H⟩
             ·obtain ⟨⟨t261, t262, t263⟩, A51, H⟩ := obE H
              dsimp only at H
              by_cases c52 : t261 = true
              ·subst c52
               replace H := ifT H
               obtain ⟨c53, H⟩ := itNP H
               have c53b0 : decide (x12_2 < (x233001_3.length : Int)) = true := decide_eq_true c53
               clear c53
               have c54b0 := eq_true (ofd : 0 ≤ x13_3)
               obtain ⟨ji55, hji55⟩ : ∃ j_ : Int, (shl .i64 1 x13_3) = j_ := ⟨_, rfl⟩
               replace H : (spec_l1Cur_order.l2 k3 t226 t233 x8_3 x9_3 x12_2 (wrap64 (x13_3 + 1)) s0_0 t262 t263 t226 (x233001_3.set (x12_2 : Int).toNat (Go.bits .or .i64 (rd x233001_3 x12_2) (ji55)))) = some (r1, r2, r3, r4) := by first | (rw [hji55] at H; exact H) | (simp only [hji55] at H ⊢; exact H)
               (try rw [hji55] at A51)
               have hji55_ : (IntKind.i64.wrap (1 * 2 ^ min x13_3.toNat 64)) = ji55 := hji55
               have hji55z : x13_3 ≤ 64 → (IntKind.i64.wrap (1 * 2 ^ x13_3.toNat)) = ji55 := shl_small hji55
               have hji55u : (IntKind.i64.wrap (2 ^ min x13_3.toNat 64)) = ji55 := by have h_ := hji55_; rw [Int.one_mul] at h_; exact h_
               have hji55v : x13_3 ≤ 64 → (IntKind.i64.wrap (2 ^ x13_3.toNat)) = ji55 := fun hle_ => by have h_ := hji55z hle_; rw [Int.one_mul] at h_; exact h_
               have hji55y : (wrap64 (1 * 2 ^ min x13_3.toNat 64)) = ji55 := (i64_w _).symm.trans hji55_
               have hji55x : x13_3 ≤ 64 → (wrap64 (1 * 2 ^ x13_3.toNat)) = ji55 := fun h_ => (i64_w _).symm.trans (hji55z h_)
               obtain ⟨y265, hy265⟩ : ∃ y_ : List Int, y_ = (x233001_3.set (x12_2 : Int).toNat (Go.bits .or .i64 (rd x233001_3 x12_2) (ji55))) := ⟨_, rfl⟩
               replace H : (spec_l1Cur_order.l2 k3 t226 t233 x8_3 x9_3 x12_2 (wrap64 (x13_3 + 1)) s0_0 t262 t263 t226 y265) = some (r1, r2, r3, r4) := by first | (rw [hy265]; with_reducible exact H) | (have H2_ := (Option.bind_some _ _).symm.trans H; rw [hy265]; with_reducible exact H2_) | (have H2_ := (Option.bind_some _ _).symm.trans H; with_reducible exact H2_) | with_reducible exact H | (rw [hy265]; exact H) | exact H
               have Ny265 := mkA hy265
               clear hy265
               have H' := mkA H
               clear H
               try go_wp2
               replace HO_8 := mkA (Kd.R_drew HO_8.out)
               replace HO_9 := mkA (Kd.R_drew HO_9.out)
               replace HO_233001 := mkA (Kd.R_drew HO_233001.out)
               replace BK225 := mkA (blk_drew BK225.out)
               replace BK232 := mkA (blk_drew BK232.out)
               replace HI0 := mkA (IsS47.drew HI0.out)
               replace HK := mkA (keep_drew HK.out)
               replace HB := mkA (below_drew1 HB.out)
               obtain ⟨Ao58, co58, eo58⟩ := Kd.R_slice HO_9.out
               (first | subst eo58 | (injection eo58 with f1_ f2_ f3_; have f4_ := f1_.symm; have f5_ := f3_.symm; clear f1_ f2_ f3_; subst f4_; subst f5_))
               have p257 : 0 ≤ (x12_2 : Int) := ofd
               have q257 : x12_2 < (x9_3.length : Int) := ofd
               obtain ⟨ad257, e257, hx257_0⟩ := Kd.at_int (Kd.R_reads' HO_9.out).2.2 x12_2 p257 q257
               cases e257
               replace p257 := eq_true p257
               replace q257 := eq_true q257
               obtain ⟨Ao59, co59, eo59⟩ := Kd.R_slice HO_8.out
               (first | subst eo59 | (injection eo59 with f1_ f2_ f3_; have f4_ := f1_.symm; have f5_ := f3_.symm; clear f1_ f2_ f3_; subst f4_; subst f5_))
               have p258 : 0 ≤ (x13_3 : Int) := ofd
               have q258 : x13_3 < (x8_3.length : Int) := ofd
               obtain ⟨ad258, e258, hx258_0⟩ := Kd.at_int (Kd.R_reads' HO_8.out).2.2 x13_3 p258 q258
               cases e258
               replace p258 := eq_true p258
               replace q258 := eq_true q258
               refine start_ (n := 26) (S := fun w' => w'.cell? (ad257.add (x12_2).toNat) = some (.int .i64 (rd x9_3 x12_2)) ∧ w'.cell? (ad258.add (x13_3).toNat) = some (.int .i64 (rd x8_3 x13_3))) (ds := []) (bm 26 0) (by kernel_rfl) rfl (by kernel_rfl) ⟨hx257_0, hx258_0⟩ (fun hHeld => ?_); refine with_tabW spec_l1Cur_order.tab19 spec_l1Cur_order.bits19 (fun HT_ HW_ => ?_)
               generalize wr.drew = w57 at HO_8 HO_9 HO_233001 BK225 BK232 HI0 HK HB hx257_0 hx258_0 hHeld ⊢
               refine purW 0 61 26 1 HT_ ?_
               refine purW 1 62 26 3 HT_ ?_
               refine purW 2 63 26 7 HT_ ?_
               refine purW 3 64 26 15 HT_ ?_
               refine purW 4 65 26 31 HT_ ?_
               refine purW 5 66 26 63 HT_ ?_
               refine purW 7 68 26 191 HT_ ?_
               refine purW 8 69 26 447 HT_ ?_
               refine purW 9 70 26 959 HT_ ?_
               refine takeW 6 (some 67) (bm 26 1023) HT_ HW_ hHeld ?_
               refine takeW 10 (some 71) (bm 26 2047) HT_ HW_ hHeld ?_
               refine purW 11 72 26 4095 HT_ ?_
               refine purW 12 73 26 8191 HT_ ?_
               refine purW 13 74 26 16383 HT_ ?_
               refine purW 14 75 26 32767 HT_ ?_
               refine purW 15 76 26 65535 HT_ ?_
               refine purW 16 77 26 131071 HT_ ?_
               refine purW 17 78 26 262143 HT_ ?_
               refine purW 18 79 26 524287 HT_ ?_
               refine purW 19 80 26 1048575 HT_ ?_
               refine purW 20 81 26 2097151 HT_ ?_
               refine purW 21 82 26 4194303 HT_ ?_
               refine purW 22 83 26 8388607 HT_ ?_
               refine oneW 23 (some 84) (bm 26 16777215) HT_ (fun K hK => ?_)
               refine goesR Tryd.func26 #[.pointer (some ⟨g, 0, none⟩), .int .i64 3] ?_
               with_reducible refine (spec_l1Cur_one.calls g s0_0 x1001_3 x1002_3 3 true t262 t263 w0 _ ?s1 ?s2 A51.out).mono ?_
               (case s1 => exact st47_2 HI0.out NB0_225.out NB0_232.out)
               (case s2 => exact bl47_2 HB.out HI0.out GE225.out GE232.out)
               rintro e w60 ⟨rfl, hi, hb, hk⟩
               have HS0_ := keep_cell hk (hHeld.1) (by first | (rw [add_block]; exact Kd.own_blk (IsS47.own_ne HI0.out HO_9.out (by decide))) | (show (Addr.add _ _).block ≠ _; rw [add_block]; exact Kd.own_blk (IsS47.own_ne HI0.out HO_9.out (by decide))) | exact Kd.own_blk (IsS47.own_ne HI0.out HO_9.out (by decide)))
               have HS1_ := keep_cell hk (hHeld.2) (by first | (rw [add_block]; exact Kd.own_blk (IsS47.own_ne HI0.out HO_8.out (by decide))) | (show (Addr.add _ _).block ≠ _; rw [add_block]; exact Kd.own_blk (IsS47.own_ne HI0.out HO_8.out (by decide))) | exact Kd.own_blk (IsS47.own_ne HI0.out HO_8.out (by decide)))
               refine ⟨_, rfl, ?_⟩
               replace HO_8 := rK (IsS47.apart (show IsS47 w0 _ g s0_0 x1001_3 x1002_3 from by exact st47_2 HI0.out NB0_225.out NB0_232.out) (Kd.R_g HO_8.out) (by decide)) hk
               replace HO_9 := rK (IsS47.apart (show IsS47 w0 _ g s0_0 x1001_3 x1002_3 from by exact st47_2 HI0.out NB0_225.out NB0_232.out) (Kd.R_g HO_9.out) (by decide)) hk
               replace HO_233001 := rK (IsS47.apart (show IsS47 w0 _ g s0_0 x1001_3 x1002_3 from by exact st47_2 HI0.out NB0_225.out NB0_232.out) (Kd.R_g HO_233001.out) (by decide)) hk
               replace BK225 := kB hk BK225
               replace BK232 := kB hk BK232
               replace HK := kT (by exact kb47_2 HK.out GW225.out GW232.out) hk
               replace HI0 := mkA (hi)
               replace HB := mkA (hb)
               (try clear hb)
               (try clear hb2)
               (try clear hk)
               (try clear hi)
               refine hK.out _ _ ⟨HS0_, HS1_⟩ (fun hHeld => ?_)
               clear hK K
               refine normW 84 ?_
               refine purW 24 85 26 33554431 HT_ ?_
               refine purW 25 86 26 67108863 HT_ ?_
               refine doneW HT_ ?_
               try go_wp2
               replace HO_8 := mkA (Kd.R_drew HO_8.out)
               replace HO_9 := mkA (Kd.R_drew HO_9.out)
               replace HO_233001 := mkA (Kd.R_drew HO_233001.out)
               replace BK225 := mkA (blk_drew BK225.out)
               replace BK232 := mkA (blk_drew BK232.out)
               replace HI0 := mkA (IsS47.drew HI0.out)
               replace HK := mkA (keep_drew HK.out)
               replace HB := mkA (below_drew1 HB.out)
               obtain ⟨Ao62, co62, eo62⟩ := Kd.R_slice HO_233001.out
               (first | subst eo62 | (injection eo62 with f1_ f2_ f3_; have f4_ := f1_.symm; have f5_ := f3_.symm; clear f1_ f2_ f3_; subst f4_; subst f5_))
               have p264 : 0 ≤ (x12_2 : Int) := ofd
               have q264 : x12_2 < (x233001_3.length : Int) := ofd
               obtain ⟨ad264, e264, hx264_0⟩ := Kd.at_int (Kd.R_reads' HO_233001.out).2.2 x12_2 p264 q264
               cases e264
               replace p264 := eq_true p264
               replace q264 := eq_true q264
               have p56 : 0 ≤ (x12_2 : Int) := ofd
               have q56 : (x12_2 : Int) < ((x233001_3.length : Int) : Int) := ofd
               obtain ⟨go56, co56, eo56, gb56, gl56, cl56, HG56⟩ := Kd.R_form HO_233001.out (by omega)
               (first | cases eo56 | (injection eo56 with ea_ en_ ec_; (first | subst ea_ | (injection ea_ with ea_; subst ea_)); subst ec_; clear en_))
               have GB56 : Ge _ _ := ⟨gb56⟩
               have GG56 := mkA HG56
               clear gb56 gl56 HG56
               (first | simp only [add_plain] at hx264_0 | skip)
               obtain ⟨hx56_0, hf56_0⟩ := Kd.R_celln 0 HO_233001.out (x12_2 : Int) p56 q56
               replace p56 := eq_true p56
               replace q56 := eq_true q56
               have HN0_go56 := mkA (show g ≠ go56 from by have h_ := IsS47.own_ne HI0.out HO_233001.out (by decide); intro e_; exact h_ (by rw [e_]; rfl))
               have HP63 := Kd.R_putn HO_233001.out (x12_2 : Int) (Go.bits .or .i64 (rd x233001_3 x12_2) (ji55))
               rw [← Ny265.out] at HP63
               have HQ63 := mkA HP63
               clear HP63
               refine start_ (n := 10) (S := fun w' => w'.cell? ⟨gb232, 0, none⟩ = some (.int .i64 t226) ∧ w'.cell? ⟨gb232, 1, none⟩ = some (.slice (some ⟨go56, 0, none⟩) x233001_3.length co62) ∧ w'.cell? ⟨go56, (x12_2).toNat, none⟩ = some (.int .i64 (rd x233001_3 x12_2))) (ds := [9]) (bm 10 0) (by kernel_rfl) rfl rfl ⟨(blk_cell BK232.out 0).trans rfl, (blk_cell BK232.out 1).trans rfl, hx264_0⟩ (fun hHeld => ?_); refine with_tabW spec_l1Cur_order.tab20 spec_l1Cur_order.bits20 (fun HT_ HW_ => ?_)
               generalize w60.drew = w61 at HO_8 HO_9 HO_233001 BK225 BK232 HI0 HK HB GG56 HQ63 hf56_0 hx264_0 hx56_0 hHeld ⊢
               refine purW 0 87 10 1 HT_ ?_
               refine purW 2 89 10 5 HT_ ?_
               refine purW 5 92 10 37 HT_ ?_
               refine purW 6 93 10 101 HT_ ?_
               refine takeW 1 (some 88) (bm 10 103) HT_ HW_ hHeld ?_
               refine purW 3 90 10 111 HT_ ?_
               refine takeW 4 (some 91) (bm 10 127) HT_ HW_ hHeld ?_
               refine purW 7 94 10 255 HT_ ?_
               refine purW 8 95 10 511 HT_ ?_
               refine last_ (i := 9) (N := none) (bm 10 1023) rfl rfl (one_of HT_.out (by kernel_rfl)) (by decide) (fun K hK => ?_)
               refine skip_ (w1 := ?_) (by rfl) rfl ?_ ?_
               rotate_left
               ·go_simp
                rfl
               refine hK.out _ _ ?_
               clear hK K
               refine doneW HT_ ?_
               try go_wp2
               go_roundg k3
               case measure => have := HK1.out; have := HK2.out; have := HK3.out; omega
               case rel => exact ⟨(x8_3), (x9_3), (wrap64 (x13_3 + 1)), (t262), (t263), (y265), (.slice (some ⟨go56, 0, none⟩) x233001_3.length co62), eqS, H', ⟨by have := HK1.out; have := HK2.out; have := HK3.out; omega⟩, ⟨Kd.R_g (Kd.R_mono (Kd.R_far (p := ⟨go56, (x12_2 : Int).toNat, none⟩) (Kd.R_mono HO_8.out (fun k_ hk => (⟨hk, fun e_ => hk.2 (by rw [e_]; rfl)⟩ : _ ∧ k_ ≠ go56))) (fun _ hk => hk.2) (.int .i64 (Go.bits .or .i64 (rd x233001_3 x12_2) (ji55)))) (fun _ hk => ⟨hk.1.1, hk.1.2⟩))⟩, ⟨Kd.R_g (Kd.R_mono (Kd.R_far (p := ⟨go56, (x12_2 : Int).toNat, none⟩) (Kd.R_mono HO_9.out (fun k_ hk => (⟨hk, fun e_ => hk.2 (by rw [e_]; rfl)⟩ : _ ∧ k_ ≠ go56))) (fun _ hk => hk.2) (.int .i64 (Go.bits .or .i64 (rd x233001_3 x12_2) (ji55)))) (fun _ hk => ⟨hk.1.1, hk.1.2⟩))⟩, ⟨Kd.R_g HQ63.out⟩, ⟨by (with_reducible repeat (first | refine blk_drewN ?_ _ | refine blk_drew ?_ | refine blk_alloc ?_ _)); refine blk_far ?_ (by have h_ := Kd.R_ne HO_233001.out BK225.out (by decide); intro e_; exact h_ (by rw [e_]; rfl)) _; (with_reducible repeat (first | refine blk_drewN ?_ _ | refine blk_drew ?_ | refine blk_alloc ?_ _)); exact BK225.out⟩, ⟨by (with_reducible repeat (first | refine blk_drewN ?_ _ | refine blk_drew ?_ | refine blk_alloc ?_ _)); refine blk_far ?_ (by have h_ := Kd.R_ne HO_233001.out BK232.out (by decide); intro e_; exact h_ (by rw [e_]; rfl)) _; (with_reducible repeat (first | refine blk_drewN ?_ _ | refine blk_drew ?_ | refine blk_alloc ?_ _)); exact BK232.out⟩, ⟨by exact st47_3 HI0.out HN0_go56.out NB0_225.out NB0_232.out⟩, ⟨by exact kb47_3 HK.out GB56.out GW225.out GW232.out⟩, ⟨by repeat (first | (with_reducible first | exact HB.out | apply below_alloc | apply pw_below_drewN | apply below_drew1 | refine below_set ?_ (Nat.le_trans HL.out GB56.out) | refine below_set ?_ (IsS47.ge HI0.out) | refine below_set ?_ GE225.out | refine below_set ?_ GE232.out) | exact HB.out)⟩⟩
              ·replace c52 := Bool.eq_false_iff.mpr c52
               subst c52
               replace H := ifF H
               have H' := mkA H
               clear H
               try go_wp2
               replace HO_8 := mkA (Kd.R_drew HO_8.out)
               replace HO_9 := mkA (Kd.R_drew HO_9.out)
               replace HO_233001 := mkA (Kd.R_drew HO_233001.out)
               replace BK225 := mkA (blk_drew BK225.out)
               replace BK232 := mkA (blk_drew BK232.out)
               replace HI0 := mkA (IsS47.drew HI0.out)
               replace HK := mkA (keep_drew HK.out)
               replace HB := mkA (below_drew1 HB.out)
               obtain ⟨Ao65, co65, eo65⟩ := Kd.R_slice HO_9.out
               (first | subst eo65 | (injection eo65 with f1_ f2_ f3_; have f4_ := f1_.symm; have f5_ := f3_.symm; clear f1_ f2_ f3_; subst f4_; subst f5_))
               have p257 : 0 ≤ (x12_2 : Int) := ofd
               have q257 : x12_2 < (x9_3.length : Int) := ofd
               obtain ⟨ad257, e257, hx257_0⟩ := Kd.at_int (Kd.R_reads' HO_9.out).2.2 x12_2 p257 q257
               cases e257
               replace p257 := eq_true p257
               replace q257 := eq_true q257
               obtain ⟨Ao66, co66, eo66⟩ := Kd.R_slice HO_8.out
               (first | subst eo66 | (injection eo66 with f1_ f2_ f3_; have f4_ := f1_.symm; have f5_ := f3_.symm; clear f1_ f2_ f3_; subst f4_; subst f5_))
               have p258 : 0 ≤ (x13_3 : Int) := ofd
               have q258 : x13_3 < (x8_3.length : Int) := ofd
               obtain ⟨ad258, e258, hx258_0⟩ := Kd.at_int (Kd.R_reads' HO_8.out).2.2 x13_3 p258 q258
               cases e258
               replace p258 := eq_true p258
               replace q258 := eq_true q258
               refine start_ (n := 26) (S := fun w' => w'.cell? (ad257.add (x12_2).toNat) = some (.int .i64 (rd x9_3 x12_2)) ∧ w'.cell? (ad258.add (x13_3).toNat) = some (.int .i64 (rd x8_3 x13_3))) (ds := []) (bm 26 0) (by kernel_rfl) rfl (by kernel_rfl) ⟨hx257_0, hx258_0⟩ (fun hHeld => ?_); refine with_tabW spec_l1Cur_order.tab19 spec_l1Cur_order.bits19 (fun HT_ HW_ => ?_)
               generalize wr.drew = w64 at HO_8 HO_9 HO_233001 BK225 BK232 HI0 HK HB hx257_0 hx258_0 hHeld ⊢
               refine purW 0 61 26 1 HT_ ?_
               refine purW 1 62 26 3 HT_ ?_
               refine purW 2 63 26 7 HT_ ?_
               refine purW 3 64 26 15 HT_ ?_
               refine purW 4 65 26 31 HT_ ?_
               refine purW 5 66 26 63 HT_ ?_
               refine purW 7 68 26 191 HT_ ?_
               refine purW 8 69 26 447 HT_ ?_
               refine purW 9 70 26 959 HT_ ?_
               refine takeW 6 (some 67) (bm 26 1023) HT_ HW_ hHeld ?_
               refine takeW 10 (some 71) (bm 26 2047) HT_ HW_ hHeld ?_
               refine purW 11 72 26 4095 HT_ ?_
               refine purW 12 73 26 8191 HT_ ?_
               refine purW 13 74 26 16383 HT_ ?_
               refine purW 14 75 26 32767 HT_ ?_
               refine purW 15 76 26 65535 HT_ ?_
               refine purW 16 77 26 131071 HT_ ?_
               refine purW 17 78 26 262143 HT_ ?_
               refine purW 18 79 26 524287 HT_ ?_
               refine purW 19 80 26 1048575 HT_ ?_
               refine purW 20 81 26 2097151 HT_ ?_
               refine purW 21 82 26 4194303 HT_ ?_
               refine purW 22 83 26 8388607 HT_ ?_
               refine oneW 23 (some 84) (bm 26 16777215) HT_ (fun K hK => ?_)
               refine goesR Tryd.func26 #[.pointer (some ⟨g, 0, none⟩), .int .i64 3] ?_
               with_reducible refine (spec_l1Cur_one.calls g s0_0 x1001_3 x1002_3 3 false t262 t263 w0 _ ?s1 ?s2 A51.out).mono ?_
               (case s1 => exact st47_2 HI0.out NB0_225.out NB0_232.out)
               (case s2 => exact bl47_2 HB.out HI0.out GE225.out GE232.out)
               rintro e w67 ⟨rfl, hi, hb, hk⟩
               have HS0_ := keep_cell hk (hHeld.1) (by first | (rw [add_block]; exact Kd.own_blk (IsS47.own_ne HI0.out HO_9.out (by decide))) | (show (Addr.add _ _).block ≠ _; rw [add_block]; exact Kd.own_blk (IsS47.own_ne HI0.out HO_9.out (by decide))) | exact Kd.own_blk (IsS47.own_ne HI0.out HO_9.out (by decide)))
               have HS1_ := keep_cell hk (hHeld.2) (by first | (rw [add_block]; exact Kd.own_blk (IsS47.own_ne HI0.out HO_8.out (by decide))) | (show (Addr.add _ _).block ≠ _; rw [add_block]; exact Kd.own_blk (IsS47.own_ne HI0.out HO_8.out (by decide))) | exact Kd.own_blk (IsS47.own_ne HI0.out HO_8.out (by decide)))
               refine ⟨_, rfl, ?_⟩
               replace HO_8 := rK (IsS47.apart (show IsS47 w0 _ g s0_0 x1001_3 x1002_3 from by exact st47_2 HI0.out NB0_225.out NB0_232.out) (Kd.R_g HO_8.out) (by decide)) hk
               replace HO_9 := rK (IsS47.apart (show IsS47 w0 _ g s0_0 x1001_3 x1002_3 from by exact st47_2 HI0.out NB0_225.out NB0_232.out) (Kd.R_g HO_9.out) (by decide)) hk
               replace HO_233001 := rK (IsS47.apart (show IsS47 w0 _ g s0_0 x1001_3 x1002_3 from by exact st47_2 HI0.out NB0_225.out NB0_232.out) (Kd.R_g HO_233001.out) (by decide)) hk
               replace BK225 := kB hk BK225
               replace BK232 := kB hk BK232
               replace HK := kT (by exact kb47_2 HK.out GW225.out GW232.out) hk
               replace HI0 := mkA (hi)
               replace HB := mkA (hb)
               (try clear hb)
               (try clear hb2)
               (try clear hk)
               (try clear hi)
               refine hK.out _ _ ⟨HS0_, HS1_⟩ (fun hHeld => ?_)
               clear hK K
               refine normW 84 ?_
               refine purW 24 85 26 33554431 HT_ ?_
               refine purW 25 86 26 67108863 HT_ ?_
               refine doneW HT_ ?_
               try go_wp2
               go_roundg k3
               case measure => have := HK1.out; have := HK2.out; have := HK3.out; omega
               case rel => exact ⟨(x8_3), (x9_3), (wrap64 (x13_3 + 1)), (t262), (t263), (x233001_3), (u233001), eqS, H', ⟨by have := HK1.out; have := HK2.out; have := HK3.out; omega⟩, ⟨Kd.R_g HO_8.out⟩, ⟨Kd.R_g HO_9.out⟩, ⟨Kd.R_g HO_233001.out⟩, ⟨blk_g BK225.out⟩, ⟨blk_g BK232.out⟩, ⟨by exact st47_2 HI0.out NB0_225.out NB0_232.out⟩, ⟨by exact kb47_2 HK.out GW225.out GW232.out⟩, ⟨by exact bl47_2 HB.out HI0.out GE225.out GE232.out⟩⟩
             ·have H' := mkA H
              clear H
              try go_wp2
              replace HO_8 := mkA (Kd.R_drew HO_8.out)
              replace HO_9 := mkA (Kd.R_drew HO_9.out)
              replace HO_233001 := mkA (Kd.R_drew HO_233001.out)
              replace BK225 := mkA (blk_drew BK225.out)
              replace BK232 := mkA (blk_drew BK232.out)
              replace HI0 := mkA (IsS47.drew HI0.out)
              replace HK := mkA (keep_drew HK.out)
              replace HB := mkA (below_drew1 HB.out)
              obtain ⟨Ao69, co69, eo69⟩ := Kd.R_slice HO_9.out
              (first | subst eo69 | (injection eo69 with f1_ f2_ f3_; have f4_ := f1_.symm; have f5_ := f3_.symm; clear f1_ f2_ f3_; subst f4_; subst f5_))
              have p257 : 0 ≤ (x12_2 : Int) := ofd
              have q257 : x12_2 < (x9_3.length : Int) := ofd
              obtain ⟨ad257, e257, hx257_0⟩ := Kd.at_int (Kd.R_reads' HO_9.out).2.2 x12_2 p257 q257
              cases e257
              replace p257 := eq_true p257
              replace q257 := eq_true q257
              obtain ⟨Ao70, co70, eo70⟩ := Kd.R_slice HO_8.out
              (first | subst eo70 | (injection eo70 with f1_ f2_ f3_; have f4_ := f1_.symm; have f5_ := f3_.symm; clear f1_ f2_ f3_; subst f4_; subst f5_))
              have p258 : 0 ≤ (x13_3 : Int) := ofd
              have q258 : x13_3 < (x8_3.length : Int) := ofd
              obtain ⟨ad258, e258, hx258_0⟩ := Kd.at_int (Kd.R_reads' HO_8.out).2.2 x13_3 p258 q258
              cases e258
              replace p258 := eq_true p258
              replace q258 := eq_true q258
              refine start_ (n := 26) (S := fun w' => w'.cell? (ad257.add (x12_2).toNat) = some (.int .i64 (rd x9_3 x12_2)) ∧ w'.cell? (ad258.add (x13_3).toNat) = some (.int .i64 (rd x8_3 x13_3))) (ds := []) (bm 26 0) (by kernel_rfl) rfl (by kernel_rfl) ⟨hx257_0, hx258_0⟩ (fun hHeld => ?_); refine with_tabW spec_l1Cur_order.tab19 spec_l1Cur_order.bits19 (fun HT_ HW_ => ?_)
              generalize wr.drew = w68 at HO_8 HO_9 HO_233001 BK225 BK232 HI0 HK HB hx257_0 hx258_0 hHeld ⊢
              refine purW 0 61 26 1 HT_ ?_
              refine purW 1 62 26 3 HT_ ?_
              refine purW 2 63 26 7 HT_ ?_
              refine purW 3 64 26 15 HT_ ?_
              refine purW 4 65 26 31 HT_ ?_
              refine purW 5 66 26 63 HT_ ?_
              refine purW 7 68 26 191 HT_ ?_
              refine purW 8 69 26 447 HT_ ?_
              refine purW 9 70 26 959 HT_ ?_
              refine takeW 6 (some 67) (bm 26 1023) HT_ HW_ hHeld ?_
              refine takeW 10 (some 71) (bm 26 2047) HT_ HW_ hHeld ?_
              refine purW 11 72 26 4095 HT_ ?_
              refine purW 12 73 26 8191 HT_ ?_
              refine purW 13 74 26 16383 HT_ ?_
              refine purW 14 75 26 32767 HT_ ?_
              refine purW 15 76 26 65535 HT_ ?_
              refine purW 16 77 26 131071 HT_ ?_
              refine purW 17 78 26 262143 HT_ ?_
              refine purW 18 79 26 524287 HT_ ?_
              refine purW 19 80 26 1048575 HT_ ?_
              refine purW 20 81 26 2097151 HT_ ?_
              refine purW 21 82 26 4194303 HT_ ?_
              refine purG 22 83 26 8388607 HT_ ?_
              refine purG 23 84 26 16777215 HT_ ?_
              refine purW 24 85 26 33554431 HT_ ?_
              refine purW 25 86 26 67108863 HT_ ?_
              refine doneW HT_ ?_
              try go_wp2
              go_roundg k3
              case measure => have := HK1.out; have := HK2.out; have := HK3.out; omega
              case rel => exact ⟨(x8_3), (x9_3), (wrap64 (x13_3 + 1)), (x1001_3), (x1002_3), (x233001_3), (u233001), eqS, H', ⟨by have := HK1.out; have := HK2.out; have := HK3.out; omega⟩, ⟨Kd.R_g HO_8.out⟩, ⟨Kd.R_g HO_9.out⟩, ⟨Kd.R_g HO_233001.out⟩, ⟨blk_g BK225.out⟩, ⟨blk_g BK232.out⟩, ⟨by exact st47_2 HI0.out NB0_225.out NB0_232.out⟩, ⟨by exact kb47_2 HK.out GW225.out GW232.out⟩, ⟨by exact bl47_2 HB.out HI0.out GE225.out GE232.out⟩⟩
            ·have c49b0 : (t233 == 0) = false := beq_eq_false_iff_ne.mpr c49
             have c49b1 : (t233 != 0) = true := bne_iff_ne.mpr c49
             have H' := mkA H
             clear H
             try go_wp2
             replace HO_8 := mkA (Kd.R_drew HO_8.out)
             replace HO_9 := mkA (Kd.R_drew HO_9.out)
             replace HO_233001 := mkA (Kd.R_drew HO_233001.out)
             replace BK225 := mkA (blk_drew BK225.out)
             replace BK232 := mkA (blk_drew BK232.out)
             replace HI0 := mkA (IsS47.drew HI0.out)
             replace HK := mkA (keep_drew HK.out)
             replace HB := mkA (below_drew1 HB.out)
             obtain ⟨Ao72, co72, eo72⟩ := Kd.R_slice HO_9.out
             (first | subst eo72 | (injection eo72 with f1_ f2_ f3_; have f4_ := f1_.symm; have f5_ := f3_.symm; clear f1_ f2_ f3_; subst f4_; subst f5_))
             have p257 : 0 ≤ (x12_2 : Int) := ofd
             have q257 : x12_2 < (x9_3.length : Int) := ofd
             obtain ⟨ad257, e257, hx257_0⟩ := Kd.at_int (Kd.R_reads' HO_9.out).2.2 x12_2 p257 q257
             cases e257
             replace p257 := eq_true p257
             replace q257 := eq_true q257
             obtain ⟨Ao73, co73, eo73⟩ := Kd.R_slice HO_8.out
             (first | subst eo73 | (injection eo73 with f1_ f2_ f3_; have f4_ := f1_.symm; have f5_ := f3_.symm; clear f1_ f2_ f3_; subst f4_; subst f5_))
             have p258 : 0 ≤ (x13_3 : Int) := ofd
             have q258 : x13_3 < (x8_3.length : Int) := ofd
             obtain ⟨ad258, e258, hx258_0⟩ := Kd.at_int (Kd.R_reads' HO_8.out).2.2 x13_3 p258 q258
             cases e258
             replace p258 := eq_true p258
             replace q258 := eq_true q258
             refine start_ (n := 26) (S := fun w' => w'.cell? (ad257.add (x12_2).toNat) = some (.int .i64 (rd x9_3 x12_2)) ∧ w'.cell? (ad258.add (x13_3).toNat) = some (.int .i64 (rd x8_3 x13_3))) (ds := []) (bm 26 0) (by kernel_rfl) rfl (by kernel_rfl) ⟨hx257_0, hx258_0⟩ (fun hHeld => ?_); refine with_tabW spec_l1Cur_order.tab19 spec_l1Cur_order.bits19 (fun HT_ HW_ => ?_)
             generalize wr.drew = w71 at HO_8 HO_9 HO_233001 BK225 BK232 HI0 HK HB hx257_0 hx258_0 hHeld ⊢
             refine purW 0 61 26 1 HT_ ?_
             refine purW 1 62 26 3 HT_ ?_
             refine purW 2 63 26 7 HT_ ?_
             refine purW 3 64 26 15 HT_ ?_
             refine purW 4 65 26 31 HT_ ?_
             refine purW 5 66 26 63 HT_ ?_
             refine purW 7 68 26 191 HT_ ?_
             refine purW 8 69 26 447 HT_ ?_
             refine purW 9 70 26 959 HT_ ?_
             refine takeW 6 (some 67) (bm 26 1023) HT_ HW_ hHeld ?_
             refine takeW 10 (some 71) (bm 26 2047) HT_ HW_ hHeld ?_
             refine purW 11 72 26 4095 HT_ ?_
             refine purW 12 73 26 8191 HT_ ?_
             refine purW 13 74 26 16383 HT_ ?_
             refine purW 14 75 26 32767 HT_ ?_
             refine purW 15 76 26 65535 HT_ ?_
             refine purW 16 77 26 131071 HT_ ?_
             refine purG 17 78 26 262143 HT_ ?_
             refine purG 18 79 26 524287 HT_ ?_
             refine purG 19 80 26 1048575 HT_ ?_
             refine purW 20 81 26 2097151 HT_ ?_
             refine purW 21 82 26 4194303 HT_ ?_
             refine purG 22 83 26 8388607 HT_ ?_
             refine purG 23 84 26 16777215 HT_ ?_
             refine purW 24 85 26 33554431 HT_ ?_
             refine purW 25 86 26 67108863 HT_ ?_
             refine doneW HT_ ?_
             try go_wp2
             go_roundg k3
             case measure => have := HK1.out; have := HK2.out; have := HK3.out; omega
             case rel => exact ⟨(x8_3), (x9_3), (wrap64 (x13_3 + 1)), (x1001_3), (x1002_3), (x233001_3), (u233001), eqS, H', ⟨by have := HK1.out; have := HK2.out; have := HK3.out; omega⟩, ⟨Kd.R_g HO_8.out⟩, ⟨Kd.R_g HO_9.out⟩, ⟨Kd.R_g HO_233001.out⟩, ⟨blk_g BK225.out⟩, ⟨blk_g BK232.out⟩, ⟨by exact st47_2 HI0.out NB0_225.out NB0_232.out⟩, ⟨by exact kb47_2 HK.out GW225.out GW232.out⟩, ⟨by exact bl47_2 HB.out HI0.out GE225.out GE232.out⟩⟩
          ·have c33b0 : decide (0 < t233) = false := decide_eq_false c33
           clear c33
           rcases iteP H with ⟨c74, H⟩ | ⟨c74, H⟩
           ·have c74b0 : (t233 == 0) = true := beq_iff_eq.mpr c74
            have c74b1 : (t233 != 0) = false := bne_eq_false_iff_eq.mpr c74
            clear c74
            rcases iteE H with ⟨c75b0, H⟩ | ⟨c75b0, H⟩
            ·obtain ⟨⟨t266, t267, t268⟩, A76, H⟩ := obE H
             dsimp only at H
             by_cases c77 : t266 = true
             ·subst c77
              replace H := ifT H
              obtain ⟨c78, H⟩ := itNP H
              have c78b0 : decide (0 ≤ x12_2) = true := decide_eq_true c78
              clear c78
              obtain ⟨c79, H⟩ := itNP H
              have c79b0 : decide (x12_2 < (x233001_3.length : Int)) = true := decide_eq_true c79
              clear c79
              obtain ⟨c80, H⟩ := itNP H
              have c80b0 := eq_true c80
              have c80b1 : decide (0 ≤ x13_3) = true := decide_eq_true c80
              clear c80
              obtain ⟨ji81, hji81⟩ : ∃ j_ : Int, (shl .i64 1 x13_3) = j_ := ⟨_, rfl⟩
              replace H : (spec_l1Cur_order.l2 k3 t226 t233 x8_3 x9_3 x12_2 (wrap64 (x13_3 + 1)) s0_0 t267 t268 t226 (x233001_3.set (x12_2 : Int).toNat (Go.bits .or .i64 (rd x233001_3 x12_2) (ji81)))) = some (r1, r2, r3, r4) := by first | (rw [hji81] at H; exact H) | (simp only [hji81] at H ⊢; exact H)
              (try rw [hji81] at A76)
              have hji81_ : (IntKind.i64.wrap (1 * 2 ^ min x13_3.toNat 64)) = ji81 := hji81
              have hji81z : x13_3 ≤ 64 → (IntKind.i64.wrap (1 * 2 ^ x13_3.toNat)) = ji81 := shl_small hji81
              have hji81u : (IntKind.i64.wrap (2 ^ min x13_3.toNat 64)) = ji81 := by have h_ := hji81_; rw [Int.one_mul] at h_; exact h_
              have hji81v : x13_3 ≤ 64 → (IntKind.i64.wrap (2 ^ x13_3.toNat)) = ji81 := fun hle_ => by have h_ := hji81z hle_; rw [Int.one_mul] at h_; exact h_
              have hji81y : (wrap64 (1 * 2 ^ min x13_3.toNat 64)) = ji81 := (i64_w _).symm.trans hji81_
              have hji81x : x13_3 ≤ 64 → (wrap64 (1 * 2 ^ x13_3.toNat)) = ji81 := fun h_ => (i64_w _).symm.trans (hji81z h_)
              obtain ⟨y270, hy270⟩ : ∃ y_ : List Int, y_ = (x233001_3.set (x12_2 : Int).toNat (Go.bits .or .i64 (rd x233001_3 x12_2) (ji81))) := ⟨_, rfl⟩
              replace H : (spec_l1Cur_order.l2 k3 t226 t233 x8_3 x9_3 x12_2 (wrap64 (x13_3 + 1)) s0_0 t267 t268 t226 y270) = some (r1, r2, r3, r4) := by first | (rw [hy270]; with_reducible exact H) | (have H2_ := (Option.bind_some _ _).symm.trans H; rw [hy270]; with_reducible exact H2_) | (have H2_ := (Option.bind_some _ _).symm.trans H; with_reducible exact H2_) | with_reducible exact H | (rw [hy270]; exact H) | exact H
              have Ny270 := mkA hy270
              clear hy270
              have H' := mkA H
              clear H
              try go_wp2
              replace HO_8 := mkA (Kd.R_drew HO_8.out)
              replace HO_9 := mkA (Kd.R_drew HO_9.out)
              replace HO_233001 := mkA (Kd.R_drew HO_233001.out)
              replace BK225 := mkA (blk_drew BK225.out)
              replace BK232 := mkA (blk_drew BK232.out)
              replace HI0 := mkA (IsS47.drew HI0.out)
              replace HK := mkA (keep_drew HK.out)
              replace HB := mkA (below_drew1 HB.out)
              refine start_ (n := 26) (S := fun w' => True) (ds := []) (bm 26 0) (by kernel_rfl) rfl (by kernel_rfl) trivial (fun hHeld => ?_); refine with_tabW spec_l1Cur_order.tab19 spec_l1Cur_order.bits19 (fun HT_ HW_ => ?_)
              generalize wr.drew = w83 at HO_8 HO_9 HO_233001 BK225 BK232 HI0 HK HB hHeld ⊢
              refine purW 0 61 26 1 HT_ ?_
              refine purW 1 62 26 3 HT_ ?_
              refine purW 2 63 26 7 HT_ ?_
              refine purG 3 64 26 15 HT_ ?_
              refine purG 4 65 26 31 HT_ ?_
              refine purG 5 66 26 63 HT_ ?_
              refine purG 6 67 26 127 HT_ ?_
              refine purG 7 68 26 255 HT_ ?_
              refine purG 8 69 26 511 HT_ ?_
              refine purG 9 70 26 1023 HT_ ?_
              refine purG 10 71 26 2047 HT_ ?_
              refine purG 11 72 26 4095 HT_ ?_
              refine purW 12 73 26 8191 HT_ ?_
              refine purW 13 74 26 16383 HT_ ?_
              refine purW 14 75 26 32767 HT_ ?_
              refine purW 15 76 26 65535 HT_ ?_
              refine purW 16 77 26 131071 HT_ ?_
              refine purW 17 78 26 262143 HT_ ?_
              refine purW 18 79 26 524287 HT_ ?_
              refine purW 19 80 26 1048575 HT_ ?_
              refine purW 20 81 26 2097151 HT_ ?_
              refine purW 21 82 26 4194303 HT_ ?_
              refine purW 22 83 26 8388607 HT_ ?_
              refine oneW 23 (some 84) (bm 26 16777215) HT_ (fun K hK => ?_)
              refine goesR Tryd.func26 #[.pointer (some ⟨g, 0, none⟩), .int .i64 3] ?_
              with_reducible refine (spec_l1Cur_one.calls g s0_0 x1001_3 x1002_3 3 true t267 t268 w0 _ ?s1 ?s2 A76.out).mono ?_
              (case s1 => exact st47_2 HI0.out NB0_225.out NB0_232.out)
              (case s2 => exact bl47_2 HB.out HI0.out GE225.out GE232.out)
              rintro e w84 ⟨rfl, hi, hb, hk⟩
              refine ⟨_, rfl, ?_⟩
              replace HO_8 := rK (IsS47.apart (show IsS47 w0 _ g s0_0 x1001_3 x1002_3 from by exact st47_2 HI0.out NB0_225.out NB0_232.out) (Kd.R_g HO_8.out) (by decide)) hk
              replace HO_9 := rK (IsS47.apart (show IsS47 w0 _ g s0_0 x1001_3 x1002_3 from by exact st47_2 HI0.out NB0_225.out NB0_232.out) (Kd.R_g HO_9.out) (by decide)) hk
              replace HO_233001 := rK (IsS47.apart (show IsS47 w0 _ g s0_0 x1001_3 x1002_3 from by exact st47_2 HI0.out NB0_225.out NB0_232.out) (Kd.R_g HO_233001.out) (by decide)) hk
              replace BK225 := kB hk BK225
              replace BK232 := kB hk BK232
              replace HK := kT (by exact kb47_2 HK.out GW225.out GW232.out) hk
              replace HI0 := mkA (hi)
              replace HB := mkA (hb)
              (try clear hb)
              (try clear hb2)
              (try clear hk)
              (try clear hi)
              refine hK.out _ _ trivial (fun hHeld => ?_)
              clear hK K
              refine normW 84 ?_
              refine purW 24 85 26 33554431 HT_ ?_
              refine purW 25 86 26 67108863 HT_ ?_
              refine doneW HT_ ?_
              try go_wp2
              replace HO_8 := mkA (Kd.R_drew HO_8.out)
              replace HO_9 := mkA (Kd.R_drew HO_9.out)
              replace HO_233001 := mkA (Kd.R_drew HO_233001.out)
              replace BK225 := mkA (blk_drew BK225.out)
              replace BK232 := mkA (blk_drew BK232.out)
              replace HI0 := mkA (IsS47.drew HI0.out)
              replace HK := mkA (keep_drew HK.out)
              replace HB := mkA (below_drew1 HB.out)
              obtain ⟨Ao86, co86, eo86⟩ := Kd.R_slice HO_233001.out
              (first | subst eo86 | (injection eo86 with f1_ f2_ f3_; have f4_ := f1_.symm; have f5_ := f3_.symm; clear f1_ f2_ f3_; subst f4_; subst f5_))
              have p269 : 0 ≤ (x12_2 : Int) := ofd
              have q269 : x12_2 < (x233001_3.length : Int) := ofd
              obtain ⟨ad269, e269, hx269_0⟩ := Kd.at_int (Kd.R_reads' HO_233001.out).2.2 x12_2 p269 q269
              cases e269
              replace p269 := eq_true p269
              replace q269 := eq_true q269
              have p82 : 0 ≤ (x12_2 : Int) := ofd
              have q82 : (x12_2 : Int) < ((x233001_3.length : Int) : Int) := ofd
              obtain ⟨go82, co82, eo82, gb82, gl82, cl82, HG82⟩ := Kd.R_form HO_233001.out (by omega)
              (first | cases eo82 | (injection eo82 with ea_ en_ ec_; (first | subst ea_ | (injection ea_ with ea_; subst ea_)); subst ec_; clear en_))
              have GB82 : Ge _ _ := ⟨gb82⟩
              have GG82 := mkA HG82
              clear gb82 gl82 HG82
              (first | simp only [add_plain] at hx269_0 | skip)
              obtain ⟨hx82_0, hf82_0⟩ := Kd.R_celln 0 HO_233001.out (x12_2 : Int) p82 q82
              replace p82 := eq_true p82
              replace q82 := eq_true q82
              have HN0_go82 := mkA (show g ≠ go82 from by have h_ := IsS47.own_ne HI0.out HO_233001.out (by decide); intro e_; exact h_ (by rw [e_]; rfl))
              have HP87 := Kd.R_putn HO_233001.out (x12_2 : Int) (Go.bits .or .i64 (rd x233001_3 x12_2) (ji81))
              rw [← Ny270.out] at HP87
              have HQ87 := mkA HP87
              clear HP87
              refine start_ (n := 10) (S := fun w' => w'.cell? ⟨gb232, 0, none⟩ = some (.int .i64 t226) ∧ w'.cell? ⟨gb232, 1, none⟩ = some (.slice (some ⟨go82, 0, none⟩) x233001_3.length co86) ∧ w'.cell? ⟨go82, (x12_2).toNat, none⟩ = some (.int .i64 (rd x233001_3 x12_2))) (ds := [9]) (bm 10 0) (by kernel_rfl) rfl rfl ⟨(blk_cell BK232.out 0).trans rfl, (blk_cell BK232.out 1).trans rfl, hx269_0⟩ (fun hHeld => ?_); refine with_tabW spec_l1Cur_order.tab20 spec_l1Cur_order.bits20 (fun HT_ HW_ => ?_)
              generalize w84.drew = w85 at HO_8 HO_9 HO_233001 BK225 BK232 HI0 HK HB GG82 HQ87 hf82_0 hx269_0 hx82_0 hHeld ⊢
              refine purW 0 87 10 1 HT_ ?_
              refine purW 2 89 10 5 HT_ ?_
              refine purW 5 92 10 37 HT_ ?_
              refine purW 6 93 10 101 HT_ ?_
              refine takeW 1 (some 88) (bm 10 103) HT_ HW_ hHeld ?_
              refine purW 3 90 10 111 HT_ ?_
              refine takeW 4 (some 91) (bm 10 127) HT_ HW_ hHeld ?_
              refine purW 7 94 10 255 HT_ ?_
              refine purW 8 95 10 511 HT_ ?_
              refine last_ (i := 9) (N := none) (bm 10 1023) rfl rfl (one_of HT_.out (by kernel_rfl)) (by decide) (fun K hK => ?_)
              refine skip_ (w1 := ?_) (by rfl) rfl ?_ ?_
              rotate_left
              ·go_simp
               rfl
              refine hK.out _ _ ?_
              clear hK K
              refine doneW HT_ ?_
              try go_wp2
              go_roundg k3
              case measure => have := HK1.out; have := HK2.out; have := HK3.out; omega
              case rel => exact ⟨(x8_3), (x9_3), (wrap64 (x13_3 + 1)), (t267), (t268), (y270), (.slice (some ⟨go82, 0, none⟩) x233001_3.length co86), eqS, H', ⟨by have := HK1.out; have := HK2.out; have := HK3.out; omega⟩, ⟨Kd.R_g (Kd.R_mono (Kd.R_far (p := ⟨go82, (x12_2 : Int).toNat, none⟩) (Kd.R_mono HO_8.out (fun k_ hk => (⟨hk, fun e_ => hk.2 (by rw [e_]; rfl)⟩ : _ ∧ k_ ≠ go82))) (fun _ hk => hk.2) (.int .i64 (Go.bits .or .i64 (rd x233001_3 x12_2) (ji81)))) (fun _ hk => ⟨hk.1.1, hk.1.2⟩))⟩, ⟨Kd.R_g (Kd.R_mono (Kd.R_far (p := ⟨go82, (x12_2 : Int).toNat, none⟩) (Kd.R_mono HO_9.out (fun k_ hk => (⟨hk, fun e_ => hk.2 (by rw [e_]; rfl)⟩ : _ ∧ k_ ≠ go82))) (fun _ hk => hk.2) (.int .i64 (Go.bits .or .i64 (rd x233001_3 x12_2) (ji81)))) (fun _ hk => ⟨hk.1.1, hk.1.2⟩))⟩, ⟨Kd.R_g HQ87.out⟩, ⟨by (with_reducible repeat (first | refine blk_drewN ?_ _ | refine blk_drew ?_ | refine blk_alloc ?_ _)); refine blk_far ?_ (by have h_ := Kd.R_ne HO_233001.out BK225.out (by decide); intro e_; exact h_ (by rw [e_]; rfl)) _; (with_reducible repeat (first | refine blk_drewN ?_ _ | refine blk_drew ?_ | refine blk_alloc ?_ _)); exact BK225.out⟩, ⟨by (with_reducible repeat (first | refine blk_drewN ?_ _ | refine blk_drew ?_ | refine blk_alloc ?_ _)); refine blk_far ?_ (by have h_ := Kd.R_ne HO_233001.out BK232.out (by decide); intro e_; exact h_ (by rw [e_]; rfl)) _; (with_reducible repeat (first | refine blk_drewN ?_ _ | refine blk_drew ?_ | refine blk_alloc ?_ _)); exact BK232.out⟩, ⟨by exact st47_3 HI0.out HN0_go82.out NB0_225.out NB0_232.out⟩, ⟨by exact kb47_3 HK.out GB82.out GW225.out GW232.out⟩, ⟨by repeat (first | (with_reducible first | exact HB.out | apply below_alloc | apply pw_below_drewN | apply below_drew1 | refine below_set ?_ (Nat.le_trans HL.out GB82.out) | refine below_set ?_ (IsS47.ge HI0.out) | refine below_set ?_ GE225.out | refine below_set ?_ GE232.out) | exact HB.out)⟩⟩
             ·replace c77 := Bool.eq_false_iff.mpr c77
              subst c77
              replace H := ifF H
              have H' := mkA H
              clear H
              try go_wp2
              replace HO_8 := mkA (Kd.R_drew HO_8.out)
              replace HO_9 := mkA (Kd.R_drew HO_9.out)
              replace HO_233001 := mkA (Kd.R_drew HO_233001.out)
              replace BK225 := mkA (blk_drew BK225.out)
              replace BK232 := mkA (blk_drew BK232.out)
              replace HI0 := mkA (IsS47.drew HI0.out)
              replace HK := mkA (keep_drew HK.out)
              replace HB := mkA (below_drew1 HB.out)
              refine start_ (n := 26) (S := fun w' => True) (ds := []) (bm 26 0) (by kernel_rfl) rfl (by kernel_rfl) trivial (fun hHeld => ?_); refine with_tabW spec_l1Cur_order.tab19 spec_l1Cur_order.bits19 (fun HT_ HW_ => ?_)
              generalize wr.drew = w88 at HO_8 HO_9 HO_233001 BK225 BK232 HI0 HK HB hHeld ⊢
              refine purW 0 61 26 1 HT_ ?_
              refine purW 1 62 26 3 HT_ ?_
              refine purW 2 63 26 7 HT_ ?_
              refine purG 3 64 26 15 HT_ ?_
              refine purG 4 65 26 31 HT_ ?_
              refine purG 5 66 26 63 HT_ ?_
              refine purG 6 67 26 127 HT_ ?_
              refine purG 7 68 26 255 HT_ ?_
              refine purG 8 69 26 511 HT_ ?_
              refine purG 9 70 26 1023 HT_ ?_
              refine purG 10 71 26 2047 HT_ ?_
              refine purG 11 72 26 4095 HT_ ?_
              refine purW 12 73 26 8191 HT_ ?_
              refine purW 13 74 26 16383 HT_ ?_
              refine purW 14 75 26 32767 HT_ ?_
              refine purW 15 76 26 65535 HT_ ?_
              refine purW 16 77 26 131071 HT_ ?_
              refine purW 17 78 26 262143 HT_ ?_
              refine purW 18 79 26 524287 HT_ ?_
              refine purW 19 80 26 1048575 HT_ ?_
              refine purW 20 81 26 2097151 HT_ ?_
              refine purW 21 82 26 4194303 HT_ ?_
              refine purW 22 83 26 8388607 HT_ ?_
              refine oneW 23 (some 84) (bm 26 16777215) HT_ (fun K hK => ?_)
              refine goesR Tryd.func26 #[.pointer (some ⟨g, 0, none⟩), .int .i64 3] ?_
              with_reducible refine (spec_l1Cur_one.calls g s0_0 x1001_3 x1002_3 3 false t267 t268 w0 _ ?s1 ?s2 A76.out).mono ?_
              (case s1 => exact st47_2 HI0.out NB0_225.out NB0_232.out)
              (case s2 => exact bl47_2 HB.out HI0.out GE225.out GE232.out)
              rintro e w89 ⟨rfl, hi, hb, hk⟩
              refine ⟨_, rfl, ?_⟩
              replace HO_8 := rK (IsS47.apart (show IsS47 w0 _ g s0_0 x1001_3 x1002_3 from by exact st47_2 HI0.out NB0_225.out NB0_232.out) (Kd.R_g HO_8.out) (by decide)) hk
              replace HO_9 := rK (IsS47.apart (show IsS47 w0 _ g s0_0 x1001_3 x1002_3 from by exact st47_2 HI0.out NB0_225.out NB0_232.out) (Kd.R_g HO_9.out) (by decide)) hk
              replace HO_233001 := rK (IsS47.apart (show IsS47 w0 _ g s0_0 x1001_3 x1002_3 from by exact st47_2 HI0.out NB0_225.out NB0_232.out) (Kd.R_g HO_233001.out) (by decide)) hk
              replace BK225 := kB hk BK225
              replace BK232 := kB hk BK232
              replace HK := kT (by exact kb47_2 HK.out GW225.out GW232.out) hk
              replace HI0 := mkA (hi)
              replace HB := mkA (hb)
              (try clear hb)
              (try clear hb2)
              (try clear hk)
              (try clear hi)
              refine hK.out _ _ trivial (fun hHeld => ?_)
              clear hK K
              refine normW 84 ?_
              refine purW 24 85 26 33554431 HT_ ?_
              refine purW 25 86 26 67108863 HT_ ?_
              refine doneW HT_ ?_
              try go_wp2
              go_roundg k3
              case measure => have := HK1.out; have := HK2.out; have := HK3.out; omega
              case rel => exact ⟨(x8_3), (x9_3), (wrap64 (x13_3 + 1)), (t267), (t268), (x233001_3), (u233001), eqS, H', ⟨by have := HK1.out; have := HK2.out; have := HK3.out; omega⟩, ⟨Kd.R_g HO_8.out⟩, ⟨Kd.R_g HO_9.out⟩, ⟨Kd.R_g HO_233001.out⟩, ⟨blk_g BK225.out⟩, ⟨blk_g BK232.out⟩, ⟨by exact st47_2 HI0.out NB0_225.out NB0_232.out⟩, ⟨by exact kb47_2 HK.out GW225.out GW232.out⟩, ⟨by exact bl47_2 HB.out HI0.out GE225.out GE232.out⟩⟩
            ·have H' := mkA H
             clear H
             try go_wp2
             replace HO_8 := mkA (Kd.R_drew HO_8.out)
             replace HO_9 := mkA (Kd.R_drew HO_9.out)
             replace HO_233001 := mkA (Kd.R_drew HO_233001.out)
             replace BK225 := mkA (blk_drew BK225.out)
             replace BK232 := mkA (blk_drew BK232.out)
             replace HI0 := mkA (IsS47.drew HI0.out)
             replace HK := mkA (keep_drew HK.out)
             replace HB := mkA (below_drew1 HB.out)
             refine start_ (n := 26) (S := fun w' => True) (ds := []) (bm 26 0) (by kernel_rfl) rfl (by kernel_rfl) trivial (fun hHeld => ?_); refine with_tabW spec_l1Cur_order.tab19 spec_l1Cur_order.bits19 (fun HT_ HW_ => ?_)
             generalize wr.drew = w90 at HO_8 HO_9 HO_233001 BK225 BK232 HI0 HK HB hHeld ⊢
             refine purW 0 61 26 1 HT_ ?_
             refine purW 1 62 26 3 HT_ ?_
             refine purW 2 63 26 7 HT_ ?_
             refine purG 3 64 26 15 HT_ ?_
             refine purG 4 65 26 31 HT_ ?_
             refine purG 5 66 26 63 HT_ ?_
             refine purG 6 67 26 127 HT_ ?_
             refine purG 7 68 26 255 HT_ ?_
             refine purG 8 69 26 511 HT_ ?_
             refine purG 9 70 26 1023 HT_ ?_
             refine purG 10 71 26 2047 HT_ ?_
             refine purG 11 72 26 4095 HT_ ?_
             refine purW 12 73 26 8191 HT_ ?_
             refine purW 13 74 26 16383 HT_ ?_
             refine purW 14 75 26 32767 HT_ ?_
             refine purW 15 76 26 65535 HT_ ?_
             refine purW 16 77 26 131071 HT_ ?_
             refine purW 17 78 26 262143 HT_ ?_
             refine purW 18 79 26 524287 HT_ ?_
             refine purW 19 80 26 1048575 HT_ ?_
             refine purW 20 81 26 2097151 HT_ ?_
             refine purW 21 82 26 4194303 HT_ ?_
             refine purG 22 83 26 8388607 HT_ ?_
             refine purG 23 84 26 16777215 HT_ ?_
             refine purW 24 85 26 33554431 HT_ ?_
             refine purW 25 86 26 67108863 HT_ ?_
             refine doneW HT_ ?_
             try go_wp2
             go_roundg k3
             case measure => have := HK1.out; have := HK2.out; have := HK3.out; omega
             case rel => exact ⟨(x8_3), (x9_3), (wrap64 (x13_3 + 1)), (x1001_3), (x1002_3), (x233001_3), (u233001), eqS, H', ⟨by have := HK1.out; have := HK2.out; have := HK3.out; omega⟩, ⟨Kd.R_g HO_8.out⟩, ⟨Kd.R_g HO_9.out⟩, ⟨Kd.R_g HO_233001.out⟩, ⟨blk_g BK225.out⟩, ⟨blk_g BK232.out⟩, ⟨by exact st47_2 HI0.out NB0_225.out NB0_232.out⟩, ⟨by exact kb47_2 HK.out GW225.out GW232.out⟩, ⟨by exact bl47_2 HB.out HI0.out GE225.out GE232.out⟩⟩
           ·have c74b0 : (t233 == 0) = false := beq_eq_false_iff_ne.mpr c74
            have c74b1 : (t233 != 0) = true := bne_iff_ne.mpr c74
            have H' := mkA H
            clear H
            try go_wp2
            replace HO_8 := mkA (Kd.R_drew HO_8.out)
            replace HO_9 := mkA (Kd.R_drew HO_9.out)
            replace HO_233001 := mkA (Kd.R_drew HO_233001.out)
            replace BK225 := mkA (blk_drew BK225.out)
            replace BK232 := mkA (blk_drew BK232.out)
            replace HI0 := mkA (IsS47.drew HI0.out)
            replace HK := mkA (keep_drew HK.out)
            replace HB := mkA (below_drew1 HB.out)
            refine start_ (n := 26) (S := fun w' => True) (ds := []) (bm 26 0) (by kernel_rfl) rfl (by kernel_rfl) trivial (fun hHeld => ?_); refine with_tabW spec_l1Cur_order.tab19 spec_l1Cur_order.bits19 (fun HT_ HW_ => ?_)
            generalize wr.drew = w91 at HO_8 HO_9 HO_233001 BK225 BK232 HI0 HK HB hHeld ⊢
            refine purW 0 61 26 1 HT_ ?_
            refine purW 1 62 26 3 HT_ ?_
            refine purW 2 63 26 7 HT_ ?_
            refine purG 3 64 26 15 HT_ ?_
            refine purG 4 65 26 31 HT_ ?_
            refine purG 5 66 26 63 HT_ ?_
            refine purG 6 67 26 127 HT_ ?_
            refine purG 7 68 26 255 HT_ ?_
            refine purG 8 69 26 511 HT_ ?_
            refine purG 9 70 26 1023 HT_ ?_
            refine purG 10 71 26 2047 HT_ ?_
            refine purG 11 72 26 4095 HT_ ?_
            refine purW 12 73 26 8191 HT_ ?_
            refine purW 13 74 26 16383 HT_ ?_
            refine purW 14 75 26 32767 HT_ ?_
            refine purW 15 76 26 65535 HT_ ?_
            refine purW 16 77 26 131071 HT_ ?_
            refine purG 17 78 26 262143 HT_ ?_
            refine purG 18 79 26 524287 HT_ ?_
            refine purG 19 80 26 1048575 HT_ ?_
            refine purW 20 81 26 2097151 HT_ ?_
            refine purW 21 82 26 4194303 HT_ ?_
            refine purG 22 83 26 8388607 HT_ ?_
            refine purG 23 84 26 16777215 HT_ ?_
            refine purW 24 85 26 33554431 HT_ ?_
            refine purW 25 86 26 67108863 HT_ ?_
            refine doneW HT_ ?_
            try go_wp2
            go_roundg k3
            case measure => have := HK1.out; have := HK2.out; have := HK3.out; omega
            case rel => exact ⟨(x8_3), (x9_3), (wrap64 (x13_3 + 1)), (x1001_3), (x1002_3), (x233001_3), (u233001), eqS, H', ⟨by have := HK1.out; have := HK2.out; have := HK3.out; omega⟩, ⟨Kd.R_g HO_8.out⟩, ⟨Kd.R_g HO_9.out⟩, ⟨Kd.R_g HO_233001.out⟩, ⟨blk_g BK225.out⟩, ⟨blk_g BK232.out⟩, ⟨by exact st47_2 HI0.out NB0_225.out NB0_232.out⟩, ⟨by exact kb47_2 HK.out GW225.out GW232.out⟩, ⟨by exact bl47_2 HB.out HI0.out GE225.out GE232.out⟩⟩
         ·have H' := mkA H
          clear H
          go_wp2
          go_roundg k3
          case measure => have := HK1.out; have := HK2.out; have := HK3.out; omega
          case rel => exact ⟨(x8_3), (x9_3), (wrap64 (x12_2 + 1)), (x1001_3), (x1002_3), (x233001_3), (u233001), eqS, H', ⟨by have := HK1.out; have := HK2.out; have := HK3.out; omega⟩, ⟨Kd.R_g HO_8.out⟩, ⟨Kd.R_g HO_9.out⟩, ⟨Kd.R_g HO_233001.out⟩, ⟨blk_g BK225.out⟩, ⟨blk_g BK232.out⟩, ⟨by exact st47_2 HI0.out NB0_225.out NB0_232.out⟩, ⟨by exact kb47_2 HK.out GW225.out GW232.out⟩, ⟨by exact bl47_2 HB.out HI0.out GE225.out GE232.out⟩⟩
      ·rcases iteP H with ⟨c92, H⟩ | ⟨c92, H⟩
       ·have c92b0 : decide (0 < t233) = true := decide_eq_true c92
        clear c92
        simp only [Option.some.injEq, Prod.mk.injEq] at H
        obtain ⟨rfl, rfl, rfl, rfl⟩ := H
        obtain ⟨_, _, _, _⟩ := blk2 BK232
        obtain ⟨_, _, _, _⟩ := blk2 BK225
        obtain ⟨Ao98, co98, eo98⟩ := Kd.R_slice HO_233001.out
        subst eo98
        go_wp2
        refine bodyPost_ret (results_cell_row rfl _ _ gb225 26 #[.int .i64 t226, .slice Ao98 x233001_2.length co98] (0, 0) _ rfl (blkT BK225) Tryd.underlying26 rfl (by kernel_rfl)) rfl ?_
        exact ⟨_, eqE, by (with_reducible repeat (first | apply Kd.R_alloc | apply Kd.R_drewN | apply Kd.R_drew)); exact Kd.R_mono (rF HO_233001 BK225) (fun _ _ => trivial), by exact st47_2 HI0.out NB0_225.out NB0_232.out, by exact bl47_2 HB.out HI0.out GE225.out GE232.out, by exact kb47_2 HK.out GW225.out GW232.out⟩
       ·have c92b0 : decide (0 < t233) = false := decide_eq_false c92
        clear c92
        obtain ⟨⟨t251, t252, t255⟩, A99, H⟩ := obE H
        dsimp only at H
        simp only [Option.some.injEq, Prod.mk.injEq] at H
        obtain ⟨rfl, rfl, rfl, rfl⟩ := H
        obtain ⟨_, _, _, _⟩ := blk2 BK232
        obtain ⟨Ao103, co103, eo103⟩ := Kd.R_slice HO_233001.out
        subst eo103
        go_wp2_with (first | ((with_reducible refine gate_callee (f := 69) rfl ?_); refine goesQ (some 101) Tryd.func69 #[.agg #[.int .i64 t226, .slice Ao103 x233001_2.length co103]] ?_; (with_reducible refine (spec_CloseRelation.calls k2 t226 _ _ x233001_2 t251 t252 t255 _ ?s1 ?s2 A99.out).mono ?_); (case s1 => exact rC HO_233001); (case s2 => exact rL HO_233001); rintro e w104 ⟨v253, rfl, ho0, hb⟩; refine ⟨_, rfl, ?_⟩; have HO254 := mkA (Kd.R_lower (Kd.R_new' (Kd.R_new' (Kd.R_new' ho0 (Kd.R_lt (Kd.R_g HO_8.out))) (Kd.R_lt (Kd.R_g HO_9.out))) (Kd.R_lt (Kd.R_g HO_233001.out))) (keep_size (w := w) (g := g) (row := none) (by exact kb47_2 HK.out GW225.out GW232.out))); replace HO_8 := mkA (Kd.R_elder' (Kd.R_g HO_8.out) (Kd.R_base ho0) hb); replace HO_9 := mkA (Kd.R_elder' (Kd.R_g HO_9.out) (Kd.R_base ho0) hb); replace HO_233001 := mkA (Kd.R_elder' (Kd.R_g HO_233001.out) (Kd.R_base ho0) hb); replace BK225 := blkB BK225 hb; replace BK232 := blkB BK232 hb; replace HK := kU (g := g) (by exact kb47_2 HK.out GW225.out GW232.out) hb; replace HB := mkA (below_step (by exact bl47_2 HB.out HI0.out GE225.out GE232.out) hb); replace HI0 := mkA (IsS47.below (by exact st47_2 HI0.out NB0_225.out NB0_232.out) hb); (try clear hb); (try clear hk); (try clear hi); (try clear ho0)) | ((with_reducible refine gate_dst (N := 14) rfl ?_); refine boxE (N := 14) (cs := #[.int .i64 0, .slice none 0 0]) (t := 26) ?_; intro gb256 hg w105 hbox hb; replace HO_8 := rB HO_8 hb; replace HO_9 := rB HO_9 hb; replace HO_233001 := rB HO_233001 hb; replace HO254 := rB HO254 hb; have BK256 := mkA (hbox); have GW256 := mkA ((by rw [hg]; exact (keep_size (w := w) (g := g) (row := none) (by exact kb47_2 HK.out GW225.out GW232.out)) : w.heap.size ≤ gb256)); have GE256 := mkA (Nat.le_trans HW0.out GW256.out); replace HK := kU (g := g) (by exact kb47_2 HK.out GW225.out GW232.out) hb; have NB225_256 := neL7 BK225 hg; have NB256_225 := neR7 BK225 hg; replace BK225 := blkB BK225 hb; have NB232_256 := neL7 BK232 hg; have NB256_232 := neR7 BK232 hg; replace BK232 := blkB BK232 hb; have NB0_256 : NeB _ _ := ⟨(by rw [hg]; exact Nat.ne_of_lt (IsS47.lt (show IsS47 w0 _ g s0_0 x1001_2 x1002_2 from by exact st47_2 HI0.out NB0_225.out NB0_232.out)) : g ≠ gb256)⟩; have NB256_0 : NeB _ _ := ⟨(by rw [hg]; exact Nat.ne_of_gt (IsS47.lt (show IsS47 w0 _ g s0_0 x1001_2 x1002_2 from by exact st47_2 HI0.out NB0_225.out NB0_232.out)) : gb256 ≠ g)⟩; replace HB := mkA (below_step (by exact bl47_2 HB.out HI0.out GE225.out GE232.out) hb); replace HI0 := mkA (IsS47.below (by exact st47_2 HI0.out NB0_225.out NB0_232.out) hb); clear hb hbox hg; obtain ⟨_, _, _, _⟩ := blk2 BK256; obtain ⟨Ao110, co110, eo110⟩ := Kd.R_slice HO254.out; subst eo110; obtain ⟨_, _, _, _⟩ := blk2 BK225))
        refine bodyPost_ret (results_cell_row rfl _ _ gb225 26 #[.int .i64 t251, .slice Ao110 t252.length co110] (0, 0) _ rfl (blkT BK225) Tryd.underlying26 rfl (by kernel_rfl)) rfl ?_
        exact ⟨_, eqE, by (with_reducible repeat (first | apply Kd.R_alloc | apply Kd.R_drewN | apply Kd.R_drew)); exact Kd.R_mono (Kd.R_far (p := ⟨gb225, 1, none⟩) (Kd.R_far (p := ⟨gb225, 0, none⟩) (Kd.R_far (p := ⟨gb256, 1, none⟩) (Kd.R_far (p := ⟨gb256, 0, none⟩) (Kd.R_types (Kd.R_types HO254.out BK256.out (by decide)) BK225.out (by decide)) (fun _ hk => hk.1.2) (.int .i64 t251)) (fun _ hk => hk.1.2) (.slice Ao110 t252.length co110)) (fun _ hk => hk.2) (.int .i64 t251)) (fun _ hk => hk.2) (.slice Ao110 t252.length co110)) (fun _ hk => trivial), by exact st47_3 HI0.out NB0_225.out NB0_232.out NB0_256.out, by exact bl47_3 HB.out HI0.out GE225.out GE232.out GE256.out, by exact kb47_3 HK.out GW225.out GW232.out GW256.out⟩
end Go.Proofs.YtgbdjchdfcodcaaDoor.Q
