import Derived.Test.YtgbdjchdfcodcaaDoorBFnRefinements10
import Derived.Test.YtgbdjchdfcodcaaDoorBFnRefinements12
namespace Go.Proofs.YtgbdjchdfcodcaaDoor.Q
open Go.RowKit Go.Proofs.YtgbdjchdfcodcaaDoorW.PrintWords Go.Proofs.YtgbdjchdfcodcaaDoorW.PrintLast Go.Proofs.YtgbdjchdfcodcaaDoorW.PrintMore
attribute [local go_sem] max2_int min2_int max_two min_two max_three min_three max_four min_four neB_f
set_option linter.unusedVariables false
set_option maxHeartbeats 8000000
set_option maxRecDepth 100000
set_option linter.unusedSimpArgs false
mutual
def spec_l1Cur_both.j0 : Nat → Bool → List Int → Int → Int → Int → List Int → Option (Int × List Int × Int × List Int × Int × Int)
 | 0, _, _, _, _, _, _ => none
 | k + 1, x14, x1000, x1001, x1002, x347000, x347001 => if x14 = true then ((spec_l1Cur_anyOrder.f k x1000 x1001 x1002 6).bind fun bt351 => (some (x347000, x347001, bt351.1, bt351.2.1, bt351.2.2.1, bt351.2.2.2))) else ((spec_l1Cur_pick.f x1000 x1001 x1002 3).bind fun bt357 => (if bt357.1 = 0 then ((spec_l1Cur_levels.f k x1000 bt357.2.1 bt357.2.2 x347000).bind fun bt360 => ((spec_weOfNumbers.f k bt360.1).bind fun t365 => ((spec_weOrder.f k t365).bind fun bt368 => (some (x347000, x347001, bt368.1, bt368.2, bt360.2.1, bt360.2.2))))) else (if bt357.1 = 1 then ((spec_l1Own.f x347001).bind fun t372 => (if x347000 > 0 then ((spec_l1Cur_pick.f x1000 bt357.2.1 bt357.2.2 x347000).bind fun bt376 => (if 0 ≤ bt376.1 then (if bt376.1 < (t372.length : Int) then (spec_l1Cur_both.j1 k x1000 bt376.2.1 bt376.2.2 x347000 x347001 x347000 (t372.set (bt376.1 : Int).toNat 0)) else (none)) else (none))) else (spec_l1Cur_both.j1 k x1000 bt357.2.1 bt357.2.2 x347000 x347001 x347000 t372))) else ((spec_orMirror.f k x347000 x347001).bind fun bt388 => (some (x347000, x347001, bt388.1, bt388.2, bt357.2.1, bt357.2.2))))))
def spec_l1Cur_both.j1 : Nat → List Int → Int → Int → Int → List Int → Int → List Int → Option (Int × List Int × Int × List Int × Int × Int)
 | 0, _, _, _, _, _, _, _ => none
 | k + 1, x1000, x1001, x1002, x347000, x347001, x376000, x376001 => (spec_orGood.f k x376000 x376001).bind fun t380 => (if t380 = true then ((spec_l1Cur_one.f x1000 x1001 x1002 2).bind fun bt381 => (if bt381.1 = true then (some (x376000, x376001, x347000, x347001, bt381.2.1, bt381.2.2)) else (some (x347000, x347001, x376000, x376001, bt381.2.1, bt381.2.2)))) else ((spec_orMirror.f k x347000 x347001).bind fun bt384 => (some (x347000, x347001, bt384.1, bt384.2, x1001, x1002))))
end
def spec_l1Cur_both.f (k : Nat) (s0_0 : List Int) (s0_1 : Int) (s0_2 : Int) : Option (Int × List Int × Int × List Int × Int × Int) := (spec_l1Cur_anyOrder.f k s0_0 s0_1 s0_2 6).bind fun bt340 => ((spec_orGood.f k bt340.1 bt340.2.1).bind fun t347 => (if t347 = true then ((spec_l1Cur_one.f s0_0 bt340.2.2.1 bt340.2.2.2 8).bind fun bt348 => (spec_l1Cur_both.j0 k bt348.1 s0_0 bt348.2.1 bt348.2.2 bt340.1 bt340.2.1)) else (spec_l1Cur_both.j0 k true s0_0 bt340.2.2.1 bt340.2.2.2 bt340.1 bt340.2.1)))
theorem spec_l1Cur_both.mono_l : ∀ k, (∀ y0 y1 y2 y3 y4 y5, LeO (spec_l1Cur_both.j0 k y0 y1 y2 y3 y4 y5) (spec_l1Cur_both.j0 (k + 1) y0 y1 y2 y3 y4 y5)) ∧ (∀ y0 y1 y2 y3 y4 y5 y6, LeO (spec_l1Cur_both.j1 k y0 y1 y2 y3 y4 y5 y6) (spec_l1Cur_both.j1 (k + 1) y0 y1 y2 y3 y4 y5 y6))
 | 0 => ⟨fun _ _ _ _ _ _ r h => by simp [spec_l1Cur_both.j0] at h, fun _ _ _ _ _ _ _ r h => by simp [spec_l1Cur_both.j1] at h⟩
 | k + 1 => by
  obtain ⟨ih0, ih1⟩ := spec_l1Cur_both.mono_l k
  refine ⟨?_, ?_⟩ <;> intros
  unfold spec_l1Cur_both.j0
  rotate_left
  unfold spec_l1Cur_both.j1
  rotate_left
  all_goals repeat' (with_reducible first|exact ih0 _ _ _ _ _ _|exact ih1 _ _ _ _ _ _ _|exact spec_l1Cur_anyOrder.mono _ _ _ _ _|exact spec_l1Cur_levels.mono _ _ _ _ _|exact spec_orGood.mono _ _ _|exact spec_orMirror.mono _ _ _|exact spec_weOfNumbers.mono _ _|exact spec_weOrder.mono _ _|exact LeO.refl _|exact LeO.none _|refine LeO.ite ?_ ?_|refine LeO.bind ?_ (fun _ => ?_))
theorem spec_l1Cur_both.mono : ∀ a0 a1 a2 k, LeO (spec_l1Cur_both.f k a0 a1 a2) (spec_l1Cur_both.f (k + 1) a0 a1 a2) := by
 intro a0 a1 a2 k
 obtain ⟨ih0, ih1⟩ := spec_l1Cur_both.mono_l k
 unfold spec_l1Cur_both.f
 repeat' (with_reducible first|exact ih0 _ _ _ _ _ _|exact ih1 _ _ _ _ _ _ _|exact spec_l1Cur_anyOrder.mono _ _ _ _ _|exact spec_l1Cur_levels.mono _ _ _ _ _|exact spec_orGood.mono _ _ _|exact spec_orMirror.mono _ _ _|exact spec_weOfNumbers.mono _ _|exact spec_weOrder.mono _ _|exact LeO.refl _|exact LeO.none _|refine LeO.ite ?_ ?_|refine LeO.bind ?_ (fun _ => ?_))
def spec_l1Cur_both.T6 : Bool × List (List Nat × List Nat) := (true, [([], []), ([], []), ([], []), ([2], [2]), ([1, 3], [1, 3]), ([4, 4], [4]), ([5, 5], [5]), ([0, 6, 0], [0]), ([6, 7, 0, 1, 2, 3, 4, 5, 6, 7], [6])])
def spec_l1Cur_both.B6 : List Nat := [0, 0, 0, 4, 14, 30, 62, 127, 255]
theorem spec_l1Cur_both.tab6 : rtab .any (opsOf Tryd.f33 6) = spec_l1Cur_both.T6 := by kernel_rfl
theorem spec_l1Cur_both.bits6 : waitsOk spec_l1Cur_both.T6.2 spec_l1Cur_both.B6 = true := by kernel_rfl
def spec_l1Cur_both.T8 : Bool × List (List Nat × List Nat) := (true, [([], []), ([0], [0]), ([], []), ([2], [2]), ([3], [3]), ([1, 4], [1, 4]), ([], []), ([6, 5, 4, 0, 1, 2, 3, 4, 5, 6], [5, 6])])
def spec_l1Cur_both.B8 : List Nat := [0, 1, 0, 4, 12, 31, 0, 127]
theorem spec_l1Cur_both.tab8 : rtab .any (opsOf Tryd.f33 8) = spec_l1Cur_both.T8 := by kernel_rfl
theorem spec_l1Cur_both.bits8 : waitsOk spec_l1Cur_both.T8.2 spec_l1Cur_both.B8 = true := by kernel_rfl
def spec_l1Cur_both.T10 : Bool × List (List Nat × List Nat) := (true, [([], []), ([0], [0]), ([], []), ([], []), ([3], [3]), ([2, 4], [2, 4]), ([1, 5, 0, 1, 2, 3, 4, 5], [1, 5]), ([6, 5, 0, 1, 2, 3, 4, 5], [6])])
def spec_l1Cur_both.B10 : List Nat := [0, 1, 0, 0, 8, 28, 63, 127]
theorem spec_l1Cur_both.tab10 : rtab .any (opsOf Tryd.f33 10) = spec_l1Cur_both.T10 := by kernel_rfl
theorem spec_l1Cur_both.bits10 : waitsOk spec_l1Cur_both.T10.2 spec_l1Cur_both.B10 = true := by kernel_rfl
theorem spec_l1Cur_both.calls (k : Nat) (g : Nat) (s0_0 : List Int) (s0_1 : Int) (s0_2 : Int) (r1 : Int) (r2 : List Int) (r3 : Int) (r4 : List Int) (r5 : Int) (r6 : Int) (w0 w : World) (hI : IsS47 w0 w g s0_0 s0_1 s0_2) (hB : Below w0.heap.size w0 w) (h : spec_l1Cur_both.f k s0_0 s0_1 s0_2 = some (r1, r2, r3, r4, r5, r6)) :
  Calls Tryd.prog 33 #[.pointer (some ⟨g, 0, none⟩)] w fun e w' => ∃ v1_ v3_ : Value, e = .returned (.tuple #[.agg #[.int .i64 r1, v1_], .agg #[.int .i64 r3, v3_]]) ∧ Kd.R (Kd.int .i64) 3 w' w.heap.size (fun k_ => some k_ ≠ (v3_ : Value).ownBlock) v1_ r2 ∧ Kd.R (Kd.int .i64) 3 w' w.heap.size (fun k_ => some k_ ≠ (v1_ : Value).ownBlock) v3_ r4 ∧ IsS47 w0 w' g s0_0 r5 r6 ∧ Below w0.heap.size w0 w' ∧ KeepBut w w' g none := by
 have hu26 := Tryd.underlying26
 have HI0 := mkA hI
 have HK := mkA (KeepBut.refl w g none)
 have HL := mkA hB.size
 clear hI
 have HW0 := mkA hB.size
 have HB := mkA hB
 clear hB
 have H := h
 clear h
 unfold spec_l1Cur_both.f at H
 obtain ⟨⟨t340, t341, t344, t345⟩, A2, H⟩ := obE H
 dsimp only at H
 have HC3 := mkA H
 clear H
 go_enter Tryd.func33, Tryd.ntmps33
 go_upto_region 2 with (first | ((with_reducible refine gate_dst (N := 2) rfl ?_); refine boxE (N := 2) (cs := #[.int .i64 0, .slice none 0 0]) (t := 26) ?_; intro gb338 hg w4 hbox hb; have BK338 := mkA (hbox); have GW338 := mkA ((by rw [hg]; exact (keep_size (w := w) (g := g) (row := none) (by exact kb47_0 HK.out)) : w.heap.size ≤ gb338)); have GE338 := mkA (Nat.le_trans HW0.out GW338.out); replace HK := kU (g := g) (by exact kb47_0 HK.out) hb; have NB0_338 : NeB _ _ := ⟨(by rw [hg]; exact Nat.ne_of_lt (IsS47.lt (show IsS47 w0 _ g s0_0 s0_1 s0_2 from by exact st47_0 HI0.out)) : g ≠ gb338)⟩; have NB338_0 : NeB _ _ := ⟨(by rw [hg]; exact Nat.ne_of_gt (IsS47.lt (show IsS47 w0 _ g s0_0 s0_1 s0_2 from by exact st47_0 HI0.out)) : gb338 ≠ g)⟩; replace HB := mkA (below_step (by exact bl47_0 HB.out HI0.out) hb); replace HI0 := mkA (IsS47.below (by exact st47_0 HI0.out) hb); clear hb hbox hg) | ((with_reducible refine gate_dst (N := 3) rfl ?_); refine boxE (N := 3) (cs := #[.int .i64 0, .slice none 0 0]) (t := 26) ?_; intro gb339 hg w5 hbox hb; have BK339 := mkA (hbox); have GW339 := mkA ((by rw [hg]; exact (keep_size (w := w) (g := g) (row := none) (by exact kb47_1 HK.out GW338.out)) : w.heap.size ≤ gb339)); have GE339 := mkA (Nat.le_trans HW0.out GW339.out); replace HK := kU (g := g) (by exact kb47_1 HK.out GW338.out) hb; have NB338_339 := neL7 BK338 hg; have NB339_338 := neR7 BK338 hg; replace BK338 := blkB BK338 hb; have NB0_339 : NeB _ _ := ⟨(by rw [hg]; exact Nat.ne_of_lt (IsS47.lt (show IsS47 w0 _ g s0_0 s0_1 s0_2 from by exact st47_1 HI0.out NB0_338.out)) : g ≠ gb339)⟩; have NB339_0 : NeB _ _ := ⟨(by rw [hg]; exact Nat.ne_of_gt (IsS47.lt (show IsS47 w0 _ g s0_0 s0_1 s0_2 from by exact st47_1 HI0.out NB0_338.out)) : gb339 ≠ g)⟩; replace HB := mkA (below_step (by exact bl47_1 HB.out HI0.out GE338.out) hb); replace HI0 := mkA (IsS47.below (by exact st47_1 HI0.out NB0_338.out) hb); clear hb hbox hg) | ((with_reducible refine gate_callee (f := 49) rfl ?_); refine goesQ (some 7) Tryd.func49 #[.pointer (some ⟨g, 0, none⟩), .int .i64 6] ?_; (with_reducible refine (spec_l1Cur_anyOrder.calls k g s0_0 s0_1 s0_2 6 t340 t341 t344 t345 w0 _ ?s1 ?s2 A2.out).mono ?_); (case s1 => exact st47_2 HI0.out NB0_338.out NB0_339.out); (case s2 => exact bl47_2 HB.out HI0.out GE338.out GE339.out); rintro e w6 ⟨v342, rfl, ho0, hi, hb, hk⟩; refine ⟨_, rfl, ?_⟩; replace BK338 := kB hk BK338; replace BK339 := kB hk BK339; have HO343 := mkA (Kd.R_lower ho0 (keep_size (w := w) (g := g) (row := none) (by exact kb47_2 HK.out GW338.out GW339.out))); replace HK := kT (by exact kb47_2 HK.out GW338.out GW339.out) hk; replace HI0 := mkA (hi); replace HB := mkA (hb); (try clear hb); (try clear hk); (try clear hi); (try clear ho0)) | ((with_reducible refine gate_dst (N := 4) rfl ?_); refine boxE (N := 4) (cs := #[.int .i64 0, .slice none 0 0]) (t := 26) ?_; intro gb346 hg w7 hbox hb; replace HO343 := rB HO343 hb; have BK346 := mkA (hbox); have GW346 := mkA ((by rw [hg]; exact (keep_size (w := w) (g := g) (row := none) (by exact kb47_2 HK.out GW338.out GW339.out)) : w.heap.size ≤ gb346)); have GE346 := mkA (Nat.le_trans HW0.out GW346.out); replace HK := kU (g := g) (by exact kb47_2 HK.out GW338.out GW339.out) hb; have NB338_346 := neL7 BK338 hg; have NB346_338 := neR7 BK338 hg; replace BK338 := blkB BK338 hb; have NB339_346 := neL7 BK339 hg; have NB346_339 := neR7 BK339 hg; replace BK339 := blkB BK339 hb; have NB0_346 : NeB _ _ := ⟨(by rw [hg]; exact Nat.ne_of_lt (IsS47.lt (show IsS47 w0 _ g s0_0 t344 t345 from by exact st47_2 HI0.out NB0_338.out NB0_339.out)) : g ≠ gb346)⟩; have NB346_0 : NeB _ _ := ⟨(by rw [hg]; exact Nat.ne_of_gt (IsS47.lt (show IsS47 w0 _ g s0_0 t344 t345 from by exact st47_2 HI0.out NB0_338.out NB0_339.out)) : gb346 ≠ g)⟩; replace HB := mkA (below_step (by exact bl47_2 HB.out HI0.out GE338.out GE339.out) hb); replace HI0 := mkA (IsS47.below (by exact st47_2 HI0.out NB0_338.out NB0_339.out) hb); clear hb hbox hg; obtain ⟨_, _, _, _⟩ := blk2 BK346; obtain ⟨Ao12, co12, eo12⟩ := Kd.R_slice HO343.out; subst eo12))
 (try simp only [Act.put, List.setIfInBounds_toArray, List.set_cons_zero, List.set_cons_succ])
 go_cut [14] (fun v14 wc => ∃ (kq : Nat) (x14_2 : Bool) (x1001_2 : Int) (x1002_2 : Int), v14 = .bool x14_2 ∧ Fc (spec_l1Cur_both.j0 kq x14_2 s0_0 x1001_2 x1002_2 t340 t341 = some (r1, r2, r3, r4, r5, r6)) ∧ Fc (kq ≤ k) ∧ Fc (Kd.R (Kd.int .i64) 3 wc w.heap.size (fun _ => True) (.slice Ao12 t341.length co12) t341) ∧ Fc (wc.heap[gb338]? = some (.cells #[.int .i64 0, (.slice none 0 0)] 26 (0, 0))) ∧ Fc (wc.heap[gb339]? = some (.cells #[.int .i64 0, (.slice none 0 0)] 26 (0, 0))) ∧ Fc (wc.heap[gb346]? = some (.cells #[.int .i64 t340, (.slice Ao12 t341.length co12)] 26 (0, 0))) ∧ Fc (IsS47 w0 wc g s0_0 x1001_2 x1002_2) ∧ Fc (KeepBut w wc g none) ∧ Fc (Below w0.heap.size w0 wc))
 case first =>
  have H := HC3.out
  clear HC3
  obtain ⟨t347, A13, H⟩ := obE H
  by_cases c14 : t347 = true
  ·subst c14
   replace H := ifT H
   obtain ⟨⟨t348, t349, t350⟩, A15, H⟩ := obE H
   dsimp only at H
   have H' := mkA H
   clear H
   obtain ⟨_, _, _, _⟩ := blk2 BK346
   go_wp2_with (first | ((with_reducible refine gate_callee (f := 22) rfl ?_); refine goesQ (some 9) Tryd.func22 #[.agg #[.int .i64 t340, .slice Ao12 t341.length co12]] ?_; (with_reducible refine (spec_orGood.calls k t340 _ _ t341 true _ ?s1 ?s2 A13.out).mono ?_); (case s1 => exact rCF HO343 BK346); (case s2 => exact rL HO343); rintro e w20 ⟨rfl, hb⟩; refine ⟨_, rfl, ?_⟩; replace HO343 := mkA (Kd.R_below (rFg HO343 BK346) hb); replace BK338 := blkS BK338 hb; replace BK339 := blkS BK339 hb; replace BK346 := blkS BK346 hb; replace HK := kU (g := g) (by exact kb47_3 HK.out GW338.out GW339.out GW346.out) hb; replace HB := mkA (below_step (by exact bl47_3 HB.out HI0.out GE338.out GE339.out GE346.out) hb); replace HI0 := mkA (IsS47.below (show IsS47 w0 ((w7.setCell ⟨gb346, 0, none⟩ (.int .i64 t340)).setCell ⟨gb346, 1, none⟩ (.slice Ao12 t341.length co12)) g s0_0 t344 t345 from by exact st47_3 HI0.out NB0_338.out NB0_339.out NB0_346.out) hb); (try clear hb); (try clear hk); (try clear hi)) | (go_at_call 26; (with_reducible refine (spec_l1Cur_one.calls g s0_0 t344 t345 8 t348 t349 t350 w0 _ ?s1 ?s2 A15.out).mono ?_); (case s1 => exact st47_3 HI0.out NB0_338.out NB0_339.out NB0_346.out); (case s2 => exact bl47_3 HB.out HI0.out GE338.out GE339.out GE346.out); rintro e w21 ⟨rfl, hi, hb, hk⟩; replace BK338 := kB hk BK338; replace BK339 := kB hk BK339; replace HO343 := rK (IsS47.apart (show IsS47 w0 _ g s0_0 t344 t345 from by exact st47_3 HI0.out NB0_338.out NB0_339.out NB0_346.out) (Kd.R_g HO343.out) (by decide)) hk; replace BK346 := kB hk BK346; replace HK := kT (by exact kb47_3 HK.out GW338.out GW339.out GW346.out) hk; replace HI0 := mkA (hi); replace HB := mkA (hb); (try clear hb); (try clear hk); (try clear hi)))
   go_meet
   case rel => exact ⟨_, (t348), (t349), (t350), eqS, H', ⟨by first | omega | exact Nat.le_refl _⟩, ⟨Kd.R_g HO343.out⟩, ⟨blk_g BK338.out⟩, ⟨blk_g BK339.out⟩, ⟨blk_g BK346.out⟩, ⟨by exact st47_3 HI0.out NB0_338.out NB0_339.out NB0_346.out⟩, ⟨by exact kb47_3 HK.out GW338.out GW339.out GW346.out⟩, ⟨by exact bl47_3 HB.out HI0.out GE338.out GE339.out GE346.out⟩⟩
  ·replace c14 := Bool.eq_false_iff.mpr c14
   subst c14
   replace H := ifF H
   have H' := mkA H
   clear H
   obtain ⟨_, _, _, _⟩ := blk2 BK346
   go_wp2_with (first | ((with_reducible refine gate_callee (f := 22) rfl ?_); refine goesQ (some 9) Tryd.func22 #[.agg #[.int .i64 t340, .slice Ao12 t341.length co12]] ?_; (with_reducible refine (spec_orGood.calls k t340 _ _ t341 false _ ?s1 ?s2 A13.out).mono ?_); (case s1 => exact rCF HO343 BK346); (case s2 => exact rL HO343); rintro e w26 ⟨rfl, hb⟩; refine ⟨_, rfl, ?_⟩; replace HO343 := mkA (Kd.R_below (rFg HO343 BK346) hb); replace BK338 := blkS BK338 hb; replace BK339 := blkS BK339 hb; replace BK346 := blkS BK346 hb; replace HK := kU (g := g) (by exact kb47_3 HK.out GW338.out GW339.out GW346.out) hb; replace HB := mkA (below_step (by exact bl47_3 HB.out HI0.out GE338.out GE339.out GE346.out) hb); replace HI0 := mkA (IsS47.below (show IsS47 w0 ((w7.setCell ⟨gb346, 0, none⟩ (.int .i64 t340)).setCell ⟨gb346, 1, none⟩ (.slice Ao12 t341.length co12)) g s0_0 t344 t345 from by exact st47_3 HI0.out NB0_338.out NB0_339.out NB0_346.out) hb); (try clear hb); (try clear hk); (try clear hi)))
   go_meet
   case rel => exact ⟨_, (true), (t344), (t345), eqS, H', ⟨by first | omega | exact Nat.le_refl _⟩, ⟨Kd.R_g HO343.out⟩, ⟨blk_g BK338.out⟩, ⟨blk_g BK339.out⟩, ⟨blk_g BK346.out⟩, ⟨by exact st47_3 HI0.out NB0_338.out NB0_339.out NB0_346.out⟩, ⟨by exact kb47_3 HK.out GW338.out GW339.out GW346.out⟩, ⟨by exact bl47_3 HB.out HI0.out GE338.out GE339.out GE346.out⟩⟩
 case rest =>
  clear HC3
  try clear c14
  obtain ⟨kq, x14_2, x1001_2, x1002_2, rfl, HA, HJ2, HO_347001, BK338, BK339, BK346, HI0, HK, HB⟩ := hcut
  cases kq with
  | zero => exact absurd HA.out (by simp [spec_l1Cur_both.j0])
  | succ kj2 =>
   have H := HA.out
   clear HA
   simp only [spec_l1Cur_both.j0] at H
   by_cases c27 : x14_2 = true
   ·subst c27
    replace H := ifT H
    obtain ⟨⟨t351, t352, t355, t356⟩, A28, H⟩ := obE H
    dsimp only at H
    simp only [Option.some.injEq, Prod.mk.injEq] at H
    obtain ⟨rfl, rfl, rfl, rfl, rfl, rfl⟩ := H
    try go_wp2
    replace HO_347001 := mkA (Kd.R_drew HO_347001.out)
    replace BK338 := mkA (blk_drew BK338.out)
    replace BK339 := mkA (blk_drew BK339.out)
    replace BK346 := mkA (blk_drew BK346.out)
    replace HI0 := mkA (IsS47.drew HI0.out)
    replace HK := mkA (keep_drew HK.out)
    replace HB := mkA (below_drew1 HB.out)
    refine start_ (n := 5) (S := fun w' => w'.cell? ⟨gb346, 0, none⟩ = some (.int .i64 t340) ∧ w'.cell? ⟨gb346, 1, none⟩ = some (.slice Ao12 t341.length co12)) (ds := []) (bm 5 0) (by kernel_rfl) rfl (by kernel_rfl) ⟨(blk_cell BK346.out 0).trans rfl, (blk_cell BK346.out 1).trans rfl⟩ (fun hHeld => ?_)
    generalize wc.drew = w29 at HO_347001 BK338 BK339 BK346 HI0 HK HB hHeld ⊢
    refine pure_ (i := 1) (N := some 16) (v := ?_) (a' := ?_) (bm 5 2) rfl rfl (by kernel_rfl) (fun _ _ _ h => h) (Or.inl ⟨by rfl, ?_⟩) ?_ ?_
    rotate_left
    ·intro w'
     go_simp
     with_reducible rfl
    rotate_left
    ·simp only [Act.put, List.setIfInBounds_toArray, List.set_cons_zero, List.set_cons_succ, i64_w, i32_w]
     rfl
    refine take_ (i := 0) (N := some 15) (v := ?_) (a' := ?_) (bm 5 3) rfl rfl (by kernel_rfl) (fun _ _ _ h => h) (Or.inl ⟨by rfl, ?_⟩) hHeld ?_ ?_
    rotate_left
    ·rintro w' ⟨s0, s1⟩
     go_simp
     with_reducible rfl
    rotate_left
    ·simp only [Act.put, List.setIfInBounds_toArray, List.set_cons_zero, List.set_cons_succ, i64_w, i32_w]
     rfl
    refine one_ (i := 2) (N := some 17) (bm 5 7) rfl rfl (by kernel_rfl) (by decide) (fun K hK => ?_)
    refine goesR Tryd.func49 #[.pointer (some ⟨g, 0, none⟩), .int .i64 6] ?_
    with_reducible refine (spec_l1Cur_anyOrder.calls kj2 g s0_0 x1001_2 x1002_2 6 t351 t352 t355 t356 w0 _ ?s1 ?s2 A28.out).mono ?_
    (case s1 => exact st47_3 HI0.out NB0_338.out NB0_339.out NB0_346.out)
    (case s2 => exact bl47_3 HB.out HI0.out GE338.out GE339.out GE346.out)
    rintro e w30 ⟨v353, rfl, ho0, hi, hb, hk⟩
    refine ⟨_, rfl, ?_⟩
    replace BK338 := kB hk BK338
    replace BK339 := kB hk BK339
    replace BK346 := kB hk BK346
    have HO354 := mkA (Kd.R_lower (Kd.R_new' ho0 (Kd.R_lt (Kd.R_g HO_347001.out))) (keep_size (w := w) (g := g) (row := none) (by exact kb47_3 HK.out GW338.out GW339.out GW346.out)))
    replace HO_347001 := mkA (Kd.R_mono (Kd.R_told (Kd.R_oldK (IsS47.apart (show IsS47 w0 _ g s0_0 x1001_2 x1002_2 from by exact st47_3 HI0.out NB0_338.out NB0_339.out NB0_346.out) (Kd.R_g HO_347001.out) (by decide)) hk) (Kd.R_base ho0)) (fun _ h_ => h_.1))
    replace HK := kT (by exact kb47_3 HK.out GW338.out GW339.out GW346.out) hk
    replace HI0 := mkA (hi)
    replace HB := mkA (hb)
    (try clear hb)
    (try clear hb2)
    (try clear hk)
    (try clear hi)
    (try clear ho0)
    obtain ⟨Ao34, co34, eo34⟩ := Kd.R_slice HO354.out
    (first | subst eo34 | (injection eo34 with f1_ f2_ f3_; have f4_ := f1_.symm; have f5_ := f3_.symm; clear f1_ f2_ f3_; subst f4_; subst f5_))
    refine hK.out _ _ ⟨(blk_cell BK346.out 0).trans rfl, (blk_cell BK346.out 1).trans rfl⟩ (fun hHeld => ?_)
    clear hK K
    refine normW 17 ?_
    refine one_ (i := 3) (N := none) (bm 5 15) rfl rfl (by kernel_rfl) (by decide) (fun K hK => ?_)
    obtain ⟨_, _, _, _⟩ := blk2 BK338
    refine skip_ (w1 := ?_) (by rfl) rfl ?_ ?_
    rotate_left
    ·go_simp
     rfl
    refine hK.out _ _ ⟨(cF (cF hHeld.1)), (cF (cF hHeld.2))⟩ (fun hHeld => ?_)
    clear hK K
    refine one_ (i := 4) (N := none) (bm 5 31) rfl rfl (by kernel_rfl) (by decide) (fun K hK => ?_)
    obtain ⟨_, _, _, _⟩ := blk2 BK339
    refine skip_ (w1 := ?_) (by rfl) rfl ?_ ?_
    rotate_left
    ·go_simp
     rfl
    refine hK.out _ _ ⟨(cF (cF hHeld.1)), (cF (cF hHeld.2))⟩ (fun hHeld => ?_)
    clear hK K
    refine done_ (by kernel_rfl) ?_
    try go_wp2
    refine bodyPost_ret (results_cc rfl _ _ gb338 gb339 26 26 #[.int .i64 t340, .slice Ao12 t341.length co12] #[.int .i64 t351, .slice Ao34 t352.length co34] (0, 0) (0, 0) _ _ rfl (blkT BK338) Tryd.underlying26 rfl (by kernel_rfl) rfl (blkT BK339) Tryd.underlying26 rfl (by kernel_rfl)) rfl ?_
    exact ⟨_, _, eqE, by (with_reducible repeat (first | apply Kd.R_alloc | apply Kd.R_drewN | apply Kd.R_drew)); exact Kd.R_mono (Kd.R_far (p := ⟨gb339, 1, none⟩) (Kd.R_far (p := ⟨gb339, 0, none⟩) (Kd.R_far (p := ⟨gb338, 1, none⟩) (Kd.R_far (p := ⟨gb338, 0, none⟩) (Kd.R_types (Kd.R_types HO_347001.out BK338.out (by decide)) BK339.out (by decide)) (fun _ hk => hk.1.2) (.int .i64 t340)) (fun _ hk => hk.1.2) (.slice Ao12 t341.length co12)) (fun _ hk => hk.2) (.int .i64 t351)) (fun _ hk => hk.2) (.slice Ao34 t352.length co34)) (fun _ hk => hk.1.1.2), by (with_reducible repeat (first | apply Kd.R_alloc | apply Kd.R_drewN | apply Kd.R_drew)); exact Kd.R_mono (Kd.R_far (p := ⟨gb339, 1, none⟩) (Kd.R_far (p := ⟨gb339, 0, none⟩) (Kd.R_far (p := ⟨gb338, 1, none⟩) (Kd.R_far (p := ⟨gb338, 0, none⟩) (Kd.R_types (Kd.R_types HO354.out BK338.out (by decide)) BK339.out (by decide)) (fun _ hk => hk.1.2) (.int .i64 t340)) (fun _ hk => hk.1.2) (.slice Ao12 t341.length co12)) (fun _ hk => hk.2) (.int .i64 t351)) (fun _ hk => hk.2) (.slice Ao34 t352.length co34)) (fun _ hk => hk.1.1.2), by exact st47_3 HI0.out NB0_338.out NB0_339.out NB0_346.out, by exact bl47_3 HB.out HI0.out GE338.out GE339.out GE346.out, by exact kb47_3 HK.out GW338.out GW339.out GW346.out⟩
   ·replace c27 := Bool.eq_false_iff.mpr c27
    subst c27
    replace H := ifF H
    obtain ⟨⟨t357, t358, t359⟩, A36, H⟩ := obE H
    dsimp only at H
    rcases iteP H with ⟨c37, H⟩ | ⟨c37, H⟩
    ·have c37b0 : (t357 == 0) = true := beq_iff_eq.mpr c37
     have c37b1 : (t357 != 0) = false := bne_eq_false_iff_eq.mpr c37
     clear c37
     obtain ⟨⟨t360, t363, t364⟩, A38, H⟩ := obE H
     dsimp only at H
     obtain ⟨t365, A39, H⟩ := obE H
     obtain ⟨⟨t368, t369⟩, A40, H⟩ := obE H
     dsimp only at H
     simp only [Option.some.injEq, Prod.mk.injEq] at H
     obtain ⟨rfl, rfl, rfl, rfl, rfl, rfl⟩ := H
     try go_wp2_with (first | ((with_reducible refine gate_callee (f := 41) rfl ?_); refine goesQ (some 19) Tryd.func41 #[.pointer (some ⟨g, 0, none⟩), .int .i64 3] ?_; (with_reducible refine (spec_l1Cur_pick.calls g s0_0 x1001_2 x1002_2 3 t357 t358 t359 w0 _ ?s1 ?s2 A36.out).mono ?_); (case s1 => exact st47_3 HI0.out NB0_338.out NB0_339.out NB0_346.out); (case s2 => exact bl47_3 HB.out HI0.out GE338.out GE339.out GE346.out); rintro e w41 ⟨rfl, hi, hb, hk⟩; refine ⟨_, rfl, ?_⟩; replace HO_347001 := rK (IsS47.apart (show IsS47 w0 _ g s0_0 x1001_2 x1002_2 from by exact st47_3 HI0.out NB0_338.out NB0_339.out NB0_346.out) (Kd.R_g HO_347001.out) (by decide)) hk; replace BK338 := kB hk BK338; replace BK339 := kB hk BK339; replace BK346 := kB hk BK346; replace HK := kT (by exact kb47_3 HK.out GW338.out GW339.out GW346.out) hk; replace HI0 := mkA (hi); replace HB := mkA (hb); (try clear hb); (try clear hk); (try clear hi)))
     replace HO_347001 := mkA (Kd.R_drew HO_347001.out)
     replace BK338 := mkA (blk_drew BK338.out)
     replace BK339 := mkA (blk_drew BK339.out)
     replace BK346 := mkA (blk_drew BK346.out)
     replace HI0 := mkA (IsS47.drew HI0.out)
     replace HK := mkA (keep_drew HK.out)
     replace HB := mkA (below_drew1 HB.out)
     refine start_ (n := 9) (S := fun w' => w'.cell? ⟨gb346, 0, none⟩ = some (.int .i64 t340) ∧ w'.cell? ⟨gb346, 1, none⟩ = some (.slice Ao12 t341.length co12)) (ds := []) (bm 9 0) (by kernel_rfl) rfl (by kernel_rfl) ⟨(blk_cell BK346.out 0).trans rfl, (blk_cell BK346.out 1).trans rfl⟩ (fun hHeld => ?_); refine with_tabW spec_l1Cur_both.tab6 spec_l1Cur_both.bits6 (fun HT_ HW_ => ?_)
     generalize w41.drew = w42 at HO_347001 BK338 BK339 BK346 HI0 HK HB hHeld ⊢
     refine purW 1 23 9 2 HT_ ?_
     refine purW 2 24 9 6 HT_ ?_
     refine takeW 0 (some 22) (bm 9 7) HT_ HW_ hHeld ?_
     refine takeW 3 (some 25) (bm 9 15) HT_ HW_ hHeld ?_
     refine oneW 4 (some 26) (bm 9 31) HT_ (fun K hK => ?_)
     refine goesR Tryd.func27 #[.pointer (some ⟨g, 0, none⟩), .int .i64 t340] ?_
     with_reducible refine (spec_l1Cur_levels.calls kj2 g s0_0 t358 t359 t340 t360 t363 t364 w0 _ ?s1 ?s2 A38.out).mono ?_
     (case s1 => exact st47_3 HI0.out NB0_338.out NB0_339.out NB0_346.out)
     (case s2 => exact bl47_3 HB.out HI0.out GE338.out GE339.out GE346.out)
     rintro e w43 ⟨v361, rfl, ho0, hi, hb, hk⟩
     refine ⟨_, rfl, ?_⟩
     replace BK338 := kB hk BK338
     replace BK339 := kB hk BK339
     replace BK346 := kB hk BK346
     have HO362 := mkA (Kd.R_lower (Kd.R_new' ho0 (Kd.R_lt (Kd.R_g HO_347001.out))) (keep_size (w := w) (g := g) (row := none) (by exact kb47_3 HK.out GW338.out GW339.out GW346.out)))
     replace HO_347001 := mkA (Kd.R_mono (Kd.R_told (Kd.R_oldK (IsS47.apart (show IsS47 w0 _ g s0_0 t358 t359 from by exact st47_3 HI0.out NB0_338.out NB0_339.out NB0_346.out) (Kd.R_g HO_347001.out) (by decide)) hk) (Kd.R_base ho0)) (fun _ h_ => h_.1))
     replace HK := kT (by exact kb47_3 HK.out GW338.out GW339.out GW346.out) hk
     replace HI0 := mkA (hi)
     replace HB := mkA (hb)
     (try clear hb)
     (try clear hb2)
     (try clear hk)
     (try clear hi)
     (try clear ho0)
     obtain ⟨Ao44, co44, eo44⟩ := Kd.R_slice HO362.out
     (first | subst eo44 | (injection eo44 with f1_ f2_ f3_; have f4_ := f1_.symm; have f5_ := f3_.symm; clear f1_ f2_ f3_; subst f4_; subst f5_))
     refine hK.out _ _ ⟨(blk_cell BK346.out 0).trans rfl, (blk_cell BK346.out 1).trans rfl⟩ (fun hHeld => ?_)
     clear hK K
     refine normW 26 ?_
     refine oneW 5 (some 27) (bm 9 63) HT_ (fun K hK => ?_)
     refine goesR Tryd.func31 #[.slice Ao44 t360.length co44] ?_
     with_reducible refine (spec_weOfNumbers.calls kj2 _ _ t360 t365 _ ?s1 ?s2 A39.out).mono ?_
     (case s1 => exact rC HO362)
     (case s2 => exact rL HO362)
     rintro e w45 ⟨v366, rfl, ho0, hb⟩
     refine ⟨_, rfl, ?_⟩
     have HO367 := mkA (Kd.R_lower (Kd.R_new' (Kd.R_new' ho0 (Kd.R_lt (Kd.R_g HO_347001.out))) (Kd.R_lt (Kd.R_g HO362.out))) (keep_size (w := w) (g := g) (row := none) (by exact kb47_3 HK.out GW338.out GW339.out GW346.out)))
     replace HO_347001 := mkA (Kd.R_elder' (Kd.R_g HO_347001.out) (Kd.R_base ho0) hb)
     replace HO362 := mkA (Kd.R_elder' (Kd.R_g HO362.out) (Kd.R_base ho0) hb)
     replace BK338 := blkB BK338 hb
     replace BK339 := blkB BK339 hb
     replace BK346 := blkB BK346 hb
     replace HK := kU (g := g) (by exact kb47_3 HK.out GW338.out GW339.out GW346.out) hb
     replace HB := mkA (below_step (by exact bl47_3 HB.out HI0.out GE338.out GE339.out GE346.out) hb)
     replace HI0 := mkA (IsS47.below (by exact st47_3 HI0.out NB0_338.out NB0_339.out NB0_346.out) hb)
     (try clear hb)
     (try clear hb2)
     (try clear hk)
     (try clear hi)
     (try clear ho0)
     obtain ⟨Ao46, co46, eo46⟩ := Kd.R_slice HO367.out
     (first | subst eo46 | (injection eo46 with f1_ f2_ f3_; have f4_ := f1_.symm; have f5_ := f3_.symm; clear f1_ f2_ f3_; subst f4_; subst f5_))
     refine hK.out _ _ ⟨(blk_cell BK346.out 0).trans rfl, (blk_cell BK346.out 1).trans rfl⟩ (fun hHeld => ?_)
     clear hK K
     refine normW 27 ?_
     refine oneW 6 (some 28) (bm 9 127) HT_ (fun K hK => ?_)
     refine goesR Tryd.func50 #[.slice Ao46 t365.length co46] ?_
     with_reducible refine (spec_weOrder.calls kj2 _ _ t365 t368 t369 _ ?s1 ?s2 A40.out).mono ?_
     (case s1 => exact rC HO367)
     (case s2 => exact rL HO367)
     rintro e w47 ⟨v370, rfl, ho0, hb⟩
     refine ⟨_, rfl, ?_⟩
     have HO371 := mkA (Kd.R_lower (Kd.R_new' (Kd.R_new' (Kd.R_new' ho0 (Kd.R_lt (Kd.R_g HO_347001.out))) (Kd.R_lt (Kd.R_g HO362.out))) (Kd.R_lt (Kd.R_g HO367.out))) (keep_size (w := w) (g := g) (row := none) (by exact kb47_3 HK.out GW338.out GW339.out GW346.out)))
     replace HO_347001 := mkA (Kd.R_elder' (Kd.R_g HO_347001.out) (Kd.R_base ho0) hb)
     replace HO362 := mkA (Kd.R_elder' (Kd.R_g HO362.out) (Kd.R_base ho0) hb)
     replace HO367 := mkA (Kd.R_elder' (Kd.R_g HO367.out) (Kd.R_base ho0) hb)
     replace BK338 := blkB BK338 hb
     replace BK339 := blkB BK339 hb
     replace BK346 := blkB BK346 hb
     replace HK := kU (g := g) (by exact kb47_3 HK.out GW338.out GW339.out GW346.out) hb
     replace HB := mkA (below_step (by exact bl47_3 HB.out HI0.out GE338.out GE339.out GE346.out) hb)
     replace HI0 := mkA (IsS47.below (by exact st47_3 HI0.out NB0_338.out NB0_339.out NB0_346.out) hb)
     (try clear hb)
     (try clear hb2)
     (try clear hk)
     (try clear hi)
     (try clear ho0)
     obtain ⟨Ao51, co51, eo51⟩ := Kd.R_slice HO371.out
     (first | subst eo51 | (injection eo51 with f1_ f2_ f3_; have f4_ := f1_.symm; have f5_ := f3_.symm; clear f1_ f2_ f3_; subst f4_; subst f5_))
     refine hK.out _ _ ⟨(blk_cell BK346.out 0).trans rfl, (blk_cell BK346.out 1).trans rfl⟩ (fun hHeld => ?_)
     clear hK K
     refine normW 28 ?_
     refine oneW 7 (none) (bm 9 255) HT_ (fun K hK => ?_)
     obtain ⟨_, _, _, _⟩ := blk2 BK338
     refine skip_ (w1 := ?_) (by rfl) rfl ?_ ?_
     rotate_left
     ·go_simp
      rfl
     refine hK.out _ _ ⟨(cF (cF hHeld.1)), (cF (cF hHeld.2))⟩ (fun hHeld => ?_)
     clear hK K
     refine oneW 8 (none) (bm 9 511) HT_ (fun K hK => ?_)
     obtain ⟨_, _, _, _⟩ := blk2 BK339
     refine skip_ (w1 := ?_) (by rfl) rfl ?_ ?_
     rotate_left
     ·go_simp
      rfl
     refine hK.out _ _ ⟨(cF (cF hHeld.1)), (cF (cF hHeld.2))⟩ (fun hHeld => ?_)
     clear hK K
     refine doneW HT_ ?_
     try go_wp2
     refine bodyPost_ret (results_cc rfl _ _ gb338 gb339 26 26 #[.int .i64 t340, .slice Ao12 t341.length co12] #[.int .i64 t368, .slice Ao51 t369.length co51] (0, 0) (0, 0) _ _ rfl (blkT BK338) Tryd.underlying26 rfl (by kernel_rfl) rfl (blkT BK339) Tryd.underlying26 rfl (by kernel_rfl)) rfl ?_
     exact ⟨_, _, eqE, by (with_reducible repeat (first | apply Kd.R_alloc | apply Kd.R_drewN | apply Kd.R_drew)); exact Kd.R_mono (Kd.R_far (p := ⟨gb339, 1, none⟩) (Kd.R_far (p := ⟨gb339, 0, none⟩) (Kd.R_far (p := ⟨gb338, 1, none⟩) (Kd.R_far (p := ⟨gb338, 0, none⟩) (Kd.R_types (Kd.R_types HO_347001.out BK338.out (by decide)) BK339.out (by decide)) (fun _ hk => hk.1.2) (.int .i64 t340)) (fun _ hk => hk.1.2) (.slice Ao12 t341.length co12)) (fun _ hk => hk.2) (.int .i64 t368)) (fun _ hk => hk.2) (.slice Ao51 t369.length co51)) (fun _ hk => hk.1.1.2), by (with_reducible repeat (first | apply Kd.R_alloc | apply Kd.R_drewN | apply Kd.R_drew)); exact Kd.R_mono (Kd.R_far (p := ⟨gb339, 1, none⟩) (Kd.R_far (p := ⟨gb339, 0, none⟩) (Kd.R_far (p := ⟨gb338, 1, none⟩) (Kd.R_far (p := ⟨gb338, 0, none⟩) (Kd.R_types (Kd.R_types HO371.out BK338.out (by decide)) BK339.out (by decide)) (fun _ hk => hk.1.2) (.int .i64 t340)) (fun _ hk => hk.1.2) (.slice Ao12 t341.length co12)) (fun _ hk => hk.2) (.int .i64 t368)) (fun _ hk => hk.2) (.slice Ao51 t369.length co51)) (fun _ hk => hk.1.1.1.1.2), by exact st47_3 HI0.out NB0_338.out NB0_339.out NB0_346.out, by exact bl47_3 HB.out HI0.out GE338.out GE339.out GE346.out, by exact kb47_3 HK.out GW338.out GW339.out GW346.out⟩
    ·have c37b0 : (t357 == 0) = false := beq_eq_false_iff_ne.mpr c37
     have c37b1 : (t357 != 0) = true := bne_iff_ne.mpr c37
     rcases iteP H with ⟨c53, H⟩ | ⟨c53, H⟩
     ·have c53b0 : (t357 == 1) = true := beq_iff_eq.mpr c53
      have c53b1 : (t357 != 1) = false := bne_eq_false_iff_eq.mpr c53
      clear c53
      obtain ⟨t372, A54, H⟩ := obE H
      have HC55 := mkA H
      clear H
      try go_wp2_with (first | ((with_reducible refine gate_callee (f := 41) rfl ?_); refine goesQ (some 19) Tryd.func41 #[.pointer (some ⟨g, 0, none⟩), .int .i64 3] ?_; (with_reducible refine (spec_l1Cur_pick.calls g s0_0 x1001_2 x1002_2 3 t357 t358 t359 w0 _ ?s1 ?s2 A36.out).mono ?_); (case s1 => exact st47_3 HI0.out NB0_338.out NB0_339.out NB0_346.out); (case s2 => exact bl47_3 HB.out HI0.out GE338.out GE339.out GE346.out); rintro e w56 ⟨rfl, hi, hb, hk⟩; refine ⟨_, rfl, ?_⟩; replace HO_347001 := rK (IsS47.apart (show IsS47 w0 _ g s0_0 x1001_2 x1002_2 from by exact st47_3 HI0.out NB0_338.out NB0_339.out NB0_346.out) (Kd.R_g HO_347001.out) (by decide)) hk; replace BK338 := kB hk BK338; replace BK339 := kB hk BK339; replace BK346 := kB hk BK346; replace HK := kT (by exact kb47_3 HK.out GW338.out GW339.out GW346.out) hk; replace HI0 := mkA (hi); replace HB := mkA (hb); (try clear hb); (try clear hk); (try clear hi)))
      replace HO_347001 := mkA (Kd.R_drew HO_347001.out)
      replace BK338 := mkA (blk_drew BK338.out)
      replace BK339 := mkA (blk_drew BK339.out)
      replace BK346 := mkA (blk_drew BK346.out)
      replace HI0 := mkA (IsS47.drew HI0.out)
      replace HK := mkA (keep_drew HK.out)
      replace HB := mkA (below_drew1 HB.out)
      refine start_ (n := 8) (S := fun w' => w'.cell? ⟨gb346, 0, none⟩ = some (.int .i64 t340) ∧ w'.cell? ⟨gb346, 1, none⟩ = some (.slice Ao12 t341.length co12)) (ds := []) (bm 8 0) (by kernel_rfl) rfl (by kernel_rfl) ⟨(blk_cell BK346.out 0).trans rfl, (blk_cell BK346.out 1).trans rfl⟩ (fun hHeld => ?_); refine with_tabW spec_l1Cur_both.tab8 spec_l1Cur_both.bits8 (fun HT_ HW_ => ?_)
      generalize w56.drew = w57 at HO_347001 BK338 BK339 BK346 HI0 HK HB hHeld ⊢
      refine purW 0 31 8 1 HT_ ?_
      refine purW 2 33 8 5 HT_ ?_
      refine takeW 1 (some 32) (bm 8 7) HT_ HW_ hHeld ?_
      refine takeW 3 (some 34) (bm 8 15) HT_ HW_ hHeld ?_
      refine join_ (σ := Value × Nat) 1 (bm 8 127) (fun s_ => [(35, s_.1), (5, .pointer (some ⟨s_.2, 0, none⟩)), (36, .agg #[.int .i64 t340, s_.1])]) (fun s_ w' => (w'.cell? ⟨gb346, 0, none⟩ = some (.int .i64 t340) ∧ w'.cell? ⟨gb346, 1, none⟩ = some (.slice Ao12 t341.length co12)) ∧ (Kd.R (Kd.int .i64) 3 w' w.heap.size (fun k_ => some k_ ≠ (.slice Ao12 t341.length co12 : Value).ownBlock) s_.1 t372) ∧ (Kd.R (Kd.int .i64) 3 w' w.heap.size (fun k_ => some k_ ≠ (s_.1 : Value).ownBlock) (.slice Ao12 t341.length co12) t341) ∧ (w'.heap[gb338]? = some (.cells #[.int .i64 0, .slice none 0 0] 26 (0, 0))) ∧ (w'.heap[gb339]? = some (.cells #[.int .i64 0, .slice none 0 0] 26 (0, 0))) ∧ (w'.heap[gb346]? = some (.cells #[.int .i64 t340, .slice Ao12 t341.length co12] 26 (0, 0))) ∧ (w'.heap[s_.2]? = some (.cells #[.int .i64 0, .slice none 0 0] 26 (0, 0))) ∧ (w.heap.size ≤ s_.2) ∧ (w0.heap.size ≤ s_.2) ∧ (g ≠ s_.2) ∧ (s_.2 ≠ g) ∧ (gb338 ≠ s_.2) ∧ (s_.2 ≠ gb338) ∧ (gb339 ≠ s_.2) ∧ (s_.2 ≠ gb339) ∧ (gb346 ≠ s_.2) ∧ (s_.2 ≠ gb346) ∧ (IsS47 w0 w' g s0_0 t358 t359) ∧ (KeepBut w w' g none) ∧ (Below w0.heap.size w0 w')) ?_ ?_
      rotate_left
      ·intro hCont
       refine two_ (i := 4) (j := 6) (Ni := some 35) (Nj := some 5) (bm 8 31) (bm 8 79) rfl rfl rfl rfl (two_of HT_.out (by kernel_rfl)) (by decide) (by decide) (fun K hK => ?_) (fun K hK => ?_)
       ·skip
        refine goesR Tryd.func51 #[.slice Ao12 t341.length co12] ?_
        with_reducible refine (spec_l1Own.calls _ _ t341 t372 _ ?s1 ?s2 A54.out).mono ?_
        (case s1 => exact rC HO_347001)
        (case s2 => exact rL HO_347001)
        rintro e w58 ⟨v373, rfl, ho0, hb⟩
        refine ⟨_, rfl, ?_⟩
        have HO374 := mkA (Kd.R_lower (Kd.R_new' ho0 (Kd.R_lt (Kd.R_g HO_347001.out))) (keep_size (w := w) (g := g) (row := none) (by exact kb47_3 HK.out GW338.out GW339.out GW346.out)))
        replace HO_347001 := mkA (Kd.R_elder' (Kd.R_g HO_347001.out) (Kd.R_base ho0) hb)
        replace BK338 := blkB BK338 hb
        replace BK339 := blkB BK339 hb
        replace BK346 := blkB BK346 hb
        replace HK := kU (g := g) (by exact kb47_3 HK.out GW338.out GW339.out GW346.out) hb
        replace HB := mkA (below_step (by exact bl47_3 HB.out HI0.out GE338.out GE339.out GE346.out) hb)
        replace HI0 := mkA (IsS47.below (by exact st47_3 HI0.out NB0_338.out NB0_339.out NB0_346.out) hb)
        (try clear hb)
        (try clear hb2)
        (try clear hk)
        (try clear hi)
        (try clear ho0)
        obtain ⟨Ao59, co59, eo59⟩ := Kd.R_slice HO374.out
        (first | subst eo59 | (injection eo59 with f1_ f2_ f3_; have f4_ := f1_.symm; have f5_ := f3_.symm; clear f1_ f2_ f3_; subst f4_; subst f5_))
        refine hK.out _ _ ⟨(blk_cell BK346.out 0).trans rfl, (blk_cell BK346.out 1).trans rfl⟩ (fun hHeld => ?_)
        clear hK K
        refine normW 35 ?_
        refine purW 5 36 8 63 HT_ ?_
        refine oneW 6 (some 5) (bm 8 127) HT_ (fun K hK => ?_)
        refine box_step ?hg (N := 5) ?hd (cs := #[.int .i64 0, .slice none 0 0]) (t := 26) ?hr ?_; (case hd => rfl); (case hg => rfl); (case hr => first | (go_simp; done) | (go_simp; rfl))
        intro gb375 hg w60 hbox hb
        replace HO_347001 := rB HO_347001 hb
        replace HO374 := rB HO374 hb
        have BK375 := mkA (hbox)
        have GW375 := mkA ((by rw [hg]; exact (keep_size (w := w) (g := g) (row := none) (by exact kb47_3 HK.out GW338.out GW339.out GW346.out)) : w.heap.size ≤ gb375))
        have GE375 := mkA (Nat.le_trans HW0.out GW375.out)
        replace HK := kU (g := g) (by exact kb47_3 HK.out GW338.out GW339.out GW346.out) hb
        have NB338_375 := neL7 BK338 hg
        have NB375_338 := neR7 BK338 hg
        replace BK338 := blkB BK338 hb
        have NB339_375 := neL7 BK339 hg
        have NB375_339 := neR7 BK339 hg
        replace BK339 := blkB BK339 hb
        have NB346_375 := neL7 BK346 hg
        have NB375_346 := neR7 BK346 hg
        replace BK346 := blkB BK346 hb
        have NB0_375 : NeB _ _ := ⟨(by rw [hg]; exact Nat.ne_of_lt (IsS47.lt (show IsS47 w0 _ g s0_0 t358 t359 from by exact st47_3 HI0.out NB0_338.out NB0_339.out NB0_346.out)) : g ≠ gb375)⟩
        have NB375_0 : NeB _ _ := ⟨(by rw [hg]; exact Nat.ne_of_gt (IsS47.lt (show IsS47 w0 _ g s0_0 t358 t359 from by exact st47_3 HI0.out NB0_338.out NB0_339.out NB0_346.out)) : gb375 ≠ g)⟩
        replace HB := mkA (below_step (by exact bl47_3 HB.out HI0.out GE338.out GE339.out GE346.out) hb)
        replace HI0 := mkA (IsS47.below (by exact st47_3 HI0.out NB0_338.out NB0_339.out NB0_346.out) hb)
        clear hb hbox hg
        refine hK.out _ _ ⟨(blk_cell BK346.out 0).trans rfl, (blk_cell BK346.out 1).trans rfl⟩ (fun hHeld => ?_)
        clear hK K
        refine normW 5 ?_
        exact norm_ (by simp only [putAll, Act.put, List.setIfInBounds_toArray, List.set_cons_zero, List.set_cons_succ]) (hCont (.slice Ao59 t372.length co59, gb375) _ ⟨hHeld, (Kd.R_g (Kd.R_mono HO374.out (fun _ hk => hk.2))), (Kd.R_g (Kd.R_mono HO_347001.out (fun _ hk => hk.2))), (blk_g BK338.out), (blk_g BK339.out), (blk_g BK346.out), (blk_g BK375.out), GW375.out, GE375.out, NB0_375.out, NB375_0.out, NB338_375.out, NB375_338.out, NB339_375.out, NB375_339.out, NB346_375.out, NB375_346.out, (by exact st47_4 HI0.out NB0_338.out NB0_339.out NB0_346.out NB0_375.out), (by exact kb47_4 HK.out GW338.out GW339.out GW346.out GW375.out), (by exact bl47_4 HB.out HI0.out GE338.out GE339.out GE346.out GE375.out)⟩)
       ·skip
        refine box_step ?hg (N := 5) ?hd (cs := #[.int .i64 0, .slice none 0 0]) (t := 26) ?hr ?_; (case hd => rfl); (case hg => rfl); (case hr => first | (go_simp; done) | (go_simp; rfl))
        intro gb375 hg w58 hbox hb
        replace HO_347001 := rB HO_347001 hb
        have BK375 := mkA (hbox)
        have GW375 := mkA ((by rw [hg]; exact (keep_size (w := w) (g := g) (row := none) (by exact kb47_3 HK.out GW338.out GW339.out GW346.out)) : w.heap.size ≤ gb375))
        have GE375 := mkA (Nat.le_trans HW0.out GW375.out)
        replace HK := kU (g := g) (by exact kb47_3 HK.out GW338.out GW339.out GW346.out) hb
        have NB338_375 := neL7 BK338 hg
        have NB375_338 := neR7 BK338 hg
        replace BK338 := blkB BK338 hb
        have NB339_375 := neL7 BK339 hg
        have NB375_339 := neR7 BK339 hg
        replace BK339 := blkB BK339 hb
        have NB346_375 := neL7 BK346 hg
        have NB375_346 := neR7 BK346 hg
        replace BK346 := blkB BK346 hb
        have NB0_375 : NeB _ _ := ⟨(by rw [hg]; exact Nat.ne_of_lt (IsS47.lt (show IsS47 w0 _ g s0_0 t358 t359 from by exact st47_3 HI0.out NB0_338.out NB0_339.out NB0_346.out)) : g ≠ gb375)⟩
        have NB375_0 : NeB _ _ := ⟨(by rw [hg]; exact Nat.ne_of_gt (IsS47.lt (show IsS47 w0 _ g s0_0 t358 t359 from by exact st47_3 HI0.out NB0_338.out NB0_339.out NB0_346.out)) : gb375 ≠ g)⟩
        replace HB := mkA (below_step (by exact bl47_3 HB.out HI0.out GE338.out GE339.out GE346.out) hb)
        replace HI0 := mkA (IsS47.below (by exact st47_3 HI0.out NB0_338.out NB0_339.out NB0_346.out) hb)
        clear hb hbox hg
        refine hK.out _ _ ⟨(blk_cell BK346.out 0).trans rfl, (blk_cell BK346.out 1).trans rfl⟩ (fun hHeld => ?_)
        clear hK K
        refine normW 5 ?_
        refine oneW 4 (some 35) (bm 8 95) HT_ (fun K hK => ?_)
        refine goesR Tryd.func51 #[.slice Ao12 t341.length co12] ?_
        with_reducible refine (spec_l1Own.calls _ _ t341 t372 _ ?s1 ?s2 A54.out).mono ?_
        (case s1 => exact rC HO_347001)
        (case s2 => exact rL HO_347001)
        rintro e w59 ⟨v373, rfl, ho0, hb⟩
        refine ⟨_, rfl, ?_⟩
        have HO374 := mkA (Kd.R_lower (Kd.R_new' ho0 (Kd.R_lt (Kd.R_g HO_347001.out))) (keep_size (w := w) (g := g) (row := none) (by exact kb47_4 HK.out GW338.out GW339.out GW346.out GW375.out)))
        replace HO_347001 := mkA (Kd.R_elder' (Kd.R_g HO_347001.out) (Kd.R_base ho0) hb)
        replace BK338 := blkB BK338 hb
        replace BK339 := blkB BK339 hb
        replace BK346 := blkB BK346 hb
        replace BK375 := blkB BK375 hb
        replace HK := kU (g := g) (by exact kb47_4 HK.out GW338.out GW339.out GW346.out GW375.out) hb
        replace HB := mkA (below_step (by exact bl47_4 HB.out HI0.out GE338.out GE339.out GE346.out GE375.out) hb)
        replace HI0 := mkA (IsS47.below (by exact st47_4 HI0.out NB0_338.out NB0_339.out NB0_346.out NB0_375.out) hb)
        (try clear hb)
        (try clear hb2)
        (try clear hk)
        (try clear hi)
        (try clear ho0)
        obtain ⟨Ao60, co60, eo60⟩ := Kd.R_slice HO374.out
        (first | subst eo60 | (injection eo60 with f1_ f2_ f3_; have f4_ := f1_.symm; have f5_ := f3_.symm; clear f1_ f2_ f3_; subst f4_; subst f5_))
        refine hK.out _ _ ⟨(blk_cell BK346.out 0).trans rfl, (blk_cell BK346.out 1).trans rfl⟩ (fun hHeld => ?_)
        clear hK K
        refine normW 35 ?_
        refine purW 5 36 8 127 HT_ ?_
        exact norm_ (by simp only [putAll, Act.put, List.setIfInBounds_toArray, List.set_cons_zero, List.set_cons_succ]) (hCont (.slice Ao60 t372.length co60, gb375) _ ⟨hHeld, (Kd.R_g (Kd.R_mono HO374.out (fun _ hk => hk.2))), (Kd.R_g (Kd.R_mono HO_347001.out (fun _ hk => hk.2))), (blk_g BK338.out), (blk_g BK339.out), (blk_g BK346.out), (blk_g BK375.out), GW375.out, GE375.out, NB0_375.out, NB375_0.out, NB338_375.out, NB375_338.out, NB339_375.out, NB375_339.out, NB346_375.out, NB375_346.out, (by exact st47_4 HI0.out NB0_338.out NB0_339.out NB0_346.out NB0_375.out), (by exact kb47_4 HK.out GW338.out GW339.out GW346.out GW375.out), (by exact bl47_4 HB.out HI0.out GE338.out GE339.out GE346.out GE375.out)⟩)
      rintro ⟨v373, gb375⟩ w61 ⟨hS_, h0_, h1_, h2_, h3_, h4_, h5_, h6_, h7_, h8_, h9_, h10_, h11_, h12_, h13_, h14_, h15_, h16_, h17_, h18_⟩
      have n0_ : Fc (Kd.R (Kd.int .i64) 3 w61 w.heap.size (fun k_ => some k_ ≠ (.slice Ao12 t341.length co12 : Value).ownBlock) v373 t372) := ⟨h0_⟩
      have n1_ : Fc (Kd.R (Kd.int .i64) 3 w61 w.heap.size (fun k_ => some k_ ≠ (v373 : Value).ownBlock) (.slice Ao12 t341.length co12) t341) := ⟨h1_⟩
      have n2_ : Fc (w61.heap[gb338]? = some (.cells #[.int .i64 0, .slice none 0 0] 26 (0, 0))) := ⟨h2_⟩
      have n3_ : Fc (w61.heap[gb339]? = some (.cells #[.int .i64 0, .slice none 0 0] 26 (0, 0))) := ⟨h3_⟩
      have n4_ : Fc (w61.heap[gb346]? = some (.cells #[.int .i64 t340, .slice Ao12 t341.length co12] 26 (0, 0))) := ⟨h4_⟩
      have n5_ : Fc (w61.heap[gb375]? = some (.cells #[.int .i64 0, .slice none 0 0] 26 (0, 0))) := ⟨h5_⟩
      have n6_ : Ge w.heap.size gb375 := ⟨h6_⟩
      have n7_ : Ge w0.heap.size gb375 := ⟨h7_⟩
      have n8_ : NeB g gb375 := ⟨h8_⟩
      have n9_ : NeB gb375 g := ⟨h9_⟩
      have n10_ : NeB gb338 gb375 := ⟨h10_⟩
      have n11_ : NeB gb375 gb338 := ⟨h11_⟩
      have n12_ : NeB gb339 gb375 := ⟨h12_⟩
      have n13_ : NeB gb375 gb339 := ⟨h13_⟩
      have n14_ : NeB gb346 gb375 := ⟨h14_⟩
      have n15_ : NeB gb375 gb346 := ⟨h15_⟩
      have n16_ : Fc (IsS47 w0 w61 g s0_0 t358 t359) := ⟨h16_⟩
      have n17_ : Fc (KeepBut w w61 g none) := ⟨h17_⟩
      have n18_ : Fc (Below w0.heap.size w0 w61) := ⟨h18_⟩
      clear HO_347001
      clear BK338
      clear BK339
      clear BK346
      clear HI0
      clear HK
      clear HB
      clear h0_ h1_ h2_ h3_ h4_ h5_ h6_ h7_ h8_ h9_ h10_ h11_ h12_ h13_ h14_ h15_ h16_ h17_ h18_
      have HO374 := n0_
      have HO_347001 := n1_
      have BK338 := n2_
      have BK339 := n3_
      have BK346 := n4_
      have BK375 := n5_
      have GW375 := n6_
      have GE375 := n7_
      have NB0_375 := n8_
      have NB375_0 := n9_
      have NB338_375 := n10_
      have NB375_338 := n11_
      have NB339_375 := n12_
      have NB375_339 := n13_
      have NB346_375 := n14_
      have NB375_346 := n15_
      have HI0 := n16_
      have HK := n17_
      have HB := n18_
      clear n0_ n1_ n2_ n3_ n4_ n5_ n6_ n7_ n8_ n9_ n10_ n11_ n12_ n13_ n14_ n15_ n16_ n17_ n18_
      have hHeld : w61.cell? ⟨gb346, 0, none⟩ = some (.int .i64 t340) ∧ w61.cell? ⟨gb346, 1, none⟩ = some (.slice Ao12 t341.length co12) := hS_
      obtain ⟨Ao62, co62, eo62⟩ := Kd.R_slice HO374.out
      (first | subst eo62 | (injection eo62 with f1_ f2_ f3_; have f4_ := f1_.symm; have f5_ := f3_.symm; clear f1_ f2_ f3_; subst f4_; subst f5_))
      refine norm_ (a' := ?_) ?_ ?_
      rotate_left
      ·simp only [putAll, Act.put, List.setIfInBounds_toArray, List.set_cons_zero, List.set_cons_succ]
       rfl
      refine oneW 7 (none) (bm 8 255) HT_ (fun K hK => ?_)
      obtain ⟨_, _, _, _⟩ := blk2 BK375
      refine skip_ (w1 := ?_) (by rfl) rfl ?_ ?_
      rotate_left
      ·go_simp
       rfl
      refine hK.out _ _ ⟨(cF (cF hHeld.1)), (cF (cF hHeld.2))⟩ (fun hHeld => ?_)
      clear hK K
      refine doneW HT_ ?_
      obtain ⟨_, _, _, _⟩ := blk2 BK346
      go_upto_if 39 with (fail)
      go_cut [] (fun wc => ∃ (kq : Nat) (x1001_54 : Int) (x1002_54 : Int) (x347001_54 : List Int) (x376001_54 : List Int) (u347001 : Value) (u376001 : Value), Fc (spec_l1Cur_both.j1 kq s0_0 x1001_54 x1002_54 t340 x347001_54 t340 x376001_54 = some (r1, r2, r3, r4, r5, r6)) ∧ Fc (kq ≤ kj2) ∧ Fc (Kd.R (Kd.int .i64) 3 wc w.heap.size (fun k_ => some k_ ≠ (u376001 : Value).ownBlock) u347001 x347001_54) ∧ Fc (Kd.R (Kd.int .i64) 3 wc w.heap.size (fun k_ => some k_ ≠ (u347001 : Value).ownBlock) u376001 x376001_54) ∧ Fc (wc.heap[gb338]? = some (.cells #[.int .i64 0, (.slice none 0 0)] 26 (0, 0))) ∧ Fc (wc.heap[gb339]? = some (.cells #[.int .i64 0, (.slice none 0 0)] 26 (0, 0))) ∧ Fc (wc.heap[gb346]? = some (.cells #[.int .i64 t340, u347001] 26 (0, 0))) ∧ Fc (wc.heap[gb375]? = some (.cells #[.int .i64 t340, u376001] 26 (0, 0))) ∧ Fc (IsS47 w0 wc g s0_0 x1001_54 x1002_54) ∧ Fc (KeepBut w wc g none) ∧ Fc (Below w0.heap.size w0 wc))
      case first =>
       have H := HC55.out
       clear HC55
       rcases iteP H with ⟨c70, H⟩ | ⟨c70, H⟩
       ·have c70b0 : decide (0 < t340) = true := decide_eq_true c70
        clear c70
        (first | rw [c70b0] | (simp only [i64_w, i32_w]; rw [c70b0]) | skip)
        obtain ⟨⟨t376, t377, t378⟩, A71, H⟩ := obE H
        dsimp only at H
        obtain ⟨c72, H⟩ := itNP H
        have c72b0 : decide (0 ≤ t376) = true := decide_eq_true c72
        clear c72
        obtain ⟨c73, H⟩ := itNP H
        have c73b0 : decide (t376 < (t372.length : Int)) = true := decide_eq_true c73
        clear c73
        obtain ⟨y379, hy379⟩ : ∃ y_ : List Int, y_ = (t372.set (t376 : Int).toNat 0) := ⟨_, rfl⟩
        replace H : (spec_l1Cur_both.j1 kj2 s0_0 t377 t378 t340 t341 t340 y379) = some (r1, r2, r3, r4, r5, r6) := by first | (rw [hy379]; with_reducible exact H) | (have H2_ := (Option.bind_some _ _).symm.trans H; rw [hy379]; with_reducible exact H2_) | (have H2_ := (Option.bind_some _ _).symm.trans H; with_reducible exact H2_) | with_reducible exact H | (rw [hy379]; exact H) | exact H
        have Ny379 := mkA hy379
        clear hy379
        have H' := mkA H
        clear H
        try go_wp2
        have n0_ : Fc (Kd.R (Kd.int .i64) 3 ((w61.setCell ⟨gb375, 0, none⟩ (.int .i64 t340)).setCell ⟨gb375, 1, none⟩ (.slice Ao62 t372.length co62)) w.heap.size (fun k_ => some k_ ≠ (.slice Ao62 t372.length co62 : Value).ownBlock) (.slice Ao12 t341.length co12) t341) := ⟨Kd.R_g (Kd.R_mono (Kd.R_far (p := ⟨gb375, 1, none⟩) (Kd.R_far (p := ⟨gb375, 0, none⟩) (Kd.R_types HO_347001.out BK375.out (by decide)) (fun _ hk => hk.2) (.int .i64 t340)) (fun _ hk => hk.2) (.slice Ao62 t372.length co62)) (fun _ hk => hk.1))⟩
        have n1_ : Fc (Kd.R (Kd.int .i64) 3 ((w61.setCell ⟨gb375, 0, none⟩ (.int .i64 t340)).setCell ⟨gb375, 1, none⟩ (.slice Ao62 t372.length co62)) w.heap.size (fun k_ => some k_ ≠ (.slice Ao12 t341.length co12 : Value).ownBlock) (.slice Ao62 t372.length co62) t372) := ⟨Kd.R_g (Kd.R_mono (Kd.R_far (p := ⟨gb375, 1, none⟩) (Kd.R_far (p := ⟨gb375, 0, none⟩) (Kd.R_types HO374.out BK375.out (by decide)) (fun _ hk => hk.2) (.int .i64 t340)) (fun _ hk => hk.2) (.slice Ao62 t372.length co62)) (fun _ hk => hk.1))⟩
        have n2_ : Fc (((w61.setCell ⟨gb375, 0, none⟩ (.int .i64 t340)).setCell ⟨gb375, 1, none⟩ (.slice Ao62 t372.length co62)).heap[gb338]? = some (.cells #[.int .i64 0, .slice none 0 0] 26 (0, 0))) := ⟨blkT BK338⟩
        have n3_ : Fc (((w61.setCell ⟨gb375, 0, none⟩ (.int .i64 t340)).setCell ⟨gb375, 1, none⟩ (.slice Ao62 t372.length co62)).heap[gb339]? = some (.cells #[.int .i64 0, .slice none 0 0] 26 (0, 0))) := ⟨blkT BK339⟩
        have n4_ : Fc (((w61.setCell ⟨gb375, 0, none⟩ (.int .i64 t340)).setCell ⟨gb375, 1, none⟩ (.slice Ao62 t372.length co62)).heap[gb346]? = some (.cells #[.int .i64 t340, .slice Ao12 t341.length co12] 26 (0, 0))) := ⟨blkT BK346⟩
        have n5_ : Fc (((w61.setCell ⟨gb375, 0, none⟩ (.int .i64 t340)).setCell ⟨gb375, 1, none⟩ (.slice Ao62 t372.length co62)).heap[gb375]? = some (.cells #[.int .i64 t340, .slice Ao62 t372.length co62] 26 (0, 0))) := ⟨blkT BK375⟩
        have n6_ : Fc (IsS47 w0 ((w61.setCell ⟨gb375, 0, none⟩ (.int .i64 t340)).setCell ⟨gb375, 1, none⟩ (.slice Ao62 t372.length co62)) g s0_0 t358 t359) := ⟨by exact st47_4 HI0.out NB0_338.out NB0_339.out NB0_346.out NB0_375.out⟩
        have n7_ : Fc (KeepBut w ((w61.setCell ⟨gb375, 0, none⟩ (.int .i64 t340)).setCell ⟨gb375, 1, none⟩ (.slice Ao62 t372.length co62)) g none) := ⟨by exact kb47_4 HK.out GW338.out GW339.out GW346.out GW375.out⟩
        have n8_ : Fc (Below w0.heap.size w0 ((w61.setCell ⟨gb375, 0, none⟩ (.int .i64 t340)).setCell ⟨gb375, 1, none⟩ (.slice Ao62 t372.length co62))) := ⟨by exact bl47_4 HB.out HI0.out GE338.out GE339.out GE346.out GE375.out⟩
        (try clear HO_347001)
        (try clear HO374)
        (try clear BK338)
        (try clear BK339)
        (try clear BK346)
        (try clear BK375)
        (try clear HI0)
        (try clear HK)
        (try clear HB)
        generalize ((w61.setCell ⟨gb375, 0, none⟩ (.int .i64 t340)).setCell ⟨gb375, 1, none⟩ (.slice Ao62 t372.length co62)) = w75 at n0_ n1_ n2_ n3_ n4_ n5_ n6_ n7_ n8_ ⊢
        have HO_347001 := n0_
        have HO374 := n1_
        have BK338 := n2_
        have BK339 := n3_
        have BK346 := n4_
        have BK375 := n5_
        have HI0 := n6_
        have HK := n7_
        have HB := n8_
        clear n0_ n1_ n2_ n3_ n4_ n5_ n6_ n7_ n8_
        replace HO_347001 := mkA (Kd.R_drew HO_347001.out)
        replace HO374 := mkA (Kd.R_drew HO374.out)
        replace BK338 := mkA (blk_drew BK338.out)
        replace BK339 := mkA (blk_drew BK339.out)
        replace BK346 := mkA (blk_drew BK346.out)
        replace BK375 := mkA (blk_drew BK375.out)
        replace HI0 := mkA (IsS47.drew HI0.out)
        replace HK := mkA (keep_drew HK.out)
        replace HB := mkA (below_drew1 HB.out)
        refine start_ (n := 8) (S := fun w' => w'.cell? ⟨gb375, 0, none⟩ = some (.int .i64 t340) ∧ w'.cell? ⟨gb375, 1, none⟩ = some (.slice Ao62 t372.length co62) ∧ w'.cell? ⟨gb346, 0, none⟩ = some (.int .i64 t340) ∧ w'.cell? ⟨gb346, 1, none⟩ = some (.slice Ao12 t341.length co12)) (ds := [7]) (bm 8 0) (by kernel_rfl) rfl rfl ⟨(blk_cell BK375.out 0).trans rfl, (blk_cell BK375.out 1).trans rfl, (blk_cell BK346.out 0).trans rfl, (blk_cell BK346.out 1).trans rfl⟩ (fun hHeld => ?_); refine with_tabW spec_l1Cur_both.tab10 spec_l1Cur_both.bits10 (fun HT_ HW_ => ?_)
        generalize w75.drew = w76 at HO_347001 HO374 BK338 BK339 BK346 BK375 HI0 HK HB hHeld ⊢
        refine purW 0 40 8 1 HT_ ?_
        refine purW 2 42 8 5 HT_ ?_
        refine purW 3 43 8 13 HT_ ?_
        refine takeW 1 (some 41) (bm 8 15) HT_ HW_ hHeld ?_
        refine takeW 4 (some 44) (bm 8 31) HT_ HW_ hHeld ?_
        refine oneW 5 (some 45) (bm 8 63) HT_ (fun K hK => ?_)
        refine goesR Tryd.func41 #[.pointer (some ⟨g, 0, none⟩), .int .i64 t340] ?_
        with_reducible refine (spec_l1Cur_pick.calls g s0_0 t358 t359 t340 t376 t377 t378 w0 _ ?s1 ?s2 A71.out).mono ?_
        (case s1 => exact st47_4 HI0.out NB0_338.out NB0_339.out NB0_346.out NB0_375.out)
        (case s2 => exact bl47_4 HB.out HI0.out GE338.out GE339.out GE346.out GE375.out)
        rintro e w77 ⟨rfl, hi, hb, hk⟩
        refine ⟨_, rfl, ?_⟩
        replace HO_347001 := rK (IsS47.apart (show IsS47 w0 _ g s0_0 t358 t359 from by exact st47_4 HI0.out NB0_338.out NB0_339.out NB0_346.out NB0_375.out) (Kd.R_g HO_347001.out) (by decide)) hk
        replace BK338 := kB hk BK338
        replace BK339 := kB hk BK339
        replace BK346 := kB hk BK346
        replace HO374 := rK (IsS47.apart (show IsS47 w0 _ g s0_0 t358 t359 from by exact st47_4 HI0.out NB0_338.out NB0_339.out NB0_346.out NB0_375.out) (Kd.R_g HO374.out) (by decide)) hk
        replace BK375 := kB hk BK375
        replace HK := kT (by exact kb47_4 HK.out GW338.out GW339.out GW346.out GW375.out) hk
        replace HI0 := mkA (hi)
        replace HB := mkA (hb)
        (try clear hb)
        (try clear hb2)
        (try clear hk)
        (try clear hi)
        have p74 : 0 ≤ (t376 : Int) := ofd
        have q74 : (t376 : Int) < ((t372.length : Int) : Int) := ofd
        obtain ⟨go74, co74, eo74, gb74, gl74, cl74, HG74⟩ := Kd.R_form HO374.out (by omega)
        (first | cases eo74 | (injection eo74 with ea_ en_ ec_; (first | subst ea_ | (injection ea_ with ea_; subst ea_)); subst ec_; clear en_))
        have GB74 : Ge _ _ := ⟨gb74⟩
        have GG74 := mkA HG74
        clear gb74 gl74 HG74
        obtain ⟨hx74_0, hf74_0⟩ := Kd.R_celln 0 HO374.out (t376 : Int) p74 q74
        replace p74 := eq_true p74
        replace q74 := eq_true q74
        have HN0_go74 := mkA (show g ≠ go74 from by have h_ := IsS47.own_ne HI0.out HO374.out (by decide); intro e_; exact h_ (by rw [e_]; rfl))
        have HP78 := Kd.R_putn HO374.out (t376 : Int) 0
        rw [← Ny379.out] at HP78
        have HQ78 := mkA HP78
        clear HP78
        refine hK.out _ _ ⟨(blk_cell BK375.out 0).trans rfl, (blk_cell BK375.out 1).trans rfl, (blk_cell BK346.out 0).trans rfl, (blk_cell BK346.out 1).trans rfl⟩ (fun hHeld => ?_)
        clear hK K
        refine normW 45 ?_
        refine purW 6 46 8 127 HT_ ?_
        refine last_ (i := 7) (N := none) (bm 8 255) rfl rfl (one_of HT_.out (by kernel_rfl)) (by decide) (fun K hK => ?_)
        refine skip_ (w1 := ?_) (by rfl) rfl ?_ ?_
        rotate_left
        ·go_simp
         rfl
        refine hK.out _ _ ?_
        clear hK K
        refine doneW HT_ ?_
        try go_wp2
        go_meet
        case rel => exact ⟨_, (t377), (t378), (t341), (y379), (.slice Ao12 t341.length co12), (.slice (some ⟨go74, 0, none⟩) t372.length co62), H', ⟨by have := HJ2.out; first | omega | exact Nat.le_refl _⟩, ⟨Kd.R_g (Kd.R_mono (Kd.R_far (p := ⟨go74, (t376 : Int).toNat, none⟩) (Kd.R_mono HO_347001.out (fun k_ hk => (⟨hk, fun e_ => hk (by rw [e_]; rfl)⟩ : _ ∧ k_ ≠ go74))) (fun _ hk => hk.2) (.int .i64 0)) (fun _ hk => hk.1))⟩, ⟨Kd.R_g HQ78.out⟩, ⟨by (with_reducible repeat (first | refine blk_drewN ?_ _ | refine blk_drew ?_ | refine blk_alloc ?_ _)); refine blk_far ?_ (by have h_ := Kd.R_ne HO374.out BK338.out (by decide); intro e_; exact h_ (by rw [e_]; rfl)) _; (with_reducible repeat (first | refine blk_drewN ?_ _ | refine blk_drew ?_ | refine blk_alloc ?_ _)); exact BK338.out⟩, ⟨by (with_reducible repeat (first | refine blk_drewN ?_ _ | refine blk_drew ?_ | refine blk_alloc ?_ _)); refine blk_far ?_ (by have h_ := Kd.R_ne HO374.out BK339.out (by decide); intro e_; exact h_ (by rw [e_]; rfl)) _; (with_reducible repeat (first | refine blk_drewN ?_ _ | refine blk_drew ?_ | refine blk_alloc ?_ _)); exact BK339.out⟩, ⟨by (with_reducible repeat (first | refine blk_drewN ?_ _ | refine blk_drew ?_ | refine blk_alloc ?_ _)); refine blk_far ?_ (by have h_ := Kd.R_ne HO374.out BK346.out (by decide); intro e_; exact h_ (by rw [e_]; rfl)) _; (with_reducible repeat (first | refine blk_drewN ?_ _ | refine blk_drew ?_ | refine blk_alloc ?_ _)); exact BK346.out⟩, ⟨by (with_reducible repeat (first | refine blk_drewN ?_ _ | refine blk_drew ?_ | refine blk_alloc ?_ _)); refine blk_far ?_ (by have h_ := Kd.R_ne HO374.out BK375.out (by decide); intro e_; exact h_ (by rw [e_]; rfl)) _; (with_reducible repeat (first | refine blk_drewN ?_ _ | refine blk_drew ?_ | refine blk_alloc ?_ _)); exact BK375.out⟩, ⟨by exact st47_5 HI0.out HN0_go74.out NB0_338.out NB0_339.out NB0_346.out NB0_375.out⟩, ⟨by exact kb47_5 HK.out GB74.out GW338.out GW339.out GW346.out GW375.out⟩, ⟨by repeat (first | (with_reducible first | exact HB.out | apply below_alloc | apply pw_below_drewN | apply below_drew1 | refine below_set ?_ (Nat.le_trans HL.out GB74.out) | refine below_set ?_ (IsS47.ge HI0.out) | refine below_set ?_ GE338.out | refine below_set ?_ GE339.out | refine below_set ?_ GE346.out | refine below_set ?_ GE375.out) | exact HB.out)⟩⟩
       ·have c70b0 : decide (0 < t340) = false := decide_eq_false c70
        clear c70
        (first | rw [c70b0] | (simp only [i64_w, i32_w]; rw [c70b0]) | skip)
        have H' := mkA H
        clear H
        go_wp2
        go_meet
        case rel => exact ⟨_, (t358), (t359), (t341), (t372), (.slice Ao12 t341.length co12), (.slice Ao62 t372.length co62), H', ⟨by have := HJ2.out; first | omega | exact Nat.le_refl _⟩, ⟨Kd.R_g (Kd.R_mono (Kd.R_far (p := ⟨gb375, 1, none⟩) (Kd.R_far (p := ⟨gb375, 0, none⟩) (Kd.R_types HO_347001.out BK375.out (by decide)) (fun _ hk => hk.2) (.int .i64 t340)) (fun _ hk => hk.2) (.slice Ao62 t372.length co62)) (fun _ hk => hk.1))⟩, ⟨Kd.R_g (Kd.R_mono (Kd.R_far (p := ⟨gb375, 1, none⟩) (Kd.R_far (p := ⟨gb375, 0, none⟩) (Kd.R_types HO374.out BK375.out (by decide)) (fun _ hk => hk.2) (.int .i64 t340)) (fun _ hk => hk.2) (.slice Ao62 t372.length co62)) (fun _ hk => hk.1))⟩, ⟨blkT BK338⟩, ⟨blkT BK339⟩, ⟨blkT BK346⟩, ⟨blkT BK375⟩, ⟨by exact st47_4 HI0.out NB0_338.out NB0_339.out NB0_346.out NB0_375.out⟩, ⟨by exact kb47_4 HK.out GW338.out GW339.out GW346.out GW375.out⟩, ⟨by exact bl47_4 HB.out HI0.out GE338.out GE339.out GE346.out GE375.out⟩⟩
      case rest =>
       clear HC55
       try clear c70
       try clear c70b0
       try clear c72
       try clear c72b0
       try clear c73
       try clear c73b0
       try clear p74
       try clear q74
       try clear hx74_0
       try clear p74
       try clear q74
       obtain ⟨kq, x1001_54, x1002_54, x347001_54, x376001_54, u347001, u376001, HA, HJ54, HO_347001, HO_376001, BK338, BK339, BK346, BK375, HI0, HK, HB⟩ := hcut
       cases kq with
       | zero => exact absurd HA.out (by simp [spec_l1Cur_both.j1])
       | succ kj54 =>
        have H := HA.out
        clear HA
        simp only [spec_l1Cur_both.j1] at H
        obtain ⟨t380, A79, H⟩ := obE H
        by_cases c80 : t380 = true
        ·subst c80
         replace H := ifT H
         obtain ⟨⟨t381, t382, t383⟩, A81, H⟩ := obE H
         dsimp only at H
         by_cases c82 : t381 = true
         ·subst c82
          replace H := ifT H
          simp only [Option.some.injEq, Prod.mk.injEq] at H
          obtain ⟨rfl, rfl, rfl, rfl, rfl, rfl⟩ := H
          obtain ⟨_, _, _, _⟩ := blk2 BK375
          obtain ⟨Ao88, co88, eo88⟩ := Kd.R_slice HO_376001.out
          subst eo88
          try go_wp2_with (first | ((with_reducible refine gate_callee (f := 22) rfl ?_); refine goesQ (some 48) Tryd.func22 #[.agg #[.int .i64 t340, .slice Ao88 x376001_54.length co88]] ?_; (with_reducible refine (spec_orGood.calls kj54 t340 _ _ x376001_54 true _ ?s1 ?s2 A79.out).mono ?_); (case s1 => exact rC HO_376001); (case s2 => exact rL HO_376001); rintro e w89 ⟨rfl, hb⟩; refine ⟨_, rfl, ?_⟩; replace HO_347001 := rB HO_347001 hb; replace HO_376001 := rB HO_376001 hb; replace BK338 := blkB BK338 hb; replace BK339 := blkB BK339 hb; replace BK346 := blkB BK346 hb; replace BK375 := blkB BK375 hb; replace HK := kU (g := g) (by exact kb47_4 HK.out GW338.out GW339.out GW346.out GW375.out) hb; replace HB := mkA (below_step (by exact bl47_4 HB.out HI0.out GE338.out GE339.out GE346.out GE375.out) hb); replace HI0 := mkA (IsS47.below (by exact st47_4 HI0.out NB0_338.out NB0_339.out NB0_346.out NB0_375.out) hb); (try clear hb); (try clear hk); (try clear hi)) | ((with_reducible refine gate_callee (f := 26) rfl ?_); refine goesQ (some 50) Tryd.func26 #[.pointer (some ⟨g, 0, none⟩), .int .i64 2] ?_; (with_reducible refine (spec_l1Cur_one.calls g s0_0 x1001_54 x1002_54 2 true t382 t383 w0 _ ?s1 ?s2 A81.out).mono ?_); (case s1 => exact st47_4 HI0.out NB0_338.out NB0_339.out NB0_346.out NB0_375.out); (case s2 => exact bl47_4 HB.out HI0.out GE338.out GE339.out GE346.out GE375.out); rintro e w90 ⟨rfl, hi, hb, hk⟩; refine ⟨_, rfl, ?_⟩; replace HO_347001 := rK (IsS47.apart (show IsS47 w0 _ g s0_0 x1001_54 x1002_54 from by exact st47_4 HI0.out NB0_338.out NB0_339.out NB0_346.out NB0_375.out) (Kd.R_g HO_347001.out) (by decide)) hk; replace HO_376001 := rK (IsS47.apart (show IsS47 w0 _ g s0_0 x1001_54 x1002_54 from by exact st47_4 HI0.out NB0_338.out NB0_339.out NB0_346.out NB0_375.out) (Kd.R_g HO_376001.out) (by decide)) hk; replace BK338 := kB hk BK338; replace BK339 := kB hk BK339; replace BK346 := kB hk BK346; replace BK375 := kB hk BK375; replace HK := kT (by exact kb47_4 HK.out GW338.out GW339.out GW346.out GW375.out) hk; replace HI0 := mkA (hi); replace HB := mkA (hb); (try clear hb); (try clear hk); (try clear hi)))
          replace HO_347001 := mkA (Kd.R_drew HO_347001.out)
          replace HO_376001 := mkA (Kd.R_drew HO_376001.out)
          replace BK338 := mkA (blk_drew BK338.out)
          replace BK339 := mkA (blk_drew BK339.out)
          replace BK346 := mkA (blk_drew BK346.out)
          replace BK375 := mkA (blk_drew BK375.out)
          replace HI0 := mkA (IsS47.drew HI0.out)
          replace HK := mkA (keep_drew HK.out)
          replace HB := mkA (below_drew1 HB.out)
          obtain ⟨Ao95, co95, eo95⟩ := Kd.R_slice HO_347001.out
          (first | subst eo95 | (injection eo95 with f1_ f2_ f3_; have f4_ := f1_.symm; have f5_ := f3_.symm; clear f1_ f2_ f3_; subst f4_; subst f5_))
          refine start_ (n := 4) (S := fun w' => w'.cell? ⟨gb375, 0, none⟩ = some (.int .i64 t340) ∧ w'.cell? ⟨gb375, 1, none⟩ = some (.slice Ao88 x376001_54.length co88) ∧ w'.cell? ⟨gb346, 0, none⟩ = some (.int .i64 t340) ∧ w'.cell? ⟨gb346, 1, none⟩ = some (.slice Ao95 x347001_54.length co95)) (ds := []) (bm 4 0) (by kernel_rfl) rfl (by kernel_rfl) ⟨(blk_cell BK375.out 0).trans rfl, (blk_cell BK375.out 1).trans rfl, (blk_cell BK346.out 0).trans rfl, (blk_cell BK346.out 1).trans rfl⟩ (fun hHeld => ?_)
          generalize w90.drew = w91 at HO_347001 HO_376001 BK338 BK339 BK346 BK375 HI0 HK HB hHeld ⊢
          refine take_ (i := 0) (N := some 51) (v := ?_) (a' := ?_) (bm 4 1) rfl rfl (by kernel_rfl) (fun _ _ _ h => h) (Or.inl ⟨by rfl, ?_⟩) hHeld ?_ ?_
          rotate_left
          ·rintro w' ⟨s0, s1, s2, s3⟩
           go_simp
           with_reducible rfl
          rotate_left
          ·simp only [Act.put, List.setIfInBounds_toArray, List.set_cons_zero, List.set_cons_succ, i64_w, i32_w]
           rfl
          refine take_ (i := 1) (N := some 52) (v := ?_) (a' := ?_) (bm 4 3) rfl rfl (by kernel_rfl) (fun _ _ _ h => h) (Or.inl ⟨by rfl, ?_⟩) hHeld ?_ ?_
          rotate_left
          ·rintro w' ⟨s0, s1, s2, s3⟩
           go_simp
           with_reducible rfl
          rotate_left
          ·simp only [Act.put, List.setIfInBounds_toArray, List.set_cons_zero, List.set_cons_succ, i64_w, i32_w]
           rfl
          refine one_ (i := 2) (N := none) (bm 4 7) rfl rfl (by kernel_rfl) (by decide) (fun K hK => ?_)
          obtain ⟨_, _, _, _⟩ := blk2 BK338
          refine skip_ (w1 := ?_) (by rfl) rfl ?_ ?_
          rotate_left
          ·go_simp
           rfl
          refine hK.out _ _ ⟨(cF (cF hHeld.1)), (cF (cF hHeld.2.1)), (cF (cF hHeld.2.2.1)), (cF (cF hHeld.2.2.2))⟩ (fun hHeld => ?_)
          clear hK K
          refine one_ (i := 3) (N := none) (bm 4 15) rfl rfl (by kernel_rfl) (by decide) (fun K hK => ?_)
          obtain ⟨_, _, _, _⟩ := blk2 BK339
          refine skip_ (w1 := ?_) (by rfl) rfl ?_ ?_
          rotate_left
          ·go_simp
           rfl
          refine hK.out _ _ ⟨(cF (cF hHeld.1)), (cF (cF hHeld.2.1)), (cF (cF hHeld.2.2.1)), (cF (cF hHeld.2.2.2))⟩ (fun hHeld => ?_)
          clear hK K
          refine done_ (by kernel_rfl) ?_
          try go_wp2
          refine bodyPost_ret (results_cc rfl _ _ gb338 gb339 26 26 #[.int .i64 t340, .slice Ao88 x376001_54.length co88] #[.int .i64 t340, .slice Ao95 x347001_54.length co95] (0, 0) (0, 0) _ _ rfl (blkT BK338) Tryd.underlying26 rfl (by kernel_rfl) rfl (blkT BK339) Tryd.underlying26 rfl (by kernel_rfl)) rfl ?_
          exact ⟨_, _, eqE, by (with_reducible repeat (first | apply Kd.R_alloc | apply Kd.R_drewN | apply Kd.R_drew)); exact Kd.R_mono (Kd.R_far (p := ⟨gb339, 1, none⟩) (Kd.R_far (p := ⟨gb339, 0, none⟩) (Kd.R_far (p := ⟨gb338, 1, none⟩) (Kd.R_far (p := ⟨gb338, 0, none⟩) (Kd.R_types (Kd.R_types HO_376001.out BK338.out (by decide)) BK339.out (by decide)) (fun _ hk => hk.1.2) (.int .i64 t340)) (fun _ hk => hk.1.2) (.slice Ao88 x376001_54.length co88)) (fun _ hk => hk.2) (.int .i64 t340)) (fun _ hk => hk.2) (.slice Ao95 x347001_54.length co95)) (fun _ hk => hk.1.1), by (with_reducible repeat (first | apply Kd.R_alloc | apply Kd.R_drewN | apply Kd.R_drew)); exact Kd.R_mono (Kd.R_far (p := ⟨gb339, 1, none⟩) (Kd.R_far (p := ⟨gb339, 0, none⟩) (Kd.R_far (p := ⟨gb338, 1, none⟩) (Kd.R_far (p := ⟨gb338, 0, none⟩) (Kd.R_types (Kd.R_types HO_347001.out BK338.out (by decide)) BK339.out (by decide)) (fun _ hk => hk.1.2) (.int .i64 t340)) (fun _ hk => hk.1.2) (.slice Ao88 x376001_54.length co88)) (fun _ hk => hk.2) (.int .i64 t340)) (fun _ hk => hk.2) (.slice Ao95 x347001_54.length co95)) (fun _ hk => hk.1.1), by exact st47_4 HI0.out NB0_338.out NB0_339.out NB0_346.out NB0_375.out, by exact bl47_4 HB.out HI0.out GE338.out GE339.out GE346.out GE375.out, by exact kb47_4 HK.out GW338.out GW339.out GW346.out GW375.out⟩
         ·replace c82 := Bool.eq_false_iff.mpr c82
          subst c82
          replace H := ifF H
          simp only [Option.some.injEq, Prod.mk.injEq] at H
          obtain ⟨rfl, rfl, rfl, rfl, rfl, rfl⟩ := H
          obtain ⟨_, _, _, _⟩ := blk2 BK375
          obtain ⟨Ao102, co102, eo102⟩ := Kd.R_slice HO_376001.out
          subst eo102
          try go_wp2_with (first | ((with_reducible refine gate_callee (f := 22) rfl ?_); refine goesQ (some 48) Tryd.func22 #[.agg #[.int .i64 t340, .slice Ao102 x376001_54.length co102]] ?_; (with_reducible refine (spec_orGood.calls kj54 t340 _ _ x376001_54 true _ ?s1 ?s2 A79.out).mono ?_); (case s1 => exact rC HO_376001); (case s2 => exact rL HO_376001); rintro e w103 ⟨rfl, hb⟩; refine ⟨_, rfl, ?_⟩; replace HO_347001 := rB HO_347001 hb; replace HO_376001 := rB HO_376001 hb; replace BK338 := blkB BK338 hb; replace BK339 := blkB BK339 hb; replace BK346 := blkB BK346 hb; replace BK375 := blkB BK375 hb; replace HK := kU (g := g) (by exact kb47_4 HK.out GW338.out GW339.out GW346.out GW375.out) hb; replace HB := mkA (below_step (by exact bl47_4 HB.out HI0.out GE338.out GE339.out GE346.out GE375.out) hb); replace HI0 := mkA (IsS47.below (by exact st47_4 HI0.out NB0_338.out NB0_339.out NB0_346.out NB0_375.out) hb); (try clear hb); (try clear hk); (try clear hi)) | ((with_reducible refine gate_callee (f := 26) rfl ?_); refine goesQ (some 50) Tryd.func26 #[.pointer (some ⟨g, 0, none⟩), .int .i64 2] ?_; (with_reducible refine (spec_l1Cur_one.calls g s0_0 x1001_54 x1002_54 2 false t382 t383 w0 _ ?s1 ?s2 A81.out).mono ?_); (case s1 => exact st47_4 HI0.out NB0_338.out NB0_339.out NB0_346.out NB0_375.out); (case s2 => exact bl47_4 HB.out HI0.out GE338.out GE339.out GE346.out GE375.out); rintro e w104 ⟨rfl, hi, hb, hk⟩; refine ⟨_, rfl, ?_⟩; replace HO_347001 := rK (IsS47.apart (show IsS47 w0 _ g s0_0 x1001_54 x1002_54 from by exact st47_4 HI0.out NB0_338.out NB0_339.out NB0_346.out NB0_375.out) (Kd.R_g HO_347001.out) (by decide)) hk; replace HO_376001 := rK (IsS47.apart (show IsS47 w0 _ g s0_0 x1001_54 x1002_54 from by exact st47_4 HI0.out NB0_338.out NB0_339.out NB0_346.out NB0_375.out) (Kd.R_g HO_376001.out) (by decide)) hk; replace BK338 := kB hk BK338; replace BK339 := kB hk BK339; replace BK346 := kB hk BK346; replace BK375 := kB hk BK375; replace HK := kT (by exact kb47_4 HK.out GW338.out GW339.out GW346.out GW375.out) hk; replace HI0 := mkA (hi); replace HB := mkA (hb); (try clear hb); (try clear hk); (try clear hi)))
          replace HO_347001 := mkA (Kd.R_drew HO_347001.out)
          replace HO_376001 := mkA (Kd.R_drew HO_376001.out)
          replace BK338 := mkA (blk_drew BK338.out)
          replace BK339 := mkA (blk_drew BK339.out)
          replace BK346 := mkA (blk_drew BK346.out)
          replace BK375 := mkA (blk_drew BK375.out)
          replace HI0 := mkA (IsS47.drew HI0.out)
          replace HK := mkA (keep_drew HK.out)
          replace HB := mkA (below_drew1 HB.out)
          obtain ⟨Ao107, co107, eo107⟩ := Kd.R_slice HO_347001.out
          (first | subst eo107 | (injection eo107 with f1_ f2_ f3_; have f4_ := f1_.symm; have f5_ := f3_.symm; clear f1_ f2_ f3_; subst f4_; subst f5_))
          refine start_ (n := 4) (S := fun w' => w'.cell? ⟨gb346, 0, none⟩ = some (.int .i64 t340) ∧ w'.cell? ⟨gb346, 1, none⟩ = some (.slice Ao107 x347001_54.length co107) ∧ w'.cell? ⟨gb375, 0, none⟩ = some (.int .i64 t340) ∧ w'.cell? ⟨gb375, 1, none⟩ = some (.slice Ao102 x376001_54.length co102)) (ds := []) (bm 4 0) (by kernel_rfl) rfl (by kernel_rfl) ⟨(blk_cell BK346.out 0).trans rfl, (blk_cell BK346.out 1).trans rfl, (blk_cell BK375.out 0).trans rfl, (blk_cell BK375.out 1).trans rfl⟩ (fun hHeld => ?_)
          generalize w104.drew = w105 at HO_347001 HO_376001 BK338 BK339 BK346 BK375 HI0 HK HB hHeld ⊢
          refine take_ (i := 0) (N := some 53) (v := ?_) (a' := ?_) (bm 4 1) rfl rfl (by kernel_rfl) (fun _ _ _ h => h) (Or.inl ⟨by rfl, ?_⟩) hHeld ?_ ?_
          rotate_left
          ·rintro w' ⟨s0, s1, s2, s3⟩
           go_simp
           with_reducible rfl
          rotate_left
          ·simp only [Act.put, List.setIfInBounds_toArray, List.set_cons_zero, List.set_cons_succ, i64_w, i32_w]
           rfl
          refine take_ (i := 1) (N := some 54) (v := ?_) (a' := ?_) (bm 4 3) rfl rfl (by kernel_rfl) (fun _ _ _ h => h) (Or.inl ⟨by rfl, ?_⟩) hHeld ?_ ?_
          rotate_left
          ·rintro w' ⟨s0, s1, s2, s3⟩
           go_simp
           with_reducible rfl
          rotate_left
          ·simp only [Act.put, List.setIfInBounds_toArray, List.set_cons_zero, List.set_cons_succ, i64_w, i32_w]
           rfl
          refine one_ (i := 2) (N := none) (bm 4 7) rfl rfl (by kernel_rfl) (by decide) (fun K hK => ?_)
          obtain ⟨_, _, _, _⟩ := blk2 BK338
          refine skip_ (w1 := ?_) (by rfl) rfl ?_ ?_
          rotate_left
          ·go_simp
           rfl
          refine hK.out _ _ ⟨(cF (cF hHeld.1)), (cF (cF hHeld.2.1)), (cF (cF hHeld.2.2.1)), (cF (cF hHeld.2.2.2))⟩ (fun hHeld => ?_)
          clear hK K
          refine one_ (i := 3) (N := none) (bm 4 15) rfl rfl (by kernel_rfl) (by decide) (fun K hK => ?_)
          obtain ⟨_, _, _, _⟩ := blk2 BK339
          refine skip_ (w1 := ?_) (by rfl) rfl ?_ ?_
          rotate_left
          ·go_simp
           rfl
          refine hK.out _ _ ⟨(cF (cF hHeld.1)), (cF (cF hHeld.2.1)), (cF (cF hHeld.2.2.1)), (cF (cF hHeld.2.2.2))⟩ (fun hHeld => ?_)
          clear hK K
          refine done_ (by kernel_rfl) ?_
          try go_wp2
          refine bodyPost_ret (results_cc rfl _ _ gb338 gb339 26 26 #[.int .i64 t340, .slice Ao107 x347001_54.length co107] #[.int .i64 t340, .slice Ao102 x376001_54.length co102] (0, 0) (0, 0) _ _ rfl (blkT BK338) Tryd.underlying26 rfl (by kernel_rfl) rfl (blkT BK339) Tryd.underlying26 rfl (by kernel_rfl)) rfl ?_
          exact ⟨_, _, eqE, by (with_reducible repeat (first | apply Kd.R_alloc | apply Kd.R_drewN | apply Kd.R_drew)); exact Kd.R_mono (Kd.R_far (p := ⟨gb339, 1, none⟩) (Kd.R_far (p := ⟨gb339, 0, none⟩) (Kd.R_far (p := ⟨gb338, 1, none⟩) (Kd.R_far (p := ⟨gb338, 0, none⟩) (Kd.R_types (Kd.R_types HO_347001.out BK338.out (by decide)) BK339.out (by decide)) (fun _ hk => hk.1.2) (.int .i64 t340)) (fun _ hk => hk.1.2) (.slice Ao107 x347001_54.length co107)) (fun _ hk => hk.2) (.int .i64 t340)) (fun _ hk => hk.2) (.slice Ao102 x376001_54.length co102)) (fun _ hk => hk.1.1), by (with_reducible repeat (first | apply Kd.R_alloc | apply Kd.R_drewN | apply Kd.R_drew)); exact Kd.R_mono (Kd.R_far (p := ⟨gb339, 1, none⟩) (Kd.R_far (p := ⟨gb339, 0, none⟩) (Kd.R_far (p := ⟨gb338, 1, none⟩) (Kd.R_far (p := ⟨gb338, 0, none⟩) (Kd.R_types (Kd.R_types HO_376001.out BK338.out (by decide)) BK339.out (by decide)) (fun _ hk => hk.1.2) (.int .i64 t340)) (fun _ hk => hk.1.2) (.slice Ao107 x347001_54.length co107)) (fun _ hk => hk.2) (.int .i64 t340)) (fun _ hk => hk.2) (.slice Ao102 x376001_54.length co102)) (fun _ hk => hk.1.1), by exact st47_4 HI0.out NB0_338.out NB0_339.out NB0_346.out NB0_375.out, by exact bl47_4 HB.out HI0.out GE338.out GE339.out GE346.out GE375.out, by exact kb47_4 HK.out GW338.out GW339.out GW346.out GW375.out⟩
        ·replace c80 := Bool.eq_false_iff.mpr c80
         subst c80
         replace H := ifF H
         obtain ⟨⟨t384, t385⟩, A111, H⟩ := obE H
         dsimp only at H
         simp only [Option.some.injEq, Prod.mk.injEq] at H
         obtain ⟨rfl, rfl, rfl, rfl, rfl, rfl⟩ := H
         obtain ⟨_, _, _, _⟩ := blk2 BK375
         obtain ⟨Ao117, co117, eo117⟩ := Kd.R_slice HO_376001.out
         subst eo117
         try go_wp2_with (first | ((with_reducible refine gate_callee (f := 22) rfl ?_); refine goesQ (some 48) Tryd.func22 #[.agg #[.int .i64 t340, .slice Ao117 x376001_54.length co117]] ?_; (with_reducible refine (spec_orGood.calls kj54 t340 _ _ x376001_54 false _ ?s1 ?s2 A79.out).mono ?_); (case s1 => exact rC HO_376001); (case s2 => exact rL HO_376001); rintro e w118 ⟨rfl, hb⟩; refine ⟨_, rfl, ?_⟩; replace HO_347001 := rB HO_347001 hb; replace HO_376001 := rB HO_376001 hb; replace BK338 := blkB BK338 hb; replace BK339 := blkB BK339 hb; replace BK346 := blkB BK346 hb; replace BK375 := blkB BK375 hb; replace HK := kU (g := g) (by exact kb47_4 HK.out GW338.out GW339.out GW346.out GW375.out) hb; replace HB := mkA (below_step (by exact bl47_4 HB.out HI0.out GE338.out GE339.out GE346.out GE375.out) hb); replace HI0 := mkA (IsS47.below (by exact st47_4 HI0.out NB0_338.out NB0_339.out NB0_346.out NB0_375.out) hb); (try clear hb); (try clear hk); (try clear hi)))
         replace HO_347001 := mkA (Kd.R_drew HO_347001.out)
         replace HO_376001 := mkA (Kd.R_drew HO_376001.out)
         replace BK338 := mkA (blk_drew BK338.out)
         replace BK339 := mkA (blk_drew BK339.out)
         replace BK346 := mkA (blk_drew BK346.out)
         replace BK375 := mkA (blk_drew BK375.out)
         replace HI0 := mkA (IsS47.drew HI0.out)
         replace HK := mkA (keep_drew HK.out)
         replace HB := mkA (below_drew1 HB.out)
         obtain ⟨Ao120, co120, eo120⟩ := Kd.R_slice HO_347001.out
         (first | subst eo120 | (injection eo120 with f1_ f2_ f3_; have f4_ := f1_.symm; have f5_ := f3_.symm; clear f1_ f2_ f3_; subst f4_; subst f5_))
         refine start_ (n := 5) (S := fun w' => w'.cell? ⟨gb346, 0, none⟩ = some (.int .i64 t340) ∧ w'.cell? ⟨gb346, 1, none⟩ = some (.slice Ao120 x347001_54.length co120)) (ds := []) (bm 5 0) (by kernel_rfl) rfl (by kernel_rfl) ⟨(blk_cell BK346.out 0).trans rfl, (blk_cell BK346.out 1).trans rfl⟩ (fun hHeld => ?_)
         generalize w118.drew = w119 at HO_347001 HO_376001 BK338 BK339 BK346 BK375 HI0 HK HB hHeld ⊢
         refine take_ (i := 0) (N := some 55) (v := ?_) (a' := ?_) (bm 5 1) rfl rfl (by kernel_rfl) (fun _ _ _ h => h) (Or.inl ⟨by rfl, ?_⟩) hHeld ?_ ?_
         rotate_left
         ·rintro w' ⟨s0, s1⟩
          go_simp
          with_reducible rfl
         rotate_left
         ·simp only [Act.put, List.setIfInBounds_toArray, List.set_cons_zero, List.set_cons_succ, i64_w, i32_w]
          rfl
         refine take_ (i := 1) (N := some 56) (v := ?_) (a' := ?_) (bm 5 3) rfl rfl (by kernel_rfl) (fun _ _ _ h => h) (Or.inl ⟨by rfl, ?_⟩) hHeld ?_ ?_
         rotate_left
         ·rintro w' ⟨s0, s1⟩
          go_simp
          with_reducible rfl
         rotate_left
         ·simp only [Act.put, List.setIfInBounds_toArray, List.set_cons_zero, List.set_cons_succ, i64_w, i32_w]
          rfl
         refine one_ (i := 2) (N := some 57) (bm 5 7) rfl rfl (by kernel_rfl) (by decide) (fun K hK => ?_)
         refine goesR Tryd.func52 #[.agg #[.int .i64 t340, .slice Ao120 x347001_54.length co120]] ?_
         with_reducible refine (spec_orMirror.calls kj54 t340 _ _ x347001_54 t384 t385 _ ?s1 ?s2 A111.out).mono ?_
         (case s1 => exact rC HO_347001)
         (case s2 => exact rL HO_347001)
         rintro e w121 ⟨v386, rfl, ho0, hb⟩
         refine ⟨_, rfl, ?_⟩
         have HO387 := mkA (Kd.R_lower (Kd.R_new' (Kd.R_new' ho0 (Kd.R_lt (Kd.R_g HO_347001.out))) (Kd.R_lt (Kd.R_g HO_376001.out))) (keep_size (w := w) (g := g) (row := none) (by exact kb47_4 HK.out GW338.out GW339.out GW346.out GW375.out)))
         replace HO_347001 := mkA (Kd.R_elder' (Kd.R_g HO_347001.out) (Kd.R_base ho0) hb)
         replace HO_376001 := mkA (Kd.R_elder' (Kd.R_g HO_376001.out) (Kd.R_base ho0) hb)
         replace BK338 := blkB BK338 hb
         replace BK339 := blkB BK339 hb
         replace BK346 := blkB BK346 hb
         replace BK375 := blkB BK375 hb
         replace HK := kU (g := g) (by exact kb47_4 HK.out GW338.out GW339.out GW346.out GW375.out) hb
         replace HB := mkA (below_step (by exact bl47_4 HB.out HI0.out GE338.out GE339.out GE346.out GE375.out) hb)
         replace HI0 := mkA (IsS47.below (by exact st47_4 HI0.out NB0_338.out NB0_339.out NB0_346.out NB0_375.out) hb)
         (try clear hb)
         (try clear hb2)
         (try clear hk)
         (try clear hi)
         (try clear ho0)
         obtain ⟨Ao125, co125, eo125⟩ := Kd.R_slice HO387.out
         (first | subst eo125 | (injection eo125 with f1_ f2_ f3_; have f4_ := f1_.symm; have f5_ := f3_.symm; clear f1_ f2_ f3_; subst f4_; subst f5_))
         refine hK.out _ _ ⟨(blk_cell BK346.out 0).trans rfl, (blk_cell BK346.out 1).trans rfl⟩ (fun hHeld => ?_)
         clear hK K
         refine normW 57 ?_
         refine one_ (i := 3) (N := none) (bm 5 15) rfl rfl (by kernel_rfl) (by decide) (fun K hK => ?_)
         obtain ⟨_, _, _, _⟩ := blk2 BK338
         refine skip_ (w1 := ?_) (by rfl) rfl ?_ ?_
         rotate_left
         ·go_simp
          rfl
         refine hK.out _ _ ⟨(cF (cF hHeld.1)), (cF (cF hHeld.2))⟩ (fun hHeld => ?_)
         clear hK K
         refine one_ (i := 4) (N := none) (bm 5 31) rfl rfl (by kernel_rfl) (by decide) (fun K hK => ?_)
         obtain ⟨_, _, _, _⟩ := blk2 BK339
         refine skip_ (w1 := ?_) (by rfl) rfl ?_ ?_
         rotate_left
         ·go_simp
          rfl
         refine hK.out _ _ ⟨(cF (cF hHeld.1)), (cF (cF hHeld.2))⟩ (fun hHeld => ?_)
         clear hK K
         refine done_ (by kernel_rfl) ?_
         try go_wp2
         refine bodyPost_ret (results_cc rfl _ _ gb338 gb339 26 26 #[.int .i64 t340, .slice Ao120 x347001_54.length co120] #[.int .i64 t384, .slice Ao125 t385.length co125] (0, 0) (0, 0) _ _ rfl (blkT BK338) Tryd.underlying26 rfl (by kernel_rfl) rfl (blkT BK339) Tryd.underlying26 rfl (by kernel_rfl)) rfl ?_
         exact ⟨_, _, eqE, by (with_reducible repeat (first | apply Kd.R_alloc | apply Kd.R_drewN | apply Kd.R_drew)); exact Kd.R_mono (Kd.R_far (p := ⟨gb339, 1, none⟩) (Kd.R_far (p := ⟨gb339, 0, none⟩) (Kd.R_far (p := ⟨gb338, 1, none⟩) (Kd.R_far (p := ⟨gb338, 0, none⟩) (Kd.R_types (Kd.R_types HO_347001.out BK338.out (by decide)) BK339.out (by decide)) (fun _ hk => hk.1.2) (.int .i64 t340)) (fun _ hk => hk.1.2) (.slice Ao120 x347001_54.length co120)) (fun _ hk => hk.2) (.int .i64 t384)) (fun _ hk => hk.2) (.slice Ao125 t385.length co125)) (fun _ hk => hk.1.1.2), by (with_reducible repeat (first | apply Kd.R_alloc | apply Kd.R_drewN | apply Kd.R_drew)); exact Kd.R_mono (Kd.R_far (p := ⟨gb339, 1, none⟩) (Kd.R_far (p := ⟨gb339, 0, none⟩) (Kd.R_far (p := ⟨gb338, 1, none⟩) (Kd.R_far (p := ⟨gb338, 0, none⟩) (Kd.R_types (Kd.R_types HO387.out BK338.out (by decide)) BK339.out (by decide)) (fun _ hk => hk.1.2) (.int .i64 t340)) (fun _ hk => hk.1.2) (.slice Ao120 x347001_54.length co120)) (fun _ hk => hk.2) (.int .i64 t384)) (fun _ hk => hk.2) (.slice Ao125 t385.length co125)) (fun _ hk => hk.1.1.1.2), by exact st47_4 HI0.out NB0_338.out NB0_339.out NB0_346.out NB0_375.out, by exact bl47_4 HB.out HI0.out GE338.out GE339.out GE346.out GE375.out, by exact kb47_4 HK.out GW338.out GW339.out GW346.out GW375.out⟩
     ·have c53b0 : (t357 == 1) = false := beq_eq_false_iff_ne.mpr c53
      have c53b1 : (t357 != 1) = true := bne_iff_ne.mpr c53
      obtain ⟨⟨t388, t389⟩, A127, H⟩ := obE H
      dsimp only at H
      simp only [Option.some.injEq, Prod.mk.injEq] at H
      obtain ⟨rfl, rfl, rfl, rfl, rfl, rfl⟩ := H
      try go_wp2_with (first | ((with_reducible refine gate_callee (f := 41) rfl ?_); refine goesQ (some 19) Tryd.func41 #[.pointer (some ⟨g, 0, none⟩), .int .i64 3] ?_; (with_reducible refine (spec_l1Cur_pick.calls g s0_0 x1001_2 x1002_2 3 t357 t358 t359 w0 _ ?s1 ?s2 A36.out).mono ?_); (case s1 => exact st47_3 HI0.out NB0_338.out NB0_339.out NB0_346.out); (case s2 => exact bl47_3 HB.out HI0.out GE338.out GE339.out GE346.out); rintro e w128 ⟨rfl, hi, hb, hk⟩; refine ⟨_, rfl, ?_⟩; replace HO_347001 := rK (IsS47.apart (show IsS47 w0 _ g s0_0 x1001_2 x1002_2 from by exact st47_3 HI0.out NB0_338.out NB0_339.out NB0_346.out) (Kd.R_g HO_347001.out) (by decide)) hk; replace BK338 := kB hk BK338; replace BK339 := kB hk BK339; replace BK346 := kB hk BK346; replace HK := kT (by exact kb47_3 HK.out GW338.out GW339.out GW346.out) hk; replace HI0 := mkA (hi); replace HB := mkA (hb); (try clear hb); (try clear hk); (try clear hi)))
      replace HO_347001 := mkA (Kd.R_drew HO_347001.out)
      replace BK338 := mkA (blk_drew BK338.out)
      replace BK339 := mkA (blk_drew BK339.out)
      replace BK346 := mkA (blk_drew BK346.out)
      replace HI0 := mkA (IsS47.drew HI0.out)
      replace HK := mkA (keep_drew HK.out)
      replace HB := mkA (below_drew1 HB.out)
      refine start_ (n := 5) (S := fun w' => w'.cell? ⟨gb346, 0, none⟩ = some (.int .i64 t340) ∧ w'.cell? ⟨gb346, 1, none⟩ = some (.slice Ao12 t341.length co12)) (ds := []) (bm 5 0) (by kernel_rfl) rfl (by kernel_rfl) ⟨(blk_cell BK346.out 0).trans rfl, (blk_cell BK346.out 1).trans rfl⟩ (fun hHeld => ?_)
      generalize w128.drew = w129 at HO_347001 BK338 BK339 BK346 HI0 HK HB hHeld ⊢
      refine take_ (i := 0) (N := some 55) (v := ?_) (a' := ?_) (bm 5 1) rfl rfl (by kernel_rfl) (fun _ _ _ h => h) (Or.inl ⟨by rfl, ?_⟩) hHeld ?_ ?_
      rotate_left
      ·rintro w' ⟨s0, s1⟩
       go_simp
       with_reducible rfl
      rotate_left
      ·simp only [Act.put, List.setIfInBounds_toArray, List.set_cons_zero, List.set_cons_succ, i64_w, i32_w]
       rfl
      refine take_ (i := 1) (N := some 56) (v := ?_) (a' := ?_) (bm 5 3) rfl rfl (by kernel_rfl) (fun _ _ _ h => h) (Or.inl ⟨by rfl, ?_⟩) hHeld ?_ ?_
      rotate_left
      ·rintro w' ⟨s0, s1⟩
       go_simp
       with_reducible rfl
      rotate_left
      ·simp only [Act.put, List.setIfInBounds_toArray, List.set_cons_zero, List.set_cons_succ, i64_w, i32_w]
       rfl
      refine one_ (i := 2) (N := some 57) (bm 5 7) rfl rfl (by kernel_rfl) (by decide) (fun K hK => ?_)
      refine goesR Tryd.func52 #[.agg #[.int .i64 t340, .slice Ao12 t341.length co12]] ?_
      with_reducible refine (spec_orMirror.calls kj2 t340 _ _ t341 t388 t389 _ ?s1 ?s2 A127.out).mono ?_
      (case s1 => exact rC HO_347001)
      (case s2 => exact rL HO_347001)
      rintro e w130 ⟨v390, rfl, ho0, hb⟩
      refine ⟨_, rfl, ?_⟩
      have HO391 := mkA (Kd.R_lower (Kd.R_new' ho0 (Kd.R_lt (Kd.R_g HO_347001.out))) (keep_size (w := w) (g := g) (row := none) (by exact kb47_3 HK.out GW338.out GW339.out GW346.out)))
      replace HO_347001 := mkA (Kd.R_elder' (Kd.R_g HO_347001.out) (Kd.R_base ho0) hb)
      replace BK338 := blkB BK338 hb
      replace BK339 := blkB BK339 hb
      replace BK346 := blkB BK346 hb
      replace HK := kU (g := g) (by exact kb47_3 HK.out GW338.out GW339.out GW346.out) hb
      replace HB := mkA (below_step (by exact bl47_3 HB.out HI0.out GE338.out GE339.out GE346.out) hb)
      replace HI0 := mkA (IsS47.below (by exact st47_3 HI0.out NB0_338.out NB0_339.out NB0_346.out) hb)
      (try clear hb)
      (try clear hb2)
      (try clear hk)
      (try clear hi)
      (try clear ho0)
      obtain ⟨Ao134, co134, eo134⟩ := Kd.R_slice HO391.out
      (first | subst eo134 | (injection eo134 with f1_ f2_ f3_; have f4_ := f1_.symm; have f5_ := f3_.symm; clear f1_ f2_ f3_; subst f4_; subst f5_))
      refine hK.out _ _ ⟨(blk_cell BK346.out 0).trans rfl, (blk_cell BK346.out 1).trans rfl⟩ (fun hHeld => ?_)
      clear hK K
      refine normW 57 ?_
      refine one_ (i := 3) (N := none) (bm 5 15) rfl rfl (by kernel_rfl) (by decide) (fun K hK => ?_)
      obtain ⟨_, _, _, _⟩ := blk2 BK338
      refine skip_ (w1 := ?_) (by rfl) rfl ?_ ?_
      rotate_left
      ·go_simp
       rfl
      refine hK.out _ _ ⟨(cF (cF hHeld.1)), (cF (cF hHeld.2))⟩ (fun hHeld => ?_)
      clear hK K
      refine one_ (i := 4) (N := none) (bm 5 31) rfl rfl (by kernel_rfl) (by decide) (fun K hK => ?_)
      obtain ⟨_, _, _, _⟩ := blk2 BK339
      refine skip_ (w1 := ?_) (by rfl) rfl ?_ ?_
      rotate_left
      ·go_simp
       rfl
      refine hK.out _ _ ⟨(cF (cF hHeld.1)), (cF (cF hHeld.2))⟩ (fun hHeld => ?_)
      clear hK K
      refine done_ (by kernel_rfl) ?_
      try go_wp2
      refine bodyPost_ret (results_cc rfl _ _ gb338 gb339 26 26 #[.int .i64 t340, .slice Ao12 t341.length co12] #[.int .i64 t388, .slice Ao134 t389.length co134] (0, 0) (0, 0) _ _ rfl (blkT BK338) Tryd.underlying26 rfl (by kernel_rfl) rfl (blkT BK339) Tryd.underlying26 rfl (by kernel_rfl)) rfl ?_
      exact ⟨_, _, eqE, by (with_reducible repeat (first | apply Kd.R_alloc | apply Kd.R_drewN | apply Kd.R_drew)); exact Kd.R_mono (Kd.R_far (p := ⟨gb339, 1, none⟩) (Kd.R_far (p := ⟨gb339, 0, none⟩) (Kd.R_far (p := ⟨gb338, 1, none⟩) (Kd.R_far (p := ⟨gb338, 0, none⟩) (Kd.R_types (Kd.R_types HO_347001.out BK338.out (by decide)) BK339.out (by decide)) (fun _ hk => hk.1.2) (.int .i64 t340)) (fun _ hk => hk.1.2) (.slice Ao12 t341.length co12)) (fun _ hk => hk.2) (.int .i64 t388)) (fun _ hk => hk.2) (.slice Ao134 t389.length co134)) (fun _ hk => hk.1.1.2), by (with_reducible repeat (first | apply Kd.R_alloc | apply Kd.R_drewN | apply Kd.R_drew)); exact Kd.R_mono (Kd.R_far (p := ⟨gb339, 1, none⟩) (Kd.R_far (p := ⟨gb339, 0, none⟩) (Kd.R_far (p := ⟨gb338, 1, none⟩) (Kd.R_far (p := ⟨gb338, 0, none⟩) (Kd.R_types (Kd.R_types HO391.out BK338.out (by decide)) BK339.out (by decide)) (fun _ hk => hk.1.2) (.int .i64 t340)) (fun _ hk => hk.1.2) (.slice Ao12 t341.length co12)) (fun _ hk => hk.2) (.int .i64 t388)) (fun _ hk => hk.2) (.slice Ao134 t389.length co134)) (fun _ hk => hk.1.1.2), by exact st47_3 HI0.out NB0_338.out NB0_339.out NB0_346.out, by exact bl47_3 HB.out HI0.out GE338.out GE339.out GE346.out, by exact kb47_3 HK.out GW338.out GW339.out GW346.out⟩
end Go.Proofs.YtgbdjchdfcodcaaDoor.Q
