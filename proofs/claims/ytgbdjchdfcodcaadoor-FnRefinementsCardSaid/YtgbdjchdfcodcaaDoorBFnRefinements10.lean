import Derived.Test.YtgbdjchdfcodcaaDoorBFnRefinements8
import Derived.Test.YtgbdjchdfcodcaaDoorBFnRefinements9
namespace Go.Proofs.YtgbdjchdfcodcaaDoor.Q
open Go.RowKit Go.Proofs.YtgbdjchdfcodcaaDoorW.PrintWords Go.Proofs.YtgbdjchdfcodcaaDoorW.PrintLast Go.Proofs.YtgbdjchdfcodcaaDoorW.PrintMore
attribute [local go_sem] max2_int min2_int max_two min_two max_three min_three max_four min_four neB_f
set_option linter.unusedVariables false
set_option maxHeartbeats 8000000
set_option maxRecDepth 100000
set_option linter.unusedSimpArgs false
def spec_l1Cur_anyOrder.f (k : Nat) (s0_0 : List Int) (s0_1 : Int) (s0_2 : Int) (a1 : Int) : Option (Int × List Int × Int × Int) := (spec_l1Cur_order.f k s0_0 s0_1 s0_2 a1).bind fun bt283 => ((spec_l1Cur_pick.f s0_0 bt283.2.2.1 bt283.2.2.2 14).bind fun bt290 => (if bt290.1 = 0 then ((spec_l1Cur_relation.f k s0_0 bt290.2.1 bt290.2.2 a1).bind fun bt293 => (some (bt293.1, bt293.2.1, bt293.2.2.1, bt293.2.2.2))) else (if bt290.1 = 1 then ((spec_l1Cur_among.f s0_0 bt290.2.1 bt290.2.2 (([(-1), 0, 10, 11] : List Int))).bind fun bt302 => (some (bt302.1, bt283.2.1, bt302.2.1, bt302.2.2))) else (if bt290.1 = 2 then (if (bt283.2.1.length : Int) > 0 then ((spec_l1Cur_pick.f s0_0 bt290.2.1 bt290.2.2 (bt283.2.1.length : Int)).bind fun bt305 => (if 0 ≤ bt283.1 then ((spec_l1Cur_among.f s0_0 bt305.2.1 bt305.2.2 (([(-1), 0, 1, shl .i64 1 bt283.1] : List Int))).bind fun bt311 => (if 0 ≤ bt305.1 then (if bt305.1 < (bt283.2.1.length : Int) then (some (bt283.1, (bt283.2.1.set (bt305.1 : Int).toNat bt311.1), bt311.2.1, bt311.2.2)) else (none)) else (none))) else (none))) else (some (bt283.1, bt283.2.1, bt290.2.1, bt290.2.2))) else (if bt290.1 = 3 then ((spec_l1Cur_order.f k s0_0 bt290.2.1 bt290.2.2 10).bind fun bt315 => (some (bt315.1, bt315.2.1, bt315.2.2.1, bt315.2.2.2))) else (some (bt283.1, bt283.2.1, bt290.2.1, bt290.2.2)))))))
theorem spec_l1Cur_anyOrder.mono : ∀ a0 a1 a2 a3 k, LeO (spec_l1Cur_anyOrder.f k a0 a1 a2 a3) (spec_l1Cur_anyOrder.f (k + 1) a0 a1 a2 a3) := by
 intro a0 a1 a2 a3 k
 unfold spec_l1Cur_anyOrder.f
 repeat' (with_reducible first|exact spec_l1Cur_order.mono _ _ _ _ _|exact spec_l1Cur_relation.mono _ _ _ _ _|exact LeO.refl _|exact LeO.none _|refine LeO.ite ?_ ?_|refine LeO.bind ?_ (fun _ => ?_))
def spec_l1Cur_anyOrder.T9 : Bool × List (List Nat × List Nat) := (true, [([], []), ([0], [0]), ([], []), ([], []), ([3], [3]), ([4], [4]), ([2, 5], [2, 5]), ([], []), ([], []), ([8], [8]), ([9], [9]), ([10], [10]), ([7, 11, 6], [7, 11]), ([1, 6, 0, 1, 2, 3, 4, 5, 6, 7, 8, 9, 10, 11, 12], [1, 6]), ([13, 12, 12, 0, 1, 2, 3, 4, 5, 6, 7, 8, 9, 10, 11, 12], [12, 13])])
def spec_l1Cur_anyOrder.B9 : List Nat := [0, 1, 0, 0, 8, 24, 60, 0, 0, 256, 768, 1792, 4092, 8191, 16383]
theorem spec_l1Cur_anyOrder.tab9 : rtab .any (opsOf Tryd.f49 9) = spec_l1Cur_anyOrder.T9 := by kernel_rfl
theorem spec_l1Cur_anyOrder.bits9 : waitsOk spec_l1Cur_anyOrder.T9.2 spec_l1Cur_anyOrder.B9 = true := by kernel_rfl
theorem spec_l1Cur_anyOrder.calls (k : Nat) (g : Nat) (s0_0 : List Int) (s0_1 : Int) (s0_2 : Int) (a1 : Int) (r1 : Int) (r2 : List Int) (r3 : Int) (r4 : Int) (w0 w : World) (hI : IsS47 w0 w g s0_0 s0_1 s0_2) (hB : Below w0.heap.size w0 w) (h : spec_l1Cur_anyOrder.f k s0_0 s0_1 s0_2 a1 = some (r1, r2, r3, r4)) :
  Calls Tryd.prog 49 #[.pointer (some ⟨g, 0, none⟩), .int .i64 a1] w fun e w' => ∃ v1_ : Value, e = .returned (.agg #[.int .i64 r1, v1_]) ∧ Kd.R (Kd.int .i64) 3 w' w.heap.size (fun _ => True) v1_ r2 ∧ IsS47 w0 w' g s0_0 r3 r4 ∧ Below w0.heap.size w0 w' ∧ KeepBut w w' g none := by
 have hu26 := Tryd.underlying26
 have HI0 := mkA hI
 have HK := mkA (KeepBut.refl w g none)
 have HL := mkA hB.size
 clear hI
 have HW0 := mkA hB.size
 have HB := mkA hB
 clear hB
 have H := h
 clear h
 unfold spec_l1Cur_anyOrder.f at H
 obtain ⟨⟨t283, t284, t287, t288⟩, A3, H⟩ := obE H
 dsimp only at H
 obtain ⟨⟨t290, t291, t292⟩, A4, H⟩ := obE H
 dsimp only at H
 rcases iteP H with ⟨c5, H⟩ | ⟨c5, H⟩
 ·have c5b0 : (t290 == 0) = true := beq_iff_eq.mpr c5
  have c5b1 : (t290 != 0) = false := bne_eq_false_iff_eq.mpr c5
  clear c5
  obtain ⟨⟨t293, t294, t297, t298⟩, A6, H⟩ := obE H
  dsimp only at H
  simp only [Option.some.injEq, Prod.mk.injEq] at H
  obtain ⟨rfl, rfl, rfl, rfl⟩ := H
  go_enter Tryd.func49, Tryd.ntmps49
  go_wp2_with (first | ((with_reducible refine gate_dst (N := 4) rfl ?_); refine boxE (N := 4) (cs := #[.int .i64 0, .slice none 0 0]) (t := 26) ?_; intro gb282 hg w7 hbox hb; have BK282 := mkA (hbox); have GW282 := mkA ((by rw [hg]; exact (keep_size (w := w) (g := g) (row := none) (by exact kb47_0 HK.out)) : w.heap.size ≤ gb282)); have GE282 := mkA (Nat.le_trans HW0.out GW282.out); replace HK := kU (g := g) (by exact kb47_0 HK.out) hb; have NB0_282 : NeB _ _ := ⟨(by rw [hg]; exact Nat.ne_of_lt (IsS47.lt (show IsS47 w0 _ g s0_0 s0_1 s0_2 from by exact st47_0 HI0.out)) : g ≠ gb282)⟩; have NB282_0 : NeB _ _ := ⟨(by rw [hg]; exact Nat.ne_of_gt (IsS47.lt (show IsS47 w0 _ g s0_0 s0_1 s0_2 from by exact st47_0 HI0.out)) : gb282 ≠ g)⟩; replace HB := mkA (below_step (by exact bl47_0 HB.out HI0.out) hb); replace HI0 := mkA (IsS47.below (by exact st47_0 HI0.out) hb); clear hb hbox hg) | ((with_reducible refine gate_callee (f := 62) rfl ?_); refine goesQ (some 8) Tryd.func62 #[.pointer (some ⟨g, 0, none⟩), .int .i64 a1] ?_; (with_reducible refine (spec_l1Cur_order.calls k g s0_0 s0_1 s0_2 a1 t283 t284 t287 t288 w0 _ ?s1 ?s2 A3.out).mono ?_); (case s1 => exact st47_1 HI0.out NB0_282.out); (case s2 => exact bl47_1 HB.out HI0.out GE282.out); rintro e w8 ⟨v285, rfl, ho0, hi, hb, hk⟩; refine ⟨_, rfl, ?_⟩; replace BK282 := kB hk BK282; have HO286 := mkA (Kd.R_lower ho0 (keep_size (w := w) (g := g) (row := none) (by exact kb47_1 HK.out GW282.out))); replace HK := kT (by exact kb47_1 HK.out GW282.out) hk; replace HI0 := mkA (hi); replace HB := mkA (hb); (try clear hb); (try clear hk); (try clear hi); (try clear ho0)) | ((with_reducible refine gate_dst (N := 5) rfl ?_); refine boxE (N := 5) (cs := #[.int .i64 0, .slice none 0 0]) (t := 26) ?_; intro gb289 hg w9 hbox hb; replace HO286 := rB HO286 hb; have BK289 := mkA (hbox); have GW289 := mkA ((by rw [hg]; exact (keep_size (w := w) (g := g) (row := none) (by exact kb47_1 HK.out GW282.out)) : w.heap.size ≤ gb289)); have GE289 := mkA (Nat.le_trans HW0.out GW289.out); replace HK := kU (g := g) (by exact kb47_1 HK.out GW282.out) hb; have NB282_289 := neL7 BK282 hg; have NB289_282 := neR7 BK282 hg; replace BK282 := blkB BK282 hb; have NB0_289 : NeB _ _ := ⟨(by rw [hg]; exact Nat.ne_of_lt (IsS47.lt (show IsS47 w0 _ g s0_0 t287 t288 from by exact st47_1 HI0.out NB0_282.out)) : g ≠ gb289)⟩; have NB289_0 : NeB _ _ := ⟨(by rw [hg]; exact Nat.ne_of_gt (IsS47.lt (show IsS47 w0 _ g s0_0 t287 t288 from by exact st47_1 HI0.out NB0_282.out)) : gb289 ≠ g)⟩; replace HB := mkA (below_step (by exact bl47_1 HB.out HI0.out GE282.out) hb); replace HI0 := mkA (IsS47.below (by exact st47_1 HI0.out NB0_282.out) hb); clear hb hbox hg; obtain ⟨_, _, _, _⟩ := blk2 BK289; obtain ⟨Ao13, co13, eo13⟩ := Kd.R_slice HO286.out; subst eo13) | ((with_reducible refine gate_callee (f := 41) rfl ?_); refine goesQ (some 10) Tryd.func41 #[.pointer (some ⟨g, 0, none⟩), .int .i64 14] ?_; (with_reducible refine (spec_l1Cur_pick.calls g s0_0 t287 t288 14 t290 t291 t292 w0 _ ?s1 ?s2 A4.out).mono ?_); (case s1 => exact st47_2 HI0.out NB0_282.out NB0_289.out); (case s2 => exact bl47_2 HB.out HI0.out GE282.out GE289.out); rintro e w14 ⟨rfl, hi, hb, hk⟩; refine ⟨_, rfl, ?_⟩; replace BK282 := kR hk BK282; replace HO286 := rK (IsS47.apart (show IsS47 w0 _ g s0_0 t287 t288 from by exact st47_2 HI0.out NB0_282.out NB0_289.out) (rFg HO286 BK289) (by decide)) hk; replace BK289 := kR hk BK289; replace HK := kT (by exact kb47_2 HK.out GW282.out GW289.out) hk; replace HI0 := mkA (hi); replace HB := mkA (hb); (try clear hb); (try clear hk); (try clear hi)) | ((with_reducible refine gate_callee (f := 63) rfl ?_); refine goesQ (some 15) Tryd.func63 #[.pointer (some ⟨g, 0, none⟩), .int .i64 a1] ?_; (with_reducible refine (spec_l1Cur_relation.calls k g s0_0 t291 t292 a1 t293 t294 t297 t298 w0 _ ?s1 ?s2 A6.out).mono ?_); (case s1 => exact st47_2 HI0.out NB0_282.out NB0_289.out); (case s2 => exact bl47_2 HB.out HI0.out GE282.out GE289.out); rintro e w15 ⟨v295, rfl, ho0, hi, hb, hk⟩; refine ⟨_, rfl, ?_⟩; replace BK282 := kB hk BK282; replace BK289 := kB hk BK289; have HO296 := mkA (Kd.R_lower (Kd.R_new' ho0 (Kd.R_lt (Kd.R_g HO286.out))) (keep_size (w := w) (g := g) (row := none) (by exact kb47_2 HK.out GW282.out GW289.out))); replace HO286 := mkA (Kd.R_mono (Kd.R_told (Kd.R_oldK (IsS47.apart (show IsS47 w0 _ g s0_0 t291 t292 from by exact st47_2 HI0.out NB0_282.out NB0_289.out) (Kd.R_g HO286.out) (by decide)) hk) (Kd.R_base ho0)) (fun _ h_ => h_.1)); replace HK := kT (by exact kb47_2 HK.out GW282.out GW289.out) hk; replace HI0 := mkA (hi); replace HB := mkA (hb); (try clear hb); (try clear hk); (try clear hi); (try clear ho0); obtain ⟨_, _, _, _⟩ := blk2 BK282; obtain ⟨Ao18, co18, eo18⟩ := Kd.R_slice HO296.out; subst eo18))
  refine bodyPost_ret (results_cell_row rfl _ _ gb282 26 #[.int .i64 t293, .slice Ao18 t294.length co18] (0, 0) _ rfl (blkT BK282) Tryd.underlying26 rfl (by kernel_rfl)) rfl ?_
  exact ⟨_, eqE, by (with_reducible repeat (first | apply Kd.R_alloc | apply Kd.R_drewN | apply Kd.R_drew)); exact Kd.R_mono (rF HO296 BK282) (fun _ _ => trivial), by exact st47_2 HI0.out NB0_282.out NB0_289.out, by exact bl47_2 HB.out HI0.out GE282.out GE289.out, by exact kb47_2 HK.out GW282.out GW289.out⟩
 ·have c5b0 : (t290 == 0) = false := beq_eq_false_iff_ne.mpr c5
  have c5b1 : (t290 != 0) = true := bne_iff_ne.mpr c5
  rcases iteP H with ⟨c19, H⟩ | ⟨c19, H⟩
  ·have c19b0 : (t290 == 1) = true := beq_iff_eq.mpr c19
   have c19b1 : (t290 != 1) = false := bne_eq_false_iff_eq.mpr c19
   clear c19
   obtain ⟨y299, hy299⟩ : ∃ y_ : List Int, y_ = (([(-1), 0, 10, 11] : List Int)) := ⟨_, rfl⟩
   replace H : ((spec_l1Cur_among.f s0_0 t291 t292 y299).bind fun bt302 => (some (bt302.1, t284, bt302.2.1, bt302.2.2))) = some (r1, r2, r3, r4) := by first | (rw [hy299]; with_reducible exact H) | (have H2_ := (Option.bind_some _ _).symm.trans H; rw [hy299]; with_reducible exact H2_) | (have H2_ := (Option.bind_some _ _).symm.trans H; with_reducible exact H2_) | with_reducible exact H | (rw [hy299]; exact H) | exact H
   have Ny299 := mkA hy299
   clear hy299
   obtain ⟨⟨t302, t303, t304⟩, A20, H⟩ := obE H
   dsimp only at H
   simp only [Option.some.injEq, Prod.mk.injEq] at H
   obtain ⟨rfl, rfl, rfl, rfl⟩ := H
   go_enter Tryd.func49, Tryd.ntmps49
   go_wp2_with (first | ((with_reducible refine gate_dst (N := 4) rfl ?_); refine boxE (N := 4) (cs := #[.int .i64 0, .slice none 0 0]) (t := 26) ?_; intro gb282 hg w21 hbox hb; have BK282 := mkA (hbox); have GW282 := mkA ((by rw [hg]; exact (keep_size (w := w) (g := g) (row := none) (by exact kb47_0 HK.out)) : w.heap.size ≤ gb282)); have GE282 := mkA (Nat.le_trans HW0.out GW282.out); replace HK := kU (g := g) (by exact kb47_0 HK.out) hb; have NB0_282 : NeB _ _ := ⟨(by rw [hg]; exact Nat.ne_of_lt (IsS47.lt (show IsS47 w0 _ g s0_0 s0_1 s0_2 from by exact st47_0 HI0.out)) : g ≠ gb282)⟩; have NB282_0 : NeB _ _ := ⟨(by rw [hg]; exact Nat.ne_of_gt (IsS47.lt (show IsS47 w0 _ g s0_0 s0_1 s0_2 from by exact st47_0 HI0.out)) : gb282 ≠ g)⟩; replace HB := mkA (below_step (by exact bl47_0 HB.out HI0.out) hb); replace HI0 := mkA (IsS47.below (by exact st47_0 HI0.out) hb); clear hb hbox hg) | ((with_reducible refine gate_callee (f := 62) rfl ?_); refine goesQ (some 8) Tryd.func62 #[.pointer (some ⟨g, 0, none⟩), .int .i64 a1] ?_; (with_reducible refine (spec_l1Cur_order.calls k g s0_0 s0_1 s0_2 a1 t283 t284 t287 t288 w0 _ ?s1 ?s2 A3.out).mono ?_); (case s1 => exact st47_1 HI0.out NB0_282.out); (case s2 => exact bl47_1 HB.out HI0.out GE282.out); rintro e w22 ⟨v285, rfl, ho0, hi, hb, hk⟩; refine ⟨_, rfl, ?_⟩; replace BK282 := kB hk BK282; have HO286 := mkA (Kd.R_lower ho0 (keep_size (w := w) (g := g) (row := none) (by exact kb47_1 HK.out GW282.out))); replace HK := kT (by exact kb47_1 HK.out GW282.out) hk; replace HI0 := mkA (hi); replace HB := mkA (hb); (try clear hb); (try clear hk); (try clear hi); (try clear ho0)) | ((with_reducible refine gate_dst (N := 5) rfl ?_); refine boxE (N := 5) (cs := #[.int .i64 0, .slice none 0 0]) (t := 26) ?_; intro gb289 hg w23 hbox hb; replace HO286 := rB HO286 hb; have BK289 := mkA (hbox); have GW289 := mkA ((by rw [hg]; exact (keep_size (w := w) (g := g) (row := none) (by exact kb47_1 HK.out GW282.out)) : w.heap.size ≤ gb289)); have GE289 := mkA (Nat.le_trans HW0.out GW289.out); replace HK := kU (g := g) (by exact kb47_1 HK.out GW282.out) hb; have NB282_289 := neL7 BK282 hg; have NB289_282 := neR7 BK282 hg; replace BK282 := blkB BK282 hb; have NB0_289 : NeB _ _ := ⟨(by rw [hg]; exact Nat.ne_of_lt (IsS47.lt (show IsS47 w0 _ g s0_0 t287 t288 from by exact st47_1 HI0.out NB0_282.out)) : g ≠ gb289)⟩; have NB289_0 : NeB _ _ := ⟨(by rw [hg]; exact Nat.ne_of_gt (IsS47.lt (show IsS47 w0 _ g s0_0 t287 t288 from by exact st47_1 HI0.out NB0_282.out)) : gb289 ≠ g)⟩; replace HB := mkA (below_step (by exact bl47_1 HB.out HI0.out GE282.out) hb); replace HI0 := mkA (IsS47.below (by exact st47_1 HI0.out NB0_282.out) hb); clear hb hbox hg; obtain ⟨_, _, _, _⟩ := blk2 BK289; obtain ⟨Ao27, co27, eo27⟩ := Kd.R_slice HO286.out; subst eo27) | ((with_reducible refine gate_callee (f := 41) rfl ?_); refine goesQ (some 10) Tryd.func41 #[.pointer (some ⟨g, 0, none⟩), .int .i64 14] ?_; (with_reducible refine (spec_l1Cur_pick.calls g s0_0 t287 t288 14 t290 t291 t292 w0 _ ?s1 ?s2 A4.out).mono ?_); (case s1 => exact st47_2 HI0.out NB0_282.out NB0_289.out); (case s2 => exact bl47_2 HB.out HI0.out GE282.out GE289.out); rintro e w28 ⟨rfl, hi, hb, hk⟩; refine ⟨_, rfl, ?_⟩; replace BK282 := kR hk BK282; replace HO286 := rK (IsS47.apart (show IsS47 w0 _ g s0_0 t287 t288 from by exact st47_2 HI0.out NB0_282.out NB0_289.out) (rFg HO286 BK289) (by decide)) hk; replace BK289 := kR hk BK289; replace HK := kT (by exact kb47_2 HK.out GW282.out GW289.out) hk; replace HI0 := mkA (hi); replace HB := mkA (hb); (try clear hb); (try clear hk); (try clear hi)) | ((with_reducible refine gate_dst (N := 19) rfl ?_); refine Kd.R_lit (Kd.int .i64) _ 3 ?hg (N := 19) ?hd (xs := ([(-1), 0, 10, 11] : List Int)) (inner := [.int .i64 (-1), .int .i64 0, .int .i64 10, .int .i64 11]) (ok := fun _ => True) (okp := fun _ => True) ?hr ?hp (fun _ hk => hk) trivial (Below.refl _ _) (Nat.le_refl _) (by simp) ?_; (case hd => rfl); (case hg => rfl); (case hr => first | (go_simp; done) | (go_simp; rfl)); (case hp => exact (Reps.one (show Kd.M (Kd.int .i64) _ _ _ (-1) [.int .i64 (-1)] from rfl) (Reps.one (show Kd.M (Kd.int .i64) _ _ _ 0 [.int .i64 0] from rfl) (Reps.one (show Kd.M (Kd.int .i64) _ _ _ 10 [.int .i64 10] from rfl) (Reps.one (show Kd.M (Kd.int .i64) _ _ _ 11 [.int .i64 11] from rfl) (Reps.none _ _)))))); intro v300 w29 ho30 hb hg_ hnew_; clear hg_ hnew_; (first | rw [← Ny299.out] at ho30 | (simp only [Int.reduceToNat] at ho30; rw [← Ny299.out] at ho30)); have HO301 := mkA (Kd.R_lower (Kd.R_new' ho30 (Kd.R_lt (Kd.R_g HO286.out))) (keep_size (w := w) (g := g) (row := none) (by exact kb47_2 HK.out GW282.out GW289.out))); replace HO286 := mkA (Kd.R_elder' (Kd.R_g HO286.out) (Kd.R_base ho30) hb); replace BK282 := blkB BK282 hb; replace BK289 := blkB BK289 hb; replace HK := kU (g := g) (by exact kb47_2 HK.out GW282.out GW289.out) hb; replace HB := mkA (below_step (by exact bl47_2 HB.out HI0.out GE282.out GE289.out) hb); replace HI0 := mkA (IsS47.below (by exact st47_2 HI0.out NB0_282.out NB0_289.out) hb); clear hb ho30; obtain ⟨Ao31, co31, eo31⟩ := Kd.R_slice HO301.out; subst eo31) | ((with_reducible refine gate_callee (f := 40) rfl ?_); refine goesQ (some 20) Tryd.func40 #[.pointer (some ⟨g, 0, none⟩), .slice Ao31 y299.length co31] ?_; (with_reducible refine (spec_l1Cur_among.calls g s0_0 t291 t292 _ _ y299 t302 t303 t304 w0 _ ?s1 ?s2 ?s3 ?s4 ?s5 A20.out).mono ?_); (case s1 => exact st47_2 HI0.out NB0_282.out NB0_289.out); (case s2 => exact bl47_2 HB.out HI0.out GE282.out GE289.out); (case s3 => exact rC HO301); (case s4 => exact rL HO301); (case s5 => exact far_slice (IsS47.own_ne HI0.out HO301.out (by decide))); rintro e w32 ⟨rfl, hi, hb, hk⟩; refine ⟨_, rfl, ?_⟩; replace BK282 := kB hk BK282; replace HO286 := rK (IsS47.apart (show IsS47 w0 _ g s0_0 t291 t292 from by exact st47_2 HI0.out NB0_282.out NB0_289.out) (Kd.R_g HO286.out) (by decide)) hk; replace BK289 := kB hk BK289; replace HO301 := rK (IsS47.apart (show IsS47 w0 _ g s0_0 t291 t292 from by exact st47_2 HI0.out NB0_282.out NB0_289.out) (Kd.R_g HO301.out) (by decide)) hk; replace HK := kT (by exact kb47_2 HK.out GW282.out GW289.out) hk; replace HI0 := mkA (hi); replace HB := mkA (hb); (try clear hb); (try clear hk); (try clear hi); obtain ⟨_, _, _, _⟩ := blk2 BK289; obtain ⟨_, _, _, _⟩ := blk2 BK282))
   refine bodyPost_ret (results_cell_row rfl _ _ gb282 26 #[.int .i64 t302, .slice Ao27 t284.length co27] (0, 0) _ rfl (blkT BK282) Tryd.underlying26 rfl (by kernel_rfl)) rfl ?_
   exact ⟨_, eqE, by (with_reducible repeat (first | apply Kd.R_alloc | apply Kd.R_drewN | apply Kd.R_drew)); exact Kd.R_mono (Kd.R_far (p := ⟨gb282, 1, none⟩) (Kd.R_far (p := ⟨gb282, 0, none⟩) (Kd.R_far (p := ⟨gb289, 0, none⟩) (Kd.R_types (Kd.R_types HO286.out BK289.out (by decide)) BK282.out (by decide)) (fun _ hk => hk.1.2) (.int .i64 t302)) (fun _ hk => hk.2) (.int .i64 t302)) (fun _ hk => hk.2) (.slice Ao27 t284.length co27)) (fun _ hk => trivial), by exact st47_2 HI0.out NB0_282.out NB0_289.out, by exact bl47_2 HB.out HI0.out GE282.out GE289.out, by exact kb47_2 HK.out GW282.out GW289.out⟩
  ·have c19b0 : (t290 == 1) = false := beq_eq_false_iff_ne.mpr c19
   have c19b1 : (t290 != 1) = true := bne_iff_ne.mpr c19
   rcases iteP H with ⟨c36, H⟩ | ⟨c36, H⟩
   ·have c36b0 : (t290 == 2) = true := beq_iff_eq.mpr c36
    have c36b1 : (t290 != 2) = false := bne_eq_false_iff_eq.mpr c36
    clear c36
    rcases iteP H with ⟨c37, H⟩ | ⟨c37, H⟩
    ·have c37b0 : decide (0 < (t284.length : Int)) = true := decide_eq_true c37
     have c37b1 : decide (0 < t284.length) = true := decide_eq_true (by omega)
     clear c37
     obtain ⟨⟨t305, t306, t307⟩, A38, H⟩ := obE H
     dsimp only at H
     obtain ⟨c39, H⟩ := itNP H
     have c39b0 := eq_true c39
     have c39b1 : decide (0 ≤ t283) = true := decide_eq_true c39
     clear c39
     obtain ⟨ji40, hji40⟩ : ∃ j_ : Int, (shl .i64 1 t283) = j_ := ⟨_, rfl⟩
     replace H : ((spec_l1Cur_among.f s0_0 t306 t307 (([(-1), 0, 1, ji40] : List Int))).bind fun bt311 => (if 0 ≤ t305 then (if t305 < (t284.length : Int) then (some (t283, (t284.set (t305 : Int).toNat bt311.1), bt311.2.1, bt311.2.2)) else (none)) else (none))) = some (r1, r2, r3, r4) := by first | (rw [hji40] at H; exact H) | (simp only [hji40] at H ⊢; exact H)
     (try rw [hji40] at A3)
     (try rw [hji40] at A4)
     (try rw [hji40] at A38)
     have hji40_ : (IntKind.i64.wrap (1 * 2 ^ min t283.toNat 64)) = ji40 := hji40
     have hji40z : t283 ≤ 64 → (IntKind.i64.wrap (1 * 2 ^ t283.toNat)) = ji40 := shl_small hji40
     have hji40u : (IntKind.i64.wrap (2 ^ min t283.toNat 64)) = ji40 := by have h_ := hji40_; rw [Int.one_mul] at h_; exact h_
     have hji40v : t283 ≤ 64 → (IntKind.i64.wrap (2 ^ t283.toNat)) = ji40 := fun hle_ => by have h_ := hji40z hle_; rw [Int.one_mul] at h_; exact h_
     have hji40y : (wrap64 (1 * 2 ^ min t283.toNat 64)) = ji40 := (i64_w _).symm.trans hji40_
     have hji40x : t283 ≤ 64 → (wrap64 (1 * 2 ^ t283.toNat)) = ji40 := fun h_ => (i64_w _).symm.trans (hji40z h_)
     obtain ⟨y308, hy308⟩ : ∃ y_ : List Int, y_ = (([(-1), 0, 1, ji40] : List Int)) := ⟨_, rfl⟩
     replace H : ((spec_l1Cur_among.f s0_0 t306 t307 y308).bind fun bt311 => (if 0 ≤ t305 then (if t305 < (t284.length : Int) then (some (t283, (t284.set (t305 : Int).toNat bt311.1), bt311.2.1, bt311.2.2)) else (none)) else (none))) = some (r1, r2, r3, r4) := by first | (rw [hy308]; with_reducible exact H) | (have H2_ := (Option.bind_some _ _).symm.trans H; rw [hy308]; with_reducible exact H2_) | (have H2_ := (Option.bind_some _ _).symm.trans H; with_reducible exact H2_) | with_reducible exact H | (rw [hy308]; exact H) | exact H
     have Ny308 := mkA hy308
     clear hy308
     obtain ⟨⟨t311, t312, t313⟩, A41, H⟩ := obE H
     dsimp only at H
     obtain ⟨c42, H⟩ := itNP H
     have c42b0 : decide (0 ≤ t305) = true := decide_eq_true c42
     clear c42
     obtain ⟨c43, H⟩ := itNP H
     have c43b0 : decide (t305 < (t284.length : Int)) = true := decide_eq_true c43
     clear c43
     obtain ⟨y314, hy314⟩ : ∃ y_ : List Int, y_ = (t284.set (t305 : Int).toNat t311) := ⟨_, rfl⟩
     replace H : (some (t283, y314, t312, t313)) = some (r1, r2, r3, r4) := by first | (rw [hy314]; with_reducible exact H) | (have H2_ := (Option.bind_some _ _).symm.trans H; rw [hy314]; with_reducible exact H2_) | (have H2_ := (Option.bind_some _ _).symm.trans H; with_reducible exact H2_) | with_reducible exact H | (rw [hy314]; exact H) | exact H
     have Ny314 := mkA hy314
     clear hy314
     simp only [Option.some.injEq, Prod.mk.injEq] at H
     obtain ⟨rfl, rfl, rfl, rfl⟩ := H
     go_enter Tryd.func49, Tryd.ntmps49
     try go_wp2_with (first | ((with_reducible refine gate_dst (N := 4) rfl ?_); refine boxE (N := 4) (cs := #[.int .i64 0, .slice none 0 0]) (t := 26) ?_; intro gb282 hg w45 hbox hb; have BK282 := mkA (hbox); have GW282 := mkA ((by rw [hg]; exact (keep_size (w := w) (g := g) (row := none) (by exact kb47_0 HK.out)) : w.heap.size ≤ gb282)); have GE282 := mkA (Nat.le_trans HW0.out GW282.out); replace HK := kU (g := g) (by exact kb47_0 HK.out) hb; have NB0_282 : NeB _ _ := ⟨(by rw [hg]; exact Nat.ne_of_lt (IsS47.lt (show IsS47 w0 _ g s0_0 s0_1 s0_2 from by exact st47_0 HI0.out)) : g ≠ gb282)⟩; have NB282_0 : NeB _ _ := ⟨(by rw [hg]; exact Nat.ne_of_gt (IsS47.lt (show IsS47 w0 _ g s0_0 s0_1 s0_2 from by exact st47_0 HI0.out)) : gb282 ≠ g)⟩; replace HB := mkA (below_step (by exact bl47_0 HB.out HI0.out) hb); replace HI0 := mkA (IsS47.below (by exact st47_0 HI0.out) hb); clear hb hbox hg) | ((with_reducible refine gate_callee (f := 62) rfl ?_); refine goesQ (some 8) Tryd.func62 #[.pointer (some ⟨g, 0, none⟩), .int .i64 a1] ?_; (with_reducible refine (spec_l1Cur_order.calls k g s0_0 s0_1 s0_2 a1 t283 t284 t287 t288 w0 _ ?s1 ?s2 A3.out).mono ?_); (case s1 => exact st47_1 HI0.out NB0_282.out); (case s2 => exact bl47_1 HB.out HI0.out GE282.out); rintro e w46 ⟨v285, rfl, ho0, hi, hb, hk⟩; refine ⟨_, rfl, ?_⟩; replace BK282 := kB hk BK282; have HO286 := mkA (Kd.R_lower ho0 (keep_size (w := w) (g := g) (row := none) (by exact kb47_1 HK.out GW282.out))); replace HK := kT (by exact kb47_1 HK.out GW282.out) hk; replace HI0 := mkA (hi); replace HB := mkA (hb); (try clear hb); (try clear hk); (try clear hi); (try clear ho0)) | ((with_reducible refine gate_dst (N := 5) rfl ?_); refine boxE (N := 5) (cs := #[.int .i64 0, .slice none 0 0]) (t := 26) ?_; intro gb289 hg w47 hbox hb; replace HO286 := rB HO286 hb; have BK289 := mkA (hbox); have GW289 := mkA ((by rw [hg]; exact (keep_size (w := w) (g := g) (row := none) (by exact kb47_1 HK.out GW282.out)) : w.heap.size ≤ gb289)); have GE289 := mkA (Nat.le_trans HW0.out GW289.out); replace HK := kU (g := g) (by exact kb47_1 HK.out GW282.out) hb; have NB282_289 := neL7 BK282 hg; have NB289_282 := neR7 BK282 hg; replace BK282 := blkB BK282 hb; have NB0_289 : NeB _ _ := ⟨(by rw [hg]; exact Nat.ne_of_lt (IsS47.lt (show IsS47 w0 _ g s0_0 t287 t288 from by exact st47_1 HI0.out NB0_282.out)) : g ≠ gb289)⟩; have NB289_0 : NeB _ _ := ⟨(by rw [hg]; exact Nat.ne_of_gt (IsS47.lt (show IsS47 w0 _ g s0_0 t287 t288 from by exact st47_1 HI0.out NB0_282.out)) : gb289 ≠ g)⟩; replace HB := mkA (below_step (by exact bl47_1 HB.out HI0.out GE282.out) hb); replace HI0 := mkA (IsS47.below (by exact st47_1 HI0.out NB0_282.out) hb); clear hb hbox hg; obtain ⟨_, _, _, _⟩ := blk2 BK289; obtain ⟨Ao51, co51, eo51⟩ := Kd.R_slice HO286.out; subst eo51) | ((with_reducible refine gate_callee (f := 41) rfl ?_); refine goesQ (some 10) Tryd.func41 #[.pointer (some ⟨g, 0, none⟩), .int .i64 14] ?_; (with_reducible refine (spec_l1Cur_pick.calls g s0_0 t287 t288 14 t290 t291 t292 w0 _ ?s1 ?s2 A4.out).mono ?_); (case s1 => exact st47_2 HI0.out NB0_282.out NB0_289.out); (case s2 => exact bl47_2 HB.out HI0.out GE282.out GE289.out); rintro e w52 ⟨rfl, hi, hb, hk⟩; refine ⟨_, rfl, ?_⟩; replace BK282 := kR hk BK282; replace HO286 := rK (IsS47.apart (show IsS47 w0 _ g s0_0 t287 t288 from by exact st47_2 HI0.out NB0_282.out NB0_289.out) (rFg HO286 BK289) (by decide)) hk; replace BK289 := kR hk BK289; replace HK := kT (by exact kb47_2 HK.out GW282.out GW289.out) hk; replace HI0 := mkA (hi); replace HB := mkA (hb); (try clear hb); (try clear hk); (try clear hi); obtain ⟨_, _, _, _⟩ := blk2 BK289))
     replace HO286 := mkA (Kd.R_drew HO286.out)
     replace BK282 := mkA (blk_drew BK282.out)
     replace BK289 := mkA (blk_drew BK289.out)
     replace HI0 := mkA (IsS47.drew HI0.out)
     replace HK := mkA (keep_drew HK.out)
     replace HB := mkA (below_drew1 HB.out)
     refine start_ (n := 15) (S := fun w' => w'.cell? ⟨gb289, 0, none⟩ = some (.int .i64 t283) ∧ w'.cell? ⟨gb289, 1, none⟩ = some (.slice Ao51 t284.length co51)) (ds := [14]) (bm 15 0) (by kernel_rfl) rfl rfl ⟨(blk_cell BK289.out 0).trans rfl, (blk_cell BK289.out 1).trans rfl⟩ (fun hHeld => ?_); refine with_tabW spec_l1Cur_anyOrder.tab9 spec_l1Cur_anyOrder.bits9 (fun HT_ HW_ => ?_)
     generalize w52.drew = w54 at HO286 BK282 BK289 HI0 HK HB hHeld ⊢
     refine purW 0 28 15 1 HT_ ?_
     refine purW 2 30 15 5 HT_ ?_
     refine purW 3 31 15 13 HT_ ?_
     refine purW 7 35 15 141 HT_ ?_
     refine purW 8 36 15 397 HT_ ?_
     refine takeW 1 (some 29) (bm 15 399) HT_ HW_ hHeld ?_
     refine takeW 4 (some 32) (bm 15 415) HT_ HW_ hHeld ?_
     refine purW 5 33 15 447 HT_ ?_
     refine takeW 9 (some 37) (bm 15 959) HT_ HW_ hHeld ?_
     refine purW 10 38 15 1983 HT_ ?_
     refine join_ (σ := Value) 3 (bm 15 4095) (fun s_ => [(34, .int .i64 t305), (39, s_)]) (fun s_ w' => (w'.cell? ⟨gb289, 0, none⟩ = some (.int .i64 t283) ∧ w'.cell? ⟨gb289, 1, none⟩ = some (.slice Ao51 t284.length co51)) ∧ (Kd.R (Kd.int .i64) 3 w' w.heap.size (fun k_ => some k_ ≠ (s_ : Value).ownBlock) (.slice Ao51 t284.length co51) t284) ∧ (Kd.R (Kd.int .i64) 3 w' w.heap.size (fun k_ => some k_ ≠ (.slice Ao51 t284.length co51 : Value).ownBlock) s_ y308) ∧ (w'.heap[gb282]? = some (.cells #[.int .i64 0, .slice none 0 0] 26 (0, 0))) ∧ (w'.heap[gb289]? = some (.cells #[.int .i64 t283, .slice Ao51 t284.length co51] 26 (0, 0))) ∧ (IsS47 w0 w' g s0_0 t306 t307) ∧ (KeepBut w w' g none) ∧ (Below w0.heap.size w0 w')) ?_ ?_
     rotate_left
     ·intro hCont
      refine two_ (i := 6) (j := 11) (Ni := some 34) (Nj := some 39) (bm 15 2047) (bm 15 4031) rfl rfl rfl rfl (two_of HT_.out (by kernel_rfl)) (by decide) (by decide) (fun K hK => ?_) (fun K hK => ?_)
      ·skip
       refine goesR Tryd.func41 #[.pointer (some ⟨g, 0, none⟩), .int .i64 (t284.length : Int)] ?_
       with_reducible refine (spec_l1Cur_pick.calls g s0_0 t291 t292 (t284.length : Int) t305 t306 t307 w0 _ ?s1 ?s2 A38.out).mono ?_
       (case s1 => exact st47_2 HI0.out NB0_282.out NB0_289.out)
       (case s2 => exact bl47_2 HB.out HI0.out GE282.out GE289.out)
       rintro e w55 ⟨rfl, hi, hb, hk⟩
       refine ⟨_, rfl, ?_⟩
       replace BK282 := kB hk BK282
       replace HO286 := rK (IsS47.apart (show IsS47 w0 _ g s0_0 t291 t292 from by exact st47_2 HI0.out NB0_282.out NB0_289.out) (Kd.R_g HO286.out) (by decide)) hk
       replace BK289 := kB hk BK289
       replace HK := kT (by exact kb47_2 HK.out GW282.out GW289.out) hk
       replace HI0 := mkA (hi)
       replace HB := mkA (hb)
       (try clear hb)
       (try clear hb2)
       (try clear hk)
       (try clear hi)
       refine hK.out _ _ ⟨(blk_cell BK289.out 0).trans rfl, (blk_cell BK289.out 1).trans rfl⟩ (fun hHeld => ?_)
       clear hK K
       refine normW 34 ?_
       refine oneW 11 (some 39) (bm 15 4095) HT_ (fun K hK => ?_)
       refine Kd.R_lit_step (Kd.int .i64) _ 3 ?hg (N := 39) ?hd (xs := ([(-1), 0, 1, ji40] : List Int)) (inner := [.int .i64 (-1), .int .i64 0, .int .i64 1, .int .i64 ji40]) (ok := fun _ => True) (okp := fun _ => True) ?hr ?hp (fun _ hk => hk) trivial (Below.refl _ _) (Nat.le_refl _) (by simp) ?_; (case hd => rfl); (case hg => rfl); (case hr => first | (go_simp; done) | (go_simp; rfl)); (case hp => exact (Reps.one (show Kd.M (Kd.int .i64) _ _ _ (-1) [.int .i64 (-1)] from rfl) (Reps.one (show Kd.M (Kd.int .i64) _ _ _ 0 [.int .i64 0] from rfl) (Reps.one (show Kd.M (Kd.int .i64) _ _ _ 1 [.int .i64 1] from rfl) (Reps.one (show Kd.M (Kd.int .i64) _ _ _ ji40 [.int .i64 ji40] from rfl) (Reps.none _ _))))))
       intro v309 w56 ho57 hb hg_ hnew_
       clear hg_ hnew_
       (first | rw [← Ny308.out] at ho57 | (simp only [Int.reduceToNat] at ho57; rw [← Ny308.out] at ho57))
       have HO310 := mkA (Kd.R_lower (Kd.R_new' ho57 (Kd.R_lt (Kd.R_g HO286.out))) (keep_size (w := w) (g := g) (row := none) (by exact kb47_2 HK.out GW282.out GW289.out)))
       replace HO286 := mkA (Kd.R_elder' (Kd.R_g HO286.out) (Kd.R_base ho57) hb)
       replace BK282 := blkB BK282 hb
       replace BK289 := blkB BK289 hb
       replace HK := kU (g := g) (by exact kb47_2 HK.out GW282.out GW289.out) hb
       replace HB := mkA (below_step (by exact bl47_2 HB.out HI0.out GE282.out GE289.out) hb)
       replace HI0 := mkA (IsS47.below (by exact st47_2 HI0.out NB0_282.out NB0_289.out) hb)
       clear hb ho57
       refine hK.out _ _ ⟨(blk_cell BK289.out 0).trans rfl, (blk_cell BK289.out 1).trans rfl⟩ (fun hHeld => ?_)
       clear hK K
       refine normW 39 ?_
       exact norm_ (by simp only [putAll, Act.put, List.setIfInBounds_toArray, List.set_cons_zero, List.set_cons_succ]) (hCont (v309) _ ⟨hHeld, (Kd.R_g (Kd.R_mono HO286.out (fun _ hk => hk.2))), (Kd.R_g (Kd.R_mono HO310.out (fun _ hk => hk.2))), (blk_g BK282.out), (blk_g BK289.out), (by exact st47_2 HI0.out NB0_282.out NB0_289.out), (by exact kb47_2 HK.out GW282.out GW289.out), (by exact bl47_2 HB.out HI0.out GE282.out GE289.out)⟩)
      ·skip
       refine Kd.R_lit_step (Kd.int .i64) _ 3 ?hg (N := 39) ?hd (xs := ([(-1), 0, 1, ji40] : List Int)) (inner := [.int .i64 (-1), .int .i64 0, .int .i64 1, .int .i64 ji40]) (ok := fun _ => True) (okp := fun _ => True) ?hr ?hp (fun _ hk => hk) trivial (Below.refl _ _) (Nat.le_refl _) (by simp) ?_; (case hd => rfl); (case hg => rfl); (case hr => first | (go_simp; done) | (go_simp; rfl)); (case hp => exact (Reps.one (show Kd.M (Kd.int .i64) _ _ _ (-1) [.int .i64 (-1)] from rfl) (Reps.one (show Kd.M (Kd.int .i64) _ _ _ 0 [.int .i64 0] from rfl) (Reps.one (show Kd.M (Kd.int .i64) _ _ _ 1 [.int .i64 1] from rfl) (Reps.one (show Kd.M (Kd.int .i64) _ _ _ ji40 [.int .i64 ji40] from rfl) (Reps.none _ _))))))
       intro v309 w55 ho56 hb hg_ hnew_
       clear hg_ hnew_
       (first | rw [← Ny308.out] at ho56 | (simp only [Int.reduceToNat] at ho56; rw [← Ny308.out] at ho56))
       have HO310 := mkA (Kd.R_lower (Kd.R_new' ho56 (Kd.R_lt (Kd.R_g HO286.out))) (keep_size (w := w) (g := g) (row := none) (by exact kb47_2 HK.out GW282.out GW289.out)))
       replace HO286 := mkA (Kd.R_elder' (Kd.R_g HO286.out) (Kd.R_base ho56) hb)
       replace BK282 := blkB BK282 hb
       replace BK289 := blkB BK289 hb
       replace HK := kU (g := g) (by exact kb47_2 HK.out GW282.out GW289.out) hb
       replace HB := mkA (below_step (by exact bl47_2 HB.out HI0.out GE282.out GE289.out) hb)
       replace HI0 := mkA (IsS47.below (by exact st47_2 HI0.out NB0_282.out NB0_289.out) hb)
       clear hb ho56
       refine hK.out _ _ ⟨(blk_cell BK289.out 0).trans rfl, (blk_cell BK289.out 1).trans rfl⟩ (fun hHeld => ?_)
       clear hK K
       refine normW 39 ?_
       refine oneW 6 (some 34) (bm 15 4095) HT_ (fun K hK => ?_)
       refine goesR Tryd.func41 #[.pointer (some ⟨g, 0, none⟩), .int .i64 (t284.length : Int)] ?_
       with_reducible refine (spec_l1Cur_pick.calls g s0_0 t291 t292 (t284.length : Int) t305 t306 t307 w0 _ ?s1 ?s2 A38.out).mono ?_
       (case s1 => exact st47_2 HI0.out NB0_282.out NB0_289.out)
       (case s2 => exact bl47_2 HB.out HI0.out GE282.out GE289.out)
       rintro e w57 ⟨rfl, hi, hb, hk⟩
       refine ⟨_, rfl, ?_⟩
       replace BK282 := kB hk BK282
       replace HO286 := rK (IsS47.apart (show IsS47 w0 _ g s0_0 t291 t292 from by exact st47_2 HI0.out NB0_282.out NB0_289.out) (Kd.R_g HO286.out) (by decide)) hk
       replace BK289 := kB hk BK289
       replace HO310 := rK (IsS47.apart (show IsS47 w0 _ g s0_0 t291 t292 from by exact st47_2 HI0.out NB0_282.out NB0_289.out) (Kd.R_g HO310.out) (by decide)) hk
       replace HK := kT (by exact kb47_2 HK.out GW282.out GW289.out) hk
       replace HI0 := mkA (hi)
       replace HB := mkA (hb)
       (try clear hb)
       (try clear hb2)
       (try clear hk)
       (try clear hi)
       refine hK.out _ _ ⟨(blk_cell BK289.out 0).trans rfl, (blk_cell BK289.out 1).trans rfl⟩ (fun hHeld => ?_)
       clear hK K
       refine normW 34 ?_
       exact norm_ (by simp only [putAll, Act.put, List.setIfInBounds_toArray, List.set_cons_zero, List.set_cons_succ]) (hCont (v309) _ ⟨hHeld, (Kd.R_g (Kd.R_mono HO286.out (fun _ hk => hk.2))), (Kd.R_g (Kd.R_mono HO310.out (fun _ hk => hk.2))), (blk_g BK282.out), (blk_g BK289.out), (by exact st47_2 HI0.out NB0_282.out NB0_289.out), (by exact kb47_2 HK.out GW282.out GW289.out), (by exact bl47_2 HB.out HI0.out GE282.out GE289.out)⟩)
     rintro v309 w58 ⟨hS_, h0_, h1_, h2_, h3_, h4_, h5_, h6_⟩
     have n0_ : Fc (Kd.R (Kd.int .i64) 3 w58 w.heap.size (fun k_ => some k_ ≠ (v309 : Value).ownBlock) (.slice Ao51 t284.length co51) t284) := ⟨h0_⟩
     have n1_ : Fc (Kd.R (Kd.int .i64) 3 w58 w.heap.size (fun k_ => some k_ ≠ (.slice Ao51 t284.length co51 : Value).ownBlock) v309 y308) := ⟨h1_⟩
     have n2_ : Fc (w58.heap[gb282]? = some (.cells #[.int .i64 0, .slice none 0 0] 26 (0, 0))) := ⟨h2_⟩
     have n3_ : Fc (w58.heap[gb289]? = some (.cells #[.int .i64 t283, .slice Ao51 t284.length co51] 26 (0, 0))) := ⟨h3_⟩
     have n4_ : Fc (IsS47 w0 w58 g s0_0 t306 t307) := ⟨h4_⟩
     have n5_ : Fc (KeepBut w w58 g none) := ⟨h5_⟩
     have n6_ : Fc (Below w0.heap.size w0 w58) := ⟨h6_⟩
     clear HO286
     clear BK282
     clear BK289
     clear HI0
     clear HK
     clear HB
     clear h0_ h1_ h2_ h3_ h4_ h5_ h6_
     have HO286 := n0_
     have HO310 := n1_
     have BK282 := n2_
     have BK289 := n3_
     have HI0 := n4_
     have HK := n5_
     have HB := n6_
     clear n0_ n1_ n2_ n3_ n4_ n5_ n6_
     have hHeld : w58.cell? ⟨gb289, 0, none⟩ = some (.int .i64 t283) ∧ w58.cell? ⟨gb289, 1, none⟩ = some (.slice Ao51 t284.length co51) := hS_
     obtain ⟨Ao59, co59, eo59⟩ := Kd.R_slice HO310.out
     (first | subst eo59 | (injection eo59 with f1_ f2_ f3_; have f4_ := f1_.symm; have f5_ := f3_.symm; clear f1_ f2_ f3_; subst f4_; subst f5_))
     refine norm_ (a' := ?_) ?_ ?_
     rotate_left
     ·simp only [putAll, Act.put, List.setIfInBounds_toArray, List.set_cons_zero, List.set_cons_succ]
      rfl
     refine oneW 12 (some 40) (bm 15 8191) HT_ (fun K hK => ?_)
     refine goesR Tryd.func40 #[.pointer (some ⟨g, 0, none⟩), .slice Ao59 y308.length co59] ?_
     with_reducible refine (spec_l1Cur_among.calls g s0_0 t306 t307 _ _ y308 t311 t312 t313 w0 _ ?s1 ?s2 ?s3 ?s4 ?s5 A41.out).mono ?_
     (case s1 => exact st47_2 HI0.out NB0_282.out NB0_289.out)
     (case s2 => exact bl47_2 HB.out HI0.out GE282.out GE289.out)
     (case s3 => exact rC HO310)
     (case s4 => exact rL HO310)
     (case s5 => exact far_slice (IsS47.own_ne HI0.out HO310.out (by decide)))
     rintro e w60 ⟨rfl, hi, hb, hk⟩
     refine ⟨_, rfl, ?_⟩
     replace BK282 := kB hk BK282
     replace HO286 := rK (IsS47.apart (show IsS47 w0 _ g s0_0 t306 t307 from by exact st47_2 HI0.out NB0_282.out NB0_289.out) (Kd.R_g HO286.out) (by decide)) hk
     replace BK289 := kB hk BK289
     replace HO310 := rK (IsS47.apart (show IsS47 w0 _ g s0_0 t306 t307 from by exact st47_2 HI0.out NB0_282.out NB0_289.out) (Kd.R_g HO310.out) (by decide)) hk
     replace HK := kT (by exact kb47_2 HK.out GW282.out GW289.out) hk
     replace HI0 := mkA (hi)
     replace HB := mkA (hb)
     (try clear hb)
     (try clear hb2)
     (try clear hk)
     (try clear hi)
     have p44 : 0 ≤ (t305 : Int) := ofd
     have q44 : (t305 : Int) < ((t284.length : Int) : Int) := ofd
     obtain ⟨go44, co44, eo44, gb44, gl44, cl44, HG44⟩ := Kd.R_form HO286.out (by omega)
     (first | cases eo44 | (injection eo44 with ea_ en_ ec_; (first | subst ea_ | (injection ea_ with ea_; subst ea_)); subst ec_; clear en_))
     have GB44 : Ge _ _ := ⟨gb44⟩
     have GG44 := mkA HG44
     clear gb44 gl44 HG44
     obtain ⟨hx44_0, hf44_0⟩ := Kd.R_celln 0 HO286.out (t305 : Int) p44 q44
     replace p44 := eq_true p44
     replace q44 := eq_true q44
     have HN0_go44 := mkA (show g ≠ go44 from by have h_ := IsS47.own_ne HI0.out HO286.out (by decide); intro e_; exact h_ (by rw [e_]; rfl))
     have HP61 := Kd.R_putn HO286.out (t305 : Int) t311
     rw [← Ny314.out] at HP61
     have HQ61 := mkA HP61
     clear HP61
     refine hK.out _ _ ⟨(blk_cell BK289.out 0).trans rfl, (blk_cell BK289.out 1).trans rfl⟩ (fun hHeld => ?_)
     clear hK K
     refine normW 40 ?_
     refine purW 13 41 15 16383 HT_ ?_
     refine last_ (i := 14) (N := none) (bm 15 32767) rfl rfl (one_of HT_.out (by kernel_rfl)) (by decide) (fun K hK => ?_)
     refine skip_ (w1 := ?_) (by rfl) rfl ?_ ?_
     rotate_left
     ·go_simp
      rfl
     refine hK.out _ _ ?_
     clear hK K
     refine doneW HT_ ?_
     have n0_ : Fc (Kd.R (Kd.int .i64) 3 (w60.setCell ⟨go44, (t305 : Int).toNat, none⟩ (.int .i64 t311)) w.heap.size (fun k_ => some k_ ≠ (.slice Ao59 y308.length co59 : Value).ownBlock) (.slice (some ⟨go44, 0, none⟩) t284.length co51) y314) := ⟨Kd.R_g HQ61.out⟩
     have n1_ : Fc (Kd.R (Kd.int .i64) 3 (w60.setCell ⟨go44, (t305 : Int).toNat, none⟩ (.int .i64 t311)) w.heap.size (fun k_ => some k_ ≠ (.slice (some ⟨go44, 0, none⟩) t284.length co51 : Value).ownBlock) (.slice Ao59 y308.length co59) y308) := ⟨Kd.R_g (Kd.R_mono (Kd.R_far (p := ⟨go44, (t305 : Int).toNat, none⟩) (Kd.R_mono HO310.out (fun k_ hk => (⟨hk, fun e_ => hk (by rw [e_]; rfl)⟩ : _ ∧ k_ ≠ go44))) (fun _ hk => hk.2) (.int .i64 t311)) (fun _ hk => hk.1))⟩
     have n2_ : Fc ((w60.setCell ⟨go44, (t305 : Int).toNat, none⟩ (.int .i64 t311)).heap[gb282]? = some (.cells #[.int .i64 0, .slice none 0 0] 26 (0, 0))) := ⟨by (with_reducible repeat (first | refine blk_drewN ?_ _ | refine blk_drew ?_ | refine blk_alloc ?_ _)); refine blk_far ?_ (by have h_ := Kd.R_ne HO286.out BK282.out (by decide); intro e_; exact h_ (by rw [e_]; rfl)) _; (with_reducible repeat (first | refine blk_drewN ?_ _ | refine blk_drew ?_ | refine blk_alloc ?_ _)); exact BK282.out⟩
     have n3_ : Fc ((w60.setCell ⟨go44, (t305 : Int).toNat, none⟩ (.int .i64 t311)).heap[gb289]? = some (.cells #[.int .i64 t283, .slice (some ⟨go44, 0, none⟩) t284.length co51] 26 (0, 0))) := ⟨by (with_reducible repeat (first | refine blk_drewN ?_ _ | refine blk_drew ?_ | refine blk_alloc ?_ _)); refine blk_far ?_ (by have h_ := Kd.R_ne HO286.out BK289.out (by decide); intro e_; exact h_ (by rw [e_]; rfl)) _; (with_reducible repeat (first | refine blk_drewN ?_ _ | refine blk_drew ?_ | refine blk_alloc ?_ _)); exact BK289.out⟩
     have n4_ : Fc (IsS47 w0 (w60.setCell ⟨go44, (t305 : Int).toNat, none⟩ (.int .i64 t311)) g s0_0 t312 t313) := ⟨by exact st47_3 HI0.out HN0_go44.out NB0_282.out NB0_289.out⟩
     have n5_ : Fc (KeepBut w (w60.setCell ⟨go44, (t305 : Int).toNat, none⟩ (.int .i64 t311)) g none) := ⟨by exact kb47_3 HK.out GB44.out GW282.out GW289.out⟩
     have n6_ : Fc (Below w0.heap.size w0 (w60.setCell ⟨go44, (t305 : Int).toNat, none⟩ (.int .i64 t311))) := ⟨by repeat (first | (with_reducible first | exact HB.out | apply below_alloc | apply pw_below_drewN | apply below_drew1 | refine below_set ?_ (Nat.le_trans HL.out GB44.out) | refine below_set ?_ (IsS47.ge HI0.out) | refine below_set ?_ GE282.out | refine below_set ?_ GE289.out) | exact HB.out)⟩
     (try clear HO286)
     (try clear HO310)
     (try clear BK282)
     (try clear BK289)
     (try clear HI0)
     (try clear HK)
     (try clear HB)
     generalize (w60.setCell ⟨go44, (t305 : Int).toNat, none⟩ (.int .i64 t311)) = w62 at n0_ n1_ n2_ n3_ n4_ n5_ n6_ ⊢
     have HO286 := n0_
     have HO310 := n1_
     have BK282 := n2_
     have BK289 := n3_
     have HI0 := n4_
     have HK := n5_
     have HB := n6_
     clear n0_ n1_ n2_ n3_ n4_ n5_ n6_
     obtain ⟨_, _, _, _⟩ := blk2 BK289
     obtain ⟨_, _, _, _⟩ := blk2 BK282
     try go_wp2
     refine bodyPost_ret (results_cell_row rfl _ _ gb282 26 #[.int .i64 t283, .slice (some ⟨go44, 0, none⟩) t284.length co51] (0, 0) _ rfl (blkT BK282) Tryd.underlying26 rfl (by kernel_rfl)) rfl ?_
     exact ⟨_, by first | rfl | (simp [errW_none, errW_some] <;> rfl) | (simp only [← hji40]; first | rfl | (simp [errW_none, errW_some] <;> rfl)) | (simp [*, errW_none, errW_some] <;> rfl), by (with_reducible repeat (first | apply Kd.R_alloc | apply Kd.R_drewN | apply Kd.R_drew)); exact Kd.R_mono (rF HO286 BK282) (fun _ _ => trivial), by exact st47_2 HI0.out NB0_282.out NB0_289.out, by exact bl47_2 HB.out HI0.out GE282.out GE289.out, by exact kb47_2 HK.out GW282.out GW289.out⟩
    ·have c37b0 : decide (0 < (t284.length : Int)) = false := decide_eq_false c37
     have c37b1 : decide (0 < t284.length) = false := decide_eq_false (by omega)
     clear c37
     simp only [Option.some.injEq, Prod.mk.injEq] at H
     obtain ⟨rfl, rfl, rfl, rfl⟩ := H
     go_enter Tryd.func49, Tryd.ntmps49
     go_wp2_with (first | ((with_reducible refine gate_dst (N := 4) rfl ?_); refine boxE (N := 4) (cs := #[.int .i64 0, .slice none 0 0]) (t := 26) ?_; intro gb282 hg w66 hbox hb; have BK282 := mkA (hbox); have GW282 := mkA ((by rw [hg]; exact (keep_size (w := w) (g := g) (row := none) (by exact kb47_0 HK.out)) : w.heap.size ≤ gb282)); have GE282 := mkA (Nat.le_trans HW0.out GW282.out); replace HK := kU (g := g) (by exact kb47_0 HK.out) hb; have NB0_282 : NeB _ _ := ⟨(by rw [hg]; exact Nat.ne_of_lt (IsS47.lt (show IsS47 w0 _ g s0_0 s0_1 s0_2 from by exact st47_0 HI0.out)) : g ≠ gb282)⟩; have NB282_0 : NeB _ _ := ⟨(by rw [hg]; exact Nat.ne_of_gt (IsS47.lt (show IsS47 w0 _ g s0_0 s0_1 s0_2 from by exact st47_0 HI0.out)) : gb282 ≠ g)⟩; replace HB := mkA (below_step (by exact bl47_0 HB.out HI0.out) hb); replace HI0 := mkA (IsS47.below (by exact st47_0 HI0.out) hb); clear hb hbox hg) | ((with_reducible refine gate_callee (f := 62) rfl ?_); refine goesQ (some 8) Tryd.func62 #[.pointer (some ⟨g, 0, none⟩), .int .i64 a1] ?_; (with_reducible refine (spec_l1Cur_order.calls k g s0_0 s0_1 s0_2 a1 t283 t284 t287 t288 w0 _ ?s1 ?s2 A3.out).mono ?_); (case s1 => exact st47_1 HI0.out NB0_282.out); (case s2 => exact bl47_1 HB.out HI0.out GE282.out); rintro e w67 ⟨v285, rfl, ho0, hi, hb, hk⟩; refine ⟨_, rfl, ?_⟩; replace BK282 := kB hk BK282; have HO286 := mkA (Kd.R_lower ho0 (keep_size (w := w) (g := g) (row := none) (by exact kb47_1 HK.out GW282.out))); replace HK := kT (by exact kb47_1 HK.out GW282.out) hk; replace HI0 := mkA (hi); replace HB := mkA (hb); (try clear hb); (try clear hk); (try clear hi); (try clear ho0)) | ((with_reducible refine gate_dst (N := 5) rfl ?_); refine boxE (N := 5) (cs := #[.int .i64 0, .slice none 0 0]) (t := 26) ?_; intro gb289 hg w68 hbox hb; replace HO286 := rB HO286 hb; have BK289 := mkA (hbox); have GW289 := mkA ((by rw [hg]; exact (keep_size (w := w) (g := g) (row := none) (by exact kb47_1 HK.out GW282.out)) : w.heap.size ≤ gb289)); have GE289 := mkA (Nat.le_trans HW0.out GW289.out); replace HK := kU (g := g) (by exact kb47_1 HK.out GW282.out) hb; have NB282_289 := neL7 BK282 hg; have NB289_282 := neR7 BK282 hg; replace BK282 := blkB BK282 hb; have NB0_289 : NeB _ _ := ⟨(by rw [hg]; exact Nat.ne_of_lt (IsS47.lt (show IsS47 w0 _ g s0_0 t287 t288 from by exact st47_1 HI0.out NB0_282.out)) : g ≠ gb289)⟩; have NB289_0 : NeB _ _ := ⟨(by rw [hg]; exact Nat.ne_of_gt (IsS47.lt (show IsS47 w0 _ g s0_0 t287 t288 from by exact st47_1 HI0.out NB0_282.out)) : gb289 ≠ g)⟩; replace HB := mkA (below_step (by exact bl47_1 HB.out HI0.out GE282.out) hb); replace HI0 := mkA (IsS47.below (by exact st47_1 HI0.out NB0_282.out) hb); clear hb hbox hg; obtain ⟨_, _, _, _⟩ := blk2 BK289; obtain ⟨Ao72, co72, eo72⟩ := Kd.R_slice HO286.out; subst eo72) | ((with_reducible refine gate_callee (f := 41) rfl ?_); refine goesQ (some 10) Tryd.func41 #[.pointer (some ⟨g, 0, none⟩), .int .i64 14] ?_; (with_reducible refine (spec_l1Cur_pick.calls g s0_0 t287 t288 14 t290 t291 t292 w0 _ ?s1 ?s2 A4.out).mono ?_); (case s1 => exact st47_2 HI0.out NB0_282.out NB0_289.out); (case s2 => exact bl47_2 HB.out HI0.out GE282.out GE289.out); rintro e w73 ⟨rfl, hi, hb, hk⟩; refine ⟨_, rfl, ?_⟩; replace BK282 := kR hk BK282; replace HO286 := rK (IsS47.apart (show IsS47 w0 _ g s0_0 t287 t288 from by exact st47_2 HI0.out NB0_282.out NB0_289.out) (rFg HO286 BK289) (by decide)) hk; replace BK289 := kR hk BK289; replace HK := kT (by exact kb47_2 HK.out GW282.out GW289.out) hk; replace HI0 := mkA (hi); replace HB := mkA (hb); (try clear hb); (try clear hk); (try clear hi); obtain ⟨_, _, _, _⟩ := blk2 BK289; obtain ⟨_, _, _, _⟩ := blk2 BK282))
     refine bodyPost_ret (results_cell_row rfl _ _ gb282 26 #[.int .i64 t283, .slice Ao72 t284.length co72] (0, 0) _ rfl (blkT BK282) Tryd.underlying26 rfl (by kernel_rfl)) rfl ?_
     exact ⟨_, eqE, by (with_reducible repeat (first | apply Kd.R_alloc | apply Kd.R_drewN | apply Kd.R_drew)); exact Kd.R_mono (rF HO286 BK282) (fun _ _ => trivial), by exact st47_2 HI0.out NB0_282.out NB0_289.out, by exact bl47_2 HB.out HI0.out GE282.out GE289.out, by exact kb47_2 HK.out GW282.out GW289.out⟩
   ·have c36b0 : (t290 == 2) = false := beq_eq_false_iff_ne.mpr c36
    have c36b1 : (t290 != 2) = true := bne_iff_ne.mpr c36
    rcases iteP H with ⟨c77, H⟩ | ⟨c77, H⟩
    ·have c77b0 : (t290 == 3) = true := beq_iff_eq.mpr c77
     have c77b1 : (t290 != 3) = false := bne_eq_false_iff_eq.mpr c77
     clear c77
     obtain ⟨⟨t315, t316, t319, t320⟩, A78, H⟩ := obE H
     dsimp only at H
     simp only [Option.some.injEq, Prod.mk.injEq] at H
     obtain ⟨rfl, rfl, rfl, rfl⟩ := H
     go_enter Tryd.func49, Tryd.ntmps49
     go_wp2_with (first | ((with_reducible refine gate_dst (N := 4) rfl ?_); refine boxE (N := 4) (cs := #[.int .i64 0, .slice none 0 0]) (t := 26) ?_; intro gb282 hg w79 hbox hb; have BK282 := mkA (hbox); have GW282 := mkA ((by rw [hg]; exact (keep_size (w := w) (g := g) (row := none) (by exact kb47_0 HK.out)) : w.heap.size ≤ gb282)); have GE282 := mkA (Nat.le_trans HW0.out GW282.out); replace HK := kU (g := g) (by exact kb47_0 HK.out) hb; have NB0_282 : NeB _ _ := ⟨(by rw [hg]; exact Nat.ne_of_lt (IsS47.lt (show IsS47 w0 _ g s0_0 s0_1 s0_2 from by exact st47_0 HI0.out)) : g ≠ gb282)⟩; have NB282_0 : NeB _ _ := ⟨(by rw [hg]; exact Nat.ne_of_gt (IsS47.lt (show IsS47 w0 _ g s0_0 s0_1 s0_2 from by exact st47_0 HI0.out)) : gb282 ≠ g)⟩; replace HB := mkA (below_step (by exact bl47_0 HB.out HI0.out) hb); replace HI0 := mkA (IsS47.below (by exact st47_0 HI0.out) hb); clear hb hbox hg) | ((with_reducible refine gate_callee (f := 62) rfl ?_); refine goesQ (some 8) Tryd.func62 #[.pointer (some ⟨g, 0, none⟩), .int .i64 a1] ?_; (with_reducible refine (spec_l1Cur_order.calls k g s0_0 s0_1 s0_2 a1 t283 t284 t287 t288 w0 _ ?s1 ?s2 A3.out).mono ?_); (case s1 => exact st47_1 HI0.out NB0_282.out); (case s2 => exact bl47_1 HB.out HI0.out GE282.out); rintro e w80 ⟨v285, rfl, ho0, hi, hb, hk⟩; refine ⟨_, rfl, ?_⟩; replace BK282 := kB hk BK282; have HO286 := mkA (Kd.R_lower ho0 (keep_size (w := w) (g := g) (row := none) (by exact kb47_1 HK.out GW282.out))); replace HK := kT (by exact kb47_1 HK.out GW282.out) hk; replace HI0 := mkA (hi); replace HB := mkA (hb); (try clear hb); (try clear hk); (try clear hi); (try clear ho0)) | ((with_reducible refine gate_dst (N := 5) rfl ?_); refine boxE (N := 5) (cs := #[.int .i64 0, .slice none 0 0]) (t := 26) ?_; intro gb289 hg w81 hbox hb; replace HO286 := rB HO286 hb; have BK289 := mkA (hbox); have GW289 := mkA ((by rw [hg]; exact (keep_size (w := w) (g := g) (row := none) (by exact kb47_1 HK.out GW282.out)) : w.heap.size ≤ gb289)); have GE289 := mkA (Nat.le_trans HW0.out GW289.out); replace HK := kU (g := g) (by exact kb47_1 HK.out GW282.out) hb; have NB282_289 := neL7 BK282 hg; have NB289_282 := neR7 BK282 hg; replace BK282 := blkB BK282 hb; have NB0_289 : NeB _ _ := ⟨(by rw [hg]; exact Nat.ne_of_lt (IsS47.lt (show IsS47 w0 _ g s0_0 t287 t288 from by exact st47_1 HI0.out NB0_282.out)) : g ≠ gb289)⟩; have NB289_0 : NeB _ _ := ⟨(by rw [hg]; exact Nat.ne_of_gt (IsS47.lt (show IsS47 w0 _ g s0_0 t287 t288 from by exact st47_1 HI0.out NB0_282.out)) : gb289 ≠ g)⟩; replace HB := mkA (below_step (by exact bl47_1 HB.out HI0.out GE282.out) hb); replace HI0 := mkA (IsS47.below (by exact st47_1 HI0.out NB0_282.out) hb); clear hb hbox hg; obtain ⟨_, _, _, _⟩ := blk2 BK289; obtain ⟨Ao85, co85, eo85⟩ := Kd.R_slice HO286.out; subst eo85) | ((with_reducible refine gate_callee (f := 41) rfl ?_); refine goesQ (some 10) Tryd.func41 #[.pointer (some ⟨g, 0, none⟩), .int .i64 14] ?_; (with_reducible refine (spec_l1Cur_pick.calls g s0_0 t287 t288 14 t290 t291 t292 w0 _ ?s1 ?s2 A4.out).mono ?_); (case s1 => exact st47_2 HI0.out NB0_282.out NB0_289.out); (case s2 => exact bl47_2 HB.out HI0.out GE282.out GE289.out); rintro e w86 ⟨rfl, hi, hb, hk⟩; refine ⟨_, rfl, ?_⟩; replace BK282 := kR hk BK282; replace HO286 := rK (IsS47.apart (show IsS47 w0 _ g s0_0 t287 t288 from by exact st47_2 HI0.out NB0_282.out NB0_289.out) (rFg HO286 BK289) (by decide)) hk; replace BK289 := kR hk BK289; replace HK := kT (by exact kb47_2 HK.out GW282.out GW289.out) hk; replace HI0 := mkA (hi); replace HB := mkA (hb); (try clear hb); (try clear hk); (try clear hi)) | ((with_reducible refine gate_callee (f := 62) rfl ?_); refine goesQ (some 45) Tryd.func62 #[.pointer (some ⟨g, 0, none⟩), .int .i64 10] ?_; (with_reducible refine (spec_l1Cur_order.calls k g s0_0 t291 t292 10 t315 t316 t319 t320 w0 _ ?s1 ?s2 A78.out).mono ?_); (case s1 => exact st47_2 HI0.out NB0_282.out NB0_289.out); (case s2 => exact bl47_2 HB.out HI0.out GE282.out GE289.out); rintro e w87 ⟨v317, rfl, ho0, hi, hb, hk⟩; refine ⟨_, rfl, ?_⟩; replace BK282 := kB hk BK282; replace BK289 := kB hk BK289; have HO318 := mkA (Kd.R_lower (Kd.R_new' ho0 (Kd.R_lt (Kd.R_g HO286.out))) (keep_size (w := w) (g := g) (row := none) (by exact kb47_2 HK.out GW282.out GW289.out))); replace HO286 := mkA (Kd.R_mono (Kd.R_told (Kd.R_oldK (IsS47.apart (show IsS47 w0 _ g s0_0 t291 t292 from by exact st47_2 HI0.out NB0_282.out NB0_289.out) (Kd.R_g HO286.out) (by decide)) hk) (Kd.R_base ho0)) (fun _ h_ => h_.1)); replace HK := kT (by exact kb47_2 HK.out GW282.out GW289.out) hk; replace HI0 := mkA (hi); replace HB := mkA (hb); (try clear hb); (try clear hk); (try clear hi); (try clear ho0); obtain ⟨_, _, _, _⟩ := blk2 BK282; obtain ⟨Ao90, co90, eo90⟩ := Kd.R_slice HO318.out; subst eo90))
     refine bodyPost_ret (results_cell_row rfl _ _ gb282 26 #[.int .i64 t315, .slice Ao90 t316.length co90] (0, 0) _ rfl (blkT BK282) Tryd.underlying26 rfl (by kernel_rfl)) rfl ?_
     exact ⟨_, eqE, by (with_reducible repeat (first | apply Kd.R_alloc | apply Kd.R_drewN | apply Kd.R_drew)); exact Kd.R_mono (rF HO318 BK282) (fun _ _ => trivial), by exact st47_2 HI0.out NB0_282.out NB0_289.out, by exact bl47_2 HB.out HI0.out GE282.out GE289.out, by exact kb47_2 HK.out GW282.out GW289.out⟩
    ·have c77b0 : (t290 == 3) = false := beq_eq_false_iff_ne.mpr c77
     have c77b1 : (t290 != 3) = true := bne_iff_ne.mpr c77
     simp only [Option.some.injEq, Prod.mk.injEq] at H
     obtain ⟨rfl, rfl, rfl, rfl⟩ := H
     go_enter Tryd.func49, Tryd.ntmps49
     go_wp2_with (first | ((with_reducible refine gate_dst (N := 4) rfl ?_); refine boxE (N := 4) (cs := #[.int .i64 0, .slice none 0 0]) (t := 26) ?_; intro gb282 hg w91 hbox hb; have BK282 := mkA (hbox); have GW282 := mkA ((by rw [hg]; exact (keep_size (w := w) (g := g) (row := none) (by exact kb47_0 HK.out)) : w.heap.size ≤ gb282)); have GE282 := mkA (Nat.le_trans HW0.out GW282.out); replace HK := kU (g := g) (by exact kb47_0 HK.out) hb; have NB0_282 : NeB _ _ := ⟨(by rw [hg]; exact Nat.ne_of_lt (IsS47.lt (show IsS47 w0 _ g s0_0 s0_1 s0_2 from by exact st47_0 HI0.out)) : g ≠ gb282)⟩; have NB282_0 : NeB _ _ := ⟨(by rw [hg]; exact Nat.ne_of_gt (IsS47.lt (show IsS47 w0 _ g s0_0 s0_1 s0_2 from by exact st47_0 HI0.out)) : gb282 ≠ g)⟩; replace HB := mkA (below_step (by exact bl47_0 HB.out HI0.out) hb); replace HI0 := mkA (IsS47.below (by exact st47_0 HI0.out) hb); clear hb hbox hg) | ((with_reducible refine gate_callee (f := 62) rfl ?_); refine goesQ (some 8) Tryd.func62 #[.pointer (some ⟨g, 0, none⟩), .int .i64 a1] ?_; (with_reducible refine (spec_l1Cur_order.calls k g s0_0 s0_1 s0_2 a1 t283 t284 t287 t288 w0 _ ?s1 ?s2 A3.out).mono ?_); (case s1 => exact st47_1 HI0.out NB0_282.out); (case s2 => exact bl47_1 HB.out HI0.out GE282.out); rintro e w92 ⟨v285, rfl, ho0, hi, hb, hk⟩; refine ⟨_, rfl, ?_⟩; replace BK282 := kB hk BK282; have HO286 := mkA (Kd.R_lower ho0 (keep_size (w := w) (g := g) (row := none) (by exact kb47_1 HK.out GW282.out))); replace HK := kT (by exact kb47_1 HK.out GW282.out) hk; replace HI0 := mkA (hi); replace HB := mkA (hb); (try clear hb); (try clear hk); (try clear hi); (try clear ho0)) | ((with_reducible refine gate_dst (N := 5) rfl ?_); refine boxE (N := 5) (cs := #[.int .i64 0, .slice none 0 0]) (t := 26) ?_; intro gb289 hg w93 hbox hb; replace HO286 := rB HO286 hb; have BK289 := mkA (hbox); have GW289 := mkA ((by rw [hg]; exact (keep_size (w := w) (g := g) (row := none) (by exact kb47_1 HK.out GW282.out)) : w.heap.size ≤ gb289)); have GE289 := mkA (Nat.le_trans HW0.out GW289.out); replace HK := kU (g := g) (by exact kb47_1 HK.out GW282.out) hb; have NB282_289 := neL7 BK282 hg; have NB289_282 := neR7 BK282 hg; replace BK282 := blkB BK282 hb; have NB0_289 : NeB _ _ := ⟨(by rw [hg]; exact Nat.ne_of_lt (IsS47.lt (show IsS47 w0 _ g s0_0 t287 t288 from by exact st47_1 HI0.out NB0_282.out)) : g ≠ gb289)⟩; have NB289_0 : NeB _ _ := ⟨(by rw [hg]; exact Nat.ne_of_gt (IsS47.lt (show IsS47 w0 _ g s0_0 t287 t288 from by exact st47_1 HI0.out NB0_282.out)) : gb289 ≠ g)⟩; replace HB := mkA (below_step (by exact bl47_1 HB.out HI0.out GE282.out) hb); replace HI0 := mkA (IsS47.below (by exact st47_1 HI0.out NB0_282.out) hb); clear hb hbox hg; obtain ⟨_, _, _, _⟩ := blk2 BK289; obtain ⟨Ao97, co97, eo97⟩ := Kd.R_slice HO286.out; subst eo97) | ((with_reducible refine gate_callee (f := 41) rfl ?_); refine goesQ (some 10) Tryd.func41 #[.pointer (some ⟨g, 0, none⟩), .int .i64 14] ?_; (with_reducible refine (spec_l1Cur_pick.calls g s0_0 t287 t288 14 t290 t291 t292 w0 _ ?s1 ?s2 A4.out).mono ?_); (case s1 => exact st47_2 HI0.out NB0_282.out NB0_289.out); (case s2 => exact bl47_2 HB.out HI0.out GE282.out GE289.out); rintro e w98 ⟨rfl, hi, hb, hk⟩; refine ⟨_, rfl, ?_⟩; replace BK282 := kR hk BK282; replace HO286 := rK (IsS47.apart (show IsS47 w0 _ g s0_0 t287 t288 from by exact st47_2 HI0.out NB0_282.out NB0_289.out) (rFg HO286 BK289) (by decide)) hk; replace BK289 := kR hk BK289; replace HK := kT (by exact kb47_2 HK.out GW282.out GW289.out) hk; replace HI0 := mkA (hi); replace HB := mkA (hb); (try clear hb); (try clear hk); (try clear hi); obtain ⟨_, _, _, _⟩ := blk2 BK289; obtain ⟨_, _, _, _⟩ := blk2 BK282))
     refine bodyPost_ret (results_cell_row rfl _ _ gb282 26 #[.int .i64 t283, .slice Ao97 t284.length co97] (0, 0) _ rfl (blkT BK282) Tryd.underlying26 rfl (by kernel_rfl)) rfl ?_
     exact ⟨_, eqE, by (with_reducible repeat (first | apply Kd.R_alloc | apply Kd.R_drewN | apply Kd.R_drew)); exact Kd.R_mono (rF HO286 BK282) (fun _ _ => trivial), by exact st47_2 HI0.out NB0_282.out NB0_289.out, by exact bl47_2 HB.out HI0.out GE282.out GE289.out, by exact kb47_2 HK.out GW282.out GW289.out⟩
end Go.Proofs.YtgbdjchdfcodcaaDoor.Q
