import Derived.Test.YtlfjnllnddpgoaaDoorBFnStretchedIntervals12
namespace Go.Proofs.YtlfjnllnddpgoaaDoor.Q
open Go.RowKit Go.Proofs.YtlfjnllnddpgoaaDoorW.PrintWords Go.Proofs.YtlfjnllnddpgoaaDoorW.PrintLast Go.Proofs.YtlfjnllnddpgoaaDoorW.PrintMore
attribute [local go_sem] max2_int min2_int max_two min_two max_three min_three max_four min_four neB_f
set_option linter.unusedVariables false
set_option maxHeartbeats 8000000
set_option maxRecDepth 100000
set_option linter.unusedSimpArgs false
def spec_l1Cur_ended.j0 : Nat → Int → List (S37) → Bool → List Int → Int → Int → Option (Int × List Int × Int × Int)
 | 0, _, _, _, _, _, _ => none
 | k + 1, x1, x5, x15, x1000, x1001, x1002 => if x15 = true then ((spec_ivOrder.f k x5).bind fun bt392 => (some (bt392.1, bt392.2, x1001, x1002))) else ((spec_l1Cur_anyOrder.f k x1000 x1001 x1002 x1).bind fun bt396 => (some (bt396.1, bt396.2.1, bt396.2.2.1, bt396.2.2.2)))
def spec_l1Cur_ended.f (k : Nat) (s0_0 : List Int) (s0_1 : Int) (s0_2 : Int) (a1 : Int) : Option (Int × List Int × Int × Int) := (spec_l1Cur_intervals.f k s0_0 s0_1 s0_2 a1).bind fun bt383 => ((spec_ivGood.f k bt383.1).bind fun t388 => (if t388 = true then ((spec_l1Cur_one.f s0_0 bt383.2.1 bt383.2.2 4).bind fun bt389 => (spec_l1Cur_ended.j0 k a1 bt383.1 (!bt389.1) s0_0 bt389.2.1 bt389.2.2)) else (spec_l1Cur_ended.j0 k a1 bt383.1 false s0_0 bt383.2.1 bt383.2.2)))
theorem spec_l1Cur_ended.mono_l : ∀ k, (∀ y0 y1 y2 y3 y4 y5, LeO (spec_l1Cur_ended.j0 k y0 y1 y2 y3 y4 y5) (spec_l1Cur_ended.j0 (k + 1) y0 y1 y2 y3 y4 y5))
 | 0 => fun _ _ _ _ _ _ r h => by simp [spec_l1Cur_ended.j0] at h
 | k + 1 => by
  have ih0 := spec_l1Cur_ended.mono_l k
  ·intro y0 y1 y2 y3 y4 y5
   unfold spec_l1Cur_ended.j0
   repeat' (with_reducible first|apply ih0|apply spec_ivGood.mono|apply spec_ivOrder.mono|apply spec_l1Cur_anyOrder.mono|apply spec_l1Cur_intervals.mono|apply LeO.refl|apply LeO.none|apply LeO.ite|apply LeO.bind|intro)
theorem spec_l1Cur_ended.mono : ∀ a0 a1 a2 a3 k, LeO (spec_l1Cur_ended.f k a0 a1 a2 a3) (spec_l1Cur_ended.f (k + 1) a0 a1 a2 a3) := by
 intro a0 a1 a2 a3 k
 have ih0 := spec_l1Cur_ended.mono_l k
 unfold spec_l1Cur_ended.f
 repeat' (with_reducible first|apply ih0|apply spec_ivGood.mono|apply spec_ivOrder.mono|apply spec_l1Cur_anyOrder.mono|apply spec_l1Cur_intervals.mono|apply LeO.refl|apply LeO.none|apply LeO.ite|apply LeO.bind|intro)
theorem spec_l1Cur_ended.calls (k : Nat) (g : Nat) (s0_0 : List Int) (s0_1 : Int) (s0_2 : Int) (a1 : Int) (r1 : Int) (r2 : List Int) (r3 : Int) (r4 : Int) (w0 w : World) (hI : IsS49 w0 w g s0_0 s0_1 s0_2) (hB : Below w0.heap.size w0 w) (h : spec_l1Cur_ended.f k s0_0 s0_1 s0_2 a1 = some (r1, r2, r3, r4)) :
  Calls Tryd.prog 29 #[.pointer (some ⟨g, 0, none⟩), .int .i64 a1] w fun e w' => ∃ v1_ : Value, e = .returned (.agg #[.int .i64 r1, v1_]) ∧ Kd.R (Kd.int .i64) 3 w' w.heap.size (fun _ => True) v1_ r2 ∧ IsS49 w0 w' g s0_0 r3 r4 ∧ Below w0.heap.size w0 w' ∧ KeepBut w w' g none := by
 have hu32 := Tryd.underlying32
 have HI0 := mkA hI
 have HK := mkA (KeepBut.refl w g none)
 have HL := mkA hB.size
 clear hI
 have HW0 := mkA hB.size
 have HB := mkA hB
 clear hB
 have H := h
 clear h
 unfold spec_l1Cur_ended.f at H
 obtain ⟨⟨t383, t386, t387⟩, A3, H⟩ := obE H
 dsimp only at H
 have HC4 := mkA H
 clear H
 go_enter Tryd.func29, Tryd.ntmps29
 go_upto_region 2 with (first | ((with_reducible refine gate_dst (N := 4) rfl ?_); refine boxE (N := 4) (cs := #[.int .i64 0, .slice none 0 0]) (t := 32) ?_; intro gb382 hg w5 hbox hb; have BK382 := mkA (hbox); have GW382 := mkA ((by rw [hg]; exact (keep_size (w := w) (g := g) (row := none) (by exact kb49_0 HK.out)) : w.heap.size ≤ gb382)); have GE382 := mkA (Nat.le_trans HW0.out GW382.out); replace HK := kU (g := g) (by exact kb49_0 HK.out) hb; have NB0_382 : NeB _ _ := ⟨(by rw [hg]; exact Nat.ne_of_lt (IsS49.lt (show IsS49 w0 _ g s0_0 s0_1 s0_2 from by exact st49_0 HI0.out)) : g ≠ gb382)⟩; have NB382_0 : NeB _ _ := ⟨(by rw [hg]; exact Nat.ne_of_gt (IsS49.lt (show IsS49 w0 _ g s0_0 s0_1 s0_2 from by exact st49_0 HI0.out)) : gb382 ≠ g)⟩; replace HB := mkA (below_step (by exact bl49_0 HB.out HI0.out) hb); replace HI0 := mkA (IsS49.below (by exact st49_0 HI0.out) hb); clear hb hbox hg) | ((with_reducible refine gate_callee (f := 20) rfl ?_); refine goesQ (some 8) Tryd.func20 #[.pointer (some ⟨g, 0, none⟩), .int .i64 a1] ?_; (with_reducible refine (spec_l1Cur_intervals.calls k g s0_0 s0_1 s0_2 a1 t383 t386 t387 w0 _ ?_ ?_ A3.out).mono ?_); exact st49_1 HI0.out NB0_382.out; exact bl49_1 HB.out HI0.out GE382.out; rintro e w6 ⟨v384, rfl, ho0, hi, hb, hk⟩; refine ⟨_, rfl, ?_⟩; replace BK382 := kB hk BK382; have HO385 := mkA (Kd.R_lower ho0 (keep_size (w := w) (g := g) (row := none) (by exact kb49_1 HK.out GW382.out))); replace HK := kT (by exact kb49_1 HK.out GW382.out) hk; replace HI0 := mkA (hi); replace HB := mkA (hb); clear hb hk hi ho0))
 (try simp only [Act.put, List.setIfInBounds_toArray, List.set_cons_zero, List.set_cons_succ])
 go_cut [15] (fun v15 wc => ∃ (kq : Nat) (x15_3 : Bool) (x1001_3 : Int) (x1002_3 : Int), v15 = .bool x15_3 ∧ Fc (spec_l1Cur_ended.j0 kq a1 t383 x15_3 s0_0 x1001_3 x1002_3 = some (r1, r2, r3, r4)) ∧ Fc (kq ≤ k) ∧ Fc (Kd.R k37 37 wc w.heap.size (fun _ => True) v384 t383) ∧ Fc (wc.heap[gb382]? = some (.cells #[.int .i64 0, (.slice none 0 0)] 32 (0, 0))) ∧ Fc (IsS49 w0 wc g s0_0 x1001_3 x1002_3) ∧ Fc (KeepBut w wc g none) ∧ Fc (Below w0.heap.size w0 wc))
 case first =>
  have H := HC4.out
  clear HC4
  obtain ⟨t388, A7, H⟩ := obE H
  by_cases c8 : t388 = true
  ·subst c8
   replace H := ifT H
   obtain ⟨⟨t389, t390, t391⟩, A9, H⟩ := obE H
   dsimp only at H
   have H' := mkA H
   clear H
   obtain ⟨Ao10, co10, rfl⟩ := Kd.R_slice HO385.out
   go_wp2_with (first | ((with_reducible refine gate_callee (f := 24) rfl ?_); refine goesQ (some 10) Tryd.func24 #[.slice Ao10 t383.length co10] ?_; (with_reducible refine (spec_ivGood.calls k _ _ t383 true _ ?_ ?_ A7.out).mono ?_); exact rC HO385; exact rL HO385; rintro e w11 ⟨rfl, hb⟩; refine ⟨_, rfl, ?_⟩; replace HO385 := rB HO385 hb; replace BK382 := blkB BK382 hb; replace HK := kU (g := g) (by exact kb49_1 HK.out GW382.out) hb; replace HB := mkA (below_step (by exact bl49_1 HB.out HI0.out GE382.out) hb); replace HI0 := mkA (IsS49.below (by exact st49_1 HI0.out NB0_382.out) hb); clear hb) | (go_at_call 30; (with_reducible refine (spec_l1Cur_one.calls g s0_0 t386 t387 4 t389 t390 t391 w0 _ ?_ ?_ A9.out).mono ?_); exact st49_1 HI0.out NB0_382.out; exact bl49_1 HB.out HI0.out GE382.out; rintro e w12 ⟨rfl, hi, hb, hk⟩; replace BK382 := kB hk BK382; replace HO385 := rK (IsS49.apart (show IsS49 w0 _ g s0_0 t386 t387 from by exact st49_1 HI0.out NB0_382.out) (Kd.R_g HO385.out) (by decide)) hk; replace HK := kT (by exact kb49_1 HK.out GW382.out) hk; replace HI0 := mkA (hi); replace HB := mkA (hb); clear hb hk hi))
   go_meet
   case rel => exact ⟨_, (!t389), (t390), (t391), eqS, H', ⟨by first | omega | exact Nat.le_refl _⟩, rg HO385, bg BK382, ⟨by exact st49_1 HI0.out NB0_382.out⟩, ⟨by exact kb49_1 HK.out GW382.out⟩, ⟨by exact bl49_1 HB.out HI0.out GE382.out⟩⟩
  ·replace c8 := Bool.eq_false_iff.mpr c8
   subst c8
   replace H := ifF H
   have H' := mkA H
   clear H
   obtain ⟨Ao13, co13, rfl⟩ := Kd.R_slice HO385.out
   go_wp2_with (first | ((with_reducible refine gate_callee (f := 24) rfl ?_); refine goesQ (some 10) Tryd.func24 #[.slice Ao13 t383.length co13] ?_; (with_reducible refine (spec_ivGood.calls k _ _ t383 false _ ?_ ?_ A7.out).mono ?_); exact rC HO385; exact rL HO385; rintro e w14 ⟨rfl, hb⟩; refine ⟨_, rfl, ?_⟩; replace HO385 := rB HO385 hb; replace BK382 := blkB BK382 hb; replace HK := kU (g := g) (by exact kb49_1 HK.out GW382.out) hb; replace HB := mkA (below_step (by exact bl49_1 HB.out HI0.out GE382.out) hb); replace HI0 := mkA (IsS49.below (by exact st49_1 HI0.out NB0_382.out) hb); clear hb))
   go_meet
   case rel => exact ⟨_, (false), (t386), (t387), eqS, H', ⟨by first | omega | exact Nat.le_refl _⟩, rg HO385, bg BK382, ⟨by exact st49_1 HI0.out NB0_382.out⟩, ⟨by exact kb49_1 HK.out GW382.out⟩, ⟨by exact bl49_1 HB.out HI0.out GE382.out⟩⟩
 case rest =>
  clear HC4
  try clear c8
  obtain ⟨kq, x15_3, x1001_3, x1002_3, rfl, HA, HJ3, HO_5, BK382, HI0, HK, HB⟩ := hcut
  cases kq with
  | zero => exact absurd HA.out (by simp [spec_l1Cur_ended.j0])
  | succ kj3 =>
   have H := HA.out
   clear HA
   simp only [spec_l1Cur_ended.j0] at H
   by_cases c15 : x15_3 = true
   ·subst c15
    replace H := ifT H
    obtain ⟨⟨t392, t393⟩, A16, H⟩ := obE H
    dsimp only at H
    simp only [Option.some.injEq, Prod.mk.injEq] at H
    obtain ⟨rfl, rfl, rfl, rfl⟩ := H
    obtain ⟨Ao17, co17, rfl⟩ := Kd.R_slice HO_5.out
    go_wp2_with (first | ((with_reducible refine gate_callee (f := 34) rfl ?_); refine goesQ (some 17) Tryd.func34 #[.slice Ao17 t383.length co17] ?_; (with_reducible refine (spec_ivOrder.calls kj3 _ _ t383 t392 t393 _ ?_ ?_ A16.out).mono ?_); exact rC HO_5; exact rL HO_5; rintro e w18 ⟨v394, rfl, ho0, hb⟩; refine ⟨_, rfl, ?_⟩; replace HO_5 := rB HO_5 hb; have HO395 := mkA (Kd.R_lower ho0 (keep_size (w := w) (g := g) (row := none) (by exact kb49_1 HK.out GW382.out))); replace BK382 := blkB BK382 hb; replace HK := kU (g := g) (by exact kb49_1 HK.out GW382.out) hb; replace HB := mkA (below_step (by exact bl49_1 HB.out HI0.out GE382.out) hb); replace HI0 := mkA (IsS49.below (by exact st49_1 HI0.out NB0_382.out) hb); clear hb ho0; obtain ⟨_, _, _, _⟩ := blk2 BK382; obtain ⟨Ao21, co21, rfl⟩ := Kd.R_slice HO395.out))
    refine bodyPost_ret (results_cell_row rfl _ _ gb382 32 #[.int .i64 t392, .slice Ao21 t393.length co21] (0, 0) _ rfl (blkT BK382) Tryd.underlying32 rfl (by kernel_rfl)) rfl ?_
    exact ⟨_, eqE, Kd.R_g (Kd.R_mono (rF HO395 BK382) (fun _ _ => trivial)), by exact st49_1 HI0.out NB0_382.out, by exact bl49_1 HB.out HI0.out GE382.out, by exact kb49_1 HK.out GW382.out⟩
   ·replace c15 := Bool.eq_false_iff.mpr c15
    subst c15
    replace H := ifF H
    obtain ⟨⟨t396, t397, t400, t401⟩, A22, H⟩ := obE H
    dsimp only at H
    simp only [Option.some.injEq, Prod.mk.injEq] at H
    obtain ⟨rfl, rfl, rfl, rfl⟩ := H
    go_wp2_with (first | ((with_reducible refine gate_callee (f := 44) rfl ?_); refine goesQ (some 20) Tryd.func44 #[.pointer (some ⟨g, 0, none⟩), .int .i64 a1] ?_; (with_reducible refine (spec_l1Cur_anyOrder.calls kj3 g s0_0 x1001_3 x1002_3 a1 t396 t397 t400 t401 w0 _ ?_ ?_ A22.out).mono ?_); exact st49_1 HI0.out NB0_382.out; exact bl49_1 HB.out HI0.out GE382.out; rintro e w23 ⟨v398, rfl, ho0, hi, hb, hk⟩; refine ⟨_, rfl, ?_⟩; replace HO_5 := rK (IsS49.apart (show IsS49 w0 _ g s0_0 x1001_3 x1002_3 from by exact st49_1 HI0.out NB0_382.out) (Kd.R_g HO_5.out) (by decide)) hk; replace BK382 := kB hk BK382; have HO399 := mkA (Kd.R_lower ho0 (keep_size (w := w) (g := g) (row := none) (by exact kb49_1 HK.out GW382.out))); replace HK := kT (by exact kb49_1 HK.out GW382.out) hk; replace HI0 := mkA (hi); replace HB := mkA (hb); clear hb hk hi ho0; obtain ⟨_, _, _, _⟩ := blk2 BK382; obtain ⟨Ao26, co26, rfl⟩ := Kd.R_slice HO399.out))
    refine bodyPost_ret (results_cell_row rfl _ _ gb382 32 #[.int .i64 t396, .slice Ao26 t397.length co26] (0, 0) _ rfl (blkT BK382) Tryd.underlying32 rfl (by kernel_rfl)) rfl ?_
    exact ⟨_, eqE, Kd.R_g (Kd.R_mono (rF HO399 BK382) (fun _ _ => trivial)), by exact st49_1 HI0.out NB0_382.out, by exact bl49_1 HB.out HI0.out GE382.out, by exact kb49_1 HK.out GW382.out⟩
end Go.Proofs.YtlfjnllnddpgoaaDoor.Q
