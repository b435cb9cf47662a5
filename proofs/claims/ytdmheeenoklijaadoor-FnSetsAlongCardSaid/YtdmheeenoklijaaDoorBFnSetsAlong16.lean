import Derived.Test.YtdmheeenoklijaaDoorBFnSetsAlong15
namespace Go.Proofs.YtdmheeenoklijaaDoor.Q
open Go.RowKit Go.Proofs.YtdmheeenoklijaaDoorW.PrintWords Go.Proofs.YtdmheeenoklijaaDoorW.PrintLast Go.Proofs.YtdmheeenoklijaaDoorW.PrintMore
attribute [local go_sem] max2_int min2_int max_two min_two max_three min_three max_four min_four neB_f
set_option linter.unusedVariables false
set_option maxHeartbeats 8000000
set_option maxRecDepth 100000
set_option linter.unusedSimpArgs false
def spec_l1Cur_ended.j0 : Nat → Int → List (S39) → Bool → List Int → Int → Int → Option (Int × List Int × Int × Int)
 | 0, _, _, _, _, _, _ => none
 | k + 1, x1, x5, x15, x1000, x1001, x1002 => if x15 = true then ((spec_ivOrder.f k x5).bind fun bt292 => (some (bt292.1, bt292.2, x1001, x1002))) else ((spec_l1Cur_anyOrder.f k x1000 x1001 x1002 x1).bind fun bt296 => (some (bt296.1, bt296.2.1, bt296.2.2.1, bt296.2.2.2)))
def spec_l1Cur_ended.f (k : Nat) (s0_0 : List Int) (s0_1 : Int) (s0_2 : Int) (a1 : Int) : Option (Int × List Int × Int × Int) := (spec_l1Cur_intervals.f k s0_0 s0_1 s0_2 a1).bind fun bt283 => ((spec_ivGood.f k bt283.1).bind fun t288 => (if t288 = true then ((spec_l1Cur_one.f s0_0 bt283.2.1 bt283.2.2 4).bind fun bt289 => (spec_l1Cur_ended.j0 k a1 bt283.1 (!bt289.1) s0_0 bt289.2.1 bt289.2.2)) else (spec_l1Cur_ended.j0 k a1 bt283.1 false s0_0 bt283.2.1 bt283.2.2)))
theorem spec_l1Cur_ended.mono_l : ∀ k, (∀ y0 y1 y2 y3 y4 y5, LeO (spec_l1Cur_ended.j0 k y0 y1 y2 y3 y4 y5) (spec_l1Cur_ended.j0 (k + 1) y0 y1 y2 y3 y4 y5))
 | 0 => fun _ _ _ _ _ _ r h => by simp [spec_l1Cur_ended.j0] at h
 | k + 1 => by
  have ih0 := spec_l1Cur_ended.mono_l k
  ·intro y0 y1 y2 y3 y4 y5
   unfold spec_l1Cur_ended.j0
   repeat' (with_reducible first|apply ih0|apply spec_ivGood.mono|apply spec_ivOrder.mono|apply spec_l1Cur_anyOrder.mono|apply spec_l1Cur_intervals.mono|apply LeO.refl|apply LeO.none|apply LeO.ite|apply LeO.bind|intro)
theorem spec_l1Cur_ended.mono : ∀ a0 a1 a2 a3 k, LeO (spec_l1Cur_ended.f k a0 a1 a2 a3) (spec_l1Cur_ended.f (k + 1) a0 a1 a2 a3) := by
 intro a0 a1 a2 a3 k
 have ih0 := spec_l1Cur_ended.mono_l k
 unfold spec_l1Cur_ended.f
 repeat' (with_reducible first|apply ih0|apply spec_ivGood.mono|apply spec_ivOrder.mono|apply spec_l1Cur_anyOrder.mono|apply spec_l1Cur_intervals.mono|apply LeO.refl|apply LeO.none|apply LeO.ite|apply LeO.bind|intro)
theorem spec_l1Cur_ended.calls (k : Nat) (g : Nat) (s0_0 : List Int) (s0_1 : Int) (s0_2 : Int) (a1 : Int) (r1 : Int) (r2 : List Int) (r3 : Int) (r4 : Int) (w0 w : World) (hI : IsS55 w0 w g s0_0 s0_1 s0_2) (hB : Below w0.heap.size w0 w) (h : spec_l1Cur_ended.f k s0_0 s0_1 s0_2 a1 = some (r1, r2, r3, r4)) :
  Calls Tryd.prog 30 #[.pointer (some ⟨g, 0, none⟩), .int .i64 a1] w fun e w' => ∃ v1_ : Value, e = .returned (.agg #[.int .i64 r1, v1_]) ∧ Kd.R (Kd.int .i64) 3 w' w.heap.size (fun _ => True) v1_ r2 ∧ IsS55 w0 w' g s0_0 r3 r4 ∧ Below w0.heap.size w0 w' ∧ KeepBut w w' g none := by
 have hu26 := Tryd.underlying26
 have HI0 := mkA hI
 have HK := mkA (KeepBut.refl w g none)
 have HL := mkA hB.size
 clear hI
 have HW0 := mkA hB.size
 have HB := mkA hB
 clear hB
 have H := h
 clear h
 unfold spec_l1Cur_ended.f at H
 obtain ⟨⟨t283, t286, t287⟩, A3, H⟩ := obE H
 dsimp only at H
 have HC4 := mkA H
 clear H
 go_enter Tryd.func30, Tryd.ntmps30
 go_upto_region 2 with (first | ((with_reducible refine gate_dst (N := 4) rfl ?_); refine boxE (N := 4) (cs := #[.int .i64 0, .slice none 0 0]) (t := 26) ?_; intro gb282 hg w5 hbox hb; have BK282 := mkA (hbox); have GW282 := mkA ((by rw [hg]; exact (keep_size (w := w) (g := g) (row := none) (by exact kb55_0 HK.out)) : w.heap.size ≤ gb282)); have GE282 := mkA (Nat.le_trans HW0.out GW282.out); replace HK := kU (g := g) (by exact kb55_0 HK.out) hb; have NB0_282 : NeB _ _ := ⟨(by rw [hg]; exact Nat.ne_of_lt (IsS55.lt (show IsS55 w0 _ g s0_0 s0_1 s0_2 from by exact st55_0 HI0.out)) : g ≠ gb282)⟩; have NB282_0 : NeB _ _ := ⟨(by rw [hg]; exact Nat.ne_of_gt (IsS55.lt (show IsS55 w0 _ g s0_0 s0_1 s0_2 from by exact st55_0 HI0.out)) : gb282 ≠ g)⟩; replace HB := mkA (below_step (by exact bl55_0 HB.out HI0.out) hb); replace HI0 := mkA (IsS55.below (by exact st55_0 HI0.out) hb); clear hb hbox hg) | ((with_reducible refine gate_callee (f := 42) rfl ?_); refine goesQ (some 8) Tryd.func42 #[.pointer (some ⟨g, 0, none⟩), .int .i64 a1] ?_; (with_reducible refine (spec_l1Cur_intervals.calls k g s0_0 s0_1 s0_2 a1 t283 t286 t287 w0 _ ?_ ?_ A3.out).mono ?_); exact st55_1 HI0.out NB0_282.out; exact bl55_1 HB.out HI0.out GE282.out; rintro e w6 ⟨v284, rfl, ho0, hi, hb, hk⟩; refine ⟨_, rfl, ?_⟩; replace BK282 := kB hk BK282; have HO285 := mkA (Kd.R_lower ho0 (keep_size (w := w) (g := g) (row := none) (by exact kb55_1 HK.out GW282.out))); replace HK := kT (by exact kb55_1 HK.out GW282.out) hk; replace HI0 := mkA (hi); replace HB := mkA (hb); clear hb hk hi ho0))
 (try simp only [Act.put, List.setIfInBounds_toArray, List.set_cons_zero, List.set_cons_succ])
 go_cut [15] (fun v15 wc => ∃ (kq : Nat) (x15_3 : Bool) (x1001_3 : Int) (x1002_3 : Int), v15 = .bool x15_3 ∧ Fc (spec_l1Cur_ended.j0 kq a1 t283 x15_3 s0_0 x1001_3 x1002_3 = some (r1, r2, r3, r4)) ∧ Fc (kq ≤ k) ∧ Fc (Kd.R k39 39 wc w.heap.size (fun _ => True) v284 t283) ∧ Fc (wc.heap[gb282]? = some (.cells #[.int .i64 0, (.slice none 0 0)] 26 (0, 0))) ∧ Fc (IsS55 w0 wc g s0_0 x1001_3 x1002_3) ∧ Fc (KeepBut w wc g none) ∧ Fc (Below w0.heap.size w0 wc))
 case first =>
  have H := HC4.out
  clear HC4
  obtain ⟨t288, A7, H⟩ := obE H
  by_cases c8 : t288 = true
  ·subst c8
   replace H := ifT H
   obtain ⟨⟨t289, t290, t291⟩, A9, H⟩ := obE H
   dsimp only at H
   have H' := mkA H
   clear H
   obtain ⟨Ao10, co10, rfl⟩ := Kd.R_slice HO285.out
   go_wp2_with (first | ((with_reducible refine gate_callee (f := 43) rfl ?_); refine goesQ (some 10) Tryd.func43 #[.slice Ao10 t283.length co10] ?_; (with_reducible refine (spec_ivGood.calls k _ _ t283 true _ ?_ ?_ A7.out).mono ?_); exact rC HO285; exact rL HO285; rintro e w11 ⟨rfl, hb⟩; refine ⟨_, rfl, ?_⟩; replace HO285 := rB HO285 hb; replace BK282 := blkB BK282 hb; replace HK := kU (g := g) (by exact kb55_1 HK.out GW282.out) hb; replace HB := mkA (below_step (by exact bl55_1 HB.out HI0.out GE282.out) hb); replace HI0 := mkA (IsS55.below (by exact st55_1 HI0.out NB0_282.out) hb); clear hb) | (go_at_call 54; (with_reducible refine (spec_l1Cur_one.calls g s0_0 t286 t287 4 t289 t290 t291 w0 _ ?_ ?_ A9.out).mono ?_); exact st55_1 HI0.out NB0_282.out; exact bl55_1 HB.out HI0.out GE282.out; rintro e w12 ⟨rfl, hi, hb, hk⟩; replace BK282 := kB hk BK282; replace HO285 := rK (IsS55.apart (show IsS55 w0 _ g s0_0 t286 t287 from by exact st55_1 HI0.out NB0_282.out) (Kd.R_g HO285.out) (by decide)) hk; replace HK := kT (by exact kb55_1 HK.out GW282.out) hk; replace HI0 := mkA (hi); replace HB := mkA (hb); clear hb hk hi))
   go_meet
   case rel => exact ⟨_, (!t289), (t290), (t291), eqS, H', ⟨by first | omega | exact Nat.le_refl _⟩, rg HO285, bg BK282, ⟨by exact st55_1 HI0.out NB0_282.out⟩, ⟨by exact kb55_1 HK.out GW282.out⟩, ⟨by exact bl55_1 HB.out HI0.out GE282.out⟩⟩
  ·replace c8 := Bool.eq_false_iff.mpr c8
   subst c8
   replace H := ifF H
   have H' := mkA H
   clear H
   obtain ⟨Ao13, co13, rfl⟩ := Kd.R_slice HO285.out
   go_wp2_with (first | ((with_reducible refine gate_callee (f := 43) rfl ?_); refine goesQ (some 10) Tryd.func43 #[.slice Ao13 t283.length co13] ?_; (with_reducible refine (spec_ivGood.calls k _ _ t283 false _ ?_ ?_ A7.out).mono ?_); exact rC HO285; exact rL HO285; rintro e w14 ⟨rfl, hb⟩; refine ⟨_, rfl, ?_⟩; replace HO285 := rB HO285 hb; replace BK282 := blkB BK282 hb; replace HK := kU (g := g) (by exact kb55_1 HK.out GW282.out) hb; replace HB := mkA (below_step (by exact bl55_1 HB.out HI0.out GE282.out) hb); replace HI0 := mkA (IsS55.below (by exact st55_1 HI0.out NB0_282.out) hb); clear hb))
   go_meet
   case rel => exact ⟨_, (false), (t286), (t287), eqS, H', ⟨by first | omega | exact Nat.le_refl _⟩, rg HO285, bg BK282, ⟨by exact st55_1 HI0.out NB0_282.out⟩, ⟨by exact kb55_1 HK.out GW282.out⟩, ⟨by exact bl55_1 HB.out HI0.out GE282.out⟩⟩
 case rest =>
  clear HC4
  try clear c8
  obtain ⟨kq, x15_3, x1001_3, x1002_3, rfl, HA, HJ3, HO_5, BK282, HI0, HK, HB⟩ := hcut
  cases kq with
  | zero => exact absurd HA.out (by simp [spec_l1Cur_ended.j0])
  | succ kj3 =>
   have H := HA.out
   clear HA
   simp only [spec_l1Cur_ended.j0] at H
   by_cases c15 : x15_3 = true
   ·subst c15
    replace H := ifT H
    obtain ⟨⟨t292, t293⟩, A16, H⟩ := obE H
    dsimp only at H
    simp only [Option.some.injEq, Prod.mk.injEq] at H
    obtain ⟨rfl, rfl, rfl, rfl⟩ := H
    obtain ⟨Ao17, co17, rfl⟩ := Kd.R_slice HO_5.out
    go_wp2_with (first | ((with_reducible refine gate_callee (f := 44) rfl ?_); refine goesQ (some 17) Tryd.func44 #[.slice Ao17 t283.length co17] ?_; (with_reducible refine (spec_ivOrder.calls kj3 _ _ t283 t292 t293 _ ?_ ?_ A16.out).mono ?_); exact rC HO_5; exact rL HO_5; rintro e w18 ⟨v294, rfl, ho0, hb⟩; refine ⟨_, rfl, ?_⟩; replace HO_5 := rB HO_5 hb; have HO295 := mkA (Kd.R_lower ho0 (keep_size (w := w) (g := g) (row := none) (by exact kb55_1 HK.out GW282.out))); replace BK282 := blkB BK282 hb; replace HK := kU (g := g) (by exact kb55_1 HK.out GW282.out) hb; replace HB := mkA (below_step (by exact bl55_1 HB.out HI0.out GE282.out) hb); replace HI0 := mkA (IsS55.below (by exact st55_1 HI0.out NB0_282.out) hb); clear hb ho0; obtain ⟨_, _, _, _⟩ := blk2 BK282; obtain ⟨Ao21, co21, rfl⟩ := Kd.R_slice HO295.out))
    refine bodyPost_ret (results_cell_row rfl _ _ gb282 26 #[.int .i64 t292, .slice Ao21 t293.length co21] (0, 0) _ rfl (blkT BK282) Tryd.underlying26 rfl (by kernel_rfl)) rfl ?_
    exact ⟨_, eqE, Kd.R_g (Kd.R_mono (rF HO295 BK282) (fun _ _ => trivial)), by exact st55_1 HI0.out NB0_282.out, by exact bl55_1 HB.out HI0.out GE282.out, by exact kb55_1 HK.out GW282.out⟩
   ·replace c15 := Bool.eq_false_iff.mpr c15
    subst c15
    replace H := ifF H
    obtain ⟨⟨t296, t297, t300, t301⟩, A22, H⟩ := obE H
    dsimp only at H
    simp only [Option.some.injEq, Prod.mk.injEq] at H
    obtain ⟨rfl, rfl, rfl, rfl⟩ := H
    go_wp2_with (first | ((with_reducible refine gate_callee (f := 55) rfl ?_); refine goesQ (some 20) Tryd.func55 #[.pointer (some ⟨g, 0, none⟩), .int .i64 a1] ?_; (with_reducible refine (spec_l1Cur_anyOrder.calls kj3 g s0_0 x1001_3 x1002_3 a1 t296 t297 t300 t301 w0 _ ?_ ?_ A22.out).mono ?_); exact st55_1 HI0.out NB0_282.out; exact bl55_1 HB.out HI0.out GE282.out; rintro e w23 ⟨v298, rfl, ho0, hi, hb, hk⟩; refine ⟨_, rfl, ?_⟩; replace HO_5 := rK (IsS55.apart (show IsS55 w0 _ g s0_0 x1001_3 x1002_3 from by exact st55_1 HI0.out NB0_282.out) (Kd.R_g HO_5.out) (by decide)) hk; replace BK282 := kB hk BK282; have HO299 := mkA (Kd.R_lower ho0 (keep_size (w := w) (g := g) (row := none) (by exact kb55_1 HK.out GW282.out))); replace HK := kT (by exact kb55_1 HK.out GW282.out) hk; replace HI0 := mkA (hi); replace HB := mkA (hb); clear hb hk hi ho0; obtain ⟨_, _, _, _⟩ := blk2 BK282; obtain ⟨Ao26, co26, rfl⟩ := Kd.R_slice HO299.out))
    refine bodyPost_ret (results_cell_row rfl _ _ gb282 26 #[.int .i64 t296, .slice Ao26 t297.length co26] (0, 0) _ rfl (blkT BK282) Tryd.underlying26 rfl (by kernel_rfl)) rfl ?_
    exact ⟨_, eqE, Kd.R_g (Kd.R_mono (rF HO299 BK282) (fun _ _ => trivial)), by exact st55_1 HI0.out NB0_282.out, by exact bl55_1 HB.out HI0.out GE282.out, by exact kb55_1 HK.out GW282.out⟩
def spec_DrawSetsAlong.f (k : Nat) (l0 : List Int) : Option (Int × List Int) := (spec_l1Cur_ended.f k l0 0 0 7).bind fun bt824 => (some (bt824.1, bt824.2.1))
theorem spec_DrawSetsAlong.mono : ∀ a0 k, LeO (spec_DrawSetsAlong.f k a0) (spec_DrawSetsAlong.f (k + 1) a0) := by
 intro a0 k
 unfold spec_DrawSetsAlong.f
 repeat' (with_reducible first|apply spec_l1Cur_ended.mono|apply LeO.refl|apply LeO.none|apply LeO.ite|apply LeO.bind|intro)
theorem spec_DrawSetsAlong.calls (k : Nat) (A0 : Option Addr) (c0 : Nat) (l0 : List Int) (r1 : Int) (r2 : List Int) (w : World) (hr0 : Kd.C (Kd.int .u8) w A0 l0.length l0) (hc0 : l0.length ≤ c0) (h : spec_DrawSetsAlong.f k l0 = some (r1, r2)) :
  Calls Tryd.prog 22 #[.slice A0 l0.length c0] w fun e w' => ∃ v1_ : Value, e = .returned (.agg #[.int .i64 r1, v1_]) ∧ Kd.R (Kd.int .i64) 3 w' w.heap.size (fun _ => True) v1_ r2 ∧ Below w.heap.size w w' := by
 have hu26 := Tryd.underlying26
 have hu55 := Tryd.underlying55
 have HR0 := mkA hr0
 have HC0 := mkA hc0
 clear hr0 hc0
 have HB := mkA (Below.refl w.heap.size w)
 have H := h
 clear h
 unfold spec_DrawSetsAlong.f at H
 obtain ⟨⟨t824, t825, t828, t829⟩, A2, H⟩ := obE H
 dsimp only at H
 simp only [Option.some.injEq, Prod.mk.injEq] at H
 obtain ⟨rfl, rfl⟩ := H
 go_enter Tryd.func22, Tryd.ntmps22
 go_wp2_with (first | ((with_reducible refine gate_dst (N := 2) rfl ?_); refine boxG HB #[.int .i64 0, .slice none 0 0] 26 ?_; intro gb822 hg w3 BK822 GE822 hb; replace HB := bst HB hb; clear hb hg) | ((with_reducible refine gate_dst (N := 6) rfl ?_); refine boxE (N := 6) (cs := #[.slice A0 l0.length c0, .int .i64 0, .int .u64 0]) (t := 55) ?_; intro gb823 hg w4 hbox hb; have HI823 := mkA ((⟨_, _, hbox, (by rw [hg]; exact (below_size (bel_g HB.out))), HR0.out⟩ : IsS55 w w4 gb823 l0 0 0)); have GE823 := geB HB hg; have NB822_823 := neL7 BK822 hg; have NB823_822 := neR7 BK822 hg; replace BK822 := blkB BK822 hb; replace HB := bst HB hb; clear hb hbox hg) | ((with_reducible refine gate_callee (f := 30) rfl ?_); refine goesQ (some 8) Tryd.func30 #[.pointer (some ⟨gb823, 0, none⟩), .int .i64 7] ?_; (with_reducible refine (spec_l1Cur_ended.calls k gb823 l0 0 0 7 t824 t825 t828 t829 w _ ?_ ?_ A2.out).mono ?_); exact st55_1 HI823.out NB823_822.out; exact bl55_1 HB.out HI823.out GE822.out; rintro e w5 ⟨v826, rfl, ho0, hi, hb, hk⟩; refine ⟨_, rfl, ?_⟩; replace BK822 := kB hk BK822; have HO827 := mkA (Kd.R_lower ho0 (below_size (by exact bl55_1 HB.out HI823.out GE822.out))); replace HI823 := mkA (hi); replace HB := mkA (hb); clear hb hk hi ho0; obtain ⟨_, _, _, _⟩ := blk2 BK822; obtain ⟨Ao8, co8, rfl⟩ := Kd.R_slice HO827.out))
 refine bodyPost_ret (results_cell_row rfl _ _ gb822 26 #[.int .i64 t824, .slice Ao8 t825.length co8] (0, 0) _ rfl (blkT BK822) Tryd.underlying26 rfl (by kernel_rfl)) rfl ?_
 exact ⟨_, eqE, Kd.R_g (Kd.R_mono (rF HO827 BK822) (fun _ _ => trivial)), by exact bl55_1 HB.out HI823.out GE822.out⟩
end Go.Proofs.YtdmheeenoklijaaDoor.Q
