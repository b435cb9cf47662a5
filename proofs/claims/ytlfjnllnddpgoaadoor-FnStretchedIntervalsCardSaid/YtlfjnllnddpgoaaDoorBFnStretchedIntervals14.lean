import Derived.Test.YtlfjnllnddpgoaaDoorBFnStretchedIntervals13
namespace Go.Proofs.YtlfjnllnddpgoaaDoor.Q
open Go.RowKit Go.Proofs.YtlfjnllnddpgoaaDoorW.PrintWords Go.Proofs.YtlfjnllnddpgoaaDoorW.PrintLast Go.Proofs.YtlfjnllnddpgoaaDoorW.PrintMore
attribute [local go_sem] max2_int min2_int max_two min_two max_three min_three max_four min_four neB_f
set_option linter.unusedVariables false
set_option maxHeartbeats 8000000
set_option maxRecDepth 100000
set_option linter.unusedSimpArgs false
def spec_DrawInsertInterval.f (k : Nat) (l0 : List Int) : Option (Int × List Int × Int × Int) := (spec_l1Cur_ended.f k l0 0 0 7).bind fun bt405 => ((spec_l1Cur_pick.f l0 bt405.2.2.1 bt405.2.2.2 7).bind fun bt412 => ((spec_l1Cur_pick.f l0 bt412.2.1 bt412.2.2 4).bind fun bt415 => ((spec_l1Cur_one.f l0 bt415.2.1 bt415.2.2 8).bind fun bt419 => (if bt419.1 = true then ((spec_l1Cur_among.f l0 bt419.2.1 bt419.2.2 (([(-1001), 3] : List Int))).bind fun bt425 => ((spec_l1Cur_among.f l0 bt425.2.1 bt425.2.2 (([2, 1000, 1001] : List Int))).bind fun bt431 => (some (bt405.1, bt405.2.1, bt425.1, bt431.1)))) else (some (bt405.1, bt405.2.1, wrap64 (bt412.1 - 1), wrap64 ((wrap64 (bt412.1 - 1)) + bt415.1)))))))
theorem spec_DrawInsertInterval.mono : ∀ a0 k, LeO (spec_DrawInsertInterval.f k a0) (spec_DrawInsertInterval.f (k + 1) a0) := by
 intro a0 k
 unfold spec_DrawInsertInterval.f
 repeat' (with_reducible first|apply spec_l1Cur_ended.mono|apply LeO.refl|apply LeO.none|apply LeO.ite|apply LeO.bind|intro)
theorem spec_DrawInsertInterval.calls (k : Nat) (A0 : Option Addr) (c0 : Nat) (l0 : List Int) (r1 : Int) (r2 : List Int) (r3 : Int) (r4 : Int) (w : World) (hr0 : Kd.C (Kd.int .u8) w A0 l0.length l0) (hc0 : l0.length ≤ c0) (h : spec_DrawInsertInterval.f k l0 = some (r1, r2, r3, r4)) :
  Calls Tryd.prog 11 #[.slice A0 l0.length c0] w fun e w' => ∃ v1_ : Value, e = .returned (.tuple #[.agg #[.int .i64 r1, v1_], .agg #[.int .i64 r3, .int .i64 r4]]) ∧ Kd.R (Kd.int .i64) 3 w' w.heap.size (fun _ => True) v1_ r2 ∧ Below w.heap.size w w' := by
 have hu32 := Tryd.underlying32
 have hu37 := Tryd.underlying37
 have hu49 := Tryd.underlying49
 have HR0 := mkA hr0
 have HC0 := mkA hc0
 clear hr0 hc0
 have HB := mkA (Below.refl w.heap.size w)
 have H := h
 clear h
 unfold spec_DrawInsertInterval.f at H
 obtain ⟨⟨t405, t406, t409, t410⟩, A2, H⟩ := obE H
 dsimp only at H
 obtain ⟨⟨t412, t413, t414⟩, A3, H⟩ := obE H
 dsimp only at H
 obtain ⟨⟨t415, t416, t417⟩, A4, H⟩ := obE H
 dsimp only at H
 obtain ⟨⟨t419, t420, t421⟩, A5, H⟩ := obE H
 dsimp only at H
 by_cases c6 : t419 = true
 ·subst c6
  replace H := ifT H
  obtain ⟨y422, hy422⟩ : ∃ y_ : List Int, y_ = (([(-1001), 3] : List Int)) := ⟨_, rfl⟩
  rw [← hy422] at H
  have Ny422 := mkA hy422
  clear hy422
  obtain ⟨⟨t425, t426, t427⟩, A7, H⟩ := obE H
  dsimp only at H
  obtain ⟨y428, hy428⟩ : ∃ y_ : List Int, y_ = (([2, 1000, 1001] : List Int)) := ⟨_, rfl⟩
  rw [← hy428] at H
  have Ny428 := mkA hy428
  clear hy428
  obtain ⟨⟨t431, t432, t433⟩, A8, H⟩ := obE H
  dsimp only at H
  simp only [Option.some.injEq, Prod.mk.injEq] at H
  obtain ⟨rfl, rfl, rfl, rfl⟩ := H
  go_enter Tryd.func11, Tryd.ntmps11
  try go_wp2_with (first | ((with_reducible refine gate_dst (N := 2) rfl ?_); refine boxG HB #[.int .i64 0, .slice none 0 0] 32 ?_; intro gb402 hg w9 BK402 GE402 hb; replace HB := bst HB hb; clear hb hg) | ((with_reducible refine gate_dst (N := 3) rfl ?_); refine boxG HB #[.int .i64 0, .int .i64 0] 37 ?_; intro gb403 hg w10 BK403 GE403 hb; have NB402_403 := neL7 BK402 hg; have NB403_402 := neR7 BK402 hg; replace BK402 := blkB BK402 hb; replace HB := bst HB hb; clear hb hg) | ((with_reducible refine gate_dst (N := 10) rfl ?_); refine boxE (N := 10) (cs := #[.slice A0 l0.length c0, .int .i64 0, .int .u64 0]) (t := 49) ?_; intro gb404 hg w11 hbox hb; have HI404 := mkA ((⟨_, _, hbox, (by rw [hg]; exact (below_size (bel_g HB.out))), HR0.out⟩ : IsS49 w w11 gb404 l0 0 0)); have GE404 := geB HB hg; have NB402_404 := neL7 BK402 hg; have NB404_402 := neR7 BK402 hg; replace BK402 := blkB BK402 hb; have NB403_404 := neL7 BK403 hg; have NB404_403 := neR7 BK403 hg; replace BK403 := blkB BK403 hb; replace HB := bst HB hb; clear hb hbox hg) | ((with_reducible refine gate_callee (f := 29) rfl ?_); refine goesQ (some 12) Tryd.func29 #[.pointer (some ⟨gb404, 0, none⟩), .int .i64 7] ?_; (with_reducible refine (spec_l1Cur_ended.calls k gb404 l0 0 0 7 t405 t406 t409 t410 w _ ?_ ?_ A2.out).mono ?_); exact st49_2 HI404.out NB404_402.out NB404_403.out; exact bl49_2 HB.out HI404.out GE402.out GE403.out; rintro e w12 ⟨v407, rfl, ho0, hi, hb, hk⟩; refine ⟨_, rfl, ?_⟩; replace BK402 := kB hk BK402; replace BK403 := kB hk BK403; have HO408 := mkA (Kd.R_lower ho0 (below_size (by exact bl49_2 HB.out HI404.out GE402.out GE403.out))); replace HI404 := mkA (hi); replace HB := mkA (hb); clear hb hk hi ho0) | ((with_reducible refine gate_dst (N := 5) rfl ?_); refine boxE (N := 5) (cs := #[.int .i64 0, .slice none 0 0]) (t := 32) ?_; intro gb411 hg w13 hbox hb; replace HO408 := rB HO408 hb; have BK411 := mkA (hbox); have GW411 := mkA ((by rw [hg]; exact (below_size (by exact bl49_2 HB.out HI404.out GE402.out GE403.out)) : w.heap.size ≤ gb411)); have GE411 := mkA ((by rw [hg]; exact (below_size (by exact bl49_2 HB.out HI404.out GE402.out GE403.out)) : w.heap.size ≤ gb411)); have NB402_411 := neL7 BK402 hg; have NB411_402 := neR7 BK402 hg; replace BK402 := blkB BK402 hb; have NB403_411 := neL7 BK403 hg; have NB411_403 := neR7 BK403 hg; replace BK403 := blkB BK403 hb; have NB404_411 : NeB _ _ := ⟨(by rw [hg]; exact Nat.ne_of_lt (IsS49.lt (show IsS49 w _ gb404 l0 t409 t410 from by exact st49_2 HI404.out NB404_402.out NB404_403.out)) : gb404 ≠ gb411)⟩; have NB411_404 : NeB _ _ := ⟨(by rw [hg]; exact Nat.ne_of_gt (IsS49.lt (show IsS49 w _ gb404 l0 t409 t410 from by exact st49_2 HI404.out NB404_402.out NB404_403.out)) : gb411 ≠ gb404)⟩; replace HB := mkA (below_step (by exact bl49_2 HB.out HI404.out GE402.out GE403.out) hb); replace HI404 := mkA (IsS49.below (by exact st49_2 HI404.out NB404_402.out NB404_403.out) hb); clear hb hbox hg; obtain ⟨_, _, _, _⟩ := blk2 BK411; obtain ⟨Ao18, co18, rfl⟩ := Kd.R_slice HO408.out) | ((with_reducible refine gate_callee (f := 18) rfl ?_); refine goesQ (some 14) Tryd.func18 #[.pointer (some ⟨gb404, 0, none⟩), .int .i64 7] ?_; (with_reducible refine (spec_l1Cur_pick.calls gb404 l0 t409 t410 7 t412 t413 t414 w _ ?_ ?_ A3.out).mono ?_); exact st49_3 HI404.out NB404_402.out NB404_403.out NB404_411.out; exact bl49_3 HB.out HI404.out GE402.out GE403.out GE411.out; rintro e w19 ⟨rfl, hi, hb, hk⟩; refine ⟨_, rfl, ?_⟩; replace BK402 := kR hk BK402; replace BK403 := kR hk BK403; replace HO408 := rK (IsS49.apart (show IsS49 w _ gb404 l0 t409 t410 from by exact st49_3 HI404.out NB404_402.out NB404_403.out NB404_411.out) (rFg HO408 BK411) (by decide)) hk; replace BK411 := kR hk BK411; replace HI404 := mkA (hi); replace HB := mkA (hb); clear hb hk hi) | ((with_reducible refine gate_callee (f := 18) rfl ?_); refine goesQ (some 19) Tryd.func18 #[.pointer (some ⟨gb404, 0, none⟩), .int .i64 4] ?_; (with_reducible refine (spec_l1Cur_pick.calls gb404 l0 t413 t414 4 t415 t416 t417 w _ ?_ ?_ A4.out).mono ?_); exact st49_3 HI404.out NB404_402.out NB404_403.out NB404_411.out; exact bl49_3 HB.out HI404.out GE402.out GE403.out GE411.out; rintro e w20 ⟨rfl, hi, hb, hk⟩; refine ⟨_, rfl, ?_⟩; replace BK402 := kB hk BK402; replace BK403 := kB hk BK403; replace HO408 := rK (IsS49.apart (show IsS49 w _ gb404 l0 t413 t414 from by exact st49_3 HI404.out NB404_402.out NB404_403.out NB404_411.out) (Kd.R_g HO408.out) (by decide)) hk; replace BK411 := kB hk BK411; replace HI404 := mkA (hi); replace HB := mkA (hb); clear hb hk hi) | ((with_reducible refine gate_dst (N := 7) rfl ?_); refine boxE (N := 7) (cs := #[.int .i64 0, .int .i64 0]) (t := 37) ?_; intro gb418 hg w21 hbox hb; replace HO408 := rB HO408 hb; have BK418 := mkA (hbox); have GW418 := mkA ((by rw [hg]; exact (below_size (by exact bl49_3 HB.out HI404.out GE402.out GE403.out GE411.out)) : w.heap.size ≤ gb418)); have GE418 := mkA ((by rw [hg]; exact (below_size (by exact bl49_3 HB.out HI404.out GE402.out GE403.out GE411.out)) : w.heap.size ≤ gb418)); have NB402_418 := neL7 BK402 hg; have NB418_402 := neR7 BK402 hg; replace BK402 := blkB BK402 hb; have NB403_418 := neL7 BK403 hg; have NB418_403 := neR7 BK403 hg; replace BK403 := blkB BK403 hb; have NB411_418 := neL7 BK411 hg; have NB418_411 := neR7 BK411 hg; replace BK411 := blkB BK411 hb; have NB404_418 : NeB _ _ := ⟨(by rw [hg]; exact Nat.ne_of_lt (IsS49.lt (show IsS49 w _ gb404 l0 t416 t417 from by exact st49_3 HI404.out NB404_402.out NB404_403.out NB404_411.out)) : gb404 ≠ gb418)⟩; have NB418_404 : NeB _ _ := ⟨(by rw [hg]; exact Nat.ne_of_gt (IsS49.lt (show IsS49 w _ gb404 l0 t416 t417 from by exact st49_3 HI404.out NB404_402.out NB404_403.out NB404_411.out)) : gb418 ≠ gb404)⟩; replace HB := mkA (below_step (by exact bl49_3 HB.out HI404.out GE402.out GE403.out GE411.out) hb); replace HI404 := mkA (IsS49.below (by exact st49_3 HI404.out NB404_402.out NB404_403.out NB404_411.out) hb); clear hb hbox hg; obtain ⟨_, _, _, _⟩ := blk2 BK418) | ((with_reducible refine gate_callee (f := 30) rfl ?_); refine goesQ (some 23) Tryd.func30 #[.pointer (some ⟨gb404, 0, none⟩), .int .i64 8] ?_; (with_reducible refine (spec_l1Cur_one.calls gb404 l0 t416 t417 8 true t420 t421 w _ ?_ ?_ A5.out).mono ?_); exact st49_4 HI404.out NB404_402.out NB404_403.out NB404_411.out NB404_418.out; exact bl49_4 HB.out HI404.out GE402.out GE403.out GE411.out GE418.out; rintro e w27 ⟨rfl, hi, hb, hk⟩; refine ⟨_, rfl, ?_⟩; replace BK402 := kR hk BK402; replace BK403 := kR hk BK403; replace HO408 := rK (IsS49.apart (show IsS49 w _ gb404 l0 t416 t417 from by exact st49_4 HI404.out NB404_402.out NB404_403.out NB404_411.out NB404_418.out) (Kd.R_g ((Kd.R_mono (Kd.R_far (p := ⟨gb418, 1, none⟩) (Kd.R_far (p := ⟨gb418, 0, none⟩) (Kd.R_types HO408.out BK418.out (by decide)) (fun _ hk => hk.2) (.int .i64 (wrap64 (t412 - 1)))) (fun _ hk => hk.2) (.int .i64 (wrap64 ((wrap64 (t412 - 1)) + t415)))) (fun _ h_ => h_.1)))) (by decide)) hk; replace BK411 := kR hk BK411; replace BK418 := kR hk BK418; replace HI404 := mkA (hi); replace HB := mkA (hb); clear hb hk hi) | ((with_reducible refine gate_dst (N := 25) rfl ?_); refine litE (Kd.int .i64) 3 ([(-1001), 3] : List Int) [.int .i64 (-1001), .int .i64 3] ?hp ?_; (case hp => exact (Reps.one (show Kd.M (Kd.int .i64) _ _ _ (-1001) [.int .i64 (-1001)] from rfl) (Reps.one (show Kd.M (Kd.int .i64) _ _ _ 3 [.int .i64 3] from rfl) (Reps.none _ _)))); intro v423 w28 ho29 hb hg_ hnew_; clear hg_ hnew_; (first | rw [← Ny422.out] at ho29 | (simp only [Int.reduceToNat] at ho29; rw [← Ny422.out] at ho29)); have HO424 := mkA (Kd.R_lower (rN ho29 HO408) (below_size (by exact bl49_4 HB.out HI404.out GE402.out GE403.out GE411.out GE418.out))); replace HO408 := rE HO408 ho29 hb; replace BK402 := blkB BK402 hb; replace BK403 := blkB BK403 hb; replace BK411 := blkB BK411 hb; replace BK418 := blkB BK418 hb; replace HB := mkA (below_step (by exact bl49_4 HB.out HI404.out GE402.out GE403.out GE411.out GE418.out) hb); replace HI404 := mkA (IsS49.below (by exact st49_4 HI404.out NB404_402.out NB404_403.out NB404_411.out NB404_418.out) hb); clear hb ho29; obtain ⟨Ao30, co30, rfl⟩ := Kd.R_slice HO424.out) | ((with_reducible refine gate_callee (f := 19) rfl ?_); refine goesQ (some 26) Tryd.func19 #[.pointer (some ⟨gb404, 0, none⟩), .slice Ao30 y422.length co30] ?_; (with_reducible refine (spec_l1Cur_among.calls gb404 l0 t420 t421 _ _ y422 t425 t426 t427 w _ ?_ ?_ ?_ ?_ ?_ A7.out).mono ?_); exact st49_4 HI404.out NB404_402.out NB404_403.out NB404_411.out NB404_418.out; exact bl49_4 HB.out HI404.out GE402.out GE403.out GE411.out GE418.out; exact rC HO424; exact rL HO424; exact far_slice (IsS49.own_ne HI404.out HO424.out (by decide)); rintro e w31 ⟨rfl, hi, hb, hk⟩; refine ⟨_, rfl, ?_⟩; replace BK402 := kB hk BK402; replace BK403 := kB hk BK403; replace HO408 := rK (IsS49.apart (show IsS49 w _ gb404 l0 t420 t421 from by exact st49_4 HI404.out NB404_402.out NB404_403.out NB404_411.out NB404_418.out) (Kd.R_g HO408.out) (by decide)) hk; replace BK411 := kB hk BK411; replace BK418 := kB hk BK418; replace HO424 := rK (IsS49.apart (show IsS49 w _ gb404 l0 t420 t421 from by exact st49_4 HI404.out NB404_402.out NB404_403.out NB404_411.out NB404_418.out) (Kd.R_g HO424.out) (by decide)) hk; replace HI404 := mkA (hi); replace HB := mkA (hb); clear hb hk hi) | ((with_reducible refine gate_dst (N := 28) rfl ?_); refine litE (Kd.int .i64) 3 ([2, 1000, 1001] : List Int) [.int .i64 2, .int .i64 1000, .int .i64 1001] ?hp ?_; (case hp => exact (Reps.one (show Kd.M (Kd.int .i64) _ _ _ 2 [.int .i64 2] from rfl) (Reps.one (show Kd.M (Kd.int .i64) _ _ _ 1000 [.int .i64 1000] from rfl) (Reps.one (show Kd.M (Kd.int .i64) _ _ _ 1001 [.int .i64 1001] from rfl) (Reps.none _ _))))); intro v429 w32 ho33 hb hg_ hnew_; clear hg_ hnew_; (first | rw [← Ny428.out] at ho33 | (simp only [Int.reduceToNat] at ho33; rw [← Ny428.out] at ho33)); have HO430 := mkA (Kd.R_lower (rN (rN ho33 HO408) HO424) (below_size (by exact bl49_4 HB.out HI404.out GE402.out GE403.out GE411.out GE418.out))); replace HO408 := rE HO408 ho33 hb; replace HO424 := rE HO424 ho33 hb; replace BK402 := blkB BK402 hb; replace BK403 := blkB BK403 hb; replace BK411 := blkB BK411 hb; replace BK418 := blkB BK418 hb; replace HB := mkA (below_step (by exact bl49_4 HB.out HI404.out GE402.out GE403.out GE411.out GE418.out) hb); replace HI404 := mkA (IsS49.below (by exact st49_4 HI404.out NB404_402.out NB404_403.out NB404_411.out NB404_418.out) hb); clear hb ho33; obtain ⟨Ao34, co34, rfl⟩ := Kd.R_slice HO430.out) | ((with_reducible refine gate_callee (f := 19) rfl ?_); refine goesQ (some 29) Tryd.func19 #[.pointer (some ⟨gb404, 0, none⟩), .slice Ao34 y428.length co34] ?_; (with_reducible refine (spec_l1Cur_among.calls gb404 l0 t426 t427 _ _ y428 t431 t432 t433 w _ ?_ ?_ ?_ ?_ ?_ A8.out).mono ?_); exact st49_4 HI404.out NB404_402.out NB404_403.out NB404_411.out NB404_418.out; exact bl49_4 HB.out HI404.out GE402.out GE403.out GE411.out GE418.out; exact rC HO430; exact rL HO430; exact far_slice (IsS49.own_ne HI404.out HO430.out (by decide)); rintro e w35 ⟨rfl, hi, hb, hk⟩; refine ⟨_, rfl, ?_⟩; replace BK402 := kB hk BK402; replace BK403 := kB hk BK403; replace HO408 := rK (IsS49.apart (show IsS49 w _ gb404 l0 t426 t427 from by exact st49_4 HI404.out NB404_402.out NB404_403.out NB404_411.out NB404_418.out) (Kd.R_g HO408.out) (by decide)) hk; replace BK411 := kB hk BK411; replace BK418 := kB hk BK418; replace HO424 := rK (IsS49.apart (show IsS49 w _ gb404 l0 t426 t427 from by exact st49_4 HI404.out NB404_402.out NB404_403.out NB404_411.out NB404_418.out) (Kd.R_g HO424.out) (by decide)) hk; replace HO430 := rK (IsS49.apart (show IsS49 w _ gb404 l0 t426 t427 from by exact st49_4 HI404.out NB404_402.out NB404_403.out NB404_411.out NB404_418.out) (Kd.R_g HO430.out) (by decide)) hk; replace HI404 := mkA (hi); replace HB := mkA (hb); clear hb hk hi; obtain ⟨_, _, _, _⟩ := blk2 BK418))
  have n0_ : Fc (Kd.R (Kd.int .i64) 3 ((w35.setCell ⟨gb418, 0, none⟩ (.int .i64 t425)).setCell ⟨gb418, 1, none⟩ (.int .i64 t431)) w.heap.size (fun k_ => some k_ ≠ (.slice Ao30 y422.length co30 : Value).ownBlock ∧ some k_ ≠ (.slice Ao34 y428.length co34 : Value).ownBlock) (.slice Ao18 t406.length co18) t406) := ⟨Kd.R_g (Kd.R_mono (Kd.R_far (p := ⟨gb418, 1, none⟩) (Kd.R_far (p := ⟨gb418, 0, none⟩) (Kd.R_types HO408.out BK418.out (by decide)) (fun _ hk => hk.2) (.int .i64 t425)) (fun _ hk => hk.2) (.int .i64 t431)) (fun _ hk => ⟨hk.1.1.2, hk.1.2⟩))⟩
  have n1_ : Fc (Kd.R (Kd.int .i64) 3 ((w35.setCell ⟨gb418, 0, none⟩ (.int .i64 t425)).setCell ⟨gb418, 1, none⟩ (.int .i64 t431)) w.heap.size (fun k_ => some k_ ≠ (.slice Ao18 t406.length co18 : Value).ownBlock ∧ some k_ ≠ (.slice Ao34 y428.length co34 : Value).ownBlock) (.slice Ao30 y422.length co30) y422) := ⟨Kd.R_g (Kd.R_mono (Kd.R_far (p := ⟨gb418, 1, none⟩) (Kd.R_far (p := ⟨gb418, 0, none⟩) (Kd.R_types HO424.out BK418.out (by decide)) (fun _ hk => hk.2) (.int .i64 t425)) (fun _ hk => hk.2) (.int .i64 t431)) (fun _ hk => ⟨hk.1.1.2, hk.1.2⟩))⟩
  have n2_ : Fc (Kd.R (Kd.int .i64) 3 ((w35.setCell ⟨gb418, 0, none⟩ (.int .i64 t425)).setCell ⟨gb418, 1, none⟩ (.int .i64 t431)) w.heap.size (fun k_ => some k_ ≠ (.slice Ao18 t406.length co18 : Value).ownBlock ∧ some k_ ≠ (.slice Ao30 y422.length co30 : Value).ownBlock) (.slice Ao34 y428.length co34) y428) := ⟨Kd.R_g (Kd.R_mono (Kd.R_far (p := ⟨gb418, 1, none⟩) (Kd.R_far (p := ⟨gb418, 0, none⟩) (Kd.R_types HO430.out BK418.out (by decide)) (fun _ hk => hk.2) (.int .i64 t425)) (fun _ hk => hk.2) (.int .i64 t431)) (fun _ hk => ⟨hk.1.1.2, hk.1.2⟩))⟩
  have n3_ : Fc (((w35.setCell ⟨gb418, 0, none⟩ (.int .i64 t425)).setCell ⟨gb418, 1, none⟩ (.int .i64 t431)).heap[gb402]? = some (.cells #[.int .i64 0, .slice none 0 0] 32 (0, 0))) := ⟨blkT BK402⟩
  have n4_ : Fc (((w35.setCell ⟨gb418, 0, none⟩ (.int .i64 t425)).setCell ⟨gb418, 1, none⟩ (.int .i64 t431)).heap[gb403]? = some (.cells #[.int .i64 0, .int .i64 0] 37 (0, 0))) := ⟨blkT BK403⟩
  have n5_ : Fc (((w35.setCell ⟨gb418, 0, none⟩ (.int .i64 t425)).setCell ⟨gb418, 1, none⟩ (.int .i64 t431)).heap[gb411]? = some (.cells #[.int .i64 t405, .slice Ao18 t406.length co18] 32 (0, 0))) := ⟨blkT BK411⟩
  have n6_ : Fc (((w35.setCell ⟨gb418, 0, none⟩ (.int .i64 t425)).setCell ⟨gb418, 1, none⟩ (.int .i64 t431)).heap[gb418]? = some (.cells #[.int .i64 t425, .int .i64 t431] 37 (0, 0))) := ⟨blkT BK418⟩
  have n7_ : Fc (IsS49 w ((w35.setCell ⟨gb418, 0, none⟩ (.int .i64 t425)).setCell ⟨gb418, 1, none⟩ (.int .i64 t431)) gb404 l0 t432 t433) := ⟨by exact st49_4 HI404.out NB404_402.out NB404_403.out NB404_411.out NB404_418.out⟩
  have n8_ : Fc (Below w.heap.size w ((w35.setCell ⟨gb418, 0, none⟩ (.int .i64 t425)).setCell ⟨gb418, 1, none⟩ (.int .i64 t431))) := ⟨by exact bl49_4 HB.out HI404.out GE402.out GE403.out GE411.out GE418.out⟩
  (try clear HO408)
  (try clear HO424)
  (try clear HO430)
  (try clear BK402)
  (try clear BK403)
  (try clear BK411)
  (try clear BK418)
  (try clear HI404)
  (try clear HB)
  generalize ((w35.setCell ⟨gb418, 0, none⟩ (.int .i64 t425)).setCell ⟨gb418, 1, none⟩ (.int .i64 t431)) = w37 at n0_ n1_ n2_ n3_ n4_ n5_ n6_ n7_ n8_ ⊢
  have HO408 := n0_
  have HO424 := n1_
  have HO430 := n2_
  have BK402 := n3_
  have BK403 := n4_
  have BK411 := n5_
  have BK418 := n6_
  have HI404 := n7_
  have HB := n8_
  clear n0_ n1_ n2_ n3_ n4_ n5_ n6_ n7_ n8_
  replace HO408 := mkA (Kd.R_drew HO408.out)
  replace HO424 := mkA (Kd.R_drew HO424.out)
  replace HO430 := mkA (Kd.R_drew HO430.out)
  replace BK402 := mkA (blk_drew BK402.out)
  replace BK403 := mkA (blk_drew BK403.out)
  replace BK411 := mkA (blk_drew BK411.out)
  replace BK418 := mkA (blk_drew BK418.out)
  replace HI404 := mkA (IsS49.drew HI404.out)
  replace HB := mkA (below_drew1 HB.out)
  refine start_ (n := 4) (S := fun w' => w'.cell? ⟨gb411, 0, none⟩ = some (.int .i64 t405) ∧ w'.cell? ⟨gb411, 1, none⟩ = some (.slice Ao18 t406.length co18) ∧ w'.cell? ⟨gb418, 0, none⟩ = some (.int .i64 t425) ∧ w'.cell? ⟨gb418, 1, none⟩ = some (.int .i64 t431)) (ds := []) (bm 4 0) (by kernel_rfl) rfl (by kernel_rfl) ⟨(blk_cell BK411.out 0).trans rfl, (blk_cell BK411.out 1).trans rfl, (blk_cell BK418.out 0).trans rfl, (blk_cell BK418.out 1).trans rfl⟩ (fun hHeld => ?_)
  generalize w37.drew = w38 at HO408 HO424 HO430 BK402 BK403 BK411 BK418 HI404 HB hHeld ⊢
  refine take_ (i := 0) (N := some 31) (v := ?_) (a' := ?_) (bm 4 1) rfl rfl (by kernel_rfl) (fun _ _ _ h => h) (Or.inl ⟨by rfl, ?_⟩) hHeld ?_ ?_
  rotate_left
  ·rintro w' ⟨s0, s1, s2, s3⟩
   go_simp
   with_reducible rfl
  rotate_left
  ·simp only [Act.put, List.setIfInBounds_toArray, List.set_cons_zero, List.set_cons_succ, i64_w, i32_w]
   rfl
  refine take_ (i := 1) (N := some 32) (v := ?_) (a' := ?_) (bm 4 3) rfl rfl (by kernel_rfl) (fun _ _ _ h => h) (Or.inl ⟨by rfl, ?_⟩) hHeld ?_ ?_
  rotate_left
  ·rintro w' ⟨s0, s1, s2, s3⟩
   go_simp
   with_reducible rfl
  rotate_left
  ·simp only [Act.put, List.setIfInBounds_toArray, List.set_cons_zero, List.set_cons_succ, i64_w, i32_w]
   rfl
  refine one_ (i := 2) (N := none) (bm 4 7) rfl rfl (by kernel_rfl) (by decide) (fun K hK => ?_)
  obtain ⟨_, _, _, _⟩ := blk2 BK402
  refine skip_ (w1 := ?_) (by rfl) rfl ?_ ?_
  rotate_left
  ·go_simp
   rfl
  refine hK.out _ _ ⟨(cF (cF hHeld.1)), (cF (cF hHeld.2.1)), (cF (cF hHeld.2.2.1)), (cF (cF hHeld.2.2.2))⟩ (fun hHeld => ?_)
  clear hK K
  refine one_ (i := 3) (N := none) (bm 4 15) rfl rfl (by kernel_rfl) (by decide) (fun K hK => ?_)
  obtain ⟨_, _, _, _⟩ := blk2 BK403
  refine skip_ (w1 := ?_) (by rfl) rfl ?_ ?_
  rotate_left
  ·go_simp
   rfl
  refine hK.out _ _ ⟨(cF (cF hHeld.1)), (cF (cF hHeld.2.1)), (cF (cF hHeld.2.2.1)), (cF (cF hHeld.2.2.2))⟩ (fun hHeld => ?_)
  clear hK K
  refine done_ (by kernel_rfl) ?_
  try go_wp2
  refine bodyPost_ret (results_cc rfl _ _ gb402 gb403 32 37 #[.int .i64 t405, .slice Ao18 t406.length co18] #[.int .i64 t425, .int .i64 t431] (0, 0) (0, 0) _ _ rfl (blkT BK402) Tryd.underlying32 rfl (by kernel_rfl) rfl (blkT BK403) Tryd.underlying37 rfl (by kernel_rfl)) rfl ?_
  exact ⟨_, eqE, Kd.R_g (Kd.R_mono (Kd.R_far (p := ⟨gb403, 1, none⟩) (Kd.R_far (p := ⟨gb403, 0, none⟩) (Kd.R_far (p := ⟨gb402, 1, none⟩) (Kd.R_far (p := ⟨gb402, 0, none⟩) (Kd.R_types (Kd.R_types HO408.out BK402.out (by decide)) BK403.out (by decide)) (fun _ hk => hk.1.2) (.int .i64 t405)) (fun _ hk => hk.1.2) (.slice Ao18 t406.length co18)) (fun _ hk => hk.2) (.int .i64 t425)) (fun _ hk => hk.2) (.int .i64 t431)) (fun _ hk => trivial)), by exact bl49_4 HB.out HI404.out GE402.out GE403.out GE411.out GE418.out⟩
 ·replace c6 := Bool.eq_false_iff.mpr c6
  subst c6
  replace H := ifF H
  simp only [Option.some.injEq, Prod.mk.injEq] at H
  obtain ⟨rfl, rfl, rfl, rfl⟩ := H
  go_enter Tryd.func11, Tryd.ntmps11
  try go_wp2_with (first | ((with_reducible refine gate_dst (N := 2) rfl ?_); refine boxG HB #[.int .i64 0, .slice none 0 0] 32 ?_; intro gb402 hg w43 BK402 GE402 hb; replace HB := bst HB hb; clear hb hg) | ((with_reducible refine gate_dst (N := 3) rfl ?_); refine boxG HB #[.int .i64 0, .int .i64 0] 37 ?_; intro gb403 hg w44 BK403 GE403 hb; have NB402_403 := neL7 BK402 hg; have NB403_402 := neR7 BK402 hg; replace BK402 := blkB BK402 hb; replace HB := bst HB hb; clear hb hg) | ((with_reducible refine gate_dst (N := 10) rfl ?_); refine boxE (N := 10) (cs := #[.slice A0 l0.length c0, .int .i64 0, .int .u64 0]) (t := 49) ?_; intro gb404 hg w45 hbox hb; have HI404 := mkA ((⟨_, _, hbox, (by rw [hg]; exact (below_size (bel_g HB.out))), HR0.out⟩ : IsS49 w w45 gb404 l0 0 0)); have GE404 := geB HB hg; have NB402_404 := neL7 BK402 hg; have NB404_402 := neR7 BK402 hg; replace BK402 := blkB BK402 hb; have NB403_404 := neL7 BK403 hg; have NB404_403 := neR7 BK403 hg; replace BK403 := blkB BK403 hb; replace HB := bst HB hb; clear hb hbox hg) | ((with_reducible refine gate_callee (f := 29) rfl ?_); refine goesQ (some 12) Tryd.func29 #[.pointer (some ⟨gb404, 0, none⟩), .int .i64 7] ?_; (with_reducible refine (spec_l1Cur_ended.calls k gb404 l0 0 0 7 t405 t406 t409 t410 w _ ?_ ?_ A2.out).mono ?_); exact st49_2 HI404.out NB404_402.out NB404_403.out; exact bl49_2 HB.out HI404.out GE402.out GE403.out; rintro e w46 ⟨v407, rfl, ho0, hi, hb, hk⟩; refine ⟨_, rfl, ?_⟩; replace BK402 := kB hk BK402; replace BK403 := kB hk BK403; have HO408 := mkA (Kd.R_lower ho0 (below_size (by exact bl49_2 HB.out HI404.out GE402.out GE403.out))); replace HI404 := mkA (hi); replace HB := mkA (hb); clear hb hk hi ho0) | ((with_reducible refine gate_dst (N := 5) rfl ?_); refine boxE (N := 5) (cs := #[.int .i64 0, .slice none 0 0]) (t := 32) ?_; intro gb411 hg w47 hbox hb; replace HO408 := rB HO408 hb; have BK411 := mkA (hbox); have GW411 := mkA ((by rw [hg]; exact (below_size (by exact bl49_2 HB.out HI404.out GE402.out GE403.out)) : w.heap.size ≤ gb411)); have GE411 := mkA ((by rw [hg]; exact (below_size (by exact bl49_2 HB.out HI404.out GE402.out GE403.out)) : w.heap.size ≤ gb411)); have NB402_411 := neL7 BK402 hg; have NB411_402 := neR7 BK402 hg; replace BK402 := blkB BK402 hb; have NB403_411 := neL7 BK403 hg; have NB411_403 := neR7 BK403 hg; replace BK403 := blkB BK403 hb; have NB404_411 : NeB _ _ := ⟨(by rw [hg]; exact Nat.ne_of_lt (IsS49.lt (show IsS49 w _ gb404 l0 t409 t410 from by exact st49_2 HI404.out NB404_402.out NB404_403.out)) : gb404 ≠ gb411)⟩; have NB411_404 : NeB _ _ := ⟨(by rw [hg]; exact Nat.ne_of_gt (IsS49.lt (show IsS49 w _ gb404 l0 t409 t410 from by exact st49_2 HI404.out NB404_402.out NB404_403.out)) : gb411 ≠ gb404)⟩; replace HB := mkA (below_step (by exact bl49_2 HB.out HI404.out GE402.out GE403.out) hb); replace HI404 := mkA (IsS49.below (by exact st49_2 HI404.out NB404_402.out NB404_403.out) hb); clear hb hbox hg; obtain ⟨_, _, _, _⟩ := blk2 BK411; obtain ⟨Ao52, co52, rfl⟩ := Kd.R_slice HO408.out) | ((with_reducible refine gate_callee (f := 18) rfl ?_); refine goesQ (some 14) Tryd.func18 #[.pointer (some ⟨gb404, 0, none⟩), .int .i64 7] ?_; (with_reducible refine (spec_l1Cur_pick.calls gb404 l0 t409 t410 7 t412 t413 t414 w _ ?_ ?_ A3.out).mono ?_); exact st49_3 HI404.out NB404_402.out NB404_403.out NB404_411.out; exact bl49_3 HB.out HI404.out GE402.out GE403.out GE411.out; rintro e w53 ⟨rfl, hi, hb, hk⟩; refine ⟨_, rfl, ?_⟩; replace BK402 := kR hk BK402; replace BK403 := kR hk BK403; replace HO408 := rK (IsS49.apart (show IsS49 w _ gb404 l0 t409 t410 from by exact st49_3 HI404.out NB404_402.out NB404_403.out NB404_411.out) (rFg HO408 BK411) (by decide)) hk; replace BK411 := kR hk BK411; replace HI404 := mkA (hi); replace HB := mkA (hb); clear hb hk hi) | ((with_reducible refine gate_callee (f := 18) rfl ?_); refine goesQ (some 19) Tryd.func18 #[.pointer (some ⟨gb404, 0, none⟩), .int .i64 4] ?_; (with_reducible refine (spec_l1Cur_pick.calls gb404 l0 t413 t414 4 t415 t416 t417 w _ ?_ ?_ A4.out).mono ?_); exact st49_3 HI404.out NB404_402.out NB404_403.out NB404_411.out; exact bl49_3 HB.out HI404.out GE402.out GE403.out GE411.out; rintro e w54 ⟨rfl, hi, hb, hk⟩; refine ⟨_, rfl, ?_⟩; replace BK402 := kB hk BK402; replace BK403 := kB hk BK403; replace HO408 := rK (IsS49.apart (show IsS49 w _ gb404 l0 t413 t414 from by exact st49_3 HI404.out NB404_402.out NB404_403.out NB404_411.out) (Kd.R_g HO408.out) (by decide)) hk; replace BK411 := kB hk BK411; replace HI404 := mkA (hi); replace HB := mkA (hb); clear hb hk hi) | ((with_reducible refine gate_dst (N := 7) rfl ?_); refine boxE (N := 7) (cs := #[.int .i64 0, .int .i64 0]) (t := 37) ?_; intro gb418 hg w55 hbox hb; replace HO408 := rB HO408 hb; have BK418 := mkA (hbox); have GW418 := mkA ((by rw [hg]; exact (below_size (by exact bl49_3 HB.out HI404.out GE402.out GE403.out GE411.out)) : w.heap.size ≤ gb418)); have GE418 := mkA ((by rw [hg]; exact (below_size (by exact bl49_3 HB.out HI404.out GE402.out GE403.out GE411.out)) : w.heap.size ≤ gb418)); have NB402_418 := neL7 BK402 hg; have NB418_402 := neR7 BK402 hg; replace BK402 := blkB BK402 hb; have NB403_418 := neL7 BK403 hg; have NB418_403 := neR7 BK403 hg; replace BK403 := blkB BK403 hb; have NB411_418 := neL7 BK411 hg; have NB418_411 := neR7 BK411 hg; replace BK411 := blkB BK411 hb; have NB404_418 : NeB _ _ := ⟨(by rw [hg]; exact Nat.ne_of_lt (IsS49.lt (show IsS49 w _ gb404 l0 t416 t417 from by exact st49_3 HI404.out NB404_402.out NB404_403.out NB404_411.out)) : gb404 ≠ gb418)⟩; have NB418_404 : NeB _ _ := ⟨(by rw [hg]; exact Nat.ne_of_gt (IsS49.lt (show IsS49 w _ gb404 l0 t416 t417 from by exact st49_3 HI404.out NB404_402.out NB404_403.out NB404_411.out)) : gb418 ≠ gb404)⟩; replace HB := mkA (below_step (by exact bl49_3 HB.out HI404.out GE402.out GE403.out GE411.out) hb); replace HI404 := mkA (IsS49.below (by exact st49_3 HI404.out NB404_402.out NB404_403.out NB404_411.out) hb); clear hb hbox hg; obtain ⟨_, _, _, _⟩ := blk2 BK418) | ((with_reducible refine gate_callee (f := 30) rfl ?_); refine goesQ (some 23) Tryd.func30 #[.pointer (some ⟨gb404, 0, none⟩), .int .i64 8] ?_; (with_reducible refine (spec_l1Cur_one.calls gb404 l0 t416 t417 8 false t420 t421 w _ ?_ ?_ A5.out).mono ?_); exact st49_4 HI404.out NB404_402.out NB404_403.out NB404_411.out NB404_418.out; exact bl49_4 HB.out HI404.out GE402.out GE403.out GE411.out GE418.out; rintro e w61 ⟨rfl, hi, hb, hk⟩; refine ⟨_, rfl, ?_⟩; replace BK402 := kR hk BK402; replace BK403 := kR hk BK403; replace HO408 := rK (IsS49.apart (show IsS49 w _ gb404 l0 t416 t417 from by exact st49_4 HI404.out NB404_402.out NB404_403.out NB404_411.out NB404_418.out) (Kd.R_g ((Kd.R_mono (Kd.R_far (p := ⟨gb418, 1, none⟩) (Kd.R_far (p := ⟨gb418, 0, none⟩) (Kd.R_types HO408.out BK418.out (by decide)) (fun _ hk => hk.2) (.int .i64 (wrap64 (t412 - 1)))) (fun _ hk => hk.2) (.int .i64 (wrap64 ((wrap64 (t412 - 1)) + t415)))) (fun _ h_ => h_.1)))) (by decide)) hk; replace BK411 := kR hk BK411; replace BK418 := kR hk BK418; replace HI404 := mkA (hi); replace HB := mkA (hb); clear hb hk hi))
  replace HO408 := mkA (Kd.R_drew HO408.out)
  replace BK402 := mkA (blk_drew BK402.out)
  replace BK403 := mkA (blk_drew BK403.out)
  replace BK411 := mkA (blk_drew BK411.out)
  replace BK418 := mkA (blk_drew BK418.out)
  replace HI404 := mkA (IsS49.drew HI404.out)
  replace HB := mkA (below_drew1 HB.out)
  refine start_ (n := 4) (S := fun w' => w'.cell? ⟨gb411, 0, none⟩ = some (.int .i64 t405) ∧ w'.cell? ⟨gb411, 1, none⟩ = some (.slice Ao52 t406.length co52) ∧ w'.cell? ⟨gb418, 0, none⟩ = some (.int .i64 (wrap64 (t412 - 1))) ∧ w'.cell? ⟨gb418, 1, none⟩ = some (.int .i64 (wrap64 ((wrap64 (t412 - 1)) + t415)))) (ds := []) (bm 4 0) (by kernel_rfl) rfl (by kernel_rfl) ⟨(blk_cell BK411.out 0).trans rfl, (blk_cell BK411.out 1).trans rfl, (blk_cell BK418.out 0).trans rfl, (blk_cell BK418.out 1).trans rfl⟩ (fun hHeld => ?_)
  generalize w61.drew = w62 at HO408 BK402 BK403 BK411 BK418 HI404 HB hHeld ⊢
  refine take_ (i := 0) (N := some 31) (v := ?_) (a' := ?_) (bm 4 1) rfl rfl (by kernel_rfl) (fun _ _ _ h => h) (Or.inl ⟨by rfl, ?_⟩) hHeld ?_ ?_
  rotate_left
  ·rintro w' ⟨s0, s1, s2, s3⟩
   go_simp
   with_reducible rfl
  rotate_left
  ·simp only [Act.put, List.setIfInBounds_toArray, List.set_cons_zero, List.set_cons_succ, i64_w, i32_w]
   rfl
  refine take_ (i := 1) (N := some 32) (v := ?_) (a' := ?_) (bm 4 3) rfl rfl (by kernel_rfl) (fun _ _ _ h => h) (Or.inl ⟨by rfl, ?_⟩) hHeld ?_ ?_
  rotate_left
  ·rintro w' ⟨s0, s1, s2, s3⟩
   go_simp
   with_reducible rfl
  rotate_left
  ·simp only [Act.put, List.setIfInBounds_toArray, List.set_cons_zero, List.set_cons_succ, i64_w, i32_w]
   rfl
  refine one_ (i := 2) (N := none) (bm 4 7) rfl rfl (by kernel_rfl) (by decide) (fun K hK => ?_)
  obtain ⟨_, _, _, _⟩ := blk2 BK402
  refine skip_ (w1 := ?_) (by rfl) rfl ?_ ?_
  rotate_left
  ·go_simp
   rfl
  refine hK.out _ _ ⟨(cF (cF hHeld.1)), (cF (cF hHeld.2.1)), (cF (cF hHeld.2.2.1)), (cF (cF hHeld.2.2.2))⟩ (fun hHeld => ?_)
  clear hK K
  refine one_ (i := 3) (N := none) (bm 4 15) rfl rfl (by kernel_rfl) (by decide) (fun K hK => ?_)
  obtain ⟨_, _, _, _⟩ := blk2 BK403
  refine skip_ (w1 := ?_) (by rfl) rfl ?_ ?_
  rotate_left
  ·go_simp
   rfl
  refine hK.out _ _ ⟨(cF (cF hHeld.1)), (cF (cF hHeld.2.1)), (cF (cF hHeld.2.2.1)), (cF (cF hHeld.2.2.2))⟩ (fun hHeld => ?_)
  clear hK K
  refine done_ (by kernel_rfl) ?_
  try go_wp2
  refine bodyPost_ret (results_cc rfl _ _ gb402 gb403 32 37 #[.int .i64 t405, .slice Ao52 t406.length co52] #[.int .i64 (wrap64 (t412 - 1)), .int .i64 (wrap64 ((wrap64 (t412 - 1)) + t415))] (0, 0) (0, 0) _ _ rfl (blkT BK402) Tryd.underlying32 rfl (by kernel_rfl) rfl (blkT BK403) Tryd.underlying37 rfl (by kernel_rfl)) rfl ?_
  exact ⟨_, eqE, Kd.R_g (Kd.R_mono (Kd.R_far (p := ⟨gb403, 1, none⟩) (Kd.R_far (p := ⟨gb403, 0, none⟩) (Kd.R_far (p := ⟨gb402, 1, none⟩) (Kd.R_far (p := ⟨gb402, 0, none⟩) (Kd.R_types (Kd.R_types HO408.out BK402.out (by decide)) BK403.out (by decide)) (fun _ hk => hk.1.2) (.int .i64 t405)) (fun _ hk => hk.1.2) (.slice Ao52 t406.length co52)) (fun _ hk => hk.2) (.int .i64 (wrap64 (t412 - 1)))) (fun _ hk => hk.2) (.int .i64 (wrap64 ((wrap64 (t412 - 1)) + t415)))) (fun _ hk => trivial)), by exact bl49_4 HB.out HI404.out GE402.out GE403.out GE411.out GE418.out⟩
end Go.Proofs.YtlfjnllnddpgoaaDoor.Q
