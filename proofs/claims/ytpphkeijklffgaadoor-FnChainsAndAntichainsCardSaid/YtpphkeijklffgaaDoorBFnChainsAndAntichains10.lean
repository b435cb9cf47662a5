import Derived.Test.YtpphkeijklffgaaDoorBFnChainsAndAntichains6
import Derived.Test.YtpphkeijklffgaaDoorBFnChainsAndAntichains8
import Derived.Test.YtpphkeijklffgaaDoorBFnChainsAndAntichains9
namespace Go.Proofs.YtpphkeijklffgaaDoor.Q
open Go.RowKit Go.Proofs.YtpphkeijklffgaaDoorW.PrintWords Go.Proofs.YtpphkeijklffgaaDoorW.PrintLast Go.Proofs.YtpphkeijklffgaaDoorW.PrintMore
attribute [local go_sem] max2_int min2_int max_two min_two max_three min_three max_four min_four neB_f
set_option linter.unusedVariables false
set_option maxHeartbeats 8000000
set_option maxRecDepth 100000
set_option linter.unusedSimpArgs false
def spec_DrawChainNumbers.f (k : Nat) (l0 : List Int) : Option (Int × List Int) := (spec_l1Cur_anyOrder.f k l0 0 0 7).bind fun bt285 => ((spec_orGood.f k bt285.1 bt285.2.1).bind fun t292 => (if t292 = true then ((spec_l1Cur_names.f k l0 bt285.2.2.1 bt285.2.2.2 bt285.1).bind fun bt293 => ((spec_orNames.f k bt285.1 bt293.1).bind fun t298 => (if t298 = true then ((spec_orPart.f k bt285.1 bt285.2.1 bt293.1).bind fun bt299 => (some (bt299.1, bt299.2))) else (some (bt285.1, bt285.2.1))))) else (some (bt285.1, bt285.2.1))))
theorem spec_DrawChainNumbers.mono : ∀ a0 k, LeO (spec_DrawChainNumbers.f k a0) (spec_DrawChainNumbers.f (k + 1) a0) := by
 intro a0 k
 unfold spec_DrawChainNumbers.f
 repeat' (with_reducible first|apply spec_l1Cur_anyOrder.mono|apply spec_l1Cur_names.mono|apply spec_orGood.mono|apply spec_orNames.mono|apply spec_orPart.mono|apply LeO.refl|apply LeO.none|apply LeO.ite|apply LeO.bind|intro)
theorem spec_DrawChainNumbers.calls (k : Nat) (A0 : Option Addr) (c0 : Nat) (l0 : List Int) (r1 : Int) (r2 : List Int) (w : World) (hr0 : Kd.C (Kd.int .u8) w A0 l0.length l0) (hc0 : l0.length ≤ c0) (h : spec_DrawChainNumbers.f k l0 = some (r1, r2)) :
  Calls Tryd.prog 5 #[.slice A0 l0.length c0] w fun e w' => ∃ v1_ : Value, e = .returned (.agg #[.int .i64 r1, v1_]) ∧ Kd.R (Kd.int .i64) 3 w' w.heap.size (fun _ => True) v1_ r2 ∧ Below w.heap.size w w' := by
 have hu26 := Tryd.underlying26
 have hu36 := Tryd.underlying36
 have HR0 := mkA hr0
 have HC0 := mkA hc0
 clear hr0 hc0
 have HB := mkA (Below.refl w.heap.size w)
 have H := h
 clear h
 unfold spec_DrawChainNumbers.f at H
 obtain ⟨⟨t285, t286, t289, t290⟩, A2, H⟩ := obE H
 dsimp only at H
 obtain ⟨t292, A3, H⟩ := obE H
 by_cases c4 : t292 = true
 ·subst c4
  replace H := ifT H
  obtain ⟨⟨t293, t296, t297⟩, A5, H⟩ := obE H
  dsimp only at H
  obtain ⟨t298, A6, H⟩ := obE H
  by_cases c7 : t298 = true
  ·subst c7
   replace H := ifT H
   obtain ⟨⟨t299, t300⟩, A8, H⟩ := obE H
   dsimp only at H
   simp only [Option.some.injEq, Prod.mk.injEq] at H
   obtain ⟨rfl, rfl⟩ := H
   go_enter Tryd.func5, Tryd.ntmps5
   go_wp2_with (first | ((with_reducible refine gate_dst (N := 2) rfl ?_); refine boxG HB #[.int .i64 0, .slice none 0 0] 26 ?_; intro gb283 hg w9 BK283 GE283 hb; replace HB := bst HB hb; clear hb hg) | ((with_reducible refine gate_dst (N := 8) rfl ?_); refine boxE (N := 8) (cs := #[.slice A0 l0.length c0, .int .i64 0, .int .u64 0]) (t := 36) ?_; intro gb284 hg w10 hbox hb; have HI284 := mkA ((⟨_, _, hbox, (by rw [hg]; exact (below_size (bel_g HB.out))), HR0.out⟩ : IsS36 w w10 gb284 l0 0 0)); have GE284 := geB HB hg; have NB283_284 := neL7 BK283 hg; have NB284_283 := neR7 BK283 hg; replace BK283 := blkB BK283 hb; replace HB := bst HB hb; clear hb hbox hg) | ((with_reducible refine gate_callee (f := 15) rfl ?_); refine goesQ (some 10) Tryd.func15 #[.pointer (some ⟨gb284, 0, none⟩), .int .i64 7] ?_; (with_reducible refine (spec_l1Cur_anyOrder.calls k gb284 l0 0 0 7 t285 t286 t289 t290 w _ ?_ ?_ A2.out).mono ?_); exact st36_1 HI284.out NB284_283.out; exact bl36_1 HB.out HI284.out GE283.out; rintro e w11 ⟨v287, rfl, ho0, hi, hb, hk⟩; refine ⟨_, rfl, ?_⟩; replace BK283 := kB hk BK283; have HO288 := mkA (Kd.R_lower ho0 (below_size (by exact bl36_1 HB.out HI284.out GE283.out))); replace HI284 := mkA (hi); replace HB := mkA (hb); clear hb hk hi ho0) | ((with_reducible refine gate_dst (N := 4) rfl ?_); refine boxE (N := 4) (cs := #[.int .i64 0, .slice none 0 0]) (t := 26) ?_; intro gb291 hg w12 hbox hb; replace HO288 := rB HO288 hb; have BK291 := mkA (hbox); have GW291 := mkA ((by rw [hg]; exact (below_size (by exact bl36_1 HB.out HI284.out GE283.out)) : w.heap.size ≤ gb291)); have GE291 := mkA ((by rw [hg]; exact (below_size (by exact bl36_1 HB.out HI284.out GE283.out)) : w.heap.size ≤ gb291)); have NB283_291 := neL7 BK283 hg; have NB291_283 := neR7 BK283 hg; replace BK283 := blkB BK283 hb; have NB284_291 : NeB _ _ := ⟨(by rw [hg]; exact Nat.ne_of_lt (IsS36.lt (show IsS36 w _ gb284 l0 t289 t290 from by exact st36_1 HI284.out NB284_283.out)) : gb284 ≠ gb291)⟩; have NB291_284 : NeB _ _ := ⟨(by rw [hg]; exact Nat.ne_of_gt (IsS36.lt (show IsS36 w _ gb284 l0 t289 t290 from by exact st36_1 HI284.out NB284_283.out)) : gb291 ≠ gb284)⟩; replace HB := mkA (below_step (by exact bl36_1 HB.out HI284.out GE283.out) hb); replace HI284 := mkA (IsS36.below (by exact st36_1 HI284.out NB284_283.out) hb); clear hb hbox hg; obtain ⟨_, _, _, _⟩ := blk2 BK291; obtain ⟨Ao16, co16, rfl⟩ := Kd.R_slice HO288.out) | ((with_reducible refine gate_callee (f := 16) rfl ?_); refine goesQ (some 12) Tryd.func16 #[.agg #[.int .i64 t285, .slice Ao16 t286.length co16]] ?_; (with_reducible refine (spec_orGood.calls k t285 _ _ t286 true _ ?_ ?_ A3.out).mono ?_); exact rCF HO288 BK291; exact rL HO288; rintro e w17 ⟨rfl, hb⟩; refine ⟨_, rfl, ?_⟩; replace HO288 := mkA (Kd.R_below (rFg HO288 BK291) hb); replace BK283 := blkS BK283 hb; replace BK291 := blkS BK291 hb; replace HB := mkA (below_step (by exact bl36_2 HB.out HI284.out GE283.out GE291.out) hb); replace HI284 := mkA (IsS36.below (show IsS36 w ((w12.setCell ⟨gb291, 0, none⟩ (.int .i64 t285)).setCell ⟨gb291, 1, none⟩ (.slice Ao16 t286.length co16)) gb284 l0 t289 t290 from by exact st36_2 HI284.out NB284_283.out NB284_291.out) hb); clear hb; obtain ⟨_, _, _, _⟩ := blk2 BK291) | ((with_reducible refine gate_callee (f := 17) rfl ?_); refine goesQ (some 16) Tryd.func17 #[.pointer (some ⟨gb284, 0, none⟩), .int .i64 t285] ?_; (with_reducible refine (spec_l1Cur_names.calls k gb284 l0 t289 t290 t285 t293 t296 t297 w _ ?_ ?_ A5.out).mono ?_); exact st36_2 HI284.out NB284_283.out NB284_291.out; exact bl36_2 HB.out HI284.out GE283.out GE291.out; rintro e w19 ⟨v294, rfl, ho0, hi, hb, hk⟩; refine ⟨_, rfl, ?_⟩; replace BK283 := kB hk BK283; replace BK291 := kB hk BK291; have HO295 := mkA (Kd.R_lower (rN ho0 HO288) (below_size (by exact bl36_2 HB.out HI284.out GE283.out GE291.out))); replace HO288 := mkA (Kd.R_mono (Kd.R_told (Kd.R_oldK (IsS36.apart (show IsS36 w _ gb284 l0 t289 t290 from by exact st36_2 HI284.out NB284_283.out NB284_291.out) (Kd.R_g HO288.out) (by decide)) hk) (Kd.R_base ho0)) (fun _ h_ => h_.1)); replace HI284 := mkA (hi); replace HB := mkA (hb); clear hb hk hi ho0; obtain ⟨_, _, _, _⟩ := blk2 BK291; obtain ⟨Ao21, co21, rfl⟩ := Kd.R_slice HO295.out) | ((with_reducible refine gate_callee (f := 18) rfl ?_); refine goesQ (some 20) Tryd.func18 #[.int .i64 t285, .slice Ao21 t293.length co21] ?_; (with_reducible refine (spec_orNames.calls k t285 _ _ t293 true _ ?_ ?_ A6.out).mono ?_); exact rC HO295; exact rL HO295; rintro e w' ⟨rfl, ⟨nd, rfl⟩⟩; refine ⟨_, rfl, ?_⟩; (try (rw [drewN_self w19]; generalize hq_ : World.drewN w19 _ = w19; have n0_ : Fc (Kd.R (Kd.int .i64) 3 w19 w.heap.size (fun k_ => some k_ ≠ (.slice Ao21 t293.length co21 : Value).ownBlock) (.slice Ao16 t286.length co16) t286) := ⟨by rw [← hq_]; exact (Kd.R_g (Kd.R_mono HO288.out (fun _ hk => hk.2)))⟩; have n1_ : Fc (Kd.R (Kd.int .i64) 3 w19 w.heap.size (fun k_ => some k_ ≠ (.slice Ao16 t286.length co16 : Value).ownBlock) (.slice Ao21 t293.length co21) t293) := ⟨by rw [← hq_]; exact (Kd.R_g (Kd.R_mono HO295.out (fun _ hk => hk.2)))⟩; have n2_ : Fc (w19.heap[gb283]? = some (.cells #[.int .i64 0, .slice none 0 0] 26 (0, 0))) := ⟨by rw [← hq_]; exact (blk_g BK283.out)⟩; have n3_ : Fc (w19.heap[gb291]? = some (.cells #[.int .i64 t285, .slice Ao16 t286.length co16] 26 (0, 0))) := ⟨by rw [← hq_]; exact (blk_g BK291.out)⟩; have n4_ : Fc (IsS36 w w19 gb284 l0 t296 t297) := ⟨by rw [← hq_]; exact (by exact st36_2 HI284.out NB284_283.out NB284_291.out)⟩; have n5_ : Fc (Below w.heap.size w w19) := ⟨by rw [← hq_]; exact (by exact bl36_2 HB.out HI284.out GE283.out GE291.out)⟩; clear HO288 HO295 BK283 BK291 HI284 HB hq_; have HO288 := n0_; have HO295 := n1_; have BK283 := n2_; have BK291 := n3_; have HI284 := n4_; have HB := n5_; clear n0_ n1_ n2_ n3_ n4_ n5_)); (try obtain ⟨_, _, _, _⟩ := blk2 BK283); (try obtain ⟨_, _, _, _⟩ := blk2 BK291)) | ((with_reducible refine gate_callee (f := 19) rfl ?_); refine goesQ (some 23) Tryd.func19 #[.agg #[.int .i64 t285, .slice Ao16 t286.length co16], .slice Ao21 t293.length co21] ?_; (with_reducible refine (spec_orPart.calls k t285 _ _ t286 _ _ t293 t299 t300 _ ?_ ?_ ?_ ?_ A8.out).mono ?_); exact rC HO288; exact rL HO288; exact rC HO295; exact rL HO295; rintro e w22 ⟨v301, rfl, ho0, hb⟩; refine ⟨_, rfl, ?_⟩; have HO302 := mkA (Kd.R_lower (rN (rN ho0 HO288) HO295) (below_size (by exact bl36_2 HB.out HI284.out GE283.out GE291.out))); replace HO288 := rE HO288 ho0 hb; replace HO295 := rE HO295 ho0 hb; replace BK283 := blkB BK283 hb; replace BK291 := blkB BK291 hb; replace HB := mkA (below_step (by exact bl36_2 HB.out HI284.out GE283.out GE291.out) hb); replace HI284 := mkA (IsS36.below (by exact st36_2 HI284.out NB284_283.out NB284_291.out) hb); clear hb ho0; obtain ⟨_, _, _, _⟩ := blk2 BK283; obtain ⟨Ao25, co25, rfl⟩ := Kd.R_slice HO302.out))
   refine bodyPost_ret (results_cell_row rfl _ _ gb283 26 #[.int .i64 t299, .slice Ao25 t300.length co25] (0, 0) _ rfl (blkT BK283) Tryd.underlying26 rfl (by kernel_rfl)) rfl ?_
   exact ⟨_, eqE, Kd.R_g (Kd.R_mono (rF HO302 BK283) (fun _ _ => trivial)), by exact bl36_2 HB.out HI284.out GE283.out GE291.out⟩
  ·replace c7 := Bool.eq_false_iff.mpr c7
   subst c7
   replace H := ifF H
   simp only [Option.some.injEq, Prod.mk.injEq] at H
   obtain ⟨rfl, rfl⟩ := H
   go_enter Tryd.func5, Tryd.ntmps5
   go_wp2_with (first | ((with_reducible refine gate_dst (N := 2) rfl ?_); refine boxG HB #[.int .i64 0, .slice none 0 0] 26 ?_; intro gb283 hg w26 BK283 GE283 hb; replace HB := bst HB hb; clear hb hg) | ((with_reducible refine gate_dst (N := 8) rfl ?_); refine boxE (N := 8) (cs := #[.slice A0 l0.length c0, .int .i64 0, .int .u64 0]) (t := 36) ?_; intro gb284 hg w27 hbox hb; have HI284 := mkA ((⟨_, _, hbox, (by rw [hg]; exact (below_size (bel_g HB.out))), HR0.out⟩ : IsS36 w w27 gb284 l0 0 0)); have GE284 := geB HB hg; have NB283_284 := neL7 BK283 hg; have NB284_283 := neR7 BK283 hg; replace BK283 := blkB BK283 hb; replace HB := bst HB hb; clear hb hbox hg) | ((with_reducible refine gate_callee (f := 15) rfl ?_); refine goesQ (some 10) Tryd.func15 #[.pointer (some ⟨gb284, 0, none⟩), .int .i64 7] ?_; (with_reducible refine (spec_l1Cur_anyOrder.calls k gb284 l0 0 0 7 t285 t286 t289 t290 w _ ?_ ?_ A2.out).mono ?_); exact st36_1 HI284.out NB284_283.out; exact bl36_1 HB.out HI284.out GE283.out; rintro e w28 ⟨v287, rfl, ho0, hi, hb, hk⟩; refine ⟨_, rfl, ?_⟩; replace BK283 := kB hk BK283; have HO288 := mkA (Kd.R_lower ho0 (below_size (by exact bl36_1 HB.out HI284.out GE283.out))); replace HI284 := mkA (hi); replace HB := mkA (hb); clear hb hk hi ho0) | ((with_reducible refine gate_dst (N := 4) rfl ?_); refine boxE (N := 4) (cs := #[.int .i64 0, .slice none 0 0]) (t := 26) ?_; intro gb291 hg w29 hbox hb; replace HO288 := rB HO288 hb; have BK291 := mkA (hbox); have GW291 := mkA ((by rw [hg]; exact (below_size (by exact bl36_1 HB.out HI284.out GE283.out)) : w.heap.size ≤ gb291)); have GE291 := mkA ((by rw [hg]; exact (below_size (by exact bl36_1 HB.out HI284.out GE283.out)) : w.heap.size ≤ gb291)); have NB283_291 := neL7 BK283 hg; have NB291_283 := neR7 BK283 hg; replace BK283 := blkB BK283 hb; have NB284_291 : NeB _ _ := ⟨(by rw [hg]; exact Nat.ne_of_lt (IsS36.lt (show IsS36 w _ gb284 l0 t289 t290 from by exact st36_1 HI284.out NB284_283.out)) : gb284 ≠ gb291)⟩; have NB291_284 : NeB _ _ := ⟨(by rw [hg]; exact Nat.ne_of_gt (IsS36.lt (show IsS36 w _ gb284 l0 t289 t290 from by exact st36_1 HI284.out NB284_283.out)) : gb291 ≠ gb284)⟩; replace HB := mkA (below_step (by exact bl36_1 HB.out HI284.out GE283.out) hb); replace HI284 := mkA (IsS36.below (by exact st36_1 HI284.out NB284_283.out) hb); clear hb hbox hg; obtain ⟨_, _, _, _⟩ := blk2 BK291; obtain ⟨Ao33, co33, rfl⟩ := Kd.R_slice HO288.out) | ((with_reducible refine gate_callee (f := 16) rfl ?_); refine goesQ (some 12) Tryd.func16 #[.agg #[.int .i64 t285, .slice Ao33 t286.length co33]] ?_; (with_reducible refine (spec_orGood.calls k t285 _ _ t286 true _ ?_ ?_ A3.out).mono ?_); exact rCF HO288 BK291; exact rL HO288; rintro e w34 ⟨rfl, hb⟩; refine ⟨_, rfl, ?_⟩; replace HO288 := mkA (Kd.R_below (rFg HO288 BK291) hb); replace BK283 := blkS BK283 hb; replace BK291 := blkS BK291 hb; replace HB := mkA (below_step (by exact bl36_2 HB.out HI284.out GE283.out GE291.out) hb); replace HI284 := mkA (IsS36.below (show IsS36 w ((w29.setCell ⟨gb291, 0, none⟩ (.int .i64 t285)).setCell ⟨gb291, 1, none⟩ (.slice Ao33 t286.length co33)) gb284 l0 t289 t290 from by exact st36_2 HI284.out NB284_283.out NB284_291.out) hb); clear hb; obtain ⟨_, _, _, _⟩ := blk2 BK291) | ((with_reducible refine gate_callee (f := 17) rfl ?_); refine goesQ (some 16) Tryd.func17 #[.pointer (some ⟨gb284, 0, none⟩), .int .i64 t285] ?_; (with_reducible refine (spec_l1Cur_names.calls k gb284 l0 t289 t290 t285 t293 t296 t297 w _ ?_ ?_ A5.out).mono ?_); exact st36_2 HI284.out NB284_283.out NB284_291.out; exact bl36_2 HB.out HI284.out GE283.out GE291.out; rintro e w36 ⟨v294, rfl, ho0, hi, hb, hk⟩; refine ⟨_, rfl, ?_⟩; replace BK283 := kB hk BK283; replace BK291 := kB hk BK291; have HO295 := mkA (Kd.R_lower (rN ho0 HO288) (below_size (by exact bl36_2 HB.out HI284.out GE283.out GE291.out))); replace HO288 := mkA (Kd.R_mono (Kd.R_told (Kd.R_oldK (IsS36.apart (show IsS36 w _ gb284 l0 t289 t290 from by exact st36_2 HI284.out NB284_283.out NB284_291.out) (Kd.R_g HO288.out) (by decide)) hk) (Kd.R_base ho0)) (fun _ h_ => h_.1)); replace HI284 := mkA (hi); replace HB := mkA (hb); clear hb hk hi ho0; obtain ⟨_, _, _, _⟩ := blk2 BK291; obtain ⟨Ao38, co38, rfl⟩ := Kd.R_slice HO295.out) | ((with_reducible refine gate_callee (f := 18) rfl ?_); refine goesQ (some 20) Tryd.func18 #[.int .i64 t285, .slice Ao38 t293.length co38] ?_; (with_reducible refine (spec_orNames.calls k t285 _ _ t293 false _ ?_ ?_ A6.out).mono ?_); exact rC HO295; exact rL HO295; rintro e w' ⟨rfl, ⟨nd, rfl⟩⟩; refine ⟨_, rfl, ?_⟩; (try (rw [drewN_self w36]; generalize hq_ : World.drewN w36 _ = w36; have n0_ : Fc (Kd.R (Kd.int .i64) 3 w36 w.heap.size (fun k_ => some k_ ≠ (.slice Ao38 t293.length co38 : Value).ownBlock) (.slice Ao33 t286.length co33) t286) := ⟨by rw [← hq_]; exact (Kd.R_g (Kd.R_mono HO288.out (fun _ hk => hk.2)))⟩; have n1_ : Fc (Kd.R (Kd.int .i64) 3 w36 w.heap.size (fun k_ => some k_ ≠ (.slice Ao33 t286.length co33 : Value).ownBlock) (.slice Ao38 t293.length co38) t293) := ⟨by rw [← hq_]; exact (Kd.R_g (Kd.R_mono HO295.out (fun _ hk => hk.2)))⟩; have n2_ : Fc (w36.heap[gb283]? = some (.cells #[.int .i64 0, .slice none 0 0] 26 (0, 0))) := ⟨by rw [← hq_]; exact (blk_g BK283.out)⟩; have n3_ : Fc (w36.heap[gb291]? = some (.cells #[.int .i64 t285, .slice Ao33 t286.length co33] 26 (0, 0))) := ⟨by rw [← hq_]; exact (blk_g BK291.out)⟩; have n4_ : Fc (IsS36 w w36 gb284 l0 t296 t297) := ⟨by rw [← hq_]; exact (by exact st36_2 HI284.out NB284_283.out NB284_291.out)⟩; have n5_ : Fc (Below w.heap.size w w36) := ⟨by rw [← hq_]; exact (by exact bl36_2 HB.out HI284.out GE283.out GE291.out)⟩; clear HO288 HO295 BK283 BK291 HI284 HB hq_; have HO288 := n0_; have HO295 := n1_; have BK283 := n2_; have BK291 := n3_; have HI284 := n4_; have HB := n5_; clear n0_ n1_ n2_ n3_ n4_ n5_)); (try obtain ⟨_, _, _, _⟩ := blk2 BK283); (try obtain ⟨_, _, _, _⟩ := blk2 BK291); obtain ⟨_, _, _, _⟩ := blk2 BK283))
   refine bodyPost_ret (results_cell_row rfl _ _ gb283 26 #[.int .i64 t285, .slice Ao33 t286.length co33] (0, 0) _ rfl (blkT BK283) Tryd.underlying26 rfl (by kernel_rfl)) rfl ?_
   exact ⟨_, eqE, Kd.R_g (Kd.R_mono (rF HO288 BK283) (fun _ _ => trivial)), by exact bl36_2 HB.out HI284.out GE283.out GE291.out⟩
 ·replace c4 := Bool.eq_false_iff.mpr c4
  subst c4
  replace H := ifF H
  simp only [Option.some.injEq, Prod.mk.injEq] at H
  obtain ⟨rfl, rfl⟩ := H
  go_enter Tryd.func5, Tryd.ntmps5
  go_wp2_with (first | ((with_reducible refine gate_dst (N := 2) rfl ?_); refine boxG HB #[.int .i64 0, .slice none 0 0] 26 ?_; intro gb283 hg w41 BK283 GE283 hb; replace HB := bst HB hb; clear hb hg) | ((with_reducible refine gate_dst (N := 8) rfl ?_); refine boxE (N := 8) (cs := #[.slice A0 l0.length c0, .int .i64 0, .int .u64 0]) (t := 36) ?_; intro gb284 hg w42 hbox hb; have HI284 := mkA ((⟨_, _, hbox, (by rw [hg]; exact (below_size (bel_g HB.out))), HR0.out⟩ : IsS36 w w42 gb284 l0 0 0)); have GE284 := geB HB hg; have NB283_284 := neL7 BK283 hg; have NB284_283 := neR7 BK283 hg; replace BK283 := blkB BK283 hb; replace HB := bst HB hb; clear hb hbox hg) | ((with_reducible refine gate_callee (f := 15) rfl ?_); refine goesQ (some 10) Tryd.func15 #[.pointer (some ⟨gb284, 0, none⟩), .int .i64 7] ?_; (with_reducible refine (spec_l1Cur_anyOrder.calls k gb284 l0 0 0 7 t285 t286 t289 t290 w _ ?_ ?_ A2.out).mono ?_); exact st36_1 HI284.out NB284_283.out; exact bl36_1 HB.out HI284.out GE283.out; rintro e w43 ⟨v287, rfl, ho0, hi, hb, hk⟩; refine ⟨_, rfl, ?_⟩; replace BK283 := kB hk BK283; have HO288 := mkA (Kd.R_lower ho0 (below_size (by exact bl36_1 HB.out HI284.out GE283.out))); replace HI284 := mkA (hi); replace HB := mkA (hb); clear hb hk hi ho0) | ((with_reducible refine gate_dst (N := 4) rfl ?_); refine boxE (N := 4) (cs := #[.int .i64 0, .slice none 0 0]) (t := 26) ?_; intro gb291 hg w44 hbox hb; replace HO288 := rB HO288 hb; have BK291 := mkA (hbox); have GW291 := mkA ((by rw [hg]; exact (below_size (by exact bl36_1 HB.out HI284.out GE283.out)) : w.heap.size ≤ gb291)); have GE291 := mkA ((by rw [hg]; exact (below_size (by exact bl36_1 HB.out HI284.out GE283.out)) : w.heap.size ≤ gb291)); have NB283_291 := neL7 BK283 hg; have NB291_283 := neR7 BK283 hg; replace BK283 := blkB BK283 hb; have NB284_291 : NeB _ _ := ⟨(by rw [hg]; exact Nat.ne_of_lt (IsS36.lt (show IsS36 w _ gb284 l0 t289 t290 from by exact st36_1 HI284.out NB284_283.out)) : gb284 ≠ gb291)⟩; have NB291_284 : NeB _ _ := ⟨(by rw [hg]; exact Nat.ne_of_gt (IsS36.lt (show IsS36 w _ gb284 l0 t289 t290 from by exact st36_1 HI284.out NB284_283.out)) : gb291 ≠ gb284)⟩; replace HB := mkA (below_step (by exact bl36_1 HB.out HI284.out GE283.out) hb); replace HI284 := mkA (IsS36.below (by exact st36_1 HI284.out NB284_283.out) hb); clear hb hbox hg; obtain ⟨_, _, _, _⟩ := blk2 BK291; obtain ⟨Ao48, co48, rfl⟩ := Kd.R_slice HO288.out) | ((with_reducible refine gate_callee (f := 16) rfl ?_); refine goesQ (some 12) Tryd.func16 #[.agg #[.int .i64 t285, .slice Ao48 t286.length co48]] ?_; (with_reducible refine (spec_orGood.calls k t285 _ _ t286 false _ ?_ ?_ A3.out).mono ?_); exact rCF HO288 BK291; exact rL HO288; rintro e w49 ⟨rfl, hb⟩; refine ⟨_, rfl, ?_⟩; replace HO288 := mkA (Kd.R_below (rFg HO288 BK291) hb); replace BK283 := blkS BK283 hb; replace BK291 := blkS BK291 hb; replace HB := mkA (below_step (by exact bl36_2 HB.out HI284.out GE283.out GE291.out) hb); replace HI284 := mkA (IsS36.below (show IsS36 w ((w44.setCell ⟨gb291, 0, none⟩ (.int .i64 t285)).setCell ⟨gb291, 1, none⟩ (.slice Ao48 t286.length co48)) gb284 l0 t289 t290 from by exact st36_2 HI284.out NB284_283.out NB284_291.out) hb); clear hb; obtain ⟨_, _, _, _⟩ := blk2 BK291; obtain ⟨_, _, _, _⟩ := blk2 BK283))
  refine bodyPost_ret (results_cell_row rfl _ _ gb283 26 #[.int .i64 t285, .slice Ao48 t286.length co48] (0, 0) _ rfl (blkT BK283) Tryd.underlying26 rfl (by kernel_rfl)) rfl ?_
  exact ⟨_, eqE, Kd.R_g (Kd.R_mono (rF HO288 BK283) (fun _ _ => trivial)), by exact bl36_2 HB.out HI284.out GE283.out GE291.out⟩
def bits_TrailingZeros.f (a0 : Int) : Option (Int) := (bits_TrailingZeros64.f a0).bind fun t303 => (some t303)
theorem bits_TrailingZeros.calls (a0 : Int) (r : Int) (w : World) (hTAB : Tab w) (h : bits_TrailingZeros.f a0 = some r) :
  Calls Tryd.prog 49 #[.int .u64 a0] w fun e w' => e = .returned (.int .i64 r) ∧ Drawn0 w w' := by
 have HTAB := mkA hTAB
 clear hTAB
 have H := h
 clear h
 unfold bits_TrailingZeros.f at H
 obtain ⟨t303, A2, H⟩ := obE H
 obtain rfl := Option.some.inj H
 go_enter Tryd.func49, Tryd.ntmps49
 go_wp2_with (first | ((with_reducible refine gate_callee (f := 60) rfl ?_); refine goesQ (some 7) Tryd.func60 #[.int .u64 a0] ?_; (with_reducible refine (bits_TrailingZeros64.calls a0 t303 _ ?s1 A2.out).mono ?_); (case s1 => first | exact HTAB.out | exact Tab.drewN HTAB.out _ | exact Tab.below HTAB.out (bel_g HB.out) | exact Tab.below HTAB.out (by repeat (first | exact Below.refl _ _ | apply below_alloc | apply pw_below_drewN | apply below_drew1))); rintro e w' ⟨rfl, ⟨nd, rfl⟩⟩; refine ⟨_, rfl, ?_⟩))
 go_ret
 exact ⟨eqS, drE⟩
def impl_members.l0 : Nat → Int → List Int → Option (List Int)
 | 0, _, _ => none
 | k + 1, x0, x3 => if x0 = 0 then (some x3) else ((bits_TrailingZeros.f (IntKind.u64.wrap (x0))).bind fun t307 => (if x3.length < 17592186044416 then (impl_members.l0 k (Go.bits .and .i64 x0 (wrap64 (x0 - 1))) (x3 ++ [t307])) else (none)))
def impl_members.f (k : Nat) (a0 : Int) : Option (List Int) := impl_members.l0 k a0 (([] : List Int))
theorem impl_members.mono_l : ∀ k, (∀ y0 y1, LeO (impl_members.l0 k y0 y1) (impl_members.l0 (k + 1) y0 y1))
 | 0 => fun _ _ r h => by simp [impl_members.l0] at h
 | k + 1 => by
  have ih0 := impl_members.mono_l k
  ·intro y0 y1
   unfold impl_members.l0
   repeat' (with_reducible first|apply ih0|apply LeO.refl|apply LeO.none|apply LeO.ite|apply LeO.bind|intro)
theorem impl_members.mono : ∀ a0 k, LeO (impl_members.f k a0) (impl_members.f (k + 1) a0) := by
 intro a0 k
 have ih0 := impl_members.mono_l k
 unfold impl_members.f
 repeat' (with_reducible first|apply ih0|apply LeO.refl|apply LeO.none|apply LeO.ite|apply LeO.bind|intro)
theorem impl_members.calls (k : Nat) (a0 : Int) (r : List Int) (w : World) (hTAB : Tab w) (h : impl_members.f k a0 = some r) :
  Calls Tryd.prog 28 #[.int .i64 a0] w fun e w' => ∃ v0_ : Value, e = .returned (v0_) ∧ Kd.R (Kd.int .i64) 3 w' w.heap.size (fun _ => True) v0_ r ∧ Below w.heap.size w w' := by
 have HTAB := mkA hTAB
 clear hTAB
 have HB := mkA (Below.refl w.heap.size w)
 have H := h
 clear h
 unfold impl_members.f at H
 obtain ⟨y304, hy304⟩ : ∃ y_ : List Int, y_ = (([] : List Int)) := ⟨_, rfl⟩
 rw [← hy304] at H
 have Ny304 := mkA hy304
 clear hy304
 have H' := mkA H
 clear H
 go_enter Tryd.func28, Tryd.ntmps28
 go_wp2_with (first | ((with_reducible refine gate_dst (N := 4) rfl ?_); refine litE (Kd.int .i64) 3 ([] : List Int) [] ?hp ?_; (case hp => exact (Reps.none _ _)); intro v305 w2 ho3 hb hg_ hnew_; clear hg_ hnew_; (first | rw [← Ny304.out] at ho3 | (simp only [Int.reduceToNat] at ho3; rw [← Ny304.out] at ho3)); have HO306 := rLo ho3 HB; replace HB := bst HB hb; clear hb ho3))
 go_loopg [0, 3] k (fun kq v0 v3 w' => ∃ (x0_1 : Int) (x3_1 : List Int), v0 = .int .i64 x0_1 ∧ Fc (impl_members.l0 kq x0_1 x3_1 = some r) ∧ Fc (kq ≤ k) ∧ Fc (Kd.R (Kd.int .i64) 3 w' w.heap.size (fun _ => True) v3 x3_1) ∧ Fc (Below w.heap.size w w'))
 case atStart => exact ⟨(a0), (y304), eqS, H', ⟨Nat.le_refl _⟩, rg HO306, hbg HB⟩
 case round =>
  clear H'
  obtain ⟨x0_1, x3_1, rfl, HA, HK1, HO_3, HB⟩ := hrel
  cases gk with
  | zero => exact absurd HA.out (by simp [impl_members.l0])
  | succ k1 =>
   have H := HA.out
   clear HA
   simp only [impl_members.l0] at H
   rcases iteP H with ⟨c4, H⟩ | ⟨c4, H⟩
   ·have c4b0 := beq_iff_eq.mpr c4
    have c4b1 := bne_eq_false_iff_eq.mpr c4
    clear c4
    obtain rfl := Option.some.inj H
    go_wp2
    go_ret
    exact ⟨_, eqE, Kd.R_g HO_3.out, bel_g HB.out⟩
   ·have c4b0 := beq_eq_false_iff_ne.mpr c4
    have c4b1 := bne_iff_ne.mpr c4
    obtain ⟨t307, A5, H⟩ := obE H
    obtain ⟨c6, H⟩ := itNP H
    have LMc6 := mkA c6
    clear c6
    obtain ⟨y308, hy308⟩ : ∃ y_ : List Int, y_ = (x3_1 ++ [t307]) := ⟨_, rfl⟩
    rw [← hy308] at H
    have Ny308 := mkA hy308
    clear hy308
    have H' := mkA H
    clear H
    go_wp2_with (first | ((with_reducible refine gate_callee (f := 49) rfl ?_); refine goesQ (some 14) Tryd.func49 #[.int .u64 (IntKind.u64.wrap (x0_1))] ?_; (with_reducible refine (bits_TrailingZeros.calls (IntKind.u64.wrap (x0_1)) t307 _ ?_ A5.out).mono ?_); exact Tab.below HTAB.out (bel_g HB.out); rintro e w' ⟨rfl, ⟨nd, rfl⟩⟩; refine ⟨_, rfl, ?_⟩) | ((with_reducible refine gate_builtin (b := .append) (xs := #[.tmp 11, .tmp 15]) rfl ?_); at_builtin; refine Kd.R_append (Kd.int .i64) (w0 := w) w.heap.size rfl (.tmp 11) (.tmp 15) 24 3 (.int .i64 0) 8 rfl Tryd.underlying24 info3 rfl (by decide) (by omega) u3 x3_1 t307 [.int .i64 t307] (fun _ => True) (fun _ => False) rfl rfl ?aP (fun _ hk => hk.elim) ?aF ?aO ?aB ?aS ?aL ?_; (case aP => exact rfl); (case aB => exact (bel_g HB.out)); (case aF => exact (fun _ _ => trivial)); (case aO => exact (Kd.R_g HO_3.out)); (case aS => exact (below_size (bel_g HB.out))); (case aL => have := LMc6.out; omega); intro v309 w7 ho hb hg hat; rw [← Ny308.out] at ho; have HO310 := mkA (ho); replace HB := mkA (hb); clear HO_3; clear ho hb hg hat))
    go_roundg k1
    case measure => have := HK1.out; omega
    case rel => exact ⟨(Go.bits .and .i64 x0_1 (wrap64 (x0_1 - 1))), (y308), eqS, H', ⟨by have := HK1.out; omega⟩, rg HO310, hbg HB⟩
def impl_within.f (a0 : Int) (a1 : Int) (a2 : Int) : Option (Bool) := if a0 ≥ a1 then (some (decide (a0 ≤ a2))) else (some false)
theorem impl_within.calls (a0 : Int) (a1 : Int) (a2 : Int) (r : Bool) (w : World) (h : impl_within.f a0 a1 a2 = some r) :
  Calls Tryd.prog 53 #[.int .i64 a0, .int .i64 a1, .int .i64 a2] w fun e w' => e = .returned (.bool r) ∧ Drawn0 w w' := by
 have H := h
 clear h
 unfold impl_within.f at H
 rcases iteP H with ⟨c4, H⟩ | ⟨c4, H⟩
 ·have c4b0 := decide_eq_true c4
  clear c4
  obtain rfl := Option.some.inj H
  go_enter Tryd.func53, Tryd.ntmps53
  go_wp2
  go_ret
  exact ⟨eqS, drE⟩
 ·have c4b0 := decide_eq_false c4
  clear c4
  obtain rfl := Option.some.inj H
  go_enter Tryd.func53, Tryd.ntmps53
  go_wp2
  go_ret
  exact ⟨eqS, drE⟩
end Go.Proofs.YtpphkeijklffgaaDoor.Q
