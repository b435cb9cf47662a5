import Derived.Test.YtgdnljpallpjiaaDoorBFnExtensions11
import Derived.Test.YtgdnljpallpjiaaDoorBFnExtensions12
namespace Go.Proofs.YtgdnljpallpjiaaDoor.Q
open Go.RowKit Go.Proofs.YtgdnljpallpjiaaDoorW.PrintWords Go.Proofs.YtgdnljpallpjiaaDoorW.PrintLast Go.Proofs.YtgdnljpallpjiaaDoorW.PrintMore
attribute [local go_sem] max2_int min2_int max_two min_two max_three min_three max_four min_four neB_f
set_option linter.unusedVariables false
set_option maxHeartbeats 8000000
set_option maxRecDepth 100000
set_option linter.unusedSimpArgs false
def spec_StackOrders.f (k : Nat) (a0_0 : Int) (l0_1 : List Int) (a1_0 : Int) (l1_1 : List Int) : Option (Int × List Int × Bool) := (spec_orGood.f k a0_0 l0_1).bind fun t349 => (if t349 = true then ((spec_orGood.f k a1_0 l1_1).bind fun t350 => (if t350 = true then (if (wrap64 (a0_0 + a1_0)) > 10 then (some (0, ([] : List Int), false)) else (if 0 ≤ a1_0 then (if 0 ≤ a0_0 then ((spec_orTogether.f k a0_0 l0_1 a1_0 l1_1 (shl .i64 (wrap64 ((shl .i64 1 a1_0) - 1)) a0_0)).bind fun bt351 => (some (bt351.1, bt351.2, true))) else (none)) else (none))) else (some (0, ([] : List Int), false)))) else (some (0, ([] : List Int), false)))
theorem spec_StackOrders.mono : ∀ a0 a1 a2 a3 k, LeO (spec_StackOrders.f k a0 a1 a2 a3) (spec_StackOrders.f (k + 1) a0 a1 a2 a3) := by
 intro a0 a1 a2 a3 k
 unfold spec_StackOrders.f
 repeat' (with_reducible first|exact spec_orGood.mono _ _ _|exact spec_orTogether.mono _ _ _ _ _ _|exact LeO.refl _|exact LeO.none _|refine LeO.ite ?_ ?_|refine LeO.bind ?_ (fun _ => ?_))
def spec_StackOrders.T3 : Bool × List (List Nat × List Nat) := (true, [([], []), ([], []), ([], []), ([2], [2]), ([3], [3]), ([4], [4]), ([], []), ([6], [6]), ([5, 7], [5, 7]), ([0, 1, 8], [0, 1, 8]), ([9, 9, 0, 1, 2, 3, 4, 5, 6, 7, 8, 9], [9]), ([10, 0, 1, 2, 3, 4, 5, 6, 7, 8, 9, 10], [])])
def spec_StackOrders.B3 : List Nat := [0, 0, 0, 4, 12, 28, 0, 64, 252, 511, 1023, 2047]
theorem spec_StackOrders.tab3 : rtab .any (opsOf Tryd.f9 3) = spec_StackOrders.T3 := by kernel_rfl
theorem spec_StackOrders.bits3 : waitsOk spec_StackOrders.T3.2 spec_StackOrders.B3 = true := by kernel_rfl
theorem spec_StackOrders.calls (k : Nat) (a0_0 : Int) (A0_1 : Option Addr) (c0_1 : Nat) (l0_1 : List Int) (a1_0 : Int) (A1_1 : Option Addr) (c1_1 : Nat) (l1_1 : List Int) (r1 : Int) (r2 : List Int) (r3 : Bool) (w : World) (hr0_1 : Kd.C (Kd.int .i64) w A0_1 l0_1.length l0_1) (hc0_1 : l0_1.length ≤ c0_1) (hr1_1 : Kd.C (Kd.int .i64) w A1_1 l1_1.length l1_1) (hc1_1 : l1_1.length ≤ c1_1) (h : spec_StackOrders.f k a0_0 l0_1 a1_0 l1_1 = some (r1, r2, r3)) :
  Calls Tryd.prog 9 #[.agg #[.int .i64 a0_0, .slice A0_1 l0_1.length c0_1], .agg #[.int .i64 a1_0, .slice A1_1 l1_1.length c1_1]] w fun e w' => ∃ v1_ : Value, e = .returned (.tuple #[.agg #[.int .i64 r1, v1_], .bool r3]) ∧ Kd.R (Kd.int .i64) 3 w' w.heap.size (fun _ => True) v1_ r2 ∧ Below w.heap.size w w' := by
 have hu26 := Tryd.underlying26
 have HR0_1 := mkA hr0_1
 have HC0_1 := mkA hc0_1
 clear hr0_1 hc0_1
 have HR1_1 := mkA hr1_1
 have HC1_1 := mkA hc1_1
 clear hr1_1 hc1_1
 have HB := mkA (Below.refl w.heap.size w)
 have H := h
 clear h
 unfold spec_StackOrders.f at H
 obtain ⟨t349, A3, H⟩ := obE H
 by_cases c4 : t349 = true
 ·subst c4
  replace H := ifT H
  obtain ⟨t350, A5, H⟩ := obE H
  by_cases c6 : t350 = true
  ·subst c6
   replace H := ifT H
   rcases iteP H with ⟨c7, H⟩ | ⟨c7, H⟩
   ·have c7b0 : decide (10 < (wrap64 (a0_0 + a1_0))) = true := decide_eq_true c7
    clear c7
    simp only [Option.some.injEq, Prod.mk.injEq] at H
    obtain ⟨rfl, rfl, rfl⟩ := H
    go_enter Tryd.func9, Tryd.ntmps9
    go_wp2_with (first | ((with_reducible refine gate_dst (N := 2) rfl ?_); refine boxE (N := 2) (cs := #[.int .i64 a0_0, .slice A0_1 l0_1.length c0_1]) (t := 26) ?_; intro gb346 hg w8 hbox hb; have BK346 := mkA (hbox); have GE346 := geB HB hg; replace HB := bst HB hb; clear hb hbox hg) | ((with_reducible refine gate_dst (N := 3) rfl ?_); refine boxE (N := 3) (cs := #[.int .i64 a1_0, .slice A1_1 l1_1.length c1_1]) (t := 26) ?_; intro gb347 hg w9 hbox hb; have BK347 := mkA (hbox); have GE347 := geB HB hg; have NB346_347 := neL7 BK346 hg; have NB347_346 := neR7 BK346 hg; replace BK346 := blkB BK346 hb; replace HB := bst HB hb; clear hb hbox hg) | ((with_reducible refine gate_dst (N := 4) rfl ?_); refine boxE (N := 4) (cs := #[.int .i64 0, .slice none 0 0]) (t := 26) ?_; intro gb348 hg w10 hbox hb; have BK348 := mkA (hbox); have GE348 := geB HB hg; have NB346_348 := neL7 BK346 hg; have NB348_346 := neR7 BK346 hg; replace BK346 := blkB BK346 hb; have NB347_348 := neL7 BK347 hg; have NB348_347 := neR7 BK347 hg; replace BK347 := blkB BK347 hb; replace HB := bst HB hb; clear hb hbox hg; obtain ⟨hcz13_0, hcz13_1, hfz13_0, hfz13_1⟩ := blk2 BK346) | ((with_reducible refine gate_callee (f := 17) rfl ?_); refine goesQ (some 7) Tryd.func17 #[.agg #[.int .i64 a0_0, .slice A0_1 l0_1.length c0_1]] ?_; (with_reducible refine (spec_orGood.calls k a0_0 _ _ l0_1 true _ ?s1 ?s2 A3.out).mono ?_); (case s1 => exact C_g HR0_1 HB); (case s2 => exact HC0_1.out); rintro e w14 ⟨rfl, hb⟩; refine ⟨_, rfl, ?_⟩; replace BK346 := blkB BK346 hb; replace BK347 := blkB BK347 hb; replace BK348 := blkB BK348 hb; replace HB := bst HB hb; (try clear hb); (try clear hk); obtain ⟨hcz16_0, hcz16_1, hfz16_0, hfz16_1⟩ := blk2 BK347) | (go_at_call 17; (with_reducible refine (spec_orGood.calls k a1_0 _ _ l1_1 true _ ?s1 ?s2 A5.out).mono ?_); (case s1 => exact C_g HR1_1 HB); (case s2 => exact HC1_1.out); rintro e w17 ⟨rfl, hb⟩; replace BK346 := blkB BK346 hb; replace BK347 := blkB BK347 hb; replace BK348 := blkB BK348 hb; replace HB := bst HB hb; (try clear hb); (try clear hk); obtain ⟨hcz18_0, hcz18_1, hfz18_0, hfz18_1⟩ := blk2 BK346; obtain ⟨hcz19_0, hcz19_1, hfz19_0, hfz19_1⟩ := blk2 BK347; obtain ⟨hcz20_0, hcz20_1, hfz20_0, hfz20_1⟩ := blk2 BK348))
    refine bodyPost_ret (results_ct rfl _ _ gb348 26 #[.int .i64 0, .slice none 0 0] (0, 0) _ rfl (blkT BK348) Tryd.underlying26 rfl (by kernel_rfl)) rfl ?_
    exact ⟨_, eqE, by first | exact Kd.R_nil _ _ _ _ _ | exact Kd.N_nil _ _ _ _ _ | exact Kd.V_nil _ _ _ _ _ | exact Kd.Q_nil _ _ _ _ _ | exact Kd.S_nil _ _ _ _ _, bel_g HB.out⟩
   ·have c7b0 : decide (10 < (wrap64 (a0_0 + a1_0))) = false := decide_eq_false c7
    clear c7
    obtain ⟨c21, H⟩ := itNP H
    have c21b0 := eq_true c21
    have c21b1 : decide (0 ≤ a1_0) = true := decide_eq_true c21
    clear c21
    obtain ⟨ji22, hji22⟩ : ∃ j_ : Int, (shl .i64 1 a1_0) = j_ := ⟨_, rfl⟩
    replace H : (if 0 ≤ a0_0 then ((spec_orTogether.f k a0_0 l0_1 a1_0 l1_1 (shl .i64 (wrap64 ((ji22) - 1)) a0_0)).bind fun bt351 => (some (bt351.1, bt351.2, true))) else (none)) = some (r1, r2, r3) := by first | (rw [hji22] at H; exact H) | (simp only [hji22] at H ⊢; exact H)
    (try rw [hji22] at A3)
    (try rw [hji22] at A5)
    have hji22_ : (IntKind.i64.wrap (1 * 2 ^ min a1_0.toNat 64)) = ji22 := hji22
    have hji22z : a1_0 ≤ 64 → (IntKind.i64.wrap (1 * 2 ^ a1_0.toNat)) = ji22 := shl_small hji22
    have hji22u : (IntKind.i64.wrap (2 ^ min a1_0.toNat 64)) = ji22 := by have h_ := hji22_; rw [Int.one_mul] at h_; exact h_
    have hji22v : a1_0 ≤ 64 → (IntKind.i64.wrap (2 ^ a1_0.toNat)) = ji22 := fun hle_ => by have h_ := hji22z hle_; rw [Int.one_mul] at h_; exact h_
    have hji22y : (wrap64 (1 * 2 ^ min a1_0.toNat 64)) = ji22 := (i64_w _).symm.trans hji22_
    have hji22x : a1_0 ≤ 64 → (wrap64 (1 * 2 ^ a1_0.toNat)) = ji22 := fun h_ => (i64_w _).symm.trans (hji22z h_)
    obtain ⟨c23, H⟩ := itNP H
    have c23b0 := eq_true c23
    have c23b1 : decide (0 ≤ a0_0) = true := decide_eq_true c23
    clear c23
    obtain ⟨ji24, hji24⟩ : ∃ j_ : Int, (shl .i64 (wrap64 ((ji22) - 1)) a0_0) = j_ := ⟨_, rfl⟩
    replace H : ((spec_orTogether.f k a0_0 l0_1 a1_0 l1_1 (ji24)).bind fun bt351 => (some (bt351.1, bt351.2, true))) = some (r1, r2, r3) := by first | (rw [hji24] at H; exact H) | (simp only [hji24] at H ⊢; exact H)
    (try rw [hji24] at A3)
    (try rw [hji24] at A5)
    have hji24_ : (IntKind.i64.wrap ((wrap64 ((ji22) - 1)) * 2 ^ min a0_0.toNat 64)) = ji24 := hji24
    have hji24z : a0_0 ≤ 64 → (IntKind.i64.wrap ((wrap64 ((ji22) - 1)) * 2 ^ a0_0.toNat)) = ji24 := shl_small hji24
    have hji24y : (wrap64 ((wrap64 ((ji22) - 1)) * 2 ^ min a0_0.toNat 64)) = ji24 := (i64_w _).symm.trans hji24_
    have hji24x : a0_0 ≤ 64 → (wrap64 ((wrap64 ((ji22) - 1)) * 2 ^ a0_0.toNat)) = ji24 := fun h_ => (i64_w _).symm.trans (hji24z h_)
    obtain ⟨⟨t351, t352⟩, A25, H⟩ := obE H
    dsimp only at H
    simp only [Option.some.injEq, Prod.mk.injEq] at H
    obtain ⟨rfl, rfl, rfl⟩ := H
    go_enter Tryd.func9, Tryd.ntmps9
    try go_wp2_with (first | ((with_reducible refine gate_dst (N := 2) rfl ?_); refine boxE (N := 2) (cs := #[.int .i64 a0_0, .slice A0_1 l0_1.length c0_1]) (t := 26) ?_; intro gb346 hg w26 hbox hb; have BK346 := mkA (hbox); have GE346 := geB HB hg; replace HB := bst HB hb; clear hb hbox hg) | ((with_reducible refine gate_dst (N := 3) rfl ?_); refine boxE (N := 3) (cs := #[.int .i64 a1_0, .slice A1_1 l1_1.length c1_1]) (t := 26) ?_; intro gb347 hg w27 hbox hb; have BK347 := mkA (hbox); have GE347 := geB HB hg; have NB346_347 := neL7 BK346 hg; have NB347_346 := neR7 BK346 hg; replace BK346 := blkB BK346 hb; replace HB := bst HB hb; clear hb hbox hg) | ((with_reducible refine gate_dst (N := 4) rfl ?_); refine boxE (N := 4) (cs := #[.int .i64 0, .slice none 0 0]) (t := 26) ?_; intro gb348 hg w28 hbox hb; have BK348 := mkA (hbox); have GE348 := geB HB hg; have NB346_348 := neL7 BK346 hg; have NB348_346 := neR7 BK346 hg; replace BK346 := blkB BK346 hb; have NB347_348 := neL7 BK347 hg; have NB348_347 := neR7 BK347 hg; replace BK347 := blkB BK347 hb; replace HB := bst HB hb; clear hb hbox hg; obtain ⟨hcz31_0, hcz31_1, hfz31_0, hfz31_1⟩ := blk2 BK346) | ((with_reducible refine gate_callee (f := 17) rfl ?_); refine goesQ (some 7) Tryd.func17 #[.agg #[.int .i64 a0_0, .slice A0_1 l0_1.length c0_1]] ?_; (with_reducible refine (spec_orGood.calls k a0_0 _ _ l0_1 true _ ?s1 ?s2 A3.out).mono ?_); (case s1 => exact C_g HR0_1 HB); (case s2 => exact HC0_1.out); rintro e w32 ⟨rfl, hb⟩; refine ⟨_, rfl, ?_⟩; replace BK346 := blkB BK346 hb; replace BK347 := blkB BK347 hb; replace BK348 := blkB BK348 hb; replace HB := bst HB hb; (try clear hb); (try clear hk); obtain ⟨hcz34_0, hcz34_1, hfz34_0, hfz34_1⟩ := blk2 BK347) | (go_at_call 17; (with_reducible refine (spec_orGood.calls k a1_0 _ _ l1_1 true _ ?s1 ?s2 A5.out).mono ?_); (case s1 => exact C_g HR1_1 HB); (case s2 => exact HC1_1.out); rintro e w35 ⟨rfl, hb⟩; replace BK346 := blkB BK346 hb; replace BK347 := blkB BK347 hb; replace BK348 := blkB BK348 hb; replace HB := bst HB hb; (try clear hb); (try clear hk); obtain ⟨hcz36_0, hcz36_1, hfz36_0, hfz36_1⟩ := blk2 BK346; obtain ⟨hcz37_0, hcz37_1, hfz37_0, hfz37_1⟩ := blk2 BK347))
    replace BK346 := mkA (blk_drew BK346.out)
    replace BK347 := mkA (blk_drew BK347.out)
    replace BK348 := mkA (blk_drew BK348.out)
    replace HB := mkA (below_drew1 HB.out)
    refine start_ (n := 12) (S := fun w' => w'.cell? ⟨gb346, 0, none⟩ = some (.int .i64 a0_0) ∧ w'.cell? ⟨gb346, 1, none⟩ = some (.slice A0_1 l0_1.length c0_1) ∧ w'.cell? ⟨gb347, 0, none⟩ = some (.int .i64 a1_0) ∧ w'.cell? ⟨gb347, 1, none⟩ = some (.slice A1_1 l1_1.length c1_1)) (ds := []) (bm 12 0) (by kernel_rfl) rfl (by kernel_rfl) ⟨(blk_cell BK346.out 0).trans rfl, (blk_cell BK346.out 1).trans rfl, (blk_cell BK347.out 0).trans rfl, (blk_cell BK347.out 1).trans rfl⟩ (fun hHeld => ?_); refine with_tabW spec_StackOrders.tab3 spec_StackOrders.bits3 (fun HT_ HW_ => ?_)
    generalize w35.drew = w38 at BK346 BK347 BK348 HB hHeld ⊢
    refine pureW 2 (some 25) (bm 12 4) HT_ ?_
    refine pureW 6 (some 29) (bm 12 68) HT_ ?_
    refine takeW 0 (some 23) (bm 12 69) HT_ HW_ hHeld ?_
    refine takeW 1 (some 24) (bm 12 71) HT_ HW_ hHeld ?_
    refine takeW 3 (some 26) (bm 12 79) HT_ HW_ hHeld ?_
    refine pureW 4 (some 27) (bm 12 95) HT_ ?_
    refine pureW 5 (some 28) (bm 12 127) HT_ ?_
    refine takeW 7 (some 30) (bm 12 255) HT_ HW_ hHeld ?_
    refine pureW 8 (some 31) (bm 12 511) HT_ ?_
    refine oneW 9 (some 32) (bm 12 1023) HT_ (fun K hK => ?_)
    refine goes_ Tryd.func18 (by kernel_rfl) rfl #[.agg #[.int .i64 a0_0, .slice A0_1 l0_1.length c0_1], .agg #[.int .i64 a1_0, .slice A1_1 l1_1.length c1_1], .int .i64 ji24] (by rfl) rfl rfl (by (try simp only [List.map_toArray, List.map_cons, List.map_nil]); first | done | (simp only [hji24]; rfl) | rfl | (simp only [List.length_drop, List.length_take]; rfl)) ?_
    with_reducible refine (spec_orTogether.calls k a0_0 _ _ l0_1 a1_0 _ _ l1_1 ji24 t351 t352 _ ?s1 ?s2 ?s3 ?s4 A25.out).mono ?_
    (case s1 => exact C_g HR0_1 HB)
    (case s2 => exact HC0_1.out)
    (case s3 => exact C_g HR1_1 HB)
    (case s4 => exact HC1_1.out)
    rintro e w39 ⟨v353, rfl, ho0, hb⟩
    refine ⟨_, rfl, ?_⟩
    have HO354 := mkA (Kd.R_lower ho0 (below_size (bel_g HB.out)))
    replace BK346 := blkB BK346 hb
    replace BK347 := blkB BK347 hb
    replace BK348 := blkB BK348 hb
    replace HB := bst HB hb
    (try clear hb)
    (try clear hb2)
    (try clear hk)
    (try clear hi)
    (try clear ho0)
    obtain ⟨Ao41, co41, eo41⟩ := Kd.R_slice HO354.out
    (first | subst eo41 | (injection eo41 with f1_ f2_ f3_; have f4_ := f1_.symm; have f5_ := f3_.symm; clear f1_ f2_ f3_; subst f4_; subst f5_))
    refine hK.out _ _ ⟨(blk_cell BK346.out 0).trans rfl, (blk_cell BK346.out 1).trans rfl, (blk_cell BK347.out 0).trans rfl, (blk_cell BK347.out 1).trans rfl⟩ (fun hHeld => ?_)
    clear hK K
    refine normW 32 ?_
    refine oneW 10 (none) (bm 12 2047) HT_ (fun K hK => ?_)
    have hs40 : w39.cell? ⟨gb348, 0, none⟩ = some (.int .i64 0) := (blk_cell BK348.out 0).trans rfl
    have hfs40 := blk_frozen BK348.out 0
    have hns40_0 := NB346_348.out
    have hns40_1 := NB347_348.out
    have hms40_0 := NB348_346.out
    have hms40_1 := NB348_347.out
    have hs42 : w39.cell? ⟨gb348, 1, none⟩ = some (.slice none 0 0) := (blk_cell BK348.out 1).trans rfl
    have hfs42 := blk_frozen BK348.out 1
    have hns42_0 := NB346_348.out
    have hns42_1 := NB347_348.out
    have hms42_0 := NB348_346.out
    have hms42_1 := NB348_347.out
    refine skip_ (w1 := ?_) (by rfl) rfl ?_ ?_
    rotate_left
    ·go_simp
     rfl
    refine hK.out _ _ ⟨((cell_far (p := ⟨gb348, _, none⟩) NB346_348.out _).trans (((cell_far (p := ⟨gb348, _, none⟩) NB346_348.out _).trans (hHeld.1)))), ((cell_far (p := ⟨gb348, _, none⟩) NB346_348.out _).trans (((cell_far (p := ⟨gb348, _, none⟩) NB346_348.out _).trans (hHeld.2.1)))), ((cell_far (p := ⟨gb348, _, none⟩) NB347_348.out _).trans (((cell_far (p := ⟨gb348, _, none⟩) NB347_348.out _).trans (hHeld.2.2.1)))), ((cell_far (p := ⟨gb348, _, none⟩) NB347_348.out _).trans (((cell_far (p := ⟨gb348, _, none⟩) NB347_348.out _).trans (hHeld.2.2.2))))⟩ (fun hHeld => ?_)
    clear hK K
    refine pureW 11 (some 5) (bm 12 4095) HT_ ?_
    refine doneW HT_ ?_
    try go_wp2
    refine bodyPost_ret (results_ct rfl _ _ gb348 26 #[.int .i64 t351, .slice Ao41 t352.length co41] (0, 0) _ rfl (blkT BK348) Tryd.underlying26 rfl (by kernel_rfl)) rfl ?_
    exact ⟨_, by first | rfl | (simp [errW_none, errW_some] <;> rfl) | (simp only [← hji22, ← hji24]; first | rfl | (simp [errW_none, errW_some] <;> rfl)) | (simp [*, errW_none, errW_some] <;> rfl), by (with_reducible repeat (first | apply Kd.R_alloc | apply Kd.R_drewN | apply Kd.R_drew)); exact Kd.R_mono (Kd.R_far (p := ⟨gb348, 1, none⟩) (Kd.R_far (p := ⟨gb348, 0, none⟩) (Kd.R_types HO354.out BK348.out (by decide)) (fun _ hk => hk.2) (.int .i64 t351)) (fun _ hk => hk.2) (.slice Ao41 t352.length co41)) (fun _ hk => trivial), bel_g HB.out⟩
  ·replace c6 := Bool.eq_false_iff.mpr c6
   subst c6
   replace H := ifF H
   simp only [Option.some.injEq, Prod.mk.injEq] at H
   obtain ⟨rfl, rfl, rfl⟩ := H
   go_enter Tryd.func9, Tryd.ntmps9
   go_wp2_with (first | ((with_reducible refine gate_dst (N := 2) rfl ?_); refine boxE (N := 2) (cs := #[.int .i64 a0_0, .slice A0_1 l0_1.length c0_1]) (t := 26) ?_; intro gb346 hg w43 hbox hb; have BK346 := mkA (hbox); have GE346 := geB HB hg; replace HB := bst HB hb; clear hb hbox hg) | ((with_reducible refine gate_dst (N := 3) rfl ?_); refine boxE (N := 3) (cs := #[.int .i64 a1_0, .slice A1_1 l1_1.length c1_1]) (t := 26) ?_; intro gb347 hg w44 hbox hb; have BK347 := mkA (hbox); have GE347 := geB HB hg; have NB346_347 := neL7 BK346 hg; have NB347_346 := neR7 BK346 hg; replace BK346 := blkB BK346 hb; replace HB := bst HB hb; clear hb hbox hg) | ((with_reducible refine gate_dst (N := 4) rfl ?_); refine boxE (N := 4) (cs := #[.int .i64 0, .slice none 0 0]) (t := 26) ?_; intro gb348 hg w45 hbox hb; have BK348 := mkA (hbox); have GE348 := geB HB hg; have NB346_348 := neL7 BK346 hg; have NB348_346 := neR7 BK346 hg; replace BK346 := blkB BK346 hb; have NB347_348 := neL7 BK347 hg; have NB348_347 := neR7 BK347 hg; replace BK347 := blkB BK347 hb; replace HB := bst HB hb; clear hb hbox hg; obtain ⟨hcz48_0, hcz48_1, hfz48_0, hfz48_1⟩ := blk2 BK346) | ((with_reducible refine gate_callee (f := 17) rfl ?_); refine goesQ (some 7) Tryd.func17 #[.agg #[.int .i64 a0_0, .slice A0_1 l0_1.length c0_1]] ?_; (with_reducible refine (spec_orGood.calls k a0_0 _ _ l0_1 true _ ?s1 ?s2 A3.out).mono ?_); (case s1 => exact C_g HR0_1 HB); (case s2 => exact HC0_1.out); rintro e w49 ⟨rfl, hb⟩; refine ⟨_, rfl, ?_⟩; replace BK346 := blkB BK346 hb; replace BK347 := blkB BK347 hb; replace BK348 := blkB BK348 hb; replace HB := bst HB hb; (try clear hb); (try clear hk); obtain ⟨hcz51_0, hcz51_1, hfz51_0, hfz51_1⟩ := blk2 BK347) | (go_at_call 17; (with_reducible refine (spec_orGood.calls k a1_0 _ _ l1_1 false _ ?s1 ?s2 A5.out).mono ?_); (case s1 => exact C_g HR1_1 HB); (case s2 => exact HC1_1.out); rintro e w52 ⟨rfl, hb⟩; replace BK346 := blkB BK346 hb; replace BK347 := blkB BK347 hb; replace BK348 := blkB BK348 hb; replace HB := bst HB hb; (try clear hb); (try clear hk); obtain ⟨hcz53_0, hcz53_1, hfz53_0, hfz53_1⟩ := blk2 BK348))
   refine bodyPost_ret (results_ct rfl _ _ gb348 26 #[.int .i64 0, .slice none 0 0] (0, 0) _ rfl (blkT BK348) Tryd.underlying26 rfl (by kernel_rfl)) rfl ?_
   exact ⟨_, eqE, by first | exact Kd.R_nil _ _ _ _ _ | exact Kd.N_nil _ _ _ _ _ | exact Kd.V_nil _ _ _ _ _ | exact Kd.Q_nil _ _ _ _ _ | exact Kd.S_nil _ _ _ _ _, bel_g HB.out⟩
 ·replace c4 := Bool.eq_false_iff.mpr c4
  subst c4
  replace H := ifF H
  simp only [Option.some.injEq, Prod.mk.injEq] at H
  obtain ⟨rfl, rfl, rfl⟩ := H
  go_enter Tryd.func9, Tryd.ntmps9
  go_wp2_with (first | ((with_reducible refine gate_dst (N := 2) rfl ?_); refine boxE (N := 2) (cs := #[.int .i64 a0_0, .slice A0_1 l0_1.length c0_1]) (t := 26) ?_; intro gb346 hg w54 hbox hb; have BK346 := mkA (hbox); have GE346 := geB HB hg; replace HB := bst HB hb; clear hb hbox hg) | ((with_reducible refine gate_dst (N := 3) rfl ?_); refine boxE (N := 3) (cs := #[.int .i64 a1_0, .slice A1_1 l1_1.length c1_1]) (t := 26) ?_; intro gb347 hg w55 hbox hb; have BK347 := mkA (hbox); have GE347 := geB HB hg; have NB346_347 := neL7 BK346 hg; have NB347_346 := neR7 BK346 hg; replace BK346 := blkB BK346 hb; replace HB := bst HB hb; clear hb hbox hg) | ((with_reducible refine gate_dst (N := 4) rfl ?_); refine boxE (N := 4) (cs := #[.int .i64 0, .slice none 0 0]) (t := 26) ?_; intro gb348 hg w56 hbox hb; have BK348 := mkA (hbox); have GE348 := geB HB hg; have NB346_348 := neL7 BK346 hg; have NB348_346 := neR7 BK346 hg; replace BK346 := blkB BK346 hb; have NB347_348 := neL7 BK347 hg; have NB348_347 := neR7 BK347 hg; replace BK347 := blkB BK347 hb; replace HB := bst HB hb; clear hb hbox hg; obtain ⟨hcz59_0, hcz59_1, hfz59_0, hfz59_1⟩ := blk2 BK346) | ((with_reducible refine gate_callee (f := 17) rfl ?_); refine goesQ (some 7) Tryd.func17 #[.agg #[.int .i64 a0_0, .slice A0_1 l0_1.length c0_1]] ?_; (with_reducible refine (spec_orGood.calls k a0_0 _ _ l0_1 false _ ?s1 ?s2 A3.out).mono ?_); (case s1 => exact C_g HR0_1 HB); (case s2 => exact HC0_1.out); rintro e w60 ⟨rfl, hb⟩; refine ⟨_, rfl, ?_⟩; replace BK346 := blkB BK346 hb; replace BK347 := blkB BK347 hb; replace BK348 := blkB BK348 hb; replace HB := bst HB hb; (try clear hb); (try clear hk); obtain ⟨hcz62_0, hcz62_1, hfz62_0, hfz62_1⟩ := blk2 BK348))
  refine bodyPost_ret (results_ct rfl _ _ gb348 26 #[.int .i64 0, .slice none 0 0] (0, 0) _ rfl (blkT BK348) Tryd.underlying26 rfl (by kernel_rfl)) rfl ?_
  exact ⟨_, eqE, by first | exact Kd.R_nil _ _ _ _ _ | exact Kd.N_nil _ _ _ _ _ | exact Kd.V_nil _ _ _ _ _ | exact Kd.Q_nil _ _ _ _ _ | exact Kd.S_nil _ _ _ _ _, bel_g HB.out⟩
def laws_pSame.l0 : Nat → List Int → List Int → Int → Int → Option (Bool)
 | 0, _, _, _, _ => none
 | k + 1, x0, x1, x12, x13 => if x13 < x12 then (if 0 ≤ x13 then (if x13 < (x0.length : Int) then (if x13 < (x1.length : Int) then (if (rd x0 x13) = (rd x1 x13) then (laws_pSame.l0 k x0 x1 x12 (wrap64 (x13 + 1))) else (some false)) else (none)) else (none)) else (none)) else (some true)
def laws_pSame.f (k : Nat) (l0 : List Int) (l1 : List Int) : Option (Bool) := if (l0.length : Int) = (l1.length : Int) then (laws_pSame.l0 k l0 l1 (l0.length : Int) 0) else (some false)
theorem laws_pSame.mono_l : ∀ k, (∀ y0 y1 y2 y3, LeO (laws_pSame.l0 k y0 y1 y2 y3) (laws_pSame.l0 (k + 1) y0 y1 y2 y3))
 | 0 => fun _ _ _ _ r h => by simp [laws_pSame.l0] at h
 | k + 1 => by
  have ih0 := laws_pSame.mono_l k
  ·intro y0 y1 y2 y3
   unfold laws_pSame.l0
   repeat' (with_reducible first|exact ih0 _ _ _ _|exact LeO.refl _|exact LeO.none _|refine LeO.ite ?_ ?_|refine LeO.bind ?_ (fun _ => ?_))
theorem laws_pSame.mono : ∀ a0 a1 k, LeO (laws_pSame.f k a0 a1) (laws_pSame.f (k + 1) a0 a1) := by
 intro a0 a1 k
 have ih0 := laws_pSame.mono_l k
 unfold laws_pSame.f
 repeat' (with_reducible first|exact ih0 _ _ _ _|exact LeO.refl _|exact LeO.none _|refine LeO.ite ?_ ?_|refine LeO.bind ?_ (fun _ => ?_))
theorem laws_pSame.calls (k : Nat) (A0 : Option Addr) (c0 : Nat) (l0 : List Int) (A1 : Option Addr) (c1 : Nat) (l1 : List Int) (r : Bool) (w : World) (hr0 : Kd.C (Kd.int .i64) w A0 l0.length l0) (hc0 : l0.length ≤ c0) (hr1 : Kd.C (Kd.int .i64) w A1 l1.length l1) (hc1 : l1.length ≤ c1) (h : laws_pSame.f k l0 l1 = some r) :
  Calls Tryd.prog 19 #[.slice A0 l0.length c0, .slice A1 l1.length c1] w fun e w' => e = .returned (.bool r) ∧ Drawn0 w w' := by
 have HR0 := mkA hr0
 have HC0 := mkA hc0
 clear hr0 hc0
 have HR1 := mkA hr1
 have HC1 := mkA hc1
 clear hr1 hc1
 have H := h
 clear h
 unfold laws_pSame.f at H
 rcases iteP H with ⟨c3, H⟩ | ⟨c3, H⟩
 ·have c3b0 : ((l0.length : Int) == (l1.length : Int)) = true := beq_iff_eq.mpr c3
  have c3b1 : ((l0.length : Int) != (l1.length : Int)) = false := bne_eq_false_iff_eq.mpr c3
  have c3b2 : (l0.length == l1.length) = true := by first | simpa using c3 | (simp at c3 ⊢; omega)
  clear c3
  have H' := mkA H
  clear H
  go_enter Tryd.func19, Tryd.ntmps19
  go_wp2
  repeat (go_quiet (fail); try go_wp2)
  go_loopg [13] k (fun kq v13 w' => ∃ (x13_1 : Int), v13 = .int .i64 x13_1 ∧ Fc (laws_pSame.l0 kq l0 l1 (l0.length : Int) x13_1 = some r) ∧ Fc (kq ≤ k) ∧ Drawn0 w w')
  case atStart => exact ⟨(0), eqS, H', ⟨Nat.le_refl _⟩, by repeat (first | exact Drawn0.refl _ | apply Drawn0.step)⟩
  case round =>
   clear H'
   try clear c1
   try clear c3
   try clear c3b0
   try clear c3b1
   try clear c3b2
   obtain ⟨x13_1, rfl, HA, HK1, ⟨m1, rfl⟩⟩ := hrel
   cases gk with
   | zero => exact absurd HA.out (by simp [laws_pSame.l0])
   | succ k1 =>
    have H := HA.out
    clear HA
    simp only [laws_pSame.l0] at H
    rcases iteE H with ⟨c4b0, H⟩ | ⟨c4b0, H⟩
    ·obtain ⟨c5, H⟩ := itNP H
     have c5b0 : decide (0 ≤ x13_1) = true := decide_eq_true c5
     clear c5
     obtain ⟨c6, H⟩ := itNP H
     have c6b0 : decide (x13_1 < (l0.length : Int)) = true := decide_eq_true c6
     clear c6
     obtain ⟨c7, H⟩ := itNP H
     have c7b0 : decide (x13_1 < (l1.length : Int)) = true := decide_eq_true c7
     clear c7
     rcases iteP H with ⟨c8, H⟩ | ⟨c8, H⟩
     ·have c8b0 : ((rd l0 x13_1) == (rd l1 x13_1)) = true := beq_iff_eq.mpr c8
      have c8b1 : ((rd l0 x13_1) != (rd l1 x13_1)) = false := bne_eq_false_iff_eq.mpr c8
      clear c8
      have H' := mkA H
      clear H
      have p355 : 0 ≤ (x13_1 : Int) := ofd
      have q355 : x13_1 < (l0.length : Int) := ofd
      obtain ⟨ad355, e355, hx355_0⟩ := Kd.at_int HR0.out x13_1 p355 q355
      cases e355
      replace p355 := eq_true p355
      replace q355 := eq_true q355
      have p356 : 0 ≤ (x13_1 : Int) := ofd
      have q356 : x13_1 < (l1.length : Int) := ofd
      obtain ⟨ad356, e356, hx356_0⟩ := Kd.at_int HR1.out x13_1 p356 q356
      cases e356
      replace p356 := eq_true p356
      replace q356 := eq_true q356
      go_wp2
      repeat (go_quiet (fail); try go_wp2)
      go_roundg k1
      case measure => have := HK1.out; omega
      case rel => exact ⟨(wrap64 (x13_1 + 1)), eqS, H', ⟨by have := HK1.out; omega⟩, by repeat (first | exact Drawn0.refl _ | apply Drawn0.step)⟩
     ·have c8b0 : ((rd l0 x13_1) == (rd l1 x13_1)) = false := beq_eq_false_iff_ne.mpr c8
      have c8b1 : ((rd l0 x13_1) != (rd l1 x13_1)) = true := bne_iff_ne.mpr c8
      obtain rfl := Option.some.inj H
      have p355 : 0 ≤ (x13_1 : Int) := ofd
      have q355 : x13_1 < (l0.length : Int) := ofd
      obtain ⟨ad355, e355, hx355_0⟩ := Kd.at_int HR0.out x13_1 p355 q355
      cases e355
      replace p355 := eq_true p355
      replace q355 := eq_true q355
      have p356 : 0 ≤ (x13_1 : Int) := ofd
      have q356 : x13_1 < (l1.length : Int) := ofd
      obtain ⟨ad356, e356, hx356_0⟩ := Kd.at_int HR1.out x13_1 p356 q356
      cases e356
      replace p356 := eq_true p356
      replace q356 := eq_true q356
      go_wp2
      repeat (go_quiet (fail); try go_wp2)
      go_ret
      exact ⟨by first | rfl | (simp; done) | (simp [*]; done), by repeat (first | exact Drawn0.refl _ | apply Drawn0.step)⟩
    ·obtain rfl := Option.some.inj H
     go_wp2
     repeat (go_quiet (fail); try go_wp2)
     go_ret
     exact ⟨by first | rfl | (simp; done) | (simp [*]; done), by repeat (first | exact Drawn0.refl _ | apply Drawn0.step)⟩
 ·have c3b0 : ((l0.length : Int) == (l1.length : Int)) = false := beq_eq_false_iff_ne.mpr c3
  have c3b1 : ((l0.length : Int) != (l1.length : Int)) = true := bne_iff_ne.mpr c3
  have c3b2 : (l0.length == l1.length) = false := by first | simpa using c3 | (simp at c3 ⊢; omega)
  obtain rfl := Option.some.inj H
  go_enter Tryd.func19, Tryd.ntmps19
  go_wp2
  repeat (go_quiet (fail); try go_wp2)
  go_ret
  exact ⟨by first | rfl | (simp; done) | (simp [*]; done), by repeat (first | exact Drawn0.refl _ | apply Drawn0.step)⟩
end Go.Proofs.YtgdnljpallpjiaaDoor.Q
