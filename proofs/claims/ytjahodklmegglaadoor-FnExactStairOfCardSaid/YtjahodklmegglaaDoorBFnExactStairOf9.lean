import Derived.Test.YtjahodklmegglaaDoorBFnExactStairOf0
import Derived.Test.YtjahodklmegglaaDoorBFnExactStairOf4
import Derived.Test.YtjahodklmegglaaDoorBFnExactStairOf8
-- printed by this project's own program (wip/mp/mp.py) over the kit's print, for this seat; Lean checks it
namespace Go.Proofs.YtjahodklmegglaaDoor.Q
open Go.RowKit Go.Proofs.YtjahodklmegglaaDoorW.PrintWords Go.Proofs.YtjahodklmegglaaDoorW.PrintLast Go.Proofs.YtjahodklmegglaaDoorW.PrintMore
attribute [local go_sem] max2_int min2_int max_two min_two max_three min_three max_four min_four   -- for this text's walks alone
set_option linter.unusedVariables false
set_option maxHeartbeats 8000000
set_option maxRecDepth 100000
set_option linter.unusedSimpArgs false

/-! ### spec_seBefore: function 66 -/
def spec_seBefore.f (k : Nat) (a0_0 : Int) (l0_1 : List Int) (a1 : Int) (a2 : Int) : Option (Bool) := (spec_orBelow.f k a0_0 l0_1 a1).bind fun t511 => ((spec_seMany.f k t511).bind fun t512 => ((spec_orBelow.f k a0_0 l0_1 a2).bind fun t513 => ((spec_seMany.f k t513).bind fun t514 => (if 0 ≤ a1 then (if a1 < (l0_1.length : Int) then ((spec_seMany.f k (rd l0_1 a1)).bind fun t516 => (if 0 ≤ a2 then (if a2 < (l0_1.length : Int) then ((spec_seMany.f k (rd l0_1 a2)).bind fun t518 => (if t512 = t514 then (if t516 = t518 then (some (decide (a1 < a2))) else (some (decide (t516 > t518)))) else (some (decide (t512 < t514))))) else (none)) else (none))) else (none)) else (none)))))
theorem spec_seBefore.mono : ∀ a0 a1 a2 a3 k, LeO (spec_seBefore.f k a0 a1 a2 a3) (spec_seBefore.f (k + 1) a0 a1 a2 a3) := by
 intro a0 a1 a2 a3 k
 unfold spec_seBefore.f
 repeat' (with_reducible first|exact spec_orBelow.mono _ _ _ _|exact spec_seMany.mono _ _|exact LeO.refl _|exact LeO.none _|refine LeO.ite ?_ ?_|refine LeO.bind ?_ (fun _ => ?_))
def spec_seBefore.T1 : Bool × List (List Nat × List Nat) := (true, [([], []), ([], []), ([0, 1], [0, 1]), ([2, 2], [2]), ([], []), ([], []), ([4, 5, 3], [4, 5]), ([6, 6], [6]), ([3, 7, 0, 1, 2, 3], [3]), ([7, 8, 0, 1, 2, 3, 4, 5, 6, 7, 8], [7])])
def spec_seBefore.B1 : List Nat := [0, 0, 3, 7, 0, 0, 63, 127, 255, 511]
theorem spec_seBefore.tab1 : rtab .any (opsOf Tryd.f66 1) = spec_seBefore.T1 := by kernel_rfl
theorem spec_seBefore.bits1 : waitsOk spec_seBefore.T1.2 spec_seBefore.B1 = true := by kernel_rfl
def spec_seBefore.T2 : Bool × List (List Nat × List Nat) := (true, [([], []), ([0], [0]), ([], []), ([1, 2], [1, 2]), ([3], [3]), ([4], [4]), ([], []), ([6], [6]), ([], []), ([7, 8], [7, 8]), ([9], [9]), ([10, 5], [10]), ([5, 11, 0, 1, 2, 3, 4, 5], [5]), ([11, 12, 0, 1, 2, 3, 4, 5, 6, 7, 8, 9, 10, 11, 12], [11])])
def spec_seBefore.B2 : List Nat := [0, 1, 0, 7, 15, 31, 0, 64, 0, 448, 960, 2047, 4095, 8191]
theorem spec_seBefore.tab2 : rtab .any (opsOf Tryd.f66 2) = spec_seBefore.T2 := by kernel_rfl
theorem spec_seBefore.bits2 : waitsOk spec_seBefore.T2.2 spec_seBefore.B2 = true := by kernel_rfl
theorem spec_seBefore.calls (k : Nat) (a0_0 : Int) (A0_1 : Option Addr) (c0_1 : Nat) (l0_1 : List Int) (a1 : Int) (a2 : Int) (r : Bool) (w : World) (hr0_1 : Kd.C (Kd.int .i64) w A0_1 l0_1.length l0_1) (hc0_1 : l0_1.length ≤ c0_1) (h : spec_seBefore.f k a0_0 l0_1 a1 a2 = some r) :
  Calls Tryd.prog 66 #[.agg #[.int .i64 a0_0, .slice A0_1 l0_1.length c0_1], .int .i64 a1, .int .i64 a2] w fun e w' => e = .returned (.bool r) ∧ Below w.heap.size w w' := by
 have hu28 := Tryd.underlying28
 have HR0_1 := Aside0.mk hr0_1
 have HC0_1 := Aside0.mk hc0_1
 clear hr0_1 hc0_1
 have HB := Aside0.mk (Below.refl w.heap.size w)
 have H : ((spec_orBelow.f k a0_0 l0_1 a1).bind fun t511 => ((spec_seMany.f k t511).bind fun t512 => ((spec_orBelow.f k a0_0 l0_1 a2).bind fun t513 => ((spec_seMany.f k t513).bind fun t514 => (if 0 ≤ a1 then (if a1 < (l0_1.length : Int) then ((spec_seMany.f k (rd l0_1 a1)).bind fun t516 => (if 0 ≤ a2 then (if a2 < (l0_1.length : Int) then ((spec_seMany.f k (rd l0_1 a2)).bind fun t518 => (if t512 = t514 then (if t516 = t518 then (some (decide (a1 < a2))) else (some (decide (t516 > t518)))) else (some (decide (t512 < t514))))) else (none)) else (none))) else (none)) else (none)))))) = some r := h
 clear h
 obtain ⟨t511, A4, H⟩ := obE H
 obtain ⟨t512, A5, H⟩ := obE H
 obtain ⟨t513, A6, H⟩ := obE H
 obtain ⟨t514, A7, H⟩ := obE H
 rcases iteP H with ⟨c8, H⟩ | ⟨c8, H⟩
 ·have c8b0 : decide (0 ≤ a1) = true := decide_eq_true c8
  clear c8
  rcases iteP H with ⟨c9, H⟩ | ⟨c9, H⟩
  ·have c9b0 : decide (a1 < (l0_1.length : Int)) = true := decide_eq_true c9
   clear c9
   obtain ⟨t516, A10, H⟩ := obE H
   rcases iteP H with ⟨c11, H⟩ | ⟨c11, H⟩
   ·have c11b0 : decide (0 ≤ a2) = true := decide_eq_true c11
    clear c11
    rcases iteP H with ⟨c12, H⟩ | ⟨c12, H⟩
    ·have c12b0 : decide (a2 < (l0_1.length : Int)) = true := decide_eq_true c12
     clear c12
     obtain ⟨t518, A13, H⟩ := obE H
     rcases iteP H with ⟨c14, H⟩ | ⟨c14, H⟩
     ·have c14b0 : (t512 == t514) = true := beq_iff_eq.mpr c14
      have c14b1 : (t512 != t514) = false := bne_eq_false_iff_eq.mpr c14
      clear c14
      rcases iteP H with ⟨c15, H⟩ | ⟨c15, H⟩
      ·have c15b0 : (t516 == t518) = true := beq_iff_eq.mpr c15
       have c15b1 : (t516 != t518) = false := bne_eq_false_iff_eq.mpr c15
       clear c15
       obtain rfl := Option.some.inj H
       go_enter Tryd.func66, Tryd.ntmps66
       try go_wp2_with (first | ((with_reducible refine gate_dst (N := 3) rfl ?_); refine boxE (N := 3) (cs := #[.int .i64 a0_0, .slice A0_1 l0_1.length c0_1]) (t := 28) ?_; intro gb510 hg w16 hbox hb; have BK510 := Aside0.mk (hbox); have GE510 := geB HB hg; replace HB := bst HB hb; clear hb hbox hg))
       replace BK510 := Aside0.mk (blk_drew BK510.out)
       replace HB := Aside0.mk (below_drew1 HB.out)
       refine start_ (n := 10) (S := fun w' => w'.cell? ⟨gb510, 0, none⟩ = some (.int .i64 a0_0) ∧ w'.cell? ⟨gb510, 1, none⟩ = some (.slice A0_1 l0_1.length c0_1)) (ds := []) (bm 10 0) (by kernel_rfl) rfl (by kernel_rfl) ⟨(blk_cell BK510.out 0).trans rfl, (blk_cell BK510.out 1).trans rfl⟩ (fun hHeld => ?_); refine with_tabW spec_seBefore.tab1 spec_seBefore.bits1 (fun HT_ HW_ => ?_)
       generalize w16.drew = w17 at BK510 HB hHeld ⊢
       refine pureW 1 (some 12) (bm 10 2) HT_ ?_
       refine pureW 5 (some 16) (bm 10 34) HT_ ?_
       refine takeW 0 (some 11) (bm 10 35) HT_ HW_ hHeld ?_
       refine takeW 4 (some 15) (bm 10 51) HT_ HW_ hHeld ?_
       refine oneW 2 (some 13) (bm 10 55) HT_ (fun K hK => ?_)
       refine goesR Tryd.func31 #[.agg #[.int .i64 a0_0, .slice A0_1 l0_1.length c0_1], .int .i64 a1] ?_
       with_reducible refine (spec_orBelow.calls k a0_0 _ _ l0_1 a1 t511 _ ?side1 ?side2 A4.out).mono ?_
       (case side1 => exact C_g HR0_1 HB)
       (case side2 => exact HC0_1.out)
       rintro e w18 ⟨rfl, hb⟩
       refine ⟨_, rfl, ?_⟩
       replace BK510 := blkB BK510 hb
       replace HB := bst HB hb
       (try clear hb)
       (try clear hb2)
       (try clear hk)
       (try clear hi)
       refine hK.out _ _ ⟨(blk_cell BK510.out 0).trans rfl, (blk_cell BK510.out 1).trans rfl⟩ (fun hHeld => ?_)
       clear hK K
       refine normW 13 ?_
       refine oneW 3 (some 14) (bm 10 63) HT_ (fun K hK => ?_)
       refine goesR Tryd.func30 #[.int .i64 t511] ?_
       with_reducible refine (spec_seMany.calls k t511 t512 _ A5.out).mono ?_
       rintro e w19 ⟨rfl, hb⟩
       refine ⟨_, rfl, ?_⟩
       replace BK510 := blkB BK510 hb
       replace HB := bst HB hb
       (try clear hb)
       (try clear hb2)
       (try clear hk)
       (try clear hi)
       refine hK.out _ _ ⟨(blk_cell BK510.out 0).trans rfl, (blk_cell BK510.out 1).trans rfl⟩ (fun hHeld => ?_)
       clear hK K
       refine normW 14 ?_
       refine oneW 6 (some 17) (bm 10 127) HT_ (fun K hK => ?_)
       refine goesR Tryd.func31 #[.agg #[.int .i64 a0_0, .slice A0_1 l0_1.length c0_1], .int .i64 a2] ?_
       with_reducible refine (spec_orBelow.calls k a0_0 _ _ l0_1 a2 t513 _ ?side1 ?side2 A6.out).mono ?_
       (case side1 => exact C_g HR0_1 HB)
       (case side2 => exact HC0_1.out)
       rintro e w20 ⟨rfl, hb⟩
       refine ⟨_, rfl, ?_⟩
       replace BK510 := blkB BK510 hb
       replace HB := bst HB hb
       (try clear hb)
       (try clear hb2)
       (try clear hk)
       (try clear hi)
       refine hK.out _ _ ⟨(blk_cell BK510.out 0).trans rfl, (blk_cell BK510.out 1).trans rfl⟩ (fun hHeld => ?_)
       clear hK K
       refine normW 17 ?_
       refine oneW 7 (some 18) (bm 10 255) HT_ (fun K hK => ?_)
       refine goesR Tryd.func30 #[.int .i64 t513] ?_
       with_reducible refine (spec_seMany.calls k t513 t514 _ A7.out).mono ?_
       rintro e w21 ⟨rfl, hb⟩
       refine ⟨_, rfl, ?_⟩
       replace BK510 := blkB BK510 hb
       replace HB := bst HB hb
       (try clear hb)
       (try clear hb2)
       (try clear hk)
       (try clear hi)
       refine hK.out _ _ ⟨(blk_cell BK510.out 0).trans rfl, (blk_cell BK510.out 1).trans rfl⟩ (fun hHeld => ?_)
       clear hK K
       refine normW 18 ?_
       refine pureW 8 (some 7) (bm 10 511) HT_ ?_
       refine pureW 9 (some 8) (bm 10 1023) HT_ ?_
       refine doneW HT_ ?_
       try go_wp2
       replace BK510 := Aside0.mk (blk_drew BK510.out)
       replace HB := Aside0.mk (below_drew1 HB.out)
       have p515 : 0 ≤ (a1 : Int) := ofd
       have q515 : a1 < (l0_1.length : Int) := ofd
       obtain ⟨ad515, e515, hx515_0⟩ := Kd.at_int HR0_1.out a1 p515 q515
       have hw515_0 := hx515_0
       cases e515
       replace hx515_0 := (HB.out.cell (World.block_lt_of_cell? w _ hx515_0)).trans hx515_0
       replace p515 := eq_true p515
       replace q515 := eq_true q515
       have p517 : 0 ≤ (a2 : Int) := ofd
       have q517 : a2 < (l0_1.length : Int) := ofd
       obtain ⟨ad517, e517, hx517_0⟩ := Kd.at_int HR0_1.out a2 p517 q517
       have hw517_0 := hx517_0
       obtain rfl : ad515 = ad517 := (by injection e517)
       replace hx517_0 := (HB.out.cell (World.block_lt_of_cell? w _ hx517_0)).trans hx517_0
       replace p517 := eq_true p517
       replace q517 := eq_true q517
       refine start_ (n := 14) (S := fun w' => w'.cell? ⟨gb510, 0, none⟩ = some (.int .i64 a0_0) ∧ w'.cell? ⟨gb510, 1, none⟩ = some (.slice (some ad515) l0_1.length c0_1) ∧ w'.cell? (ad515.add (a1).toNat) = some (.int .i64 (rd l0_1 a1)) ∧ w'.cell? (ad515.add (a2).toNat) = some (.int .i64 (rd l0_1 a2))) (ds := []) (bm 14 0) (by kernel_rfl) rfl (by kernel_rfl) ⟨(blk_cell BK510.out 0).trans rfl, (blk_cell BK510.out 1).trans rfl, ((HB.out.cell (World.block_lt_of_cell? w _ hw515_0)).trans hw515_0), ((HB.out.cell (World.block_lt_of_cell? w _ hw517_0)).trans hw517_0)⟩ (fun hHeld => ?_); refine with_tabW spec_seBefore.tab2 spec_seBefore.bits2 (fun HT_ HW_ => ?_)
       generalize w21.drew = w22 at BK510 HB hx515_0 hx517_0 hHeld ⊢
       refine pureW 0 (some 19) (bm 14 1) HT_ ?_
       refine pureW 2 (some 21) (bm 14 5) HT_ ?_
       refine pureW 6 (some 25) (bm 14 69) HT_ ?_
       refine pureW 8 (some 27) (bm 14 325) HT_ ?_
       refine takeW 1 (some 20) (bm 14 327) HT_ HW_ hHeld ?_
       refine pureW 3 (some 22) (bm 14 335) HT_ ?_
       refine takeW 4 (some 23) (bm 14 351) HT_ HW_ hHeld ?_
       refine takeW 7 (some 26) (bm 14 479) HT_ HW_ hHeld ?_
       refine pureW 9 (some 28) (bm 14 991) HT_ ?_
       refine takeW 10 (some 29) (bm 14 2015) HT_ HW_ hHeld ?_
       refine oneW 5 (some 24) (bm 14 2047) HT_ (fun K hK => ?_)
       refine goesR Tryd.func30 #[.int .i64 (rd l0_1 a1)] ?_
       with_reducible refine (spec_seMany.calls k (rd l0_1 a1) t516 _ A10.out).mono ?_
       rintro e w23 ⟨rfl, hb⟩
       refine ⟨_, rfl, ?_⟩
       replace BK510 := blkB BK510 hb
       replace HB := bst HB hb
       (try clear hb)
       (try clear hb2)
       (try clear hk)
       (try clear hi)
       refine hK.out _ _ ⟨(blk_cell BK510.out 0).trans rfl, (blk_cell BK510.out 1).trans rfl, ((HB.out.cell (World.block_lt_of_cell? w _ hw515_0)).trans hw515_0), ((HB.out.cell (World.block_lt_of_cell? w _ hw517_0)).trans hw517_0)⟩ (fun hHeld => ?_)
       clear hK K
       refine normW 24 ?_
       refine oneW 11 (some 30) (bm 14 4095) HT_ (fun K hK => ?_)
       refine goesR Tryd.func30 #[.int .i64 (rd l0_1 a2)] ?_
       with_reducible refine (spec_seMany.calls k (rd l0_1 a2) t518 _ A13.out).mono ?_
       rintro e w24 ⟨rfl, hb⟩
       refine ⟨_, rfl, ?_⟩
       replace BK510 := blkB BK510 hb
       replace HB := bst HB hb
       (try clear hb)
       (try clear hb2)
       (try clear hk)
       (try clear hi)
       refine hK.out _ _ ⟨(blk_cell BK510.out 0).trans rfl, (blk_cell BK510.out 1).trans rfl, ((HB.out.cell (World.block_lt_of_cell? w _ hw515_0)).trans hw515_0), ((HB.out.cell (World.block_lt_of_cell? w _ hw517_0)).trans hw517_0)⟩ (fun hHeld => ?_)
       clear hK K
       refine normW 30 ?_
       refine pureW 12 (some 9) (bm 14 8191) HT_ ?_
       refine pureW 13 (some 10) (bm 14 16383) HT_ ?_
       refine doneW HT_ ?_
       try go_wp2
       go_ret
       exact ⟨eqE, bel_g HB.out⟩
      ·have c15b0 : (t516 == t518) = false := beq_eq_false_iff_ne.mpr c15
       have c15b1 : (t516 != t518) = true := bne_iff_ne.mpr c15
       obtain rfl := Option.some.inj H
       go_enter Tryd.func66, Tryd.ntmps66
       try go_wp2_with (first | ((with_reducible refine gate_dst (N := 3) rfl ?_); refine boxE (N := 3) (cs := #[.int .i64 a0_0, .slice A0_1 l0_1.length c0_1]) (t := 28) ?_; intro gb510 hg w25 hbox hb; have BK510 := Aside0.mk (hbox); have GE510 := geB HB hg; replace HB := bst HB hb; clear hb hbox hg))
       replace BK510 := Aside0.mk (blk_drew BK510.out)
       replace HB := Aside0.mk (below_drew1 HB.out)
       refine start_ (n := 10) (S := fun w' => w'.cell? ⟨gb510, 0, none⟩ = some (.int .i64 a0_0) ∧ w'.cell? ⟨gb510, 1, none⟩ = some (.slice A0_1 l0_1.length c0_1)) (ds := []) (bm 10 0) (by kernel_rfl) rfl (by kernel_rfl) ⟨(blk_cell BK510.out 0).trans rfl, (blk_cell BK510.out 1).trans rfl⟩ (fun hHeld => ?_); refine with_tabW spec_seBefore.tab1 spec_seBefore.bits1 (fun HT_ HW_ => ?_)
       generalize w25.drew = w26 at BK510 HB hHeld ⊢
       refine pureW 1 (some 12) (bm 10 2) HT_ ?_
       refine pureW 5 (some 16) (bm 10 34) HT_ ?_
       refine takeW 0 (some 11) (bm 10 35) HT_ HW_ hHeld ?_
       refine takeW 4 (some 15) (bm 10 51) HT_ HW_ hHeld ?_
       refine oneW 2 (some 13) (bm 10 55) HT_ (fun K hK => ?_)
       refine goesR Tryd.func31 #[.agg #[.int .i64 a0_0, .slice A0_1 l0_1.length c0_1], .int .i64 a1] ?_
       with_reducible refine (spec_orBelow.calls k a0_0 _ _ l0_1 a1 t511 _ ?side1 ?side2 A4.out).mono ?_
       (case side1 => exact C_g HR0_1 HB)
       (case side2 => exact HC0_1.out)
       rintro e w27 ⟨rfl, hb⟩
       refine ⟨_, rfl, ?_⟩
       replace BK510 := blkB BK510 hb
       replace HB := bst HB hb
       (try clear hb)
       (try clear hb2)
       (try clear hk)
       (try clear hi)
       refine hK.out _ _ ⟨(blk_cell BK510.out 0).trans rfl, (blk_cell BK510.out 1).trans rfl⟩ (fun hHeld => ?_)
       clear hK K
       refine normW 13 ?_
       refine oneW 3 (some 14) (bm 10 63) HT_ (fun K hK => ?_)
       refine goesR Tryd.func30 #[.int .i64 t511] ?_
       with_reducible refine (spec_seMany.calls k t511 t512 _ A5.out).mono ?_
       rintro e w28 ⟨rfl, hb⟩
       refine ⟨_, rfl, ?_⟩
       replace BK510 := blkB BK510 hb
       replace HB := bst HB hb
       (try clear hb)
       (try clear hb2)
       (try clear hk)
       (try clear hi)
       refine hK.out _ _ ⟨(blk_cell BK510.out 0).trans rfl, (blk_cell BK510.out 1).trans rfl⟩ (fun hHeld => ?_)
       clear hK K
       refine normW 14 ?_
       refine oneW 6 (some 17) (bm 10 127) HT_ (fun K hK => ?_)
       refine goesR Tryd.func31 #[.agg #[.int .i64 a0_0, .slice A0_1 l0_1.length c0_1], .int .i64 a2] ?_
       with_reducible refine (spec_orBelow.calls k a0_0 _ _ l0_1 a2 t513 _ ?side1 ?side2 A6.out).mono ?_
       (case side1 => exact C_g HR0_1 HB)
       (case side2 => exact HC0_1.out)
       rintro e w29 ⟨rfl, hb⟩
       refine ⟨_, rfl, ?_⟩
       replace BK510 := blkB BK510 hb
       replace HB := bst HB hb
       (try clear hb)
       (try clear hb2)
       (try clear hk)
       (try clear hi)
       refine hK.out _ _ ⟨(blk_cell BK510.out 0).trans rfl, (blk_cell BK510.out 1).trans rfl⟩ (fun hHeld => ?_)
       clear hK K
       refine normW 17 ?_
       refine oneW 7 (some 18) (bm 10 255) HT_ (fun K hK => ?_)
       refine goesR Tryd.func30 #[.int .i64 t513] ?_
       with_reducible refine (spec_seMany.calls k t513 t514 _ A7.out).mono ?_
       rintro e w30 ⟨rfl, hb⟩
       refine ⟨_, rfl, ?_⟩
       replace BK510 := blkB BK510 hb
       replace HB := bst HB hb
       (try clear hb)
       (try clear hb2)
       (try clear hk)
       (try clear hi)
       refine hK.out _ _ ⟨(blk_cell BK510.out 0).trans rfl, (blk_cell BK510.out 1).trans rfl⟩ (fun hHeld => ?_)
       clear hK K
       refine normW 18 ?_
       refine pureW 8 (some 7) (bm 10 511) HT_ ?_
       refine pureW 9 (some 8) (bm 10 1023) HT_ ?_
       refine doneW HT_ ?_
       try go_wp2
       replace BK510 := Aside0.mk (blk_drew BK510.out)
       replace HB := Aside0.mk (below_drew1 HB.out)
       have p515 : 0 ≤ (a1 : Int) := ofd
       have q515 : a1 < (l0_1.length : Int) := ofd
       obtain ⟨ad515, e515, hx515_0⟩ := Kd.at_int HR0_1.out a1 p515 q515
       have hw515_0 := hx515_0
       cases e515
       replace hx515_0 := (HB.out.cell (World.block_lt_of_cell? w _ hx515_0)).trans hx515_0
       replace p515 := eq_true p515
       replace q515 := eq_true q515
       have p517 : 0 ≤ (a2 : Int) := ofd
       have q517 : a2 < (l0_1.length : Int) := ofd
       obtain ⟨ad517, e517, hx517_0⟩ := Kd.at_int HR0_1.out a2 p517 q517
       have hw517_0 := hx517_0
       obtain rfl : ad515 = ad517 := (by injection e517)
       replace hx517_0 := (HB.out.cell (World.block_lt_of_cell? w _ hx517_0)).trans hx517_0
       replace p517 := eq_true p517
       replace q517 := eq_true q517
       refine start_ (n := 14) (S := fun w' => w'.cell? ⟨gb510, 0, none⟩ = some (.int .i64 a0_0) ∧ w'.cell? ⟨gb510, 1, none⟩ = some (.slice (some ad515) l0_1.length c0_1) ∧ w'.cell? (ad515.add (a1).toNat) = some (.int .i64 (rd l0_1 a1)) ∧ w'.cell? (ad515.add (a2).toNat) = some (.int .i64 (rd l0_1 a2))) (ds := []) (bm 14 0) (by kernel_rfl) rfl (by kernel_rfl) ⟨(blk_cell BK510.out 0).trans rfl, (blk_cell BK510.out 1).trans rfl, ((HB.out.cell (World.block_lt_of_cell? w _ hw515_0)).trans hw515_0), ((HB.out.cell (World.block_lt_of_cell? w _ hw517_0)).trans hw517_0)⟩ (fun hHeld => ?_); refine with_tabW spec_seBefore.tab2 spec_seBefore.bits2 (fun HT_ HW_ => ?_)
       generalize w30.drew = w31 at BK510 HB hx515_0 hx517_0 hHeld ⊢
       refine pureW 0 (some 19) (bm 14 1) HT_ ?_
       refine pureW 2 (some 21) (bm 14 5) HT_ ?_
       refine pureW 6 (some 25) (bm 14 69) HT_ ?_
       refine pureW 8 (some 27) (bm 14 325) HT_ ?_
       refine takeW 1 (some 20) (bm 14 327) HT_ HW_ hHeld ?_
       refine pureW 3 (some 22) (bm 14 335) HT_ ?_
       refine takeW 4 (some 23) (bm 14 351) HT_ HW_ hHeld ?_
       refine takeW 7 (some 26) (bm 14 479) HT_ HW_ hHeld ?_
       refine pureW 9 (some 28) (bm 14 991) HT_ ?_
       refine takeW 10 (some 29) (bm 14 2015) HT_ HW_ hHeld ?_
       refine oneW 5 (some 24) (bm 14 2047) HT_ (fun K hK => ?_)
       refine goesR Tryd.func30 #[.int .i64 (rd l0_1 a1)] ?_
       with_reducible refine (spec_seMany.calls k (rd l0_1 a1) t516 _ A10.out).mono ?_
       rintro e w32 ⟨rfl, hb⟩
       refine ⟨_, rfl, ?_⟩
       replace BK510 := blkB BK510 hb
       replace HB := bst HB hb
       (try clear hb)
       (try clear hb2)
       (try clear hk)
       (try clear hi)
       refine hK.out _ _ ⟨(blk_cell BK510.out 0).trans rfl, (blk_cell BK510.out 1).trans rfl, ((HB.out.cell (World.block_lt_of_cell? w _ hw515_0)).trans hw515_0), ((HB.out.cell (World.block_lt_of_cell? w _ hw517_0)).trans hw517_0)⟩ (fun hHeld => ?_)
       clear hK K
       refine normW 24 ?_
       refine oneW 11 (some 30) (bm 14 4095) HT_ (fun K hK => ?_)
       refine goesR Tryd.func30 #[.int .i64 (rd l0_1 a2)] ?_
       with_reducible refine (spec_seMany.calls k (rd l0_1 a2) t518 _ A13.out).mono ?_
       rintro e w33 ⟨rfl, hb⟩
       refine ⟨_, rfl, ?_⟩
       replace BK510 := blkB BK510 hb
       replace HB := bst HB hb
       (try clear hb)
       (try clear hb2)
       (try clear hk)
       (try clear hi)
       refine hK.out _ _ ⟨(blk_cell BK510.out 0).trans rfl, (blk_cell BK510.out 1).trans rfl, ((HB.out.cell (World.block_lt_of_cell? w _ hw515_0)).trans hw515_0), ((HB.out.cell (World.block_lt_of_cell? w _ hw517_0)).trans hw517_0)⟩ (fun hHeld => ?_)
       clear hK K
       refine normW 30 ?_
       refine pureW 12 (some 9) (bm 14 8191) HT_ ?_
       refine pureW 13 (some 10) (bm 14 16383) HT_ ?_
       refine doneW HT_ ?_
       try go_wp2
       go_ret
       exact ⟨eqE, bel_g HB.out⟩
     ·have c14b0 : (t512 == t514) = false := beq_eq_false_iff_ne.mpr c14
      have c14b1 : (t512 != t514) = true := bne_iff_ne.mpr c14
      obtain rfl := Option.some.inj H
      go_enter Tryd.func66, Tryd.ntmps66
      try go_wp2_with (first | ((with_reducible refine gate_dst (N := 3) rfl ?_); refine boxE (N := 3) (cs := #[.int .i64 a0_0, .slice A0_1 l0_1.length c0_1]) (t := 28) ?_; intro gb510 hg w34 hbox hb; have BK510 := Aside0.mk (hbox); have GE510 := geB HB hg; replace HB := bst HB hb; clear hb hbox hg))
      replace BK510 := Aside0.mk (blk_drew BK510.out)
      replace HB := Aside0.mk (below_drew1 HB.out)
      refine start_ (n := 10) (S := fun w' => w'.cell? ⟨gb510, 0, none⟩ = some (.int .i64 a0_0) ∧ w'.cell? ⟨gb510, 1, none⟩ = some (.slice A0_1 l0_1.length c0_1)) (ds := []) (bm 10 0) (by kernel_rfl) rfl (by kernel_rfl) ⟨(blk_cell BK510.out 0).trans rfl, (blk_cell BK510.out 1).trans rfl⟩ (fun hHeld => ?_); refine with_tabW spec_seBefore.tab1 spec_seBefore.bits1 (fun HT_ HW_ => ?_)
      generalize w34.drew = w35 at BK510 HB hHeld ⊢
      refine pureW 1 (some 12) (bm 10 2) HT_ ?_
      refine pureW 5 (some 16) (bm 10 34) HT_ ?_
      refine takeW 0 (some 11) (bm 10 35) HT_ HW_ hHeld ?_
      refine takeW 4 (some 15) (bm 10 51) HT_ HW_ hHeld ?_
      refine oneW 2 (some 13) (bm 10 55) HT_ (fun K hK => ?_)
      refine goesR Tryd.func31 #[.agg #[.int .i64 a0_0, .slice A0_1 l0_1.length c0_1], .int .i64 a1] ?_
      with_reducible refine (spec_orBelow.calls k a0_0 _ _ l0_1 a1 t511 _ ?side1 ?side2 A4.out).mono ?_
      (case side1 => exact C_g HR0_1 HB)
      (case side2 => exact HC0_1.out)
      rintro e w36 ⟨rfl, hb⟩
      refine ⟨_, rfl, ?_⟩
      replace BK510 := blkB BK510 hb
      replace HB := bst HB hb
      (try clear hb)
      (try clear hb2)
      (try clear hk)
      (try clear hi)
      refine hK.out _ _ ⟨(blk_cell BK510.out 0).trans rfl, (blk_cell BK510.out 1).trans rfl⟩ (fun hHeld => ?_)
      clear hK K
      refine normW 13 ?_
      refine oneW 3 (some 14) (bm 10 63) HT_ (fun K hK => ?_)
      refine goesR Tryd.func30 #[.int .i64 t511] ?_
      with_reducible refine (spec_seMany.calls k t511 t512 _ A5.out).mono ?_
      rintro e w37 ⟨rfl, hb⟩
      refine ⟨_, rfl, ?_⟩
      replace BK510 := blkB BK510 hb
      replace HB := bst HB hb
      (try clear hb)
      (try clear hb2)
      (try clear hk)
      (try clear hi)
      refine hK.out _ _ ⟨(blk_cell BK510.out 0).trans rfl, (blk_cell BK510.out 1).trans rfl⟩ (fun hHeld => ?_)
      clear hK K
      refine normW 14 ?_
      refine oneW 6 (some 17) (bm 10 127) HT_ (fun K hK => ?_)
      refine goesR Tryd.func31 #[.agg #[.int .i64 a0_0, .slice A0_1 l0_1.length c0_1], .int .i64 a2] ?_
      with_reducible refine (spec_orBelow.calls k a0_0 _ _ l0_1 a2 t513 _ ?side1 ?side2 A6.out).mono ?_
      (case side1 => exact C_g HR0_1 HB)
      (case side2 => exact HC0_1.out)
      rintro e w38 ⟨rfl, hb⟩
      refine ⟨_, rfl, ?_⟩
      replace BK510 := blkB BK510 hb
      replace HB := bst HB hb
      (try clear hb)
      (try clear hb2)
      (try clear hk)
      (try clear hi)
      refine hK.out _ _ ⟨(blk_cell BK510.out 0).trans rfl, (blk_cell BK510.out 1).trans rfl⟩ (fun hHeld => ?_)
      clear hK K
      refine normW 17 ?_
      refine oneW 7 (some 18) (bm 10 255) HT_ (fun K hK => ?_)
      refine goesR Tryd.func30 #[.int .i64 t513] ?_
      with_reducible refine (spec_seMany.calls k t513 t514 _ A7.out).mono ?_
      rintro e w39 ⟨rfl, hb⟩
      refine ⟨_, rfl, ?_⟩
      replace BK510 := blkB BK510 hb
      replace HB := bst HB hb
      (try clear hb)
      (try clear hb2)
      (try clear hk)
      (try clear hi)
      refine hK.out _ _ ⟨(blk_cell BK510.out 0).trans rfl, (blk_cell BK510.out 1).trans rfl⟩ (fun hHeld => ?_)
      clear hK K
      refine normW 18 ?_
      refine pureW 8 (some 7) (bm 10 511) HT_ ?_
      refine pureW 9 (some 8) (bm 10 1023) HT_ ?_
      refine doneW HT_ ?_
      try go_wp2
      replace BK510 := Aside0.mk (blk_drew BK510.out)
      replace HB := Aside0.mk (below_drew1 HB.out)
      have p515 : 0 ≤ (a1 : Int) := ofd
      have q515 : a1 < (l0_1.length : Int) := ofd
      obtain ⟨ad515, e515, hx515_0⟩ := Kd.at_int HR0_1.out a1 p515 q515
      have hw515_0 := hx515_0
      cases e515
      replace hx515_0 := (HB.out.cell (World.block_lt_of_cell? w _ hx515_0)).trans hx515_0
      replace p515 := eq_true p515
      replace q515 := eq_true q515
      have p517 : 0 ≤ (a2 : Int) := ofd
      have q517 : a2 < (l0_1.length : Int) := ofd
      obtain ⟨ad517, e517, hx517_0⟩ := Kd.at_int HR0_1.out a2 p517 q517
      have hw517_0 := hx517_0
      obtain rfl : ad515 = ad517 := (by injection e517)
      replace hx517_0 := (HB.out.cell (World.block_lt_of_cell? w _ hx517_0)).trans hx517_0
      replace p517 := eq_true p517
      replace q517 := eq_true q517
      refine start_ (n := 14) (S := fun w' => w'.cell? ⟨gb510, 0, none⟩ = some (.int .i64 a0_0) ∧ w'.cell? ⟨gb510, 1, none⟩ = some (.slice (some ad515) l0_1.length c0_1) ∧ w'.cell? (ad515.add (a1).toNat) = some (.int .i64 (rd l0_1 a1)) ∧ w'.cell? (ad515.add (a2).toNat) = some (.int .i64 (rd l0_1 a2))) (ds := []) (bm 14 0) (by kernel_rfl) rfl (by kernel_rfl) ⟨(blk_cell BK510.out 0).trans rfl, (blk_cell BK510.out 1).trans rfl, ((HB.out.cell (World.block_lt_of_cell? w _ hw515_0)).trans hw515_0), ((HB.out.cell (World.block_lt_of_cell? w _ hw517_0)).trans hw517_0)⟩ (fun hHeld => ?_); refine with_tabW spec_seBefore.tab2 spec_seBefore.bits2 (fun HT_ HW_ => ?_)
      generalize w39.drew = w40 at BK510 HB hx515_0 hx517_0 hHeld ⊢
      refine pureW 0 (some 19) (bm 14 1) HT_ ?_
      refine pureW 2 (some 21) (bm 14 5) HT_ ?_
      refine pureW 6 (some 25) (bm 14 69) HT_ ?_
      refine pureW 8 (some 27) (bm 14 325) HT_ ?_
      refine takeW 1 (some 20) (bm 14 327) HT_ HW_ hHeld ?_
      refine pureW 3 (some 22) (bm 14 335) HT_ ?_
      refine takeW 4 (some 23) (bm 14 351) HT_ HW_ hHeld ?_
      refine takeW 7 (some 26) (bm 14 479) HT_ HW_ hHeld ?_
      refine pureW 9 (some 28) (bm 14 991) HT_ ?_
      refine takeW 10 (some 29) (bm 14 2015) HT_ HW_ hHeld ?_
      refine oneW 5 (some 24) (bm 14 2047) HT_ (fun K hK => ?_)
      refine goesR Tryd.func30 #[.int .i64 (rd l0_1 a1)] ?_
      with_reducible refine (spec_seMany.calls k (rd l0_1 a1) t516 _ A10.out).mono ?_
      rintro e w41 ⟨rfl, hb⟩
      refine ⟨_, rfl, ?_⟩
      replace BK510 := blkB BK510 hb
      replace HB := bst HB hb
      (try clear hb)
      (try clear hb2)
      (try clear hk)
      (try clear hi)
      refine hK.out _ _ ⟨(blk_cell BK510.out 0).trans rfl, (blk_cell BK510.out 1).trans rfl, ((HB.out.cell (World.block_lt_of_cell? w _ hw515_0)).trans hw515_0), ((HB.out.cell (World.block_lt_of_cell? w _ hw517_0)).trans hw517_0)⟩ (fun hHeld => ?_)
      clear hK K
      refine normW 24 ?_
      refine oneW 11 (some 30) (bm 14 4095) HT_ (fun K hK => ?_)
      refine goesR Tryd.func30 #[.int .i64 (rd l0_1 a2)] ?_
      with_reducible refine (spec_seMany.calls k (rd l0_1 a2) t518 _ A13.out).mono ?_
      rintro e w42 ⟨rfl, hb⟩
      refine ⟨_, rfl, ?_⟩
      replace BK510 := blkB BK510 hb
      replace HB := bst HB hb
      (try clear hb)
      (try clear hb2)
      (try clear hk)
      (try clear hi)
      refine hK.out _ _ ⟨(blk_cell BK510.out 0).trans rfl, (blk_cell BK510.out 1).trans rfl, ((HB.out.cell (World.block_lt_of_cell? w _ hw515_0)).trans hw515_0), ((HB.out.cell (World.block_lt_of_cell? w _ hw517_0)).trans hw517_0)⟩ (fun hHeld => ?_)
      clear hK K
      refine normW 30 ?_
      refine pureW 12 (some 9) (bm 14 8191) HT_ ?_
      refine pureW 13 (some 10) (bm 14 16383) HT_ ?_
      refine doneW HT_ ?_
      try go_wp2
      go_ret
      exact ⟨eqE, bel_g HB.out⟩
    ·exact absurd H (by simp)
   ·exact absurd H (by simp)
  ·exact absurd H (by simp)
 ·exact absurd H (by simp)

end Go.Proofs.YtjahodklmegglaaDoor.Q
