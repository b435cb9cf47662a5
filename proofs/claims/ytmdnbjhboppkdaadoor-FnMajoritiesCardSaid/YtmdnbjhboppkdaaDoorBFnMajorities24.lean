import Derived.Test.YtmdnbjhboppkdaaDoorBFnMajorities23
namespace Go.Proofs.YtmdnbjhboppkdaaDoor.Q
open Go.RowKit Go.Proofs.YtmdnbjhboppkdaaDoorW.PrintWords Go.Proofs.YtmdnbjhboppkdaaDoorW.PrintLast Go.Proofs.YtmdnbjhboppkdaaDoorW.PrintMore
attribute [local go_sem] max2_int min2_int max_two min_two max_three min_three max_four min_four neB_f
set_option linter.unusedVariables false
set_option maxHeartbeats 8000000
set_option maxRecDepth 100000
set_option linter.unusedSimpArgs false
def spec_weTold.f (a0_0 : Int) (l0_1 : List Int) (a1 : Int) (a2 : Int) : Option (Int) := if 0 ≤ a1 then (if a1 < (l0_1.length : Int) then ((spec_orHas.f (rd l0_1 a1) a2).bind fun t754 => (if t754 = true then (some 1) else (if 0 ≤ a2 then (if a2 < (l0_1.length : Int) then ((spec_orHas.f (rd l0_1 a2) a1).bind fun t756 => (if t756 = true then (some (-1)) else (some 0))) else (none)) else (none)))) else (none)) else (none)
theorem spec_weTold.calls (a0_0 : Int) (A0_1 : Option Addr) (c0_1 : Nat) (l0_1 : List Int) (a1 : Int) (a2 : Int) (r : Int) (w : World) (hr0_1 : Kd.C (Kd.int .i64) w A0_1 l0_1.length l0_1) (hc0_1 : l0_1.length ≤ c0_1) (h : spec_weTold.f a0_0 l0_1 a1 a2 = some r) :
  Calls Tryd.prog 58 #[.agg #[.int .i64 a0_0, .slice A0_1 l0_1.length c0_1], .int .i64 a1, .int .i64 a2] w fun e w' => e = .returned (.int .i64 r) ∧ Below w.heap.size w w' := by
 have hu28 := Tryd.underlying28
 have HR0_1 := mkA hr0_1
 have HC0_1 := mkA hc0_1
 clear hr0_1 hc0_1
 have HB := mkA (Below.refl w.heap.size w)
 have H := h
 clear h
 unfold spec_weTold.f at H
 obtain ⟨c4b0, H⟩ := itND H
 obtain ⟨c5b0, H⟩ := itND H
 obtain ⟨t754, A6, H⟩ := obE H
 by_cases c7 : t754 = true
 ·subst c7
  replace H := ifT H
  obtain rfl := Option.some.inj H
  go_enter Tryd.func58, Tryd.ntmps58
  go_wp2_with (first | ((with_reducible refine gate_dst (N := 3) rfl ?_); refine boxG HB #[.int .i64 a0_0, .slice A0_1 l0_1.length c0_1] 28 ?_; intro gb752 hg w8 BK752 GE752 hb; replace HB := bst HB hb; clear hb hg; obtain ⟨_, _, _, _⟩ := blk2 BK752; have p753 : 0 ≤ (a1 : Int) := ofd; have q753 : a1 < (l0_1.length : Int) := ofd; obtain ⟨ad753, e753, hx753_0⟩ := Kd.at_int HR0_1.out a1 p753 q753; cases e753; replace hx753_0 := (HB.out.cell (World.block_lt_of_cell? w _ hx753_0)).trans hx753_0; replace p753 := eq_true p753; replace q753 := eq_true q753) | ((with_reducible refine gate_callee (f := 55) rfl ?_); refine goesQ (some 14) Tryd.func55 #[.int .i64 (rd l0_1 a1), .int .i64 a2] ?_; (with_reducible refine (spec_orHas.calls (rd l0_1 a1) a2 true _ A6.out).mono ?_); rintro e w' ⟨rfl, ⟨nd, rfl⟩⟩; refine ⟨_, rfl, ?_⟩))
  go_ret
  exact ⟨eqE, bel_g HB.out⟩
 ·replace c7 := Bool.eq_false_iff.mpr c7
  subst c7
  replace H := ifF H
  obtain ⟨c10b0, H⟩ := itND H
  obtain ⟨c11b0, H⟩ := itND H
  obtain ⟨t756, A12, H⟩ := obE H
  by_cases c13 : t756 = true
  ·subst c13
   replace H := ifT H
   obtain rfl := Option.some.inj H
   go_enter Tryd.func58, Tryd.ntmps58
   go_wp2_with (first | ((with_reducible refine gate_dst (N := 3) rfl ?_); refine boxG HB #[.int .i64 a0_0, .slice A0_1 l0_1.length c0_1] 28 ?_; intro gb752 hg w14 BK752 GE752 hb; replace HB := bst HB hb; clear hb hg; obtain ⟨_, _, _, _⟩ := blk2 BK752; have p753 : 0 ≤ (a1 : Int) := ofd; have q753 : a1 < (l0_1.length : Int) := ofd; obtain ⟨ad753, e753, hx753_0⟩ := Kd.at_int HR0_1.out a1 p753 q753; cases e753; replace hx753_0 := (HB.out.cell (World.block_lt_of_cell? w _ hx753_0)).trans hx753_0; replace p753 := eq_true p753; replace q753 := eq_true q753) | ((with_reducible refine gate_callee (f := 55) rfl ?_); refine goesQ (some 14) Tryd.func55 #[.int .i64 (rd l0_1 a1), .int .i64 a2] ?_; (with_reducible refine (spec_orHas.calls (rd l0_1 a1) a2 false _ A6.out).mono ?_); rintro e w' ⟨rfl, ⟨nd, rfl⟩⟩; refine ⟨_, rfl, ?_⟩; have p755 : 0 ≤ (a2 : Int) := ofd; have q755 : a2 < (l0_1.length : Int) := ofd; obtain ⟨ad755, e755, hx755_0⟩ := Kd.at_int HR0_1.out a2 p755 q755; obtain rfl : ad753 = ad755 := (by injection e755); replace hx755_0 := (HB.out.cell (World.block_lt_of_cell? w _ hx755_0)).trans hx755_0; replace p755 := eq_true p755; replace q755 := eq_true q755) | ((with_reducible refine gate_callee (f := 55) rfl ?_); refine goesQ (some 22) Tryd.func55 #[.int .i64 (rd l0_1 a2), .int .i64 a1] ?_; (with_reducible refine (spec_orHas.calls (rd l0_1 a2) a1 true _ A12.out).mono ?_); rintro e w' ⟨rfl, ⟨nd, rfl⟩⟩; refine ⟨_, rfl, ?_⟩))
   go_ret
   exact ⟨eqE, bel_g HB.out⟩
  ·replace c13 := Bool.eq_false_iff.mpr c13
   subst c13
   replace H := ifF H
   obtain rfl := Option.some.inj H
   go_enter Tryd.func58, Tryd.ntmps58
   go_wp2_with (first | ((with_reducible refine gate_dst (N := 3) rfl ?_); refine boxG HB #[.int .i64 a0_0, .slice A0_1 l0_1.length c0_1] 28 ?_; intro gb752 hg w16 BK752 GE752 hb; replace HB := bst HB hb; clear hb hg; obtain ⟨_, _, _, _⟩ := blk2 BK752; have p753 : 0 ≤ (a1 : Int) := ofd; have q753 : a1 < (l0_1.length : Int) := ofd; obtain ⟨ad753, e753, hx753_0⟩ := Kd.at_int HR0_1.out a1 p753 q753; cases e753; replace hx753_0 := (HB.out.cell (World.block_lt_of_cell? w _ hx753_0)).trans hx753_0; replace p753 := eq_true p753; replace q753 := eq_true q753) | ((with_reducible refine gate_callee (f := 55) rfl ?_); refine goesQ (some 14) Tryd.func55 #[.int .i64 (rd l0_1 a1), .int .i64 a2] ?_; (with_reducible refine (spec_orHas.calls (rd l0_1 a1) a2 false _ A6.out).mono ?_); rintro e w' ⟨rfl, ⟨nd, rfl⟩⟩; refine ⟨_, rfl, ?_⟩; have p755 : 0 ≤ (a2 : Int) := ofd; have q755 : a2 < (l0_1.length : Int) := ofd; obtain ⟨ad755, e755, hx755_0⟩ := Kd.at_int HR0_1.out a2 p755 q755; obtain rfl : ad753 = ad755 := (by injection e755); replace hx755_0 := (HB.out.cell (World.block_lt_of_cell? w _ hx755_0)).trans hx755_0; replace p755 := eq_true p755; replace q755 := eq_true q755) | ((with_reducible refine gate_callee (f := 55) rfl ?_); refine goesQ (some 22) Tryd.func55 #[.int .i64 (rd l0_1 a2), .int .i64 a1] ?_; (with_reducible refine (spec_orHas.calls (rd l0_1 a2) a1 false _ A12.out).mono ?_); rintro e w' ⟨rfl, ⟨nd, rfl⟩⟩; refine ⟨_, rfl, ?_⟩))
   go_ret
   exact ⟨eqE, bel_g HB.out⟩
mutual
def spec_weDistance.l0 : Nat → Int → Int → Int → List Int → Int → List Int → Option (Int)
 | 0, _, _, _, _, _, _ => none
 | k + 1, x5, x6, x758000, x758001, x759000, x759001 => if x6 < x758000 then (spec_weDistance.l1 k x5 x6 0 x758000 x758001 x759000 x759001) else (some x5)
def spec_weDistance.l1 : Nat → Int → Int → Int → Int → List Int → Int → List Int → Option (Int)
 | 0, _, _, _, _, _, _, _ => none
 | k + 1, x5, x6, x7, x758000, x758001, x759000, x759001 => if x7 < x6 then ((spec_weTold.f x758000 x758001 x7 x6).bind fun t759 => ((spec_weTold.f x759000 x759001 x7 x6).bind fun t760 => ((spec_l1Abs.f (wrap64 (t759 - t760))).bind fun t761 => (spec_weDistance.l1 k (wrap64 (x5 + t761)) x6 (wrap64 (x7 + 1)) x758000 x758001 x759000 x759001)))) else (spec_weDistance.l0 k x5 (wrap64 (x6 + 1)) x758000 x758001 x759000 x759001)
end
def spec_weDistance.f (k : Nat) (a0_0 : Int) (l0_1 : List Int) (a1_0 : Int) (l1_1 : List Int) : Option (Int) := spec_weDistance.l0 k 0 0 a0_0 l0_1 a1_0 l1_1
theorem spec_weDistance.mono_l : ∀ k, (∀ y0 y1 y2 y3 y4 y5, LeO (spec_weDistance.l0 k y0 y1 y2 y3 y4 y5) (spec_weDistance.l0 (k + 1) y0 y1 y2 y3 y4 y5)) ∧ (∀ y0 y1 y2 y3 y4 y5 y6, LeO (spec_weDistance.l1 k y0 y1 y2 y3 y4 y5 y6) (spec_weDistance.l1 (k + 1) y0 y1 y2 y3 y4 y5 y6))
 | 0 => ⟨fun _ _ _ _ _ _ r h => by simp [spec_weDistance.l0] at h, fun _ _ _ _ _ _ _ r h => by simp [spec_weDistance.l1] at h⟩
 | k + 1 => by
  obtain ⟨ih0, ih1⟩ := spec_weDistance.mono_l k
  refine ⟨?_, ?_⟩ <;> intros
  unfold spec_weDistance.l0
  rotate_left
  unfold spec_weDistance.l1
  rotate_left
  all_goals repeat' (with_reducible first|apply ih0|apply ih1|apply LeO.refl|apply LeO.none|apply LeO.ite|apply LeO.bind|intro)
theorem spec_weDistance.mono : ∀ a0 a1 a2 a3 k, LeO (spec_weDistance.f k a0 a1 a2 a3) (spec_weDistance.f (k + 1) a0 a1 a2 a3) := by
 intro a0 a1 a2 a3 k
 obtain ⟨ih0, ih1⟩ := spec_weDistance.mono_l k
 unfold spec_weDistance.f
 repeat' (with_reducible first|apply ih0|apply ih1|apply LeO.refl|apply LeO.none|apply LeO.ite|apply LeO.bind|intro)
def spec_weDistance.T8 : Bool × List (List Nat × List Nat) := (true, [([], []), ([], []), ([], []), ([], []), ([1, 2, 3], [1, 2, 3]), ([], []), ([], []), ([], []), ([5, 6, 7, 4], [5, 6, 7]), ([4, 8], [4, 8]), ([9, 8], [9]), ([0, 10], [0, 10]), ([11, 10, 0, 1, 2, 3, 4, 5, 6, 7, 8, 9, 10, 11], [0, 11])])
def spec_weDistance.B8 : List Nat := [0, 0, 0, 0, 14, 0, 0, 0, 254, 510, 1022, 2047, 4095]
theorem spec_weDistance.tab8 : rtab .any (opsOf Tryd.f36 8) = spec_weDistance.T8 := by kernel_rfl
theorem spec_weDistance.bits8 : waitsOk spec_weDistance.T8.2 spec_weDistance.B8 = true := by kernel_rfl
theorem spec_weDistance.calls (k : Nat) (a0_0 : Int) (A0_1 : Option Addr) (c0_1 : Nat) (l0_1 : List Int) (a1_0 : Int) (A1_1 : Option Addr) (c1_1 : Nat) (l1_1 : List Int) (r : Int) (w : World) (hr0_1 : Kd.C (Kd.int .i64) w A0_1 l0_1.length l0_1) (hc0_1 : l0_1.length ≤ c0_1) (hr1_1 : Kd.C (Kd.int .i64) w A1_1 l1_1.length l1_1) (hc1_1 : l1_1.length ≤ c1_1) (h : spec_weDistance.f k a0_0 l0_1 a1_0 l1_1 = some r) :
  Calls Tryd.prog 36 #[.agg #[.int .i64 a0_0, .slice A0_1 l0_1.length c0_1], .agg #[.int .i64 a1_0, .slice A1_1 l1_1.length c1_1]] w fun e w' => e = .returned (.int .i64 r) ∧ Below w.heap.size w w' := by
 have hu28 := Tryd.underlying28
 have HR0_1 := mkA hr0_1
 have HC0_1 := mkA hc0_1
 clear hr0_1 hc0_1
 have HR1_1 := mkA hr1_1
 have HC1_1 := mkA hc1_1
 clear hr1_1 hc1_1
 have HB := mkA (Below.refl w.heap.size w)
 have H := h
 clear h
 unfold spec_weDistance.f at H
 have H' := mkA H
 clear H
 go_enter Tryd.func36, Tryd.ntmps36
 go_wp2_with (first | ((with_reducible refine gate_dst (N := 2) rfl ?_); refine boxG HB #[.int .i64 a0_0, .slice A0_1 l0_1.length c0_1] 28 ?_; intro gb757 hg w3 BK757 GE757 hb; replace HB := bst HB hb; clear hb hg) | ((with_reducible refine gate_dst (N := 3) rfl ?_); refine boxG HB #[.int .i64 a1_0, .slice A1_1 l1_1.length c1_1] 28 ?_; intro gb758 hg w4 BK758 GE758 hb; have NB757_758 := neL7 BK757 hg; have NB758_757 := neR7 BK757 hg; replace BK757 := blkB BK757 hb; replace HB := bst HB hb; clear hb hg))
 go_loopg [5, 6] k (fun kq v5 v6 w' => ∃ (x5_1 : Int) (x6_1 : Int), v5 = .int .i64 x5_1 ∧ v6 = .int .i64 x6_1 ∧ Fc (spec_weDistance.l0 kq x5_1 x6_1 a0_0 l0_1 a1_0 l1_1 = some r) ∧ Fc (kq ≤ k) ∧ Fc (w'.heap[gb757]? = some (.cells #[.int .i64 a0_0, (.slice A0_1 l0_1.length c0_1)] 28 (0, 0))) ∧ Fc (w'.heap[gb758]? = some (.cells #[.int .i64 a1_0, (.slice A1_1 l1_1.length c1_1)] 28 (0, 0))) ∧ Fc (Below w.heap.size w w'))
 case atStart => exact ⟨(0), (0), eqS, eqS, H', ⟨Nat.le_refl _⟩, bg BK757, bg BK758, hbg HB⟩
 case round =>
  clear H'
  obtain ⟨x5_1, x6_1, rfl, rfl, HA, HK1, BK757, BK758, HB⟩ := hrel
  cases gk with
  | zero => exact absurd HA.out (by simp [spec_weDistance.l0])
  | succ k1 =>
   have H := HA.out
   clear HA
   simp only [spec_weDistance.l0] at H
   rcases iteE H with ⟨c5b0, H⟩ | ⟨c5b0, H⟩
   ·have H' := mkA H
    clear H
    obtain ⟨_, _, _, _⟩ := blk2 BK757
    go_wp2
    go_loopg [5, 7] k1 (fun kq v5 v7 w' => ∃ (x5_2 : Int) (x7_2 : Int), v5 = .int .i64 x5_2 ∧ v7 = .int .i64 x7_2 ∧ Fc (spec_weDistance.l1 kq x5_2 x6_1 x7_2 a0_0 l0_1 a1_0 l1_1 = some r) ∧ Fc (kq ≤ k1) ∧ Fc (w'.heap[gb757]? = some (.cells #[.int .i64 a0_0, (.slice A0_1 l0_1.length c0_1)] 28 (0, 0))) ∧ Fc (w'.heap[gb758]? = some (.cells #[.int .i64 a1_0, (.slice A1_1 l1_1.length c1_1)] 28 (0, 0))) ∧ Fc (Below w.heap.size w w'))
    case atStart => exact ⟨(x5_1), (0), eqS, eqS, H', ⟨Nat.le_refl _⟩, bg BK757, bg BK758, hbg HB⟩
    case round =>
     clear H'
     try clear c5b0
     obtain ⟨x5_2, x7_2, rfl, rfl, HA, HK2, BK757, BK758, HB⟩ := hrel
     cases gk with
     | zero => exact absurd HA.out (by simp [spec_weDistance.l1])
     | succ k2 =>
      have H := HA.out
      clear HA
      simp only [spec_weDistance.l1] at H
      rcases iteE H with ⟨c8b0, H⟩ | ⟨c8b0, H⟩
      ·obtain ⟨t759, A9, H⟩ := obE H
       obtain ⟨t760, A10, H⟩ := obE H
       obtain ⟨t761, A11, H⟩ := obE H
       have H' := mkA H
       clear H
       try go_wp2
       replace BK757 := mkA (blk_drew BK757.out)
       replace BK758 := mkA (blk_drew BK758.out)
       replace HB := mkA (below_drew1 HB.out)
       refine start_ (n := 13) (S := fun w' => w'.cell? ⟨gb757, 0, none⟩ = some (.int .i64 a0_0) ∧ w'.cell? ⟨gb757, 1, none⟩ = some (.slice A0_1 l0_1.length c0_1) ∧ w'.cell? ⟨gb758, 0, none⟩ = some (.int .i64 a1_0) ∧ w'.cell? ⟨gb758, 1, none⟩ = some (.slice A1_1 l1_1.length c1_1)) (ds := []) (bm 13 0) (by kernel_rfl) rfl (by kernel_rfl) ⟨(blk_cell BK757.out 0).trans rfl, (blk_cell BK757.out 1).trans rfl, (blk_cell BK758.out 0).trans rfl, (blk_cell BK758.out 1).trans rfl⟩ (fun hHeld => ?_); refine with_tabW spec_weDistance.tab8 spec_weDistance.bits8 (fun HT_ HW_ => ?_)
       generalize wr.drew = w12 at BK757 BK758 HB hHeld ⊢
       refine purW 0 19 13 1 HT_ ?_
       refine purW 2 21 13 5 HT_ ?_
       refine purW 3 22 13 13 HT_ ?_
       refine purW 6 25 13 77 HT_ ?_
       refine purW 7 26 13 205 HT_ ?_
       refine takeW 1 (some 20) (bm 13 207) HT_ HW_ hHeld ?_
       refine takeW 5 (some 24) (bm 13 239) HT_ HW_ hHeld ?_
       refine oneW 4 (some 23) (bm 13 255) HT_ (fun K hK => ?_)
       refine goesR Tryd.func58 #[.agg #[.int .i64 a0_0, .slice A0_1 l0_1.length c0_1], .int .i64 x7_2, .int .i64 x6_1] ?_
       with_reducible refine (spec_weTold.calls a0_0 _ _ l0_1 x7_2 x6_1 t759 _ ?s1 ?s2 A9.out).mono ?_
       (case s1 => exact C_g HR0_1 HB)
       (case s2 => exact HC0_1.out)
       rintro e w13 ⟨rfl, hb⟩
       refine ⟨_, rfl, ?_⟩
       replace BK757 := blkB BK757 hb
       replace BK758 := blkB BK758 hb
       replace HB := bst HB hb
       (try clear hb)
       (try clear hb2)
       (try clear hk)
       (try clear hi)
       refine hK.out _ _ ⟨(blk_cell BK757.out 0).trans rfl, (blk_cell BK757.out 1).trans rfl, (blk_cell BK758.out 0).trans rfl, (blk_cell BK758.out 1).trans rfl⟩ (fun hHeld => ?_)
       clear hK K
       refine normW 23 ?_
       refine oneW 8 (some 27) (bm 13 511) HT_ (fun K hK => ?_)
       refine goesR Tryd.func58 #[.agg #[.int .i64 a1_0, .slice A1_1 l1_1.length c1_1], .int .i64 x7_2, .int .i64 x6_1] ?_
       with_reducible refine (spec_weTold.calls a1_0 _ _ l1_1 x7_2 x6_1 t760 _ ?s1 ?s2 A10.out).mono ?_
       (case s1 => exact C_g HR1_1 HB)
       (case s2 => exact HC1_1.out)
       rintro e w14 ⟨rfl, hb⟩
       refine ⟨_, rfl, ?_⟩
       replace BK757 := blkB BK757 hb
       replace BK758 := blkB BK758 hb
       replace HB := bst HB hb
       (try clear hb)
       (try clear hb2)
       (try clear hk)
       (try clear hi)
       refine hK.out _ _ ⟨(blk_cell BK757.out 0).trans rfl, (blk_cell BK757.out 1).trans rfl, (blk_cell BK758.out 0).trans rfl, (blk_cell BK758.out 1).trans rfl⟩ (fun hHeld => ?_)
       clear hK K
       refine normW 27 ?_
       refine purW 9 28 13 1023 HT_ ?_
       refine oneW 10 (some 29) (bm 13 2047) HT_ (fun K hK => ?_)
       refine goesR Tryd.func57 #[.int .i64 (wrap64 (t759 - t760))] ?_
       with_reducible refine (spec_l1Abs.calls (wrap64 (t759 - t760)) t761 _ A11.out).mono ?_
       rintro e w' ⟨rfl, ⟨nd, rfl⟩⟩
       refine ⟨_, rfl, ?_⟩
       refine hK.out _ _ ⟨(blk_cell BK757.out 0).trans rfl, (blk_cell BK757.out 1).trans rfl, (blk_cell BK758.out 0).trans rfl, (blk_cell BK758.out 1).trans rfl⟩ (fun hHeld => ?_)
       clear hK K
       refine normW 29 ?_
       refine purW 11 30 13 4095 HT_ ?_
       refine purW 12 5 13 8191 HT_ ?_
       refine doneW HT_ ?_
       try go_wp2
       go_roundg k2
       case measure => have := HK1.out; have := HK2.out; omega
       case rel => exact ⟨(wrap64 (x5_2 + t761)), (wrap64 (x7_2 + 1)), eqS, eqS, H', ⟨by have := HK1.out; have := HK2.out; omega⟩, bg BK757, bg BK758, hbg HB⟩
      ·have H' := mkA H
       clear H
       go_wp2
       go_roundg k2
       case measure => have := HK1.out; have := HK2.out; omega
       case rel => exact ⟨(x5_2), (wrap64 (x6_1 + 1)), eqS, eqS, H', ⟨by have := HK1.out; have := HK2.out; omega⟩, bg BK757, bg BK758, hbg HB⟩
   ·obtain rfl := Option.some.inj H
    obtain ⟨_, _, _, _⟩ := blk2 BK757
    go_wp2
    go_ret
    exact ⟨eqE, bel_g HB.out⟩
def spec_PairDistance.f (k : Nat) (a0_0 : Int) (l0_1 : List Int) (a1_0 : Int) (l1_1 : List Int) : Option (Int × Bool) := (spec_orGood.f k a0_0 l0_1).bind fun t764 => (if t764 = true then ((spec_orGood.f k a1_0 l1_1).bind fun t765 => (if t765 = true then (if a0_0 = a1_0 then ((spec_weDistance.f k a0_0 l0_1 a1_0 l1_1).bind fun t766 => (some (t766, true))) else (some (0, false))) else (some (0, false)))) else (some (0, false)))
theorem spec_PairDistance.mono : ∀ a0 a1 a2 a3 k, LeO (spec_PairDistance.f k a0 a1 a2 a3) (spec_PairDistance.f (k + 1) a0 a1 a2 a3) := by
 intro a0 a1 a2 a3 k
 unfold spec_PairDistance.f
 repeat' (with_reducible first|apply spec_orGood.mono|apply spec_weDistance.mono|apply LeO.refl|apply LeO.none|apply LeO.ite|apply LeO.bind|intro)
theorem spec_PairDistance.calls (k : Nat) (a0_0 : Int) (A0_1 : Option Addr) (c0_1 : Nat) (l0_1 : List Int) (a1_0 : Int) (A1_1 : Option Addr) (c1_1 : Nat) (l1_1 : List Int) (r1 : Int) (r2 : Bool) (w : World) (hr0_1 : Kd.C (Kd.int .i64) w A0_1 l0_1.length l0_1) (hc0_1 : l0_1.length ≤ c0_1) (hr1_1 : Kd.C (Kd.int .i64) w A1_1 l1_1.length l1_1) (hc1_1 : l1_1.length ≤ c1_1) (h : spec_PairDistance.f k a0_0 l0_1 a1_0 l1_1 = some (r1, r2)) :
  Calls Tryd.prog 17 #[.agg #[.int .i64 a0_0, .slice A0_1 l0_1.length c0_1], .agg #[.int .i64 a1_0, .slice A1_1 l1_1.length c1_1]] w fun e w' => e = .returned (.tuple #[.int .i64 r1, .bool r2]) ∧ Below w.heap.size w w' := by
 have hu28 := Tryd.underlying28
 have HR0_1 := mkA hr0_1
 have HC0_1 := mkA hc0_1
 clear hr0_1 hc0_1
 have HR1_1 := mkA hr1_1
 have HC1_1 := mkA hc1_1
 clear hr1_1 hc1_1
 have HB := mkA (Below.refl w.heap.size w)
 have H := h
 clear h
 unfold spec_PairDistance.f at H
 obtain ⟨t764, A3, H⟩ := obE H
 by_cases c4 : t764 = true
 ·subst c4
  replace H := ifT H
  obtain ⟨t765, A5, H⟩ := obE H
  by_cases c6 : t765 = true
  ·subst c6
   replace H := ifT H
   rcases iteP H with ⟨c7, H⟩ | ⟨c7, H⟩
   ·have c7b0 := beq_iff_eq.mpr c7
    have c7b1 := bne_eq_false_iff_eq.mpr c7
    clear c7
    obtain ⟨t766, A8, H⟩ := obE H
    simp only [Option.some.injEq, Prod.mk.injEq] at H
    obtain ⟨rfl, rfl⟩ := H
    go_enter Tryd.func17, Tryd.ntmps17
    go_wp2_with (first | ((with_reducible refine gate_dst (N := 2) rfl ?_); refine boxG HB #[.int .i64 a0_0, .slice A0_1 l0_1.length c0_1] 28 ?_; intro gb762 hg w9 BK762 GE762 hb; replace HB := bst HB hb; clear hb hg) | ((with_reducible refine gate_dst (N := 3) rfl ?_); refine boxG HB #[.int .i64 a1_0, .slice A1_1 l1_1.length c1_1] 28 ?_; intro gb763 hg w10 BK763 GE763 hb; have NB762_763 := neL7 BK762 hg; have NB763_762 := neR7 BK762 hg; replace BK762 := blkB BK762 hb; replace HB := bst HB hb; clear hb hg; obtain ⟨_, _, _, _⟩ := blk2 BK762) | ((with_reducible refine gate_callee (f := 35) rfl ?_); refine goesQ (some 7) Tryd.func35 #[.agg #[.int .i64 a0_0, .slice A0_1 l0_1.length c0_1]] ?_; (with_reducible refine (spec_orGood.calls k a0_0 _ _ l0_1 true _ ?_ ?_ A3.out).mono ?_); exact C_g HR0_1 HB; exact HC0_1.out; rintro e w13 ⟨rfl, hb⟩; refine ⟨_, rfl, ?_⟩; replace BK762 := blkB BK762 hb; replace BK763 := blkB BK763 hb; replace HB := bst HB hb; clear hb; obtain ⟨_, _, _, _⟩ := blk2 BK763) | (go_at_call 35; (with_reducible refine (spec_orGood.calls k a1_0 _ _ l1_1 true _ ?_ ?_ A5.out).mono ?_); exact C_g HR1_1 HB; exact HC1_1.out; rintro e w15 ⟨rfl, hb⟩; replace BK762 := blkB BK762 hb; replace BK763 := blkB BK763 hb; replace HB := bst HB hb; clear hb; obtain ⟨_, _, _, _⟩ := blk2 BK762; obtain ⟨_, _, _, _⟩ := blk2 BK763) | ((with_reducible refine gate_callee (f := 36) rfl ?_); refine goesQ (some 23) Tryd.func36 #[.agg #[.int .i64 a0_0, .slice A0_1 l0_1.length c0_1], .agg #[.int .i64 a1_0, .slice A1_1 l1_1.length c1_1]] ?_; (with_reducible refine (spec_weDistance.calls k a0_0 _ _ l0_1 a1_0 _ _ l1_1 t766 _ ?_ ?_ ?_ ?_ A8.out).mono ?_); exact C_g HR0_1 HB; exact HC0_1.out; exact C_g HR1_1 HB; exact HC1_1.out; rintro e w18 ⟨rfl, hb⟩; refine ⟨_, rfl, ?_⟩; replace BK762 := blkB BK762 hb; replace BK763 := blkB BK763 hb; replace HB := bst HB hb; clear hb))
    go_ret2
    exact ⟨eqE, bel_g HB.out⟩
   ·have c7b0 := beq_eq_false_iff_ne.mpr c7
    have c7b1 := bne_iff_ne.mpr c7
    simp only [Option.some.injEq, Prod.mk.injEq] at H
    obtain ⟨rfl, rfl⟩ := H
    go_enter Tryd.func17, Tryd.ntmps17
    go_wp2_with (first | ((with_reducible refine gate_dst (N := 2) rfl ?_); refine boxG HB #[.int .i64 a0_0, .slice A0_1 l0_1.length c0_1] 28 ?_; intro gb762 hg w19 BK762 GE762 hb; replace HB := bst HB hb; clear hb hg) | ((with_reducible refine gate_dst (N := 3) rfl ?_); refine boxG HB #[.int .i64 a1_0, .slice A1_1 l1_1.length c1_1] 28 ?_; intro gb763 hg w20 BK763 GE763 hb; have NB762_763 := neL7 BK762 hg; have NB763_762 := neR7 BK762 hg; replace BK762 := blkB BK762 hb; replace HB := bst HB hb; clear hb hg; obtain ⟨_, _, _, _⟩ := blk2 BK762) | ((with_reducible refine gate_callee (f := 35) rfl ?_); refine goesQ (some 7) Tryd.func35 #[.agg #[.int .i64 a0_0, .slice A0_1 l0_1.length c0_1]] ?_; (with_reducible refine (spec_orGood.calls k a0_0 _ _ l0_1 true _ ?_ ?_ A3.out).mono ?_); exact C_g HR0_1 HB; exact HC0_1.out; rintro e w23 ⟨rfl, hb⟩; refine ⟨_, rfl, ?_⟩; replace BK762 := blkB BK762 hb; replace BK763 := blkB BK763 hb; replace HB := bst HB hb; clear hb; obtain ⟨_, _, _, _⟩ := blk2 BK763) | (go_at_call 35; (with_reducible refine (spec_orGood.calls k a1_0 _ _ l1_1 true _ ?_ ?_ A5.out).mono ?_); exact C_g HR1_1 HB; exact HC1_1.out; rintro e w25 ⟨rfl, hb⟩; replace BK762 := blkB BK762 hb; replace BK763 := blkB BK763 hb; replace HB := bst HB hb; clear hb; obtain ⟨_, _, _, _⟩ := blk2 BK762; obtain ⟨_, _, _, _⟩ := blk2 BK763))
    go_ret2
    exact ⟨eqE, bel_g HB.out⟩
  ·replace c6 := Bool.eq_false_iff.mpr c6
   subst c6
   replace H := ifF H
   simp only [Option.some.injEq, Prod.mk.injEq] at H
   obtain ⟨rfl, rfl⟩ := H
   go_enter Tryd.func17, Tryd.ntmps17
   go_wp2_with (first | ((with_reducible refine gate_dst (N := 2) rfl ?_); refine boxG HB #[.int .i64 a0_0, .slice A0_1 l0_1.length c0_1] 28 ?_; intro gb762 hg w28 BK762 GE762 hb; replace HB := bst HB hb; clear hb hg) | ((with_reducible refine gate_dst (N := 3) rfl ?_); refine boxG HB #[.int .i64 a1_0, .slice A1_1 l1_1.length c1_1] 28 ?_; intro gb763 hg w29 BK763 GE763 hb; have NB762_763 := neL7 BK762 hg; have NB763_762 := neR7 BK762 hg; replace BK762 := blkB BK762 hb; replace HB := bst HB hb; clear hb hg; obtain ⟨_, _, _, _⟩ := blk2 BK762) | ((with_reducible refine gate_callee (f := 35) rfl ?_); refine goesQ (some 7) Tryd.func35 #[.agg #[.int .i64 a0_0, .slice A0_1 l0_1.length c0_1]] ?_; (with_reducible refine (spec_orGood.calls k a0_0 _ _ l0_1 true _ ?_ ?_ A3.out).mono ?_); exact C_g HR0_1 HB; exact HC0_1.out; rintro e w32 ⟨rfl, hb⟩; refine ⟨_, rfl, ?_⟩; replace BK762 := blkB BK762 hb; replace BK763 := blkB BK763 hb; replace HB := bst HB hb; clear hb; obtain ⟨_, _, _, _⟩ := blk2 BK763) | (go_at_call 35; (with_reducible refine (spec_orGood.calls k a1_0 _ _ l1_1 false _ ?_ ?_ A5.out).mono ?_); exact C_g HR1_1 HB; exact HC1_1.out; rintro e w34 ⟨rfl, hb⟩; replace BK762 := blkB BK762 hb; replace BK763 := blkB BK763 hb; replace HB := bst HB hb; clear hb))
   go_ret2
   exact ⟨eqE, bel_g HB.out⟩
 ·replace c4 := Bool.eq_false_iff.mpr c4
  subst c4
  replace H := ifF H
  simp only [Option.some.injEq, Prod.mk.injEq] at H
  obtain ⟨rfl, rfl⟩ := H
  go_enter Tryd.func17, Tryd.ntmps17
  go_wp2_with (first | ((with_reducible refine gate_dst (N := 2) rfl ?_); refine boxG HB #[.int .i64 a0_0, .slice A0_1 l0_1.length c0_1] 28 ?_; intro gb762 hg w35 BK762 GE762 hb; replace HB := bst HB hb; clear hb hg) | ((with_reducible refine gate_dst (N := 3) rfl ?_); refine boxG HB #[.int .i64 a1_0, .slice A1_1 l1_1.length c1_1] 28 ?_; intro gb763 hg w36 BK763 GE763 hb; have NB762_763 := neL7 BK762 hg; have NB763_762 := neR7 BK762 hg; replace BK762 := blkB BK762 hb; replace HB := bst HB hb; clear hb hg; obtain ⟨_, _, _, _⟩ := blk2 BK762) | ((with_reducible refine gate_callee (f := 35) rfl ?_); refine goesQ (some 7) Tryd.func35 #[.agg #[.int .i64 a0_0, .slice A0_1 l0_1.length c0_1]] ?_; (with_reducible refine (spec_orGood.calls k a0_0 _ _ l0_1 false _ ?_ ?_ A3.out).mono ?_); exact C_g HR0_1 HB; exact HC0_1.out; rintro e w39 ⟨rfl, hb⟩; refine ⟨_, rfl, ?_⟩; replace BK762 := blkB BK762 hb; replace BK763 := blkB BK763 hb; replace HB := bst HB hb; clear hb))
  go_ret2
  exact ⟨eqE, bel_g HB.out⟩
end Go.Proofs.YtmdnbjhboppkdaaDoor.Q
