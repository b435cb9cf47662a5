import Derived.Test.YteechpappfagpaaDoorBFnExactMeetOrders0
import Derived.Test.YteechpappfagpaaDoorBFnExactMeetOrders3
-- printed by this project's own program (wip/mp/mp.py) over the kit's print, for this seat; Lean checks it
namespace Go.Proofs.YteechpappfagpaaDoor.Q
open Go.RowKit Go.Proofs.YteechpappfagpaaDoorW.PrintWords Go.Proofs.YteechpappfagpaaDoorW.PrintLast Go.Proofs.YteechpappfagpaaDoorW.PrintMore
attribute [local go_sem] max2_int min2_int max_two min_two max_three min_three max_four min_four   -- for this text's walks alone
set_option linter.unusedVariables false
set_option maxHeartbeats 8000000
set_option maxRecDepth 100000
set_option linter.unusedSimpArgs false

/-! ### spec_MeetOrders: function 22 -/
mutual
def spec_MeetOrders.j0 : Nat → Bool → Int → List Int → Int → List Int → Option (Int × List Int × Bool)
 | 0, _, _, _, _, _ => none
 | k + 1, x23, x273000, x273001, x274000, x274001 => if x23 = true then (some (0, ([] : List Int), false)) else (spec_MeetOrders.l0 k x273001 (x273001.length : Int) 0 x274000 x274001 x273000 ([] : List Int))
def spec_MeetOrders.l0 : Nat → List Int → Int → Int → Int → List Int → Int → List Int → Option (Int × List Int × Bool)
 | 0, _, _, _, _, _, _, _ => none
 | k + 1, x29, x30, x31, x274000, x274001, x278000, x278001 => if x31 < x30 then (if 0 ≤ x31 then (if x31 < (x29.length : Int) then (if x31 < (x274001.length : Int) then (if x278001.length < 17592186044416 then (spec_MeetOrders.l0 k x29 x30 (wrap64 (x31 + 1)) x274000 x274001 x278000 (x278001 ++ [Go.bits .and .i64 (rd x29 x31) (rd x274001 x31)])) else (none)) else (none)) else (none)) else (none)) else (some (x278000, x278001, true))
end
def spec_MeetOrders.f (k : Nat) (a0_0 : Int) (l0_1 : List Int) (a1_0 : Int) (l1_1 : List Int) : Option (Int × List Int × Bool) := (spec_orGood.f k a0_0 l0_1).bind fun t275 => (if t275 = true then ((spec_orGood.f k a1_0 l1_1).bind fun t276 => (if t276 = true then (spec_MeetOrders.j0 k (a0_0 != a1_0) a0_0 l0_1 a1_0 l1_1) else (spec_MeetOrders.j0 k true a0_0 l0_1 a1_0 l1_1))) else (spec_MeetOrders.j0 k true a0_0 l0_1 a1_0 l1_1))
theorem spec_MeetOrders.mono_l : ∀ k, (∀ y0 y1 y2 y3 y4, LeO (spec_MeetOrders.j0 k y0 y1 y2 y3 y4) (spec_MeetOrders.j0 (k + 1) y0 y1 y2 y3 y4)) ∧ (∀ y0 y1 y2 y3 y4 y5 y6, LeO (spec_MeetOrders.l0 k y0 y1 y2 y3 y4 y5 y6) (spec_MeetOrders.l0 (k + 1) y0 y1 y2 y3 y4 y5 y6))
 | 0 => ⟨fun _ _ _ _ _ r h => by simp [spec_MeetOrders.j0] at h, fun _ _ _ _ _ _ _ r h => by simp [spec_MeetOrders.l0] at h⟩
 | k + 1 => by
  obtain ⟨ih0, ih1⟩ := spec_MeetOrders.mono_l k
  refine ⟨?_, ?_⟩
  ·intro y0 y1 y2 y3 y4
   unfold spec_MeetOrders.j0
   repeat' (with_reducible first|exact ih0 _ _ _ _ _|exact ih1 _ _ _ _ _ _ _|exact spec_orGood.mono _ _ _|exact LeO.refl _|exact LeO.none _|refine LeO.ite ?_ ?_|refine LeO.bind ?_ (fun _ => ?_))
  ·intro y0 y1 y2 y3 y4 y5 y6
   unfold spec_MeetOrders.l0
   repeat' (with_reducible first|exact ih0 _ _ _ _ _|exact ih1 _ _ _ _ _ _ _|exact spec_orGood.mono _ _ _|exact LeO.refl _|exact LeO.none _|refine LeO.ite ?_ ?_|refine LeO.bind ?_ (fun _ => ?_))
theorem spec_MeetOrders.mono : ∀ a0 a1 a2 a3 k, LeO (spec_MeetOrders.f k a0 a1 a2 a3) (spec_MeetOrders.f (k + 1) a0 a1 a2 a3) := by
 intro a0 a1 a2 a3 k
 obtain ⟨ih0, ih1⟩ := spec_MeetOrders.mono_l k
 unfold spec_MeetOrders.f
 repeat' (with_reducible first|exact ih0 _ _ _ _ _|exact ih1 _ _ _ _ _ _ _|exact spec_orGood.mono _ _ _|exact LeO.refl _|exact LeO.none _|refine LeO.ite ?_ ?_|refine LeO.bind ?_ (fun _ => ?_))
def spec_MeetOrders.T7 : Bool × List (List Nat × List Nat) := (true, [([], []), ([0], [0]), ([], []), ([], []), ([3], [3]), ([], []), ([4, 5], [4, 5]), ([6], [6]), ([2, 7], [2, 7]), ([8], [8]), ([1, 9], [1, 9]), ([0, 1, 2, 3, 4, 5, 6, 7, 8, 9, 10], []), ([11, 10, 10, 0, 1, 2, 3, 4, 5, 6, 7, 8, 9, 10], [10, 11])])
def spec_MeetOrders.B7 : List Nat := [0, 1, 0, 0, 8, 0, 56, 120, 252, 508, 1023, 2047, 4095]
theorem spec_MeetOrders.tab7 : rtab .any (opsOf Tryd.f22 7) = spec_MeetOrders.T7 := by kernel_rfl
theorem spec_MeetOrders.bits7 : waitsOk spec_MeetOrders.T7.2 spec_MeetOrders.B7 = true := by kernel_rfl
theorem spec_MeetOrders.calls (k : Nat) (a0_0 : Int) (A0_1 : Option Addr) (c0_1 : Nat) (l0_1 : List Int) (a1_0 : Int) (A1_1 : Option Addr) (c1_1 : Nat) (l1_1 : List Int) (r1 : Int) (r2 : List Int) (r3 : Bool) (w : World) (hr0_1 : Kd.C (Kd.int .i64) w A0_1 l0_1.length l0_1) (hc0_1 : l0_1.length ≤ c0_1) (hr1_1 : Kd.C (Kd.int .i64) w A1_1 l1_1.length l1_1) (hc1_1 : l1_1.length ≤ c1_1) (h : spec_MeetOrders.f k a0_0 l0_1 a1_0 l1_1 = some (r1, r2, r3)) :
  Calls Tryd.prog 22 #[.agg #[.int .i64 a0_0, .slice A0_1 l0_1.length c0_1], .agg #[.int .i64 a1_0, .slice A1_1 l1_1.length c1_1]] w fun e w' => ∃ v1_ : Value, e = .returned (.tuple #[.agg #[.int .i64 r1, v1_], .bool r3]) ∧ Kd.R (Kd.int .i64) 3 w' w.heap.size (fun _ => True) v1_ r2 ∧ Below w.heap.size w w' := by
 have hu28 := Tryd.underlying28
 have HR0_1 := Aside0.mk hr0_1
 have HC0_1 := Aside0.mk hc0_1
 clear hr0_1 hc0_1
 have HR1_1 := Aside0.mk hr1_1
 have HC1_1 := Aside0.mk hc1_1
 clear hr1_1 hc1_1
 have HB := Aside0.mk (Below.refl w.heap.size w)
 have H : ((spec_orGood.f k a0_0 l0_1).bind fun t275 => (if t275 = true then ((spec_orGood.f k a1_0 l1_1).bind fun t276 => (if t276 = true then (spec_MeetOrders.j0 k (a0_0 != a1_0) a0_0 l0_1 a1_0 l1_1) else (spec_MeetOrders.j0 k true a0_0 l0_1 a1_0 l1_1))) else (spec_MeetOrders.j0 k true a0_0 l0_1 a1_0 l1_1))) = some (r1, r2, r3) := h
 clear h
 have HC3 := Aside0.mk H
 clear H
 go_enter Tryd.func22, Tryd.ntmps22
 go_upto_region 1 with (first | ((with_reducible refine gate_dst (N := 2) rfl ?_); refine boxE (N := 2) (cs := #[.int .i64 a0_0, .slice A0_1 l0_1.length c0_1]) (t := 28) ?_; intro gb272 hg w4 hbox hb; have BK272 := Aside0.mk (hbox); have GE272 := geB HB hg; replace HB := bst HB hb; clear hb hbox hg) | ((with_reducible refine gate_dst (N := 3) rfl ?_); refine boxE (N := 3) (cs := #[.int .i64 a1_0, .slice A1_1 l1_1.length c1_1]) (t := 28) ?_; intro gb273 hg w5 hbox hb; have BK273 := Aside0.mk (hbox); have GE273 := geB HB hg; have NB272_273 := neL BK272 hg; have NB273_272 := neR BK272 hg; replace BK272 := blkB BK272 hb; replace HB := bst HB hb; clear hb hbox hg) | ((with_reducible refine gate_dst (N := 4) rfl ?_); refine boxE (N := 4) (cs := #[.int .i64 0, .slice none 0 0]) (t := 28) ?_; intro gb274 hg w6 hbox hb; have BK274 := Aside0.mk (hbox); have GE274 := geB HB hg; have NB272_274 := neL BK272 hg; have NB274_272 := neR BK272 hg; replace BK272 := blkB BK272 hb; have NB273_274 := neL BK273 hg; have NB274_273 := neR BK273 hg; replace BK273 := blkB BK273 hb; replace HB := bst HB hb; clear hb hbox hg))
 (try simp only [Act.put, List.setIfInBounds_toArray, List.set_cons_zero, List.set_cons_succ])
 go_cut [23] (fun v23 wc => ∃ (kq : Nat) (x23_2 : Bool), v23 = .bool x23_2 ∧ Aside0 (spec_MeetOrders.j0 kq x23_2 a0_0 l0_1 a1_0 l1_1 = some (r1, r2, r3)) ∧ Aside0 (kq ≤ k) ∧ Aside0 (wc.heap[gb272]? = some (.cells #[.int .i64 a0_0, (.slice A0_1 l0_1.length c0_1)] 28 (0, 0))) ∧ Aside0 (wc.heap[gb273]? = some (.cells #[.int .i64 a1_0, (.slice A1_1 l1_1.length c1_1)] 28 (0, 0))) ∧ Aside0 (wc.heap[gb274]? = some (.cells #[.int .i64 0, (.slice none 0 0)] 28 (0, 0))) ∧ Aside0 (Below w.heap.size w wc))
 case first =>
  have H := HC3.out
  clear HC3
  obtain ⟨t275, A7, H⟩ := obE H
  by_cases c8 : t275 = true
  ·subst c8
   replace H := ifT H
   obtain ⟨t276, A9, H⟩ := obE H
   by_cases c10 : t276 = true
   ·subst c10
    replace H := ifT H
    have H' := Aside0.mk H
    clear H
    have hnb11 := NB272_273.out
    have hnc11 := NB273_272.out
    have hnb12 := NB272_274.out
    have hnc12 := NB274_272.out
    obtain ⟨hcz13_0, hcz13_1, hfz13_0, hfz13_1⟩ := blk2 BK272
    go_wp2_with (first | ((with_reducible refine gate_callee (f := 84) rfl ?_); refine goesQ (some 10) Tryd.func84 #[.agg #[.int .i64 a0_0, .slice A0_1 l0_1.length c0_1]] ?_; (with_reducible refine (spec_orGood.calls k a0_0 _ _ l0_1 true _ ?side1 ?side2 A7.out).mono ?_); (case side1 => exact C_g HR0_1 HB); (case side2 => exact HC0_1.out); rintro e w14 ⟨rfl, hb⟩; refine ⟨_, rfl, ?_⟩; replace BK272 := blkB BK272 hb; replace BK273 := blkB BK273 hb; replace BK274 := blkB BK274 hb; replace HB := bst HB hb; (try clear hb); (try clear hk); have hnb15 := NB273_274.out; have hnc15 := NB274_273.out; obtain ⟨hcz16_0, hcz16_1, hfz16_0, hfz16_1⟩ := blk2 BK273) | (go_at_call 84; (with_reducible refine (spec_orGood.calls k a1_0 _ _ l1_1 true _ ?side1 ?side2 A9.out).mono ?_); (case side1 => exact C_g HR1_1 HB); (case side2 => exact HC1_1.out); rintro e w17 ⟨rfl, hb⟩; replace BK272 := blkB BK272 hb; replace BK273 := blkB BK273 hb; replace BK274 := blkB BK274 hb; replace HB := bst HB hb; (try clear hb); (try clear hk); obtain ⟨hcz18_0, hcz18_1, hfz18_0, hfz18_1⟩ := blk2 BK272; obtain ⟨hcz19_0, hcz19_1, hfz19_0, hfz19_1⟩ := blk2 BK273))
    go_meet
    case rel => exact ⟨_, ((a0_0 != a1_0)), eqS, H', ⟨by first | omega | exact Nat.le_refl _⟩, ⟨blk_g BK272.out⟩, ⟨blk_g BK273.out⟩, ⟨blk_g BK274.out⟩, ⟨bel_g HB.out⟩⟩
   ·replace c10 := Bool.eq_false_iff.mpr c10
    subst c10
    replace H := ifF H
    have H' := Aside0.mk H
    clear H
    have hnb20 := NB272_273.out
    have hnc20 := NB273_272.out
    have hnb21 := NB272_274.out
    have hnc21 := NB274_272.out
    obtain ⟨hcz22_0, hcz22_1, hfz22_0, hfz22_1⟩ := blk2 BK272
    go_wp2_with (first | ((with_reducible refine gate_callee (f := 84) rfl ?_); refine goesQ (some 10) Tryd.func84 #[.agg #[.int .i64 a0_0, .slice A0_1 l0_1.length c0_1]] ?_; (with_reducible refine (spec_orGood.calls k a0_0 _ _ l0_1 true _ ?side1 ?side2 A7.out).mono ?_); (case side1 => exact C_g HR0_1 HB); (case side2 => exact HC0_1.out); rintro e w23 ⟨rfl, hb⟩; refine ⟨_, rfl, ?_⟩; replace BK272 := blkB BK272 hb; replace BK273 := blkB BK273 hb; replace BK274 := blkB BK274 hb; replace HB := bst HB hb; (try clear hb); (try clear hk); have hnb24 := NB273_274.out; have hnc24 := NB274_273.out; obtain ⟨hcz25_0, hcz25_1, hfz25_0, hfz25_1⟩ := blk2 BK273) | (go_at_call 84; (with_reducible refine (spec_orGood.calls k a1_0 _ _ l1_1 false _ ?side1 ?side2 A9.out).mono ?_); (case side1 => exact C_g HR1_1 HB); (case side2 => exact HC1_1.out); rintro e w26 ⟨rfl, hb⟩; replace BK272 := blkB BK272 hb; replace BK273 := blkB BK273 hb; replace BK274 := blkB BK274 hb; replace HB := bst HB hb; (try clear hb); (try clear hk)))
    go_meet
    case rel => exact ⟨_, (true), eqS, H', ⟨by first | omega | exact Nat.le_refl _⟩, ⟨blk_g BK272.out⟩, ⟨blk_g BK273.out⟩, ⟨blk_g BK274.out⟩, ⟨bel_g HB.out⟩⟩
  ·replace c8 := Bool.eq_false_iff.mpr c8
   subst c8
   replace H := ifF H
   have H' := Aside0.mk H
   clear H
   have hnb27 := NB272_273.out
   have hnc27 := NB273_272.out
   have hnb28 := NB272_274.out
   have hnc28 := NB274_272.out
   obtain ⟨hcz29_0, hcz29_1, hfz29_0, hfz29_1⟩ := blk2 BK272
   go_wp2_with (first | ((with_reducible refine gate_callee (f := 84) rfl ?_); refine goesQ (some 10) Tryd.func84 #[.agg #[.int .i64 a0_0, .slice A0_1 l0_1.length c0_1]] ?_; (with_reducible refine (spec_orGood.calls k a0_0 _ _ l0_1 false _ ?side1 ?side2 A7.out).mono ?_); (case side1 => exact C_g HR0_1 HB); (case side2 => exact HC0_1.out); rintro e w30 ⟨rfl, hb⟩; refine ⟨_, rfl, ?_⟩; replace BK272 := blkB BK272 hb; replace BK273 := blkB BK273 hb; replace BK274 := blkB BK274 hb; replace HB := bst HB hb; (try clear hb); (try clear hk)))
   go_meet
   case rel => exact ⟨_, (true), eqS, H', ⟨by first | omega | exact Nat.le_refl _⟩, ⟨blk_g BK272.out⟩, ⟨blk_g BK273.out⟩, ⟨blk_g BK274.out⟩, ⟨bel_g HB.out⟩⟩
 case rest =>
  clear HC3
  try clear c8
  try clear c10
  try clear hcz13_0
  try clear hcz13_1
  try clear hcz16_0
  try clear hcz16_1
  try clear hcz18_0
  try clear hcz18_1
  try clear hcz19_0
  try clear hcz19_1
  try clear hcz22_0
  try clear hcz22_1
  try clear hcz25_0
  try clear hcz25_1
  try clear hcz29_0
  try clear hcz29_1
  try clear hfz13_0
  try clear hfz13_1
  try clear hfz16_0
  try clear hfz16_1
  try clear hfz18_0
  try clear hfz18_1
  try clear hfz19_0
  try clear hfz19_1
  try clear hfz22_0
  try clear hfz22_1
  try clear hfz25_0
  try clear hfz25_1
  try clear hfz29_0
  try clear hfz29_1
  obtain ⟨kq, x23_2, rfl, HA, HJ2, BK272, BK273, BK274, HB⟩ := hcut
  cases kq with
  | zero => exact absurd HA.out (by simp [spec_MeetOrders.j0])
  | succ kj2 =>
   have H := HA.out
   clear HA
   simp only [spec_MeetOrders.j0] at H
   by_cases c31 : x23_2 = true
   ·subst c31
    replace H := ifT H
    simp only [Option.some.injEq, Prod.mk.injEq] at H
    obtain ⟨rfl, rfl, rfl⟩ := H
    have hnb32 := NB274_272.out
    have hnc32 := NB272_274.out
    have hnb33 := NB274_273.out
    have hnc33 := NB273_274.out
    obtain ⟨hcz34_0, hcz34_1, hfz34_0, hfz34_1⟩ := blk2 BK274
    go_wp2
    refine bodyPost_ret (results_ct rfl _ _ gb274 28 #[.int .i64 0, .slice none 0 0] (0, 0) _ rfl (by (with_reducible repeat (first | refine blk_drewN ?_ _ | refine blk_drew ?_ | refine blk_alloc ?_ _)); refine blk_put (cs := #[.int .i64 0, .slice none 0 0]) ?_ 1 _ rfl; (with_reducible repeat (first | refine blk_drewN ?_ _ | refine blk_drew ?_ | refine blk_alloc ?_ _)); refine blk_put (cs := #[.int .i64 0, .slice none 0 0]) ?_ 0 _ rfl; (with_reducible repeat (first | refine blk_drewN ?_ _ | refine blk_drew ?_ | refine blk_alloc ?_ _)); exact BK274.out) Tryd.underlying28 rfl (by kernel_rfl)) rfl ?_
    exact ⟨_, eqE, by first | exact Kd.R_nil _ _ _ _ _ | exact Kd.N_nil _ _ _ _ _ | exact Kd.V_nil _ _ _ _ _ | exact Kd.Q_nil _ _ _ _ _ | exact Kd.S_nil _ _ _ _ _, bel_g HB.out⟩
   ·replace c31 := Bool.eq_false_iff.mpr c31
    subst c31
    replace H := ifF H
    have H' := Aside0.mk H
    clear H
    have hnb35 := NB272_273.out
    have hnc35 := NB273_272.out
    have hnb36 := NB272_274.out
    have hnc36 := NB274_272.out
    obtain ⟨hcz37_0, hcz37_1, hfz37_0, hfz37_1⟩ := blk2 BK272
    go_wp2_with (first | ((with_reducible refine gate_dst (N := 6) rfl ?_); refine boxE (N := 6) (cs := #[.int .i64 0, .slice none 0 0]) (t := 28) ?_; intro gb277 hg w38 hbox hb; have BK277 := Aside0.mk (hbox); have GE277 := geB HB hg; have NB272_277 := neL BK272 hg; have NB277_272 := neR BK272 hg; replace BK272 := blkB BK272 hb; have NB273_277 := neL BK273 hg; have NB277_273 := neR BK273 hg; replace BK273 := blkB BK273 hb; have NB274_277 := neL BK274 hg; have NB277_274 := neR BK274 hg; replace BK274 := blkB BK274 hb; replace HB := bst HB hb; clear hb hbox hg; have hnb39 := NB277_272.out; have hnc39 := NB272_277.out; have hnb40 := NB277_273.out; have hnc40 := NB273_277.out; have hnb41 := NB277_274.out; have hnc41 := NB274_277.out; obtain ⟨hcz42_0, hcz42_1, hfz42_0, hfz42_1⟩ := blk2 BK277; obtain ⟨hcz43_0, hcz43_1, hfz43_0, hfz43_1⟩ := blk2 BK272))
    go_loopg [31] kj2 (fun kq v31 w' => ∃ (x31_2 : Int) (x278001_2 : List Int) (u278001 : Value), v31 = .int .i64 x31_2 ∧ Aside0 (spec_MeetOrders.l0 kq l0_1 (l0_1.length : Int) x31_2 a1_0 l1_1 a0_0 x278001_2 = some (r1, r2, r3)) ∧ Aside0 (kq ≤ kj2) ∧ Aside0 (Kd.R (Kd.int .i64) 3 w' w.heap.size (fun _ => True) u278001 x278001_2) ∧ Aside0 (w'.heap[gb272]? = some (.cells #[.int .i64 a0_0, (.slice A0_1 l0_1.length c0_1)] 28 (0, 0))) ∧ Aside0 (w'.heap[gb273]? = some (.cells #[.int .i64 a1_0, (.slice A1_1 l1_1.length c1_1)] 28 (0, 0))) ∧ Aside0 (w'.heap[gb274]? = some (.cells #[.int .i64 0, (.slice none 0 0)] 28 (0, 0))) ∧ Aside0 (w'.heap[gb277]? = some (.cells #[.int .i64 a0_0, u278001] 28 (0, 0))) ∧ Aside0 (Below w.heap.size w w'))
    case atStart => exact ⟨(0), (([] : List Int)), (.slice none 0 0), eqS, H', ⟨Nat.le_refl _⟩, ⟨by first | exact Kd.R_nil _ _ _ _ _ | exact Kd.N_nil _ _ _ _ _ | exact Kd.V_nil _ _ _ _ _ | exact Kd.Q_nil _ _ _ _ _ | exact Kd.S_nil _ _ _ _ _⟩, ⟨by (with_reducible repeat (first | refine blk_drewN ?_ _ | refine blk_drew ?_ | refine blk_alloc ?_ _)); refine blk_far ?_ NB272_277.out _; (with_reducible repeat (first | refine blk_drewN ?_ _ | refine blk_drew ?_ | refine blk_alloc ?_ _)); refine blk_far ?_ NB272_277.out _; (with_reducible repeat (first | refine blk_drewN ?_ _ | refine blk_drew ?_ | refine blk_alloc ?_ _)); exact BK272.out⟩, ⟨by (with_reducible repeat (first | refine blk_drewN ?_ _ | refine blk_drew ?_ | refine blk_alloc ?_ _)); refine blk_far ?_ NB273_277.out _; (with_reducible repeat (first | refine blk_drewN ?_ _ | refine blk_drew ?_ | refine blk_alloc ?_ _)); refine blk_far ?_ NB273_277.out _; (with_reducible repeat (first | refine blk_drewN ?_ _ | refine blk_drew ?_ | refine blk_alloc ?_ _)); exact BK273.out⟩, ⟨by (with_reducible repeat (first | refine blk_drewN ?_ _ | refine blk_drew ?_ | refine blk_alloc ?_ _)); refine blk_far ?_ NB274_277.out _; (with_reducible repeat (first | refine blk_drewN ?_ _ | refine blk_drew ?_ | refine blk_alloc ?_ _)); refine blk_far ?_ NB274_277.out _; (with_reducible repeat (first | refine blk_drewN ?_ _ | refine blk_drew ?_ | refine blk_alloc ?_ _)); exact BK274.out⟩, ⟨by (with_reducible repeat (first | refine blk_drewN ?_ _ | refine blk_drew ?_ | refine blk_alloc ?_ _)); refine blk_put (cs := #[.int .i64 a0_0, .slice none 0 0]) ?_ 1 _ rfl; (with_reducible repeat (first | refine blk_drewN ?_ _ | refine blk_drew ?_ | refine blk_alloc ?_ _)); refine blk_put (cs := #[.int .i64 0, .slice none 0 0]) ?_ 0 _ rfl; (with_reducible repeat (first | refine blk_drewN ?_ _ | refine blk_drew ?_ | refine blk_alloc ?_ _)); exact BK277.out⟩, ⟨bel_g HB.out⟩⟩
    case round =>
     clear H'
     try clear c8
     try clear c10
     try clear c31
     try clear hcz13_0
     try clear hcz13_1
     try clear hcz16_0
     try clear hcz16_1
     try clear hcz18_0
     try clear hcz18_1
     try clear hcz19_0
     try clear hcz19_1
     try clear hcz22_0
     try clear hcz22_1
     try clear hcz25_0
     try clear hcz25_1
     try clear hcz29_0
     try clear hcz29_1
     try clear hcz34_0
     try clear hcz34_1
     try clear hcz37_0
     try clear hcz37_1
     try clear hcz42_0
     try clear hcz42_1
     try clear hcz43_0
     try clear hcz43_1
     try clear hfz13_0
     try clear hfz13_1
     try clear hfz16_0
     try clear hfz16_1
     try clear hfz18_0
     try clear hfz18_1
     try clear hfz19_0
     try clear hfz19_1
     try clear hfz22_0
     try clear hfz22_1
     try clear hfz25_0
     try clear hfz25_1
     try clear hfz29_0
     try clear hfz29_1
     try clear hfz34_0
     try clear hfz34_1
     try clear hfz37_0
     try clear hfz37_1
     try clear hfz42_0
     try clear hfz42_1
     try clear hfz43_0
     try clear hfz43_1
     obtain ⟨x31_2, x278001_2, u278001, rfl, HA, HK2, HO_278001, BK272, BK273, BK274, BK277, HB⟩ := hrel
     cases gk with
     | zero => exact absurd HA.out (by simp [spec_MeetOrders.l0])
     | succ k2 =>
      have H := HA.out
      clear HA
      simp only [spec_MeetOrders.l0] at H
      rcases iteE H with ⟨c44b0, H⟩ | ⟨c44b0, H⟩
      ·rcases iteP H with ⟨c45, H⟩ | ⟨c45, H⟩
       ·have c45b0 : decide (0 ≤ x31_2) = true := decide_eq_true c45
        clear c45
        rcases iteP H with ⟨c46, H⟩ | ⟨c46, H⟩
        ·have c46b0 : decide (x31_2 < (l0_1.length : Int)) = true := decide_eq_true c46
         clear c46
         rcases iteP H with ⟨c47, H⟩ | ⟨c47, H⟩
         ·have c47b0 : decide (x31_2 < (l1_1.length : Int)) = true := decide_eq_true c47
          clear c47
          rcases iteP H with ⟨c48, H⟩ | ⟨c48, H⟩
          ·have LMc48 := Aside0.mk c48
           clear c48
           obtain ⟨y280, hy280⟩ : ∃ y_ : List Int, y_ = (x278001_2 ++ [Go.bits .and .i64 (rd l0_1 x31_2) (rd l1_1 x31_2)]) := ⟨_, rfl⟩
           replace H : (spec_MeetOrders.l0 k2 l0_1 (l0_1.length : Int) (wrap64 (x31_2 + 1)) a1_0 l1_1 a0_0 y280) = some (r1, r2, r3) := by first | (rw [hy280]; with_reducible exact H) | (have H2_ := (Option.bind_some _ _).symm.trans H; rw [hy280]; with_reducible exact H2_) | (have H2_ := (Option.bind_some _ _).symm.trans H; with_reducible exact H2_) | with_reducible exact H | (rw [hy280]; exact H) | exact H
           have Ny280 := Aside0.mk hy280
           clear hy280
           have H' := Aside0.mk H
           clear H
           have p278 : 0 ≤ (x31_2 : Int) := ofd
           have q278 : x31_2 < (l0_1.length : Int) := ofd
           obtain ⟨ad278, e278, hx278_0⟩ := Kd.at_int HR0_1.out x31_2 p278 q278
           cases e278
           replace hx278_0 := (HB.out.cell (World.block_lt_of_cell? w _ hx278_0)).trans hx278_0
           replace p278 := eq_true p278
           replace q278 := eq_true q278
           try go_wp2
           replace HO_278001 := Aside0.mk (Kd.R_drew HO_278001.out)
           replace BK272 := Aside0.mk (blk_drew BK272.out)
           replace BK273 := Aside0.mk (blk_drew BK273.out)
           replace BK274 := Aside0.mk (blk_drew BK274.out)
           replace BK277 := Aside0.mk (blk_drew BK277.out)
           replace HB := Aside0.mk (below_drew1 HB.out)
           have p279 : 0 ≤ (x31_2 : Int) := ofd
           have q279 : x31_2 < (l1_1.length : Int) := ofd
           obtain ⟨ad279, e279, hx279_0⟩ := Kd.at_int HR1_1.out x31_2 p279 q279
           have hw279_0 := hx279_0
           cases e279
           replace hx279_0 := (HB.out.cell (World.block_lt_of_cell? w _ hx279_0)).trans hx279_0
           replace p279 := eq_true p279
           replace q279 := eq_true q279
           refine start_ (n := 13) (S := fun w' => w'.cell? ⟨gb277, 0, none⟩ = some (.int .i64 a0_0) ∧ w'.cell? ⟨gb277, 1, none⟩ = some (u278001) ∧ w'.cell? ⟨gb273, 0, none⟩ = some (.int .i64 a1_0) ∧ w'.cell? ⟨gb273, 1, none⟩ = some (.slice (some ad279) l1_1.length c1_1) ∧ w'.cell? (ad279.add (x31_2).toNat) = some (.int .i64 (rd l1_1 x31_2))) (ds := [12]) (bm 13 0) (by kernel_rfl) rfl rfl ⟨(blk_cell BK277.out 0).trans rfl, (blk_cell BK277.out 1).trans rfl, (blk_cell BK273.out 0).trans rfl, (blk_cell BK273.out 1).trans rfl, ((HB.out.cell (World.block_lt_of_cell? w _ hw279_0)).trans hw279_0)⟩ (fun hHeld => ?_); refine with_tabW spec_MeetOrders.tab7 spec_MeetOrders.bits7 (fun HT_ HW_ => ?_)
           generalize wr.drew = w49 at HO_278001 BK272 BK273 BK274 BK277 HB hx279_0 hHeld ⊢
           refine pureW 0 (some 36) (bm 13 1) HT_ ?_
           refine pureW 2 (some 38) (bm 13 5) HT_ ?_
           refine pureW 3 (some 39) (bm 13 13) HT_ ?_
           refine pureW 5 (some 41) (bm 13 45) HT_ ?_
           refine takeW 1 (some 37) (bm 13 47) HT_ HW_ hHeld ?_
           refine takeW 4 (some 40) (bm 13 63) HT_ HW_ hHeld ?_
           refine pureW 6 (some 42) (bm 13 127) HT_ ?_
           refine takeW 7 (some 43) (bm 13 255) HT_ HW_ hHeld ?_
           refine pureW 8 (some 44) (bm 13 511) HT_ ?_
           refine oneW 9 (some 45) (bm 13 1023) HT_ (fun K hK => ?_)
           refine value_ (w1 := ?_) (v := ?_) (by rfl) rfl ?_ ?_
           rotate_left 2
           ·go_simp
            constructor
            ·rfl
            ·rfl
           refine hK.out _ _ ⟨(blk_cell (blk_alloc BK277.out _) 0).trans rfl, (blk_cell (blk_alloc BK277.out _) 1).trans rfl, (blk_cell (blk_alloc BK273.out _) 0).trans rfl, (blk_cell (blk_alloc BK273.out _) 1).trans rfl, (World.cell?_alloc_lt _ _ _ (World.block_lt_of_cell? _ _ (((HB.out.cell (World.block_lt_of_cell? w _ hw279_0)).trans hw279_0)))).trans (((HB.out.cell (World.block_lt_of_cell? w _ hw279_0)).trans hw279_0))⟩ (fun hHeld => ?_)
           clear hK K
           refine normW 45 ?_
           refine oneW 10 (some 46) (bm 13 2047) HT_ (fun K hK => ?_)
           refine Kd.R_append_step (Kd.int .i64) (w0 := w) w.heap.size (by rfl) (.tmp 37) (.tmp 45) 22 3 (.int .i64 0) 8 rfl Tryd.underlying22 info3 rfl (by decide) (by omega) u278001 x278001_2 (Go.bits .and .i64 (rd l0_1 x31_2) (rd l1_1 x31_2)) [.int .i64 (Go.bits .and .i64 (rd l0_1 x31_2) (rd l1_1 x31_2))] (fun _ => True) (fun _ => False) rfl rfl ?aP (fun _ hk => hk.elim) ?aF ?aO ?aB ?aS ?aL ?_
           (case aP => exact rfl)
           (case aB => exact (bel_g HB.out))
           (case aF => exact (fun _ _ => trivial))
           (case aO => exact (Kd.R_g HO_278001.out))
           (case aS => exact (below_size (bel_g HB.out)))
           (case aL => have := LMc48.out; omega)
           intro v281 w50 ho hb hg hat
           rw [← Ny280.out] at ho
           replace BK272 := Aside0.mk (blk_grown (g := gb272) (o := .cells #[.int .i64 a0_0, .slice (some ad278) l0_1.length c0_1] 28 (0, 0)) (blk_g BK272.out) hg (Kd.R_ne HO_278001.out BK272.out (by decide)))
           replace BK273 := Aside0.mk (blk_grown (g := gb273) (o := .cells #[.int .i64 a1_0, .slice (some ad279) l1_1.length c1_1] 28 (0, 0)) (blk_g BK273.out) hg (Kd.R_ne HO_278001.out BK273.out (by decide)))
           replace BK274 := Aside0.mk (blk_grown (g := gb274) (o := .cells #[.int .i64 0, .slice none 0 0] 28 (0, 0)) (blk_g BK274.out) hg (Kd.R_ne HO_278001.out BK274.out (by decide)))
           replace BK277 := Aside0.mk (blk_grown (g := gb277) (o := .cells #[.int .i64 a0_0, u278001] 28 (0, 0)) (blk_g BK277.out) hg (Kd.R_ne HO_278001.out BK277.out (by decide)))
           have HO282 := Aside0.mk (ho)
           replace HB := Aside0.mk (hb)
           clear HO_278001
           clear ho hb hg hat
           obtain ⟨Ao51, co51, eo51⟩ := Kd.R_slice HO282.out
           (first | subst eo51 | (injection eo51 with f1_ f2_ f3_; have f4_ := f1_.symm; have f5_ := f3_.symm; clear f1_ f2_ f3_; subst f4_; subst f5_))
           refine hK.out _ _ ⟨(blk_cell BK277.out 0).trans rfl, (blk_cell BK277.out 1).trans rfl, (blk_cell BK273.out 0).trans rfl, (blk_cell BK273.out 1).trans rfl, ((HB.out.cell (World.block_lt_of_cell? w _ hw279_0)).trans hw279_0)⟩ (fun hHeld => ?_)
           clear hK K
           refine normW 46 ?_
           refine pureW 11 (some 47) (bm 13 4095) HT_ ?_
           refine last_ (i := 12) (N := none) (bm 13 8191) rfl rfl (one_of HT_.out (by kernel_rfl)) (by decide) (fun K hK => ?_)
           have hs52 : w50.cell? ⟨gb277, 1, none⟩ = some (u278001) := (blk_cell BK277.out 1).trans rfl
           have hfs52 := blk_frozen BK277.out 1
           have hns52_0 := NB272_277.out
           have hns52_1 := NB273_277.out
           have hns52_2 := NB274_277.out
           have hms52_0 := NB277_272.out
           have hms52_1 := NB277_273.out
           have hms52_2 := NB277_274.out
           refine skip_ (w1 := ?_) (by rfl) rfl ?_ ?_
           rotate_left
           ·go_simp
            rfl
           refine hK.out _ _ ?_
           clear hK K
           refine doneW HT_ ?_
           try go_wp2
           go_roundg k2
           case measure => have := HJ2.out; have := HK2.out; omega
           case rel => exact ⟨(wrap64 (x31_2 + 1)), (y280), (.slice Ao51 y280.length co51), eqS, H', ⟨by have := HJ2.out; have := HK2.out; omega⟩, ⟨Kd.R_g (Kd.R_mono (Kd.R_far (p := ⟨gb277, 1, none⟩) (Kd.R_types HO282.out BK277.out (by decide)) (fun _ hk => hk.2) (.slice Ao51 y280.length co51)) (fun _ hk => trivial))⟩, ⟨by (with_reducible repeat (first | refine blk_drewN ?_ _ | refine blk_drew ?_ | refine blk_alloc ?_ _)); refine blk_far ?_ NB272_277.out _; (with_reducible repeat (first | refine blk_drewN ?_ _ | refine blk_drew ?_ | refine blk_alloc ?_ _)); exact BK272.out⟩, ⟨by (with_reducible repeat (first | refine blk_drewN ?_ _ | refine blk_drew ?_ | refine blk_alloc ?_ _)); refine blk_far ?_ NB273_277.out _; (with_reducible repeat (first | refine blk_drewN ?_ _ | refine blk_drew ?_ | refine blk_alloc ?_ _)); exact BK273.out⟩, ⟨by (with_reducible repeat (first | refine blk_drewN ?_ _ | refine blk_drew ?_ | refine blk_alloc ?_ _)); refine blk_far ?_ NB274_277.out _; (with_reducible repeat (first | refine blk_drewN ?_ _ | refine blk_drew ?_ | refine blk_alloc ?_ _)); exact BK274.out⟩, ⟨by (with_reducible repeat (first | refine blk_drewN ?_ _ | refine blk_drew ?_ | refine blk_alloc ?_ _)); refine blk_put (cs := #[.int .i64 a0_0, u278001]) ?_ 1 _ rfl; (with_reducible repeat (first | refine blk_drewN ?_ _ | refine blk_drew ?_ | refine blk_alloc ?_ _)); exact BK277.out⟩, ⟨bel_g HB.out⟩⟩
          ·exact absurd H (by simp)
         ·exact absurd H (by simp)
        ·exact absurd H (by simp)
       ·exact absurd H (by simp)
      ·simp only [Option.some.injEq, Prod.mk.injEq] at H
       obtain ⟨rfl, rfl, rfl⟩ := H
       have hnb53 := NB277_272.out
       have hnc53 := NB272_277.out
       have hnb54 := NB277_273.out
       have hnc54 := NB273_277.out
       have hnb55 := NB277_274.out
       have hnc55 := NB274_277.out
       obtain ⟨hcz56_0, hcz56_1, hfz56_0, hfz56_1⟩ := blk2 BK277
       have hnb57 := NB274_272.out
       have hnc57 := NB272_274.out
       have hnb58 := NB274_273.out
       have hnc58 := NB273_274.out
       obtain ⟨hcz59_0, hcz59_1, hfz59_0, hfz59_1⟩ := blk2 BK274
       obtain ⟨Ao60, co60, eo60⟩ := Kd.R_slice HO_278001.out
       subst eo60
       go_wp2
       refine bodyPost_ret (results_ct rfl _ _ gb274 28 #[.int .i64 a0_0, .slice Ao60 x278001_2.length co60] (0, 0) _ rfl (by (with_reducible repeat (first | refine blk_drewN ?_ _ | refine blk_drew ?_ | refine blk_alloc ?_ _)); refine blk_put (cs := #[.int .i64 a0_0, .slice none 0 0]) ?_ 1 _ rfl; (with_reducible repeat (first | refine blk_drewN ?_ _ | refine blk_drew ?_ | refine blk_alloc ?_ _)); refine blk_put (cs := #[.int .i64 0, .slice none 0 0]) ?_ 0 _ rfl; (with_reducible repeat (first | refine blk_drewN ?_ _ | refine blk_drew ?_ | refine blk_alloc ?_ _)); exact BK274.out) Tryd.underlying28 rfl (by kernel_rfl)) rfl ?_
       exact ⟨_, eqE, by (with_reducible repeat (first | apply Kd.R_alloc | apply Kd.R_drewN | apply Kd.R_drew)); exact Kd.R_mono (Kd.R_far (p := ⟨gb274, 1, none⟩) (Kd.R_far (p := ⟨gb274, 0, none⟩) (Kd.R_types HO_278001.out BK274.out (by decide)) (fun _ hk => hk.2) (.int .i64 a0_0)) (fun _ hk => hk.2) (.slice Ao60 x278001_2.length co60)) (fun _ hk => trivial), bel_g HB.out⟩

end Go.Proofs.YteechpappfagpaaDoor.Q
