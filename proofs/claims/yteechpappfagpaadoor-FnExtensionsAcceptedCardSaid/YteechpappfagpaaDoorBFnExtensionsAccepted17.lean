import Derived.Test.YteechpappfagpaaDoorBFnExtensionsAccepted0
import Derived.Test.YteechpappfagpaaDoorBFnExtensionsAccepted8
import Derived.Test.YteechpappfagpaaDoorBFnExtensionsAccepted9
import Derived.Test.YteechpappfagpaaDoorBFnExtensionsAccepted13
import Derived.Test.YteechpappfagpaaDoorBFnExtensionsAccepted15
import Derived.Test.YteechpappfagpaaDoorBFnExtensionsAccepted16
-- printed by this project's own program (wip/mp/mp.py) over the kit's print, for this seat; Lean checks it
namespace Go.Proofs.YteechpappfagpaaDoor.Q
open Go.RowKit Go.Proofs.YteechpappfagpaaDoorW.PrintWords Go.Proofs.YteechpappfagpaaDoorW.PrintLast Go.Proofs.YteechpappfagpaaDoorW.PrintMore
attribute [local go_sem] max2_int min2_int max_two min_two max_three min_three max_four min_four   -- for this text's walks alone
set_option linter.unusedVariables false
set_option maxHeartbeats 8000000
set_option maxRecDepth 100000
set_option linter.unusedSimpArgs false

/-! ### spec_DrawIsExtension: function 64 -/
def spec_DrawIsExtension.j0 : Nat → Bool → List Int → Int → Int → Int → List Int → Option (Int × List Int × List Int)
 | 0, _, _, _, _, _, _ => none
 | k + 1, x16, x1301000, x1301001, x1301002, x1308000, x1308001 => if x16 = true then ((spec_orFirst.f k x1308000 x1308001).bind fun t1312 => (some (x1308000, x1308001, t1312))) else ((spec_l1Most.f 0 x1308000).bind fun t1315 => ((spec_l1Cur_names.f k x1301000 x1301001 x1301002 t1315).bind fun bt1316 => (some (x1308000, x1308001, bt1316.1))))
def spec_DrawIsExtension.f (k : Nat) (l0 : List Int) : Option (Int × List Int × List Int) := (spec_l1Cur_anyOrder.f k l0 0 0 6).bind fun bt1301 => ((spec_orGood.f k bt1301.1 bt1301.2.1).bind fun t1308 => (if t1308 = true then ((spec_l1Cur_one.f l0 bt1301.2.2.1 bt1301.2.2.2 2).bind fun bt1309 => (spec_DrawIsExtension.j0 k bt1309.1 l0 bt1309.2.1 bt1309.2.2 bt1301.1 bt1301.2.1)) else (spec_DrawIsExtension.j0 k false l0 bt1301.2.2.1 bt1301.2.2.2 bt1301.1 bt1301.2.1)))
theorem spec_DrawIsExtension.mono_l : ∀ k, (∀ y0 y1 y2 y3 y4 y5, LeO (spec_DrawIsExtension.j0 k y0 y1 y2 y3 y4 y5) (spec_DrawIsExtension.j0 (k + 1) y0 y1 y2 y3 y4 y5))
 | 0 => fun _ _ _ _ _ _ r h => by simp [spec_DrawIsExtension.j0] at h
 | k + 1 => by
  have ih0 := spec_DrawIsExtension.mono_l k
  ·intro y0 y1 y2 y3 y4 y5
   unfold spec_DrawIsExtension.j0
   repeat' (with_reducible first|exact ih0 _ _ _ _ _ _|exact spec_l1Cur_anyOrder.mono _ _ _ _ _|exact spec_l1Cur_names.mono _ _ _ _ _|exact spec_orFirst.mono _ _ _|exact spec_orGood.mono _ _ _|exact LeO.refl _|exact LeO.none _|refine LeO.ite ?_ ?_|refine LeO.bind ?_ (fun _ => ?_))
theorem spec_DrawIsExtension.mono : ∀ a0 k, LeO (spec_DrawIsExtension.f k a0) (spec_DrawIsExtension.f (k + 1) a0) := by
 intro a0 k
 have ih0 := spec_DrawIsExtension.mono_l k
 unfold spec_DrawIsExtension.f
 repeat' (with_reducible first|exact ih0 _ _ _ _ _ _|exact spec_l1Cur_anyOrder.mono _ _ _ _ _|exact spec_l1Cur_names.mono _ _ _ _ _|exact spec_orFirst.mono _ _ _|exact spec_orGood.mono _ _ _|exact LeO.refl _|exact LeO.none _|refine LeO.ite ?_ ?_|refine LeO.bind ?_ (fun _ => ?_))
def spec_DrawIsExtension.T5 : Bool × List (List Nat × List Nat) := (true, [([], []), ([], []), ([], []), ([2], [2]), ([3], [3]), ([1, 4, 4], [1, 4]), ([0, 5, 0], [0]), ([5, 6, 0, 1, 2, 3, 4, 5, 6], [5])])
def spec_DrawIsExtension.B5 : List Nat := [0, 0, 0, 4, 12, 30, 63, 127]
theorem spec_DrawIsExtension.tab5 : rtab .any (opsOf Tryd.f64 5) = spec_DrawIsExtension.T5 := by kernel_rfl
theorem spec_DrawIsExtension.bits5 : waitsOk spec_DrawIsExtension.T5.2 spec_DrawIsExtension.B5 = true := by kernel_rfl
theorem spec_DrawIsExtension.calls (k : Nat) (A0 : Option Addr) (c0 : Nat) (l0 : List Int) (r1 : Int) (r2 : List Int) (r3 : List Int) (w : World) (hr0 : Kd.C (Kd.int .u8) w A0 l0.length l0) (hc0 : l0.length ≤ c0) (h : spec_DrawIsExtension.f k l0 = some (r1, r2, r3)) :
  Calls Tryd.prog 64 #[.slice A0 l0.length c0] w fun e w' => ∃ v1_ v2_ : Value, e = .returned (.tuple #[.agg #[.int .i64 r1, v1_], v2_]) ∧ Kd.R (Kd.int .i64) 3 w' w.heap.size (fun k_ => some k_ ≠ (v2_ : Value).ownBlock) v1_ r2 ∧ Kd.R (Kd.int .i64) 3 w' w.heap.size (fun k_ => some k_ ≠ (v1_ : Value).ownBlock) v2_ r3 ∧ Below w.heap.size w w' := by
 have hu28 := Tryd.underlying28
 have hu74 := Tryd.underlying74
 have HR0 := Aside0.mk hr0
 have HC0 := Aside0.mk hc0
 clear hr0 hc0
 have HB := Aside0.mk (Below.refl w.heap.size w)
 have H : ((spec_l1Cur_anyOrder.f k l0 0 0 6).bind fun bt1301 => ((spec_orGood.f k bt1301.1 bt1301.2.1).bind fun t1308 => (if t1308 = true then ((spec_l1Cur_one.f l0 bt1301.2.2.1 bt1301.2.2.2 2).bind fun bt1309 => (spec_DrawIsExtension.j0 k bt1309.1 l0 bt1309.2.1 bt1309.2.2 bt1301.1 bt1301.2.1)) else (spec_DrawIsExtension.j0 k false l0 bt1301.2.2.1 bt1301.2.2.2 bt1301.1 bt1301.2.1)))) = some (r1, r2, r3) := h
 clear h
 obtain ⟨⟨t1301, t1302, t1305, t1306⟩, A2, H⟩ := obE H
 dsimp only at H
 have HC3 := Aside0.mk H
 clear H
 go_enter Tryd.func64, Tryd.ntmps64
 go_upto_region 3 with (first | ((with_reducible refine gate_dst (N := 2) rfl ?_); refine boxE (N := 2) (cs := #[.int .i64 0, .slice none 0 0]) (t := 28) ?_; intro gb1299 hg w4 hbox hb; have BK1299 := Aside0.mk (hbox); have GE1299 := geB HB hg; replace HB := bst HB hb; clear hb hbox hg) | ((with_reducible refine gate_dst (N := 8) rfl ?_); refine boxE (N := 8) (cs := #[.slice A0 l0.length c0, .int .i64 0, .int .u64 0]) (t := 74) ?_; intro gb1300 hg w5 hbox hb; have HI1300 := Aside0.mk ((⟨_, _, hbox, (by rw [hg]; exact (below_size (bel_g HB.out))), HR0.out⟩ : IsS74 w w5 gb1300 l0 0 0)); have GE1300 := geB HB hg; have NB1299_1300 := neL BK1299 hg; have NB1300_1299 := neR BK1299 hg; replace BK1299 := blkB BK1299 hb; replace HB := bst HB hb; clear hb hbox hg) | ((with_reducible refine gate_callee (f := 108) rfl ?_); refine goesQ (some 10) Tryd.func108 #[.pointer (some ⟨gb1300, 0, none⟩), .int .i64 6] ?_; (with_reducible refine (spec_l1Cur_anyOrder.calls k gb1300 l0 0 0 6 t1301 t1302 t1305 t1306 w _ ?side1 ?side2 A2.out).mono ?_); (case side1 => exact st74_1 HI1300.out NB1300_1299.out); (case side2 => exact bl74_1 HB.out HI1300.out GE1299.out); rintro e w6 ⟨v1303, rfl, ho0, hi, hb, hk⟩; refine ⟨_, rfl, ?_⟩; replace BK1299 := Aside0.mk (KeepBut.blk hk (g' := gb1299) (o := .cells #[.int .i64 0, .slice none 0 0] 28 (0, 0)) (blk_g BK1299.out) NB1299_1300.out (by simp)); have HO1304 := Aside0.mk (Kd.R_lower ho0 (below_size (by exact bl74_1 HB.out HI1300.out GE1299.out))); replace HI1300 := Aside0.mk (hi); replace HB := Aside0.mk (hb); (try clear hb); (try clear hk); (try clear hi); (try clear ho0)) | ((with_reducible refine gate_dst (N := 5) rfl ?_); refine boxE (N := 5) (cs := #[.int .i64 0, .slice none 0 0]) (t := 28) ?_; intro gb1307 hg w7 hbox hb; replace HO1304 := Aside0.mk (Kd.R_below (Kd.R_g HO1304.out) hb); have BK1307 := Aside0.mk (hbox); have GW1307 := Aside0.mk ((by rw [hg]; exact (below_size (by exact bl74_1 HB.out HI1300.out GE1299.out)) : w.heap.size ≤ gb1307)); have GE1307 := Aside0.mk ((by rw [hg]; exact (below_size (by exact bl74_1 HB.out HI1300.out GE1299.out)) : w.heap.size ≤ gb1307)); have NB1299_1307 := neL BK1299 hg; have NB1307_1299 := neR BK1299 hg; replace BK1299 := blkB BK1299 hb; have NB1300_1307 := Aside0.mk ((by rw [hg]; exact Nat.ne_of_lt (IsS74.lt (show IsS74 w _ gb1300 l0 t1305 t1306 from by exact st74_1 HI1300.out NB1300_1299.out)) : gb1300 ≠ gb1307)); have NB1307_1300 := Aside0.mk ((by rw [hg]; exact Nat.ne_of_gt (IsS74.lt (show IsS74 w _ gb1300 l0 t1305 t1306 from by exact st74_1 HI1300.out NB1300_1299.out)) : gb1307 ≠ gb1300)); replace HB := Aside0.mk (below_step (by exact bl74_1 HB.out HI1300.out GE1299.out) hb); replace HI1300 := Aside0.mk (IsS74.below (by exact st74_1 HI1300.out NB1300_1299.out) hb); clear hb hbox hg; have hnb8 := NB1307_1299.out; have hnc8 := NB1299_1307.out; have hnb9 := NB1307_1300.out; have hnc9 := NB1300_1307.out; obtain ⟨hcz10_0, hcz10_1, hfz10_0, hfz10_1⟩ := blk2 BK1307; obtain ⟨Ao11, co11, eo11⟩ := Kd.R_slice HO1304.out; subst eo11))
 (try simp only [Act.put, List.setIfInBounds_toArray, List.set_cons_zero, List.set_cons_succ])
 go_cut [16] (fun v16 wc => ∃ (kq : Nat) (x16_2 : Bool) (x1301001_2 : Int) (x1301002_2 : Int), v16 = .bool x16_2 ∧ Aside0 (spec_DrawIsExtension.j0 kq x16_2 l0 x1301001_2 x1301002_2 t1301 t1302 = some (r1, r2, r3)) ∧ Aside0 (kq ≤ k) ∧ Aside0 (Kd.R (Kd.int .i64) 3 wc w.heap.size (fun _ => True) (.slice Ao11 t1302.length co11) t1302) ∧ Aside0 (wc.heap[gb1299]? = some (.cells #[.int .i64 0, (.slice none 0 0)] 28 (0, 0))) ∧ Aside0 (wc.heap[gb1307]? = some (.cells #[.int .i64 t1301, (.slice Ao11 t1302.length co11)] 28 (0, 0))) ∧ Aside0 (IsS74 w wc gb1300 l0 x1301001_2 x1301002_2) ∧ Aside0 (Below w.heap.size w wc))
 case first =>
  have H := HC3.out
  clear HC3
  obtain ⟨t1308, A12, H⟩ := obE H
  by_cases c13 : t1308 = true
  ·subst c13
   replace H := ifT H
   obtain ⟨⟨t1309, t1310, t1311⟩, A14, H⟩ := obE H
   dsimp only at H
   have H' := Aside0.mk H
   clear H
   have hnb15 := NB1307_1299.out
   have hnc15 := NB1299_1307.out
   have hnb16 := NB1307_1300.out
   have hnc16 := NB1300_1307.out
   obtain ⟨hcz17_0, hcz17_1, hfz17_0, hfz17_1⟩ := blk2 BK1307
   go_wp2_with (first | ((with_reducible refine gate_callee (f := 84) rfl ?_); refine goesQ (some 12) Tryd.func84 #[.agg #[.int .i64 t1301, .slice Ao11 t1302.length co11]] ?_; (with_reducible refine (spec_orGood.calls k t1301 _ _ t1302 true _ ?side1 ?side2 A12.out).mono ?_); (case side1 => refine (Kd.R_reads' (e := 3) (base := w.heap.size) (ok := fun k_ => True) (n := t1302.length) (c := co11) ?_).2.2; exact (Kd.R_g ((Kd.R_mono (Kd.R_far (p := ⟨gb1307, 1, none⟩) (Kd.R_far (p := ⟨gb1307, 0, none⟩) (Kd.R_types HO1304.out BK1307.out (by decide)) (fun _ hk => hk.2) (.int .i64 t1301)) (fun _ hk => hk.2) (.slice Ao11 t1302.length co11)) (fun _ h_ => h_.1))))); (case side2 => exact (Kd.R_reads' HO1304.out).2.1); rintro e w18 ⟨rfl, hb⟩; refine ⟨_, rfl, ?_⟩; replace HO1304 := Aside0.mk (Kd.R_below (Kd.R_g ((Kd.R_mono (Kd.R_far (p := ⟨gb1307, 1, none⟩) (Kd.R_far (p := ⟨gb1307, 0, none⟩) (Kd.R_types HO1304.out BK1307.out (by decide)) (fun _ hk => hk.2) (.int .i64 t1301)) (fun _ hk => hk.2) (.slice Ao11 t1302.length co11)) (fun _ h_ => h_.1)))) hb); replace BK1299 := Aside0.mk (blk_below (g := gb1299) (o := .cells #[.int .i64 0, .slice none 0 0] 28 (0, 0)) (by (with_reducible repeat (first | refine blk_drewN ?_ _ | refine blk_drew ?_ | refine blk_alloc ?_ _)); refine blk_far ?_ NB1299_1307.out _; (with_reducible repeat (first | refine blk_drewN ?_ _ | refine blk_drew ?_ | refine blk_alloc ?_ _)); refine blk_far ?_ NB1299_1307.out _; (with_reducible repeat (first | refine blk_drewN ?_ _ | refine blk_drew ?_ | refine blk_alloc ?_ _)); exact BK1299.out) hb); replace BK1307 := Aside0.mk (blk_below (g := gb1307) (o := .cells #[.int .i64 t1301, .slice Ao11 t1302.length co11] 28 (0, 0)) (by (with_reducible repeat (first | refine blk_drewN ?_ _ | refine blk_drew ?_ | refine blk_alloc ?_ _)); refine blk_put (cs := #[.int .i64 t1301, .slice none 0 0]) ?_ 1 _ rfl; (with_reducible repeat (first | refine blk_drewN ?_ _ | refine blk_drew ?_ | refine blk_alloc ?_ _)); refine blk_put (cs := #[.int .i64 0, .slice none 0 0]) ?_ 0 _ rfl; (with_reducible repeat (first | refine blk_drewN ?_ _ | refine blk_drew ?_ | refine blk_alloc ?_ _)); exact BK1307.out) hb); replace HB := Aside0.mk (below_step (by exact bl74_2 HB.out HI1300.out GE1299.out GE1307.out) hb); replace HI1300 := Aside0.mk (IsS74.below (show IsS74 w ((w7.setCell ⟨gb1307, 0, none⟩ (.int .i64 t1301)).setCell ⟨gb1307, 1, none⟩ (.slice Ao11 t1302.length co11)) gb1300 l0 t1305 t1306 from by exact st74_2 HI1300.out NB1300_1299.out NB1300_1307.out) hb); (try clear hb); (try clear hk); (try clear hi)) | (go_at_call 116; (with_reducible refine (spec_l1Cur_one.calls gb1300 l0 t1305 t1306 2 t1309 t1310 t1311 w _ ?side1 ?side2 A14.out).mono ?_); (case side1 => exact st74_2 HI1300.out NB1300_1299.out NB1300_1307.out); (case side2 => exact bl74_2 HB.out HI1300.out GE1299.out GE1307.out); rintro e w19 ⟨rfl, hi, hb, hk⟩; replace BK1299 := Aside0.mk (KeepBut.blk hk (g' := gb1299) (o := .cells #[.int .i64 0, .slice none 0 0] 28 (0, 0)) (blk_g BK1299.out) NB1299_1300.out (by simp)); replace HO1304 := Aside0.mk (Kd.R_mono (Kd.R_keep (IsS74.apart (show IsS74 w _ gb1300 l0 t1305 t1306 from by exact st74_2 HI1300.out NB1300_1299.out NB1300_1307.out) (Kd.R_g HO1304.out) (by decide)) hk (fun _ h => h.2)) (fun _ h => h.1)); replace BK1307 := Aside0.mk (KeepBut.blk hk (g' := gb1307) (o := .cells #[.int .i64 t1301, .slice Ao11 t1302.length co11] 28 (0, 0)) (blk_g BK1307.out) NB1307_1300.out (by simp)); replace HI1300 := Aside0.mk (hi); replace HB := Aside0.mk (hb); (try clear hb); (try clear hk); (try clear hi)))
   go_meet
   case rel => exact ⟨_, (t1309), (t1310), (t1311), eqS, H', ⟨by first | omega | exact Nat.le_refl _⟩, ⟨Kd.R_g HO1304.out⟩, ⟨blk_g BK1299.out⟩, ⟨blk_g BK1307.out⟩, ⟨by exact st74_2 HI1300.out NB1300_1299.out NB1300_1307.out⟩, ⟨by exact bl74_2 HB.out HI1300.out GE1299.out GE1307.out⟩⟩
  ·replace c13 := Bool.eq_false_iff.mpr c13
   subst c13
   replace H := ifF H
   have H' := Aside0.mk H
   clear H
   have hnb20 := NB1307_1299.out
   have hnc20 := NB1299_1307.out
   have hnb21 := NB1307_1300.out
   have hnc21 := NB1300_1307.out
   obtain ⟨hcz22_0, hcz22_1, hfz22_0, hfz22_1⟩ := blk2 BK1307
   go_wp2_with (first | ((with_reducible refine gate_callee (f := 84) rfl ?_); refine goesQ (some 12) Tryd.func84 #[.agg #[.int .i64 t1301, .slice Ao11 t1302.length co11]] ?_; (with_reducible refine (spec_orGood.calls k t1301 _ _ t1302 false _ ?side1 ?side2 A12.out).mono ?_); (case side1 => refine (Kd.R_reads' (e := 3) (base := w.heap.size) (ok := fun k_ => True) (n := t1302.length) (c := co11) ?_).2.2; exact (Kd.R_g ((Kd.R_mono (Kd.R_far (p := ⟨gb1307, 1, none⟩) (Kd.R_far (p := ⟨gb1307, 0, none⟩) (Kd.R_types HO1304.out BK1307.out (by decide)) (fun _ hk => hk.2) (.int .i64 t1301)) (fun _ hk => hk.2) (.slice Ao11 t1302.length co11)) (fun _ h_ => h_.1))))); (case side2 => exact (Kd.R_reads' HO1304.out).2.1); rintro e w23 ⟨rfl, hb⟩; refine ⟨_, rfl, ?_⟩; replace HO1304 := Aside0.mk (Kd.R_below (Kd.R_g ((Kd.R_mono (Kd.R_far (p := ⟨gb1307, 1, none⟩) (Kd.R_far (p := ⟨gb1307, 0, none⟩) (Kd.R_types HO1304.out BK1307.out (by decide)) (fun _ hk => hk.2) (.int .i64 t1301)) (fun _ hk => hk.2) (.slice Ao11 t1302.length co11)) (fun _ h_ => h_.1)))) hb); replace BK1299 := Aside0.mk (blk_below (g := gb1299) (o := .cells #[.int .i64 0, .slice none 0 0] 28 (0, 0)) (by (with_reducible repeat (first | refine blk_drewN ?_ _ | refine blk_drew ?_ | refine blk_alloc ?_ _)); refine blk_far ?_ NB1299_1307.out _; (with_reducible repeat (first | refine blk_drewN ?_ _ | refine blk_drew ?_ | refine blk_alloc ?_ _)); refine blk_far ?_ NB1299_1307.out _; (with_reducible repeat (first | refine blk_drewN ?_ _ | refine blk_drew ?_ | refine blk_alloc ?_ _)); exact BK1299.out) hb); replace BK1307 := Aside0.mk (blk_below (g := gb1307) (o := .cells #[.int .i64 t1301, .slice Ao11 t1302.length co11] 28 (0, 0)) (by (with_reducible repeat (first | refine blk_drewN ?_ _ | refine blk_drew ?_ | refine blk_alloc ?_ _)); refine blk_put (cs := #[.int .i64 t1301, .slice none 0 0]) ?_ 1 _ rfl; (with_reducible repeat (first | refine blk_drewN ?_ _ | refine blk_drew ?_ | refine blk_alloc ?_ _)); refine blk_put (cs := #[.int .i64 0, .slice none 0 0]) ?_ 0 _ rfl; (with_reducible repeat (first | refine blk_drewN ?_ _ | refine blk_drew ?_ | refine blk_alloc ?_ _)); exact BK1307.out) hb); replace HB := Aside0.mk (below_step (by exact bl74_2 HB.out HI1300.out GE1299.out GE1307.out) hb); replace HI1300 := Aside0.mk (IsS74.below (show IsS74 w ((w7.setCell ⟨gb1307, 0, none⟩ (.int .i64 t1301)).setCell ⟨gb1307, 1, none⟩ (.slice Ao11 t1302.length co11)) gb1300 l0 t1305 t1306 from by exact st74_2 HI1300.out NB1300_1299.out NB1300_1307.out) hb); (try clear hb); (try clear hk); (try clear hi)))
   go_meet
   case rel => exact ⟨_, (false), (t1305), (t1306), eqS, H', ⟨by first | omega | exact Nat.le_refl _⟩, ⟨Kd.R_g HO1304.out⟩, ⟨blk_g BK1299.out⟩, ⟨blk_g BK1307.out⟩, ⟨by exact st74_2 HI1300.out NB1300_1299.out NB1300_1307.out⟩, ⟨by exact bl74_2 HB.out HI1300.out GE1299.out GE1307.out⟩⟩
 case rest =>
  clear HC3
  try clear c13
  try clear hcz10_0
  try clear hcz10_1
  try clear hcz17_0
  try clear hcz17_1
  try clear hcz22_0
  try clear hcz22_1
  try clear hfz10_0
  try clear hfz10_1
  try clear hfz17_0
  try clear hfz17_1
  try clear hfz22_0
  try clear hfz22_1
  obtain ⟨kq, x16_2, x1301001_2, x1301002_2, rfl, HA, HJ2, HO_1308001, BK1299, BK1307, HI1300, HB⟩ := hcut
  cases kq with
  | zero => exact absurd HA.out (by simp [spec_DrawIsExtension.j0])
  | succ kj2 =>
   have H := HA.out
   clear HA
   simp only [spec_DrawIsExtension.j0] at H
   by_cases c24 : x16_2 = true
   ·subst c24
    replace H := ifT H
    obtain ⟨t1312, A25, H⟩ := obE H
    simp only [Option.some.injEq, Prod.mk.injEq] at H
    obtain ⟨rfl, rfl, rfl⟩ := H
    try go_wp2
    replace HO_1308001 := Aside0.mk (Kd.R_drew HO_1308001.out)
    replace BK1299 := Aside0.mk (blk_drew BK1299.out)
    replace BK1307 := Aside0.mk (blk_drew BK1307.out)
    replace HI1300 := Aside0.mk (IsS74.drew HI1300.out)
    replace HB := Aside0.mk (below_drew1 HB.out)
    refine start_ (n := 5) (S := fun w' => w'.cell? ⟨gb1307, 0, none⟩ = some (.int .i64 t1301) ∧ w'.cell? ⟨gb1307, 1, none⟩ = some (.slice Ao11 t1302.length co11)) (ds := []) (bm 5 0) (by kernel_rfl) rfl (by kernel_rfl) ⟨(blk_cell BK1307.out 0).trans rfl, (blk_cell BK1307.out 1).trans rfl⟩ (fun hHeld => ?_)
    generalize wc.drew = w26 at HO_1308001 BK1299 BK1307 HI1300 HB hHeld ⊢
    refine take_ (i := 0) (N := some 17) (v := ?_) (a' := ?_) (bm 5 1) rfl rfl (by kernel_rfl) (fun _ _ _ h => h) (Or.inl ⟨by rfl, ?_⟩) hHeld ?_ ?_
    rotate_left
    ·rintro w' ⟨s0, s1⟩
     go_simp
     with_reducible rfl
    rotate_left
    ·simp only [Act.put, List.setIfInBounds_toArray, List.set_cons_zero, List.set_cons_succ, i64_w, i32_w]
     rfl
    refine take_ (i := 1) (N := some 18) (v := ?_) (a' := ?_) (bm 5 3) rfl rfl (by kernel_rfl) (fun _ _ _ h => h) (Or.inl ⟨by rfl, ?_⟩) hHeld ?_ ?_
    rotate_left
    ·rintro w' ⟨s0, s1⟩
     go_simp
     with_reducible rfl
    rotate_left
    ·simp only [Act.put, List.setIfInBounds_toArray, List.set_cons_zero, List.set_cons_succ, i64_w, i32_w]
     rfl
    refine one_ (i := 2) (N := some 19) (bm 5 7) rfl rfl (by kernel_rfl) (by decide) (fun K hK => ?_)
    refine goesR Tryd.func127 #[.agg #[.int .i64 t1301, .slice Ao11 t1302.length co11]] ?_
    with_reducible refine (spec_orFirst.calls kj2 t1301 _ _ t1302 t1312 _ ?side1 ?side2 A25.out).mono ?_
    (case side1 => repeat (first | exact (Kd.R_reads' HO_1308001.out).2.2 | (with_reducible refine Kd.C_alloc ?_ _) | (with_reducible refine Kd.C_drewN ?_ _) | (with_reducible refine Kd.C_drew ?_)))
    (case side2 => exact (Kd.R_reads' HO_1308001.out).2.1)
    rintro e w27 ⟨v1313, rfl, ho0, hb⟩
    refine ⟨_, rfl, ?_⟩
    have HO1314 := Aside0.mk (Kd.R_lower (Kd.R_new' ho0 (Kd.R_lt (Kd.R_g HO_1308001.out))) (below_size (by exact bl74_2 HB.out HI1300.out GE1299.out GE1307.out)))
    replace HO_1308001 := Aside0.mk (Kd.R_elder' (Kd.R_g HO_1308001.out) (Kd.R_base ho0) hb)
    replace BK1299 := blkB BK1299 hb
    replace BK1307 := blkB BK1307 hb
    replace HB := Aside0.mk (below_step (by exact bl74_2 HB.out HI1300.out GE1299.out GE1307.out) hb)
    replace HI1300 := Aside0.mk (IsS74.below (by exact st74_2 HI1300.out NB1300_1299.out NB1300_1307.out) hb)
    (try clear hb)
    (try clear hb2)
    (try clear hk)
    (try clear hi)
    (try clear ho0)
    refine hK.out _ _ ⟨(blk_cell BK1307.out 0).trans rfl, (blk_cell BK1307.out 1).trans rfl⟩ (fun hHeld => ?_)
    clear hK K
    refine normW 19 ?_
    refine one_ (i := 3) (N := none) (bm 5 15) rfl rfl (by kernel_rfl) (by decide) (fun K hK => ?_)
    have hs28 : w27.cell? ⟨gb1299, 0, none⟩ = some (.int .i64 0) := (blk_cell BK1299.out 0).trans rfl
    have hfs28 := blk_frozen BK1299.out 0
    have hns28_1 := NB1307_1299.out
    have hms28_1 := NB1299_1307.out
    have hs29 : w27.cell? ⟨gb1299, 1, none⟩ = some (.slice none 0 0) := (blk_cell BK1299.out 1).trans rfl
    have hfs29 := blk_frozen BK1299.out 1
    have hns29_1 := NB1307_1299.out
    have hms29_1 := NB1299_1307.out
    refine skip_ (w1 := ?_) (by rfl) rfl ?_ ?_
    rotate_left
    ·go_simp
     rfl
    refine hK.out _ _ ⟨((cell_far (p := ⟨gb1299, _, none⟩) NB1307_1299.out _).trans (((cell_far (p := ⟨gb1299, _, none⟩) NB1307_1299.out _).trans (hHeld.1)))), ((cell_far (p := ⟨gb1299, _, none⟩) NB1307_1299.out _).trans (((cell_far (p := ⟨gb1299, _, none⟩) NB1307_1299.out _).trans (hHeld.2))))⟩ (fun hHeld => ?_)
    clear hK K
    refine pure_ (i := 4) (N := some 3) (v := ?_) (a' := ?_) (bm 5 31) rfl rfl (by kernel_rfl) (fun _ _ _ h => h) (Or.inl ⟨by rfl, ?_⟩) ?_ ?_
    rotate_left
    ·intro w'
     go_simp
     with_reducible rfl
    rotate_left
    ·simp only [Act.put, List.setIfInBounds_toArray, List.set_cons_zero, List.set_cons_succ, i64_w, i32_w]
     rfl
    refine done_ (by kernel_rfl) ?_
    try go_wp2
    refine bodyPost_ret (results_ct rfl _ _ gb1299 28 #[.int .i64 t1301, .slice Ao11 t1302.length co11] (0, 0) _ rfl (by (with_reducible repeat (first | refine blk_drewN ?_ _ | refine blk_drew ?_ | refine blk_alloc ?_ _)); refine blk_put (cs := #[.int .i64 t1301, .slice none 0 0]) ?_ 1 _ rfl; (with_reducible repeat (first | refine blk_drewN ?_ _ | refine blk_drew ?_ | refine blk_alloc ?_ _)); refine blk_put (cs := #[.int .i64 0, .slice none 0 0]) ?_ 0 _ rfl; (with_reducible repeat (first | refine blk_drewN ?_ _ | refine blk_drew ?_ | refine blk_alloc ?_ _)); exact BK1299.out) Tryd.underlying28 rfl (by kernel_rfl)) rfl ?_
    exact ⟨_, _, eqE, by (with_reducible repeat (first | apply Kd.R_alloc | apply Kd.R_drewN | apply Kd.R_drew)); exact Kd.R_mono (Kd.R_far (p := ⟨gb1299, 1, none⟩) (Kd.R_far (p := ⟨gb1299, 0, none⟩) (Kd.R_types HO_1308001.out BK1299.out (by decide)) (fun _ hk => hk.2) (.int .i64 t1301)) (fun _ hk => hk.2) (.slice Ao11 t1302.length co11)) (fun _ hk => hk.1.2), by (with_reducible repeat (first | apply Kd.R_alloc | apply Kd.R_drewN | apply Kd.R_drew)); exact Kd.R_mono (Kd.R_far (p := ⟨gb1299, 1, none⟩) (Kd.R_far (p := ⟨gb1299, 0, none⟩) (Kd.R_types HO1314.out BK1299.out (by decide)) (fun _ hk => hk.2) (.int .i64 t1301)) (fun _ hk => hk.2) (.slice Ao11 t1302.length co11)) (fun _ hk => hk.1.2), by exact bl74_2 HB.out HI1300.out GE1299.out GE1307.out⟩
   ·replace c24 := Bool.eq_false_iff.mpr c24
    subst c24
    replace H := ifF H
    obtain ⟨t1315, A30, H⟩ := obE H
    obtain ⟨⟨t1316, t1319, t1320⟩, A31, H⟩ := obE H
    dsimp only at H
    simp only [Option.some.injEq, Prod.mk.injEq] at H
    obtain ⟨rfl, rfl, rfl⟩ := H
    try go_wp2
    replace HO_1308001 := Aside0.mk (Kd.R_drew HO_1308001.out)
    replace BK1299 := Aside0.mk (blk_drew BK1299.out)
    replace BK1307 := Aside0.mk (blk_drew BK1307.out)
    replace HI1300 := Aside0.mk (IsS74.drew HI1300.out)
    replace HB := Aside0.mk (below_drew1 HB.out)
    refine start_ (n := 8) (S := fun w' => w'.cell? ⟨gb1307, 0, none⟩ = some (.int .i64 t1301) ∧ w'.cell? ⟨gb1307, 1, none⟩ = some (.slice Ao11 t1302.length co11)) (ds := []) (bm 8 0) (by kernel_rfl) rfl (by kernel_rfl) ⟨(blk_cell BK1307.out 0).trans rfl, (blk_cell BK1307.out 1).trans rfl⟩ (fun hHeld => ?_); refine with_tabW spec_DrawIsExtension.tab5 spec_DrawIsExtension.bits5 (fun HT_ HW_ => ?_)
    generalize wc.drew = w32 at HO_1308001 BK1299 BK1307 HI1300 HB hHeld ⊢
    refine pureW 1 (some 21) (bm 8 2) HT_ ?_
    refine pureW 2 (some 22) (bm 8 6) HT_ ?_
    refine takeW 0 (some 20) (bm 8 7) HT_ HW_ hHeld ?_
    refine takeW 3 (some 23) (bm 8 15) HT_ HW_ hHeld ?_
    refine oneW 4 (some 24) (bm 8 31) HT_ (fun K hK => ?_)
    refine goesR Tryd.func129 #[.int .i64 0, .int .i64 t1301] ?_
    with_reducible refine (spec_l1Most.calls 0 t1301 t1315 _ A30.out).mono ?_
    rintro e w' ⟨rfl, ⟨nd, rfl⟩⟩
    refine ⟨_, rfl, ?_⟩
    refine hK.out _ _ ⟨(blk_cell BK1307.out 0).trans rfl, (blk_cell BK1307.out 1).trans rfl⟩ (fun hHeld => ?_)
    clear hK K
    refine normW 24 ?_
    refine oneW 5 (some 25) (bm 8 63) HT_ (fun K hK => ?_)
    refine goesR Tryd.func128 #[.pointer (some ⟨gb1300, 0, none⟩), .int .i64 t1315] ?_
    with_reducible refine (spec_l1Cur_names.calls kj2 gb1300 l0 x1301001_2 x1301002_2 t1315 t1316 t1319 t1320 w _ ?side1 ?side2 A31.out).mono ?_
    (case side1 => exact st74_2 HI1300.out NB1300_1299.out NB1300_1307.out)
    (case side2 => exact bl74_2 HB.out HI1300.out GE1299.out GE1307.out)
    rintro e w33 ⟨v1317, rfl, ho0, hi, hb, hk⟩
    refine ⟨_, rfl, ?_⟩
    replace BK1299 := Aside0.mk (KeepBut.blk hk (g' := gb1299) (o := .cells #[.int .i64 0, .slice none 0 0] 28 (0, 0)) (blk_g BK1299.out) NB1299_1300.out (by simp))
    replace BK1307 := Aside0.mk (KeepBut.blk hk (g' := gb1307) (o := .cells #[.int .i64 t1301, .slice Ao11 t1302.length co11] 28 (0, 0)) (blk_g BK1307.out) NB1307_1300.out (by simp))
    have HO1318 := Aside0.mk (Kd.R_lower (Kd.R_new' ho0 (Kd.R_lt (Kd.R_g HO_1308001.out))) (below_size (by exact bl74_2 HB.out HI1300.out GE1299.out GE1307.out)))
    replace HO_1308001 := Aside0.mk (Kd.R_mono (Kd.R_told (Kd.R_oldK (IsS74.apart (show IsS74 w _ gb1300 l0 x1301001_2 x1301002_2 from by exact st74_2 HI1300.out NB1300_1299.out NB1300_1307.out) (Kd.R_g HO_1308001.out) (by decide)) hk) (Kd.R_base ho0)) (fun _ h_ => h_.1))
    replace HI1300 := Aside0.mk (hi)
    replace HB := Aside0.mk (hb)
    (try clear hb)
    (try clear hb2)
    (try clear hk)
    (try clear hi)
    (try clear ho0)
    refine hK.out _ _ ⟨(blk_cell BK1307.out 0).trans rfl, (blk_cell BK1307.out 1).trans rfl⟩ (fun hHeld => ?_)
    clear hK K
    refine normW 25 ?_
    refine oneW 6 (none) (bm 8 127) HT_ (fun K hK => ?_)
    have hs34 : w33.cell? ⟨gb1299, 0, none⟩ = some (.int .i64 0) := (blk_cell BK1299.out 0).trans rfl
    have hfs34 := blk_frozen BK1299.out 0
    have hns34_1 := NB1307_1299.out
    have hms34_1 := NB1299_1307.out
    have hs35 : w33.cell? ⟨gb1299, 1, none⟩ = some (.slice none 0 0) := (blk_cell BK1299.out 1).trans rfl
    have hfs35 := blk_frozen BK1299.out 1
    have hns35_1 := NB1307_1299.out
    have hms35_1 := NB1299_1307.out
    refine skip_ (w1 := ?_) (by rfl) rfl ?_ ?_
    rotate_left
    ·go_simp
     rfl
    refine hK.out _ _ ⟨((cell_far (p := ⟨gb1299, _, none⟩) NB1307_1299.out _).trans (((cell_far (p := ⟨gb1299, _, none⟩) NB1307_1299.out _).trans (hHeld.1)))), ((cell_far (p := ⟨gb1299, _, none⟩) NB1307_1299.out _).trans (((cell_far (p := ⟨gb1299, _, none⟩) NB1307_1299.out _).trans (hHeld.2))))⟩ (fun hHeld => ?_)
    clear hK K
    refine pureW 7 (some 3) (bm 8 255) HT_ ?_
    refine doneW HT_ ?_
    try go_wp2
    refine bodyPost_ret (results_ct rfl _ _ gb1299 28 #[.int .i64 t1301, .slice Ao11 t1302.length co11] (0, 0) _ rfl (by (with_reducible repeat (first | refine blk_drewN ?_ _ | refine blk_drew ?_ | refine blk_alloc ?_ _)); refine blk_put (cs := #[.int .i64 t1301, .slice none 0 0]) ?_ 1 _ rfl; (with_reducible repeat (first | refine blk_drewN ?_ _ | refine blk_drew ?_ | refine blk_alloc ?_ _)); refine blk_put (cs := #[.int .i64 0, .slice none 0 0]) ?_ 0 _ rfl; (with_reducible repeat (first | refine blk_drewN ?_ _ | refine blk_drew ?_ | refine blk_alloc ?_ _)); exact BK1299.out) Tryd.underlying28 rfl (by kernel_rfl)) rfl ?_
    exact ⟨_, _, eqE, by (with_reducible repeat (first | apply Kd.R_alloc | apply Kd.R_drewN | apply Kd.R_drew)); exact Kd.R_mono (Kd.R_far (p := ⟨gb1299, 1, none⟩) (Kd.R_far (p := ⟨gb1299, 0, none⟩) (Kd.R_types HO_1308001.out BK1299.out (by decide)) (fun _ hk => hk.2) (.int .i64 t1301)) (fun _ hk => hk.2) (.slice Ao11 t1302.length co11)) (fun _ hk => hk.1.2), by (with_reducible repeat (first | apply Kd.R_alloc | apply Kd.R_drewN | apply Kd.R_drew)); exact Kd.R_mono (Kd.R_far (p := ⟨gb1299, 1, none⟩) (Kd.R_far (p := ⟨gb1299, 0, none⟩) (Kd.R_types HO1318.out BK1299.out (by decide)) (fun _ hk => hk.2) (.int .i64 t1301)) (fun _ hk => hk.2) (.slice Ao11 t1302.length co11)) (fun _ hk => hk.1.2), by exact bl74_2 HB.out HI1300.out GE1299.out GE1307.out⟩

end Go.Proofs.YteechpappfagpaaDoor.Q
