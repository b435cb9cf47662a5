import Derived.Test.YtmdnbjhboppkdaaDoorBFnMajorities4
import Derived.Test.YtmdnbjhboppkdaaDoorBFnMajorities19
import Derived.Test.YtmdnbjhboppkdaaDoorBFnMajorities20
namespace Go.Proofs.YtmdnbjhboppkdaaDoor.Q
open Go.RowKit Go.Proofs.YtmdnbjhboppkdaaDoorW.PrintWords Go.Proofs.YtmdnbjhboppkdaaDoorW.PrintLast Go.Proofs.YtmdnbjhboppkdaaDoorW.PrintMore
attribute [local go_sem] max2_int min2_int max_two min_two max_three min_three max_four min_four neB_f
set_option linter.unusedVariables false
set_option maxHeartbeats 8000000
set_option maxRecDepth 100000
set_option linter.unusedSimpArgs false
mutual
def spec_l1Cur_both.j0 : Nat → Bool → List Int → Int → Int → Int → List Int → Option (Int × List Int × Int × List Int × Int × Int)
 | 0, _, _, _, _, _, _ => none
 | k + 1, x14, x1000, x1001, x1002, x654000, x654001 => if x14 = true then ((spec_l1Cur_anyOrder.f k x1000 x1001 x1002 6).bind fun bt658 => (some (x654000, x654001, bt658.1, bt658.2.1, bt658.2.2.1, bt658.2.2.2))) else ((spec_l1Cur_pick.f x1000 x1001 x1002 3).bind fun bt664 => (if bt664.1 = 0 then ((spec_l1Cur_levels.f k x1000 bt664.2.1 bt664.2.2 x654000).bind fun bt667 => ((spec_weOfNumbers.f k bt667.1).bind fun t672 => ((spec_weOrder.f k t672).bind fun bt675 => (some (x654000, x654001, bt675.1, bt675.2, bt667.2.1, bt667.2.2))))) else (if bt664.1 = 1 then ((spec_l1Own.f x654001).bind fun t679 => (if x654000 > 0 then ((spec_l1Cur_pick.f x1000 bt664.2.1 bt664.2.2 x654000).bind fun bt683 => (if 0 ≤ bt683.1 then (if bt683.1 < (t679.length : Int) then (spec_l1Cur_both.j1 k x1000 bt683.2.1 bt683.2.2 x654000 x654001 x654000 (t679.set (bt683.1 : Int).toNat 0)) else (none)) else (none))) else (spec_l1Cur_both.j1 k x1000 bt664.2.1 bt664.2.2 x654000 x654001 x654000 t679))) else ((spec_orMirror.f k x654000 x654001).bind fun bt695 => (some (x654000, x654001, bt695.1, bt695.2, bt664.2.1, bt664.2.2))))))
def spec_l1Cur_both.j1 : Nat → List Int → Int → Int → Int → List Int → Int → List Int → Option (Int × List Int × Int × List Int × Int × Int)
 | 0, _, _, _, _, _, _, _ => none
 | k + 1, x1000, x1001, x1002, x654000, x654001, x683000, x683001 => (spec_orGood.f k x683000 x683001).bind fun t687 => (if t687 = true then ((spec_l1Cur_one.f x1000 x1001 x1002 2).bind fun bt688 => (if bt688.1 = true then (some (x683000, x683001, x654000, x654001, bt688.2.1, bt688.2.2)) else (some (x654000, x654001, x683000, x683001, bt688.2.1, bt688.2.2)))) else ((spec_orMirror.f k x654000 x654001).bind fun bt691 => (some (x654000, x654001, bt691.1, bt691.2, x1001, x1002))))
end
def spec_l1Cur_both.f (k : Nat) (s0_0 : List Int) (s0_1 : Int) (s0_2 : Int) : Option (Int × List Int × Int × List Int × Int × Int) := (spec_l1Cur_anyOrder.f k s0_0 s0_1 s0_2 6).bind fun bt647 => ((spec_orGood.f k bt647.1 bt647.2.1).bind fun t654 => (if t654 = true then ((spec_l1Cur_one.f s0_0 bt647.2.2.1 bt647.2.2.2 8).bind fun bt655 => (spec_l1Cur_both.j0 k bt655.1 s0_0 bt655.2.1 bt655.2.2 bt647.1 bt647.2.1)) else (spec_l1Cur_both.j0 k true s0_0 bt647.2.2.1 bt647.2.2.2 bt647.1 bt647.2.1)))
theorem spec_l1Cur_both.mono_l : ∀ k, (∀ y0 y1 y2 y3 y4 y5, LeO (spec_l1Cur_both.j0 k y0 y1 y2 y3 y4 y5) (spec_l1Cur_both.j0 (k + 1) y0 y1 y2 y3 y4 y5)) ∧ (∀ y0 y1 y2 y3 y4 y5 y6, LeO (spec_l1Cur_both.j1 k y0 y1 y2 y3 y4 y5 y6) (spec_l1Cur_both.j1 (k + 1) y0 y1 y2 y3 y4 y5 y6))
 | 0 => ⟨fun _ _ _ _ _ _ r h => by simp [spec_l1Cur_both.j0] at h, fun _ _ _ _ _ _ _ r h => by simp [spec_l1Cur_both.j1] at h⟩
 | k + 1 => by
  obtain ⟨ih0, ih1⟩ := spec_l1Cur_both.mono_l k
  refine ⟨?_, ?_⟩ <;> intros
  unfold spec_l1Cur_both.j0
  rotate_left
  unfold spec_l1Cur_both.j1
  rotate_left
  all_goals repeat' (with_reducible first|apply ih0|apply ih1|apply spec_l1Cur_anyOrder.mono|apply spec_l1Cur_levels.mono|apply spec_orGood.mono|apply spec_orMirror.mono|apply spec_weOfNumbers.mono|apply spec_weOrder.mono|apply LeO.refl|apply LeO.none|apply LeO.ite|apply LeO.bind|intro)
theorem spec_l1Cur_both.mono : ∀ a0 a1 a2 k, LeO (spec_l1Cur_both.f k a0 a1 a2) (spec_l1Cur_both.f (k + 1) a0 a1 a2) := by
 intro a0 a1 a2 k
 obtain ⟨ih0, ih1⟩ := spec_l1Cur_both.mono_l k
 unfold spec_l1Cur_both.f
 repeat' (with_reducible first|apply ih0|apply ih1|apply spec_l1Cur_anyOrder.mono|apply spec_l1Cur_levels.mono|apply spec_orGood.mono|apply spec_orMirror.mono|apply spec_weOfNumbers.mono|apply spec_weOrder.mono|apply LeO.refl|apply LeO.none|apply LeO.ite|apply LeO.bind|intro)
def spec_l1Cur_both.T6 : Bool × List (List Nat × List Nat) := (true, [([], []), ([], []), ([], []), ([2], [2]), ([1, 3], [1, 3]), ([4, 4], [4]), ([5, 5], [5]), ([0, 6, 0], [0]), ([6, 7, 0, 1, 2, 3, 4, 5, 6, 7], [6])])
def spec_l1Cur_both.B6 : List Nat := [0, 0, 0, 4, 14, 30, 62, 127, 255]
theorem spec_l1Cur_both.tab6 : rtab .any (opsOf Tryd.f52 6) = spec_l1Cur_both.T6 := by kernel_rfl
theorem spec_l1Cur_both.bits6 : waitsOk spec_l1Cur_both.T6.2 spec_l1Cur_both.B6 = true := by kernel_rfl
def spec_l1Cur_both.T8 : Bool × List (List Nat × List Nat) := (true, [([], []), ([0], [0]), ([], []), ([2], [2]), ([3], [3]), ([1, 4], [1, 4]), ([], []), ([6, 5, 4, 0, 1, 2, 3, 4, 5, 6], [5, 6])])
def spec_l1Cur_both.B8 : List Nat := [0, 1, 0, 4, 12, 31, 0, 127]
theorem spec_l1Cur_both.tab8 : rtab .any (opsOf Tryd.f52 8) = spec_l1Cur_both.T8 := by kernel_rfl
theorem spec_l1Cur_both.bits8 : waitsOk spec_l1Cur_both.T8.2 spec_l1Cur_both.B8 = true := by kernel_rfl
def spec_l1Cur_both.T10 : Bool × List (List Nat × List Nat) := (true, [([], []), ([0], [0]), ([], []), ([], []), ([3], [3]), ([2, 4], [2, 4]), ([1, 5, 0, 1, 2, 3, 4, 5], [1, 5]), ([6, 5, 0, 1, 2, 3, 4, 5], [6])])
def spec_l1Cur_both.B10 : List Nat := [0, 1, 0, 0, 8, 28, 63, 127]
theorem spec_l1Cur_both.tab10 : rtab .any (opsOf Tryd.f52 10) = spec_l1Cur_both.T10 := by kernel_rfl
theorem spec_l1Cur_both.bits10 : waitsOk spec_l1Cur_both.T10.2 spec_l1Cur_both.B10 = true := by kernel_rfl
theorem spec_l1Cur_both.calls (k : Nat) (g : Nat) (s0_0 : List Int) (s0_1 : Int) (s0_2 : Int) (r1 : Int) (r2 : List Int) (r3 : Int) (r4 : List Int) (r5 : Int) (r6 : Int) (w0 w : World) (hI : IsS46 w0 w g s0_0 s0_1 s0_2) (hB : Below w0.heap.size w0 w) (h : spec_l1Cur_both.f k s0_0 s0_1 s0_2 = some (r1, r2, r3, r4, r5, r6)) :
  Calls Tryd.prog 52 #[.pointer (some ⟨g, 0, none⟩)] w fun e w' => ∃ v1_ v3_ : Value, e = .returned (.tuple #[.agg #[.int .i64 r1, v1_], .agg #[.int .i64 r3, v3_]]) ∧ Kd.R (Kd.int .i64) 3 w' w.heap.size (fun k_ => some k_ ≠ (v3_ : Value).ownBlock) v1_ r2 ∧ Kd.R (Kd.int .i64) 3 w' w.heap.size (fun k_ => some k_ ≠ (v1_ : Value).ownBlock) v3_ r4 ∧ IsS46 w0 w' g s0_0 r5 r6 ∧ Below w0.heap.size w0 w' ∧ KeepBut w w' g none := by
 have hu28 := Tryd.underlying28
 have HI0 := mkA hI
 have HK := mkA (KeepBut.refl w g none)
 have HL := mkA hB.size
 clear hI
 have HW0 := mkA hB.size
 have HB := mkA hB
 clear hB
 have H := h
 clear h
 unfold spec_l1Cur_both.f at H
 obtain ⟨⟨t647, t648, t651, t652⟩, A2, H⟩ := obE H
 dsimp only at H
 have HC3 := mkA H
 clear H
 go_enter Tryd.func52, Tryd.ntmps52
 go_upto_region 2 with (first | ((with_reducible refine gate_dst (N := 2) rfl ?_); refine boxE (N := 2) (cs := #[.int .i64 0, .slice none 0 0]) (t := 28) ?_; intro gb645 hg w4 hbox hb; have BK645 := mkA (hbox); have GW645 := mkA ((by rw [hg]; exact (keep_size (w := w) (g := g) (row := none) (by exact kb46_0 HK.out)) : w.heap.size ≤ gb645)); have GE645 := mkA (Nat.le_trans HW0.out GW645.out); replace HK := kU (g := g) (by exact kb46_0 HK.out) hb; have NB0_645 : NeB _ _ := ⟨(by rw [hg]; exact Nat.ne_of_lt (IsS46.lt (show IsS46 w0 _ g s0_0 s0_1 s0_2 from by exact st46_0 HI0.out)) : g ≠ gb645)⟩; have NB645_0 : NeB _ _ := ⟨(by rw [hg]; exact Nat.ne_of_gt (IsS46.lt (show IsS46 w0 _ g s0_0 s0_1 s0_2 from by exact st46_0 HI0.out)) : gb645 ≠ g)⟩; replace HB := mkA (below_step (by exact bl46_0 HB.out HI0.out) hb); replace HI0 := mkA (IsS46.below (by exact st46_0 HI0.out) hb); clear hb hbox hg) | ((with_reducible refine gate_dst (N := 3) rfl ?_); refine boxE (N := 3) (cs := #[.int .i64 0, .slice none 0 0]) (t := 28) ?_; intro gb646 hg w5 hbox hb; have BK646 := mkA (hbox); have GW646 := mkA ((by rw [hg]; exact (keep_size (w := w) (g := g) (row := none) (by exact kb46_1 HK.out GW645.out)) : w.heap.size ≤ gb646)); have GE646 := mkA (Nat.le_trans HW0.out GW646.out); replace HK := kU (g := g) (by exact kb46_1 HK.out GW645.out) hb; have NB645_646 := neL7 BK645 hg; have NB646_645 := neR7 BK645 hg; replace BK645 := blkB BK645 hb; have NB0_646 : NeB _ _ := ⟨(by rw [hg]; exact Nat.ne_of_lt (IsS46.lt (show IsS46 w0 _ g s0_0 s0_1 s0_2 from by exact st46_1 HI0.out NB0_645.out)) : g ≠ gb646)⟩; have NB646_0 : NeB _ _ := ⟨(by rw [hg]; exact Nat.ne_of_gt (IsS46.lt (show IsS46 w0 _ g s0_0 s0_1 s0_2 from by exact st46_1 HI0.out NB0_645.out)) : gb646 ≠ g)⟩; replace HB := mkA (below_step (by exact bl46_1 HB.out HI0.out GE645.out) hb); replace HI0 := mkA (IsS46.below (by exact st46_1 HI0.out NB0_645.out) hb); clear hb hbox hg) | ((with_reducible refine gate_callee (f := 68) rfl ?_); refine goesQ (some 7) Tryd.func68 #[.pointer (some ⟨g, 0, none⟩), .int .i64 6] ?_; (with_reducible refine (spec_l1Cur_anyOrder.calls k g s0_0 s0_1 s0_2 6 t647 t648 t651 t652 w0 _ ?_ ?_ A2.out).mono ?_); exact st46_2 HI0.out NB0_645.out NB0_646.out; exact bl46_2 HB.out HI0.out GE645.out GE646.out; rintro e w6 ⟨v649, rfl, ho0, hi, hb, hk⟩; refine ⟨_, rfl, ?_⟩; replace BK645 := kB hk BK645; replace BK646 := kB hk BK646; have HO650 := mkA (Kd.R_lower ho0 (keep_size (w := w) (g := g) (row := none) (by exact kb46_2 HK.out GW645.out GW646.out))); replace HK := kT (by exact kb46_2 HK.out GW645.out GW646.out) hk; replace HI0 := mkA (hi); replace HB := mkA (hb); clear hb hk hi ho0) | ((with_reducible refine gate_dst (N := 4) rfl ?_); refine boxE (N := 4) (cs := #[.int .i64 0, .slice none 0 0]) (t := 28) ?_; intro gb653 hg w7 hbox hb; replace HO650 := rB HO650 hb; have BK653 := mkA (hbox); have GW653 := mkA ((by rw [hg]; exact (keep_size (w := w) (g := g) (row := none) (by exact kb46_2 HK.out GW645.out GW646.out)) : w.heap.size ≤ gb653)); have GE653 := mkA (Nat.le_trans HW0.out GW653.out); replace HK := kU (g := g) (by exact kb46_2 HK.out GW645.out GW646.out) hb; have NB645_653 := neL7 BK645 hg; have NB653_645 := neR7 BK645 hg; replace BK645 := blkB BK645 hb; have NB646_653 := neL7 BK646 hg; have NB653_646 := neR7 BK646 hg; replace BK646 := blkB BK646 hb; have NB0_653 : NeB _ _ := ⟨(by rw [hg]; exact Nat.ne_of_lt (IsS46.lt (show IsS46 w0 _ g s0_0 t651 t652 from by exact st46_2 HI0.out NB0_645.out NB0_646.out)) : g ≠ gb653)⟩; have NB653_0 : NeB _ _ := ⟨(by rw [hg]; exact Nat.ne_of_gt (IsS46.lt (show IsS46 w0 _ g s0_0 t651 t652 from by exact st46_2 HI0.out NB0_645.out NB0_646.out)) : gb653 ≠ g)⟩; replace HB := mkA (below_step (by exact bl46_2 HB.out HI0.out GE645.out GE646.out) hb); replace HI0 := mkA (IsS46.below (by exact st46_2 HI0.out NB0_645.out NB0_646.out) hb); clear hb hbox hg; obtain ⟨_, _, _, _⟩ := blk2 BK653; obtain ⟨Ao12, co12, rfl⟩ := Kd.R_slice HO650.out))
 (try simp only [Act.put, List.setIfInBounds_toArray, List.set_cons_zero, List.set_cons_succ])
 go_cut [14] (fun v14 wc => ∃ (kq : Nat) (x14_2 : Bool) (x1001_2 : Int) (x1002_2 : Int), v14 = .bool x14_2 ∧ Fc (spec_l1Cur_both.j0 kq x14_2 s0_0 x1001_2 x1002_2 t647 t648 = some (r1, r2, r3, r4, r5, r6)) ∧ Fc (kq ≤ k) ∧ Fc (Kd.R (Kd.int .i64) 3 wc w.heap.size (fun _ => True) (.slice Ao12 t648.length co12) t648) ∧ Fc (wc.heap[gb645]? = some (.cells #[.int .i64 0, (.slice none 0 0)] 28 (0, 0))) ∧ Fc (wc.heap[gb646]? = some (.cells #[.int .i64 0, (.slice none 0 0)] 28 (0, 0))) ∧ Fc (wc.heap[gb653]? = some (.cells #[.int .i64 t647, (.slice Ao12 t648.length co12)] 28 (0, 0))) ∧ Fc (IsS46 w0 wc g s0_0 x1001_2 x1002_2) ∧ Fc (KeepBut w wc g none) ∧ Fc (Below w0.heap.size w0 wc))
 case first =>
  have H := HC3.out
  clear HC3
  obtain ⟨t654, A13, H⟩ := obE H
  by_cases c14 : t654 = true
  ·subst c14
   replace H := ifT H
   obtain ⟨⟨t655, t656, t657⟩, A15, H⟩ := obE H
   dsimp only at H
   have H' := mkA H
   clear H
   obtain ⟨_, _, _, _⟩ := blk2 BK653
   go_wp2_with (first | ((with_reducible refine gate_callee (f := 35) rfl ?_); refine goesQ (some 9) Tryd.func35 #[.agg #[.int .i64 t647, .slice Ao12 t648.length co12]] ?_; (with_reducible refine (spec_orGood.calls k t647 _ _ t648 true _ ?_ ?_ A13.out).mono ?_); exact rCF HO650 BK653; exact rL HO650; rintro e w20 ⟨rfl, hb⟩; refine ⟨_, rfl, ?_⟩; replace HO650 := mkA (Kd.R_below (rFg HO650 BK653) hb); replace BK645 := blkS BK645 hb; replace BK646 := blkS BK646 hb; replace BK653 := blkS BK653 hb; replace HK := kU (g := g) (by exact kb46_3 HK.out GW645.out GW646.out GW653.out) hb; replace HB := mkA (below_step (by exact bl46_3 HB.out HI0.out GE645.out GE646.out GE653.out) hb); replace HI0 := mkA (IsS46.below (show IsS46 w0 ((w7.setCell ⟨gb653, 0, none⟩ (.int .i64 t647)).setCell ⟨gb653, 1, none⟩ (.slice Ao12 t648.length co12)) g s0_0 t651 t652 from by exact st46_3 HI0.out NB0_645.out NB0_646.out NB0_653.out) hb); clear hb) | (go_at_call 40; (with_reducible refine (spec_l1Cur_one.calls g s0_0 t651 t652 8 t655 t656 t657 w0 _ ?_ ?_ A15.out).mono ?_); exact st46_3 HI0.out NB0_645.out NB0_646.out NB0_653.out; exact bl46_3 HB.out HI0.out GE645.out GE646.out GE653.out; rintro e w21 ⟨rfl, hi, hb, hk⟩; replace BK645 := kB hk BK645; replace BK646 := kB hk BK646; replace HO650 := rK (IsS46.apart (show IsS46 w0 _ g s0_0 t651 t652 from by exact st46_3 HI0.out NB0_645.out NB0_646.out NB0_653.out) (Kd.R_g HO650.out) (by decide)) hk; replace BK653 := kB hk BK653; replace HK := kT (by exact kb46_3 HK.out GW645.out GW646.out GW653.out) hk; replace HI0 := mkA (hi); replace HB := mkA (hb); clear hb hk hi))
   go_meet
   case rel => exact ⟨_, (t655), (t656), (t657), eqS, H', ⟨by first | omega | exact Nat.le_refl _⟩, rg HO650, bg BK645, bg BK646, bg BK653, ⟨by exact st46_3 HI0.out NB0_645.out NB0_646.out NB0_653.out⟩, ⟨by exact kb46_3 HK.out GW645.out GW646.out GW653.out⟩, ⟨by exact bl46_3 HB.out HI0.out GE645.out GE646.out GE653.out⟩⟩
  ·replace c14 := Bool.eq_false_iff.mpr c14
   subst c14
   replace H := ifF H
   have H' := mkA H
   clear H
   obtain ⟨_, _, _, _⟩ := blk2 BK653
   go_wp2_with (first | ((with_reducible refine gate_callee (f := 35) rfl ?_); refine goesQ (some 9) Tryd.func35 #[.agg #[.int .i64 t647, .slice Ao12 t648.length co12]] ?_; (with_reducible refine (spec_orGood.calls k t647 _ _ t648 false _ ?_ ?_ A13.out).mono ?_); exact rCF HO650 BK653; exact rL HO650; rintro e w26 ⟨rfl, hb⟩; refine ⟨_, rfl, ?_⟩; replace HO650 := mkA (Kd.R_below (rFg HO650 BK653) hb); replace BK645 := blkS BK645 hb; replace BK646 := blkS BK646 hb; replace BK653 := blkS BK653 hb; replace HK := kU (g := g) (by exact kb46_3 HK.out GW645.out GW646.out GW653.out) hb; replace HB := mkA (below_step (by exact bl46_3 HB.out HI0.out GE645.out GE646.out GE653.out) hb); replace HI0 := mkA (IsS46.below (show IsS46 w0 ((w7.setCell ⟨gb653, 0, none⟩ (.int .i64 t647)).setCell ⟨gb653, 1, none⟩ (.slice Ao12 t648.length co12)) g s0_0 t651 t652 from by exact st46_3 HI0.out NB0_645.out NB0_646.out NB0_653.out) hb); clear hb))
   go_meet
   case rel => exact ⟨_, (true), (t651), (t652), eqS, H', ⟨by first | omega | exact Nat.le_refl _⟩, rg HO650, bg BK645, bg BK646, bg BK653, ⟨by exact st46_3 HI0.out NB0_645.out NB0_646.out NB0_653.out⟩, ⟨by exact kb46_3 HK.out GW645.out GW646.out GW653.out⟩, ⟨by exact bl46_3 HB.out HI0.out GE645.out GE646.out GE653.out⟩⟩
 case rest =>
  clear HC3
  try clear c14
  obtain ⟨kq, x14_2, x1001_2, x1002_2, rfl, HA, HJ2, HO_654001, BK645, BK646, BK653, HI0, HK, HB⟩ := hcut
  cases kq with
  | zero => exact absurd HA.out (by simp [spec_l1Cur_both.j0])
  | succ kj2 =>
   have H := HA.out
   clear HA
   simp only [spec_l1Cur_both.j0] at H
   by_cases c27 : x14_2 = true
   ·subst c27
    replace H := ifT H
    obtain ⟨⟨t658, t659, t662, t663⟩, A28, H⟩ := obE H
    dsimp only at H
    simp only [Option.some.injEq, Prod.mk.injEq] at H
    obtain ⟨rfl, rfl, rfl, rfl, rfl, rfl⟩ := H
    try go_wp2
    replace HO_654001 := mkA (Kd.R_drew HO_654001.out)
    replace BK645 := mkA (blk_drew BK645.out)
    replace BK646 := mkA (blk_drew BK646.out)
    replace BK653 := mkA (blk_drew BK653.out)
    replace HI0 := mkA (IsS46.drew HI0.out)
    replace HK := mkA (keep_drew HK.out)
    replace HB := mkA (below_drew1 HB.out)
    refine start_ (n := 5) (S := fun w' => w'.cell? ⟨gb653, 0, none⟩ = some (.int .i64 t647) ∧ w'.cell? ⟨gb653, 1, none⟩ = some (.slice Ao12 t648.length co12)) (ds := []) (bm 5 0) (by kernel_rfl) rfl (by kernel_rfl) ⟨(blk_cell BK653.out 0).trans rfl, (blk_cell BK653.out 1).trans rfl⟩ (fun hHeld => ?_)
    generalize wc.drew = w29 at HO_654001 BK645 BK646 BK653 HI0 HK HB hHeld ⊢
    refine pure_ (i := 1) (N := some 16) (v := ?_) (a' := ?_) (bm 5 2) rfl rfl (by kernel_rfl) (fun _ _ _ h => h) (Or.inl ⟨by rfl, ?_⟩) ?_ ?_
    rotate_left
    ·intro w'
     go_simp
     with_reducible rfl
    rotate_left
    ·simp only [Act.put, List.setIfInBounds_toArray, List.set_cons_zero, List.set_cons_succ, i64_w, i32_w]
     rfl
    refine take_ (i := 0) (N := some 15) (v := ?_) (a' := ?_) (bm 5 3) rfl rfl (by kernel_rfl) (fun _ _ _ h => h) (Or.inl ⟨by rfl, ?_⟩) hHeld ?_ ?_
    rotate_left
    ·rintro w' ⟨s0, s1⟩
     go_simp
     with_reducible rfl
    rotate_left
    ·simp only [Act.put, List.setIfInBounds_toArray, List.set_cons_zero, List.set_cons_succ, i64_w, i32_w]
     rfl
    refine one_ (i := 2) (N := some 17) (bm 5 7) rfl rfl (by kernel_rfl) (by decide) (fun K hK => ?_)
    refine goesR Tryd.func68 #[.pointer (some ⟨g, 0, none⟩), .int .i64 6] ?_
    with_reducible refine (spec_l1Cur_anyOrder.calls kj2 g s0_0 x1001_2 x1002_2 6 t658 t659 t662 t663 w0 _ ?s1 ?s2 A28.out).mono ?_
    (case s1 => exact st46_3 HI0.out NB0_645.out NB0_646.out NB0_653.out)
    (case s2 => exact bl46_3 HB.out HI0.out GE645.out GE646.out GE653.out)
    rintro e w30 ⟨v660, rfl, ho0, hi, hb, hk⟩
    refine ⟨_, rfl, ?_⟩
    replace BK645 := kB hk BK645
    replace BK646 := kB hk BK646
    replace BK653 := kB hk BK653
    have HO661 := mkA (Kd.R_lower (rN ho0 HO_654001) (keep_size (w := w) (g := g) (row := none) (by exact kb46_3 HK.out GW645.out GW646.out GW653.out)))
    replace HO_654001 := mkA (Kd.R_mono (Kd.R_told (Kd.R_oldK (IsS46.apart (show IsS46 w0 _ g s0_0 x1001_2 x1002_2 from by exact st46_3 HI0.out NB0_645.out NB0_646.out NB0_653.out) (Kd.R_g HO_654001.out) (by decide)) hk) (Kd.R_base ho0)) (fun _ h_ => h_.1))
    replace HK := kT (by exact kb46_3 HK.out GW645.out GW646.out GW653.out) hk
    replace HI0 := mkA (hi)
    replace HB := mkA (hb)
    (try clear hb)
    (try clear hb2)
    (try clear hk)
    (try clear hi)
    (try clear ho0)
    obtain ⟨Ao34, co34, eo34⟩ := Kd.R_slice HO661.out
    (first | subst eo34 | (injection eo34 with f1_ f2_ f3_; have f4_ := f1_.symm; have f5_ := f3_.symm; clear f1_ f2_ f3_; subst f4_; subst f5_))
    refine hK.out _ _ ⟨(blk_cell BK653.out 0).trans rfl, (blk_cell BK653.out 1).trans rfl⟩ (fun hHeld => ?_)
    clear hK K
    refine normW 17 ?_
    refine one_ (i := 3) (N := none) (bm 5 15) rfl rfl (by kernel_rfl) (by decide) (fun K hK => ?_)
    obtain ⟨_, _, _, _⟩ := blk2 BK645
    refine skip_ (w1 := ?_) (by rfl) rfl ?_ ?_
    rotate_left
    ·go_simp
     rfl
    refine hK.out _ _ ⟨(cF (cF hHeld.1)), (cF (cF hHeld.2))⟩ (fun hHeld => ?_)
    clear hK K
    refine one_ (i := 4) (N := none) (bm 5 31) rfl rfl (by kernel_rfl) (by decide) (fun K hK => ?_)
    obtain ⟨_, _, _, _⟩ := blk2 BK646
    refine skip_ (w1 := ?_) (by rfl) rfl ?_ ?_
    rotate_left
    ·go_simp
     rfl
    refine hK.out _ _ ⟨(cF (cF hHeld.1)), (cF (cF hHeld.2))⟩ (fun hHeld => ?_)
    clear hK K
    refine done_ (by kernel_rfl) ?_
    try go_wp2
    refine bodyPost_ret (results_cc rfl _ _ gb645 gb646 28 28 #[.int .i64 t647, .slice Ao12 t648.length co12] #[.int .i64 t658, .slice Ao34 t659.length co34] (0, 0) (0, 0) _ _ rfl (blkT BK645) Tryd.underlying28 rfl (by kernel_rfl) rfl (blkT BK646) Tryd.underlying28 rfl (by kernel_rfl)) rfl ?_
    exact ⟨_, _, eqE, Kd.R_g (Kd.R_mono (Kd.R_far (p := ⟨gb646, 1, none⟩) (Kd.R_far (p := ⟨gb646, 0, none⟩) (Kd.R_far (p := ⟨gb645, 1, none⟩) (Kd.R_far (p := ⟨gb645, 0, none⟩) (Kd.R_types (Kd.R_types HO_654001.out BK645.out (by decide)) BK646.out (by decide)) (fun _ hk => hk.1.2) (.int .i64 t647)) (fun _ hk => hk.1.2) (.slice Ao12 t648.length co12)) (fun _ hk => hk.2) (.int .i64 t658)) (fun _ hk => hk.2) (.slice Ao34 t659.length co34)) (fun _ hk => hk.1.1.2)), Kd.R_g (Kd.R_mono (Kd.R_far (p := ⟨gb646, 1, none⟩) (Kd.R_far (p := ⟨gb646, 0, none⟩) (Kd.R_far (p := ⟨gb645, 1, none⟩) (Kd.R_far (p := ⟨gb645, 0, none⟩) (Kd.R_types (Kd.R_types HO661.out BK645.out (by decide)) BK646.out (by decide)) (fun _ hk => hk.1.2) (.int .i64 t647)) (fun _ hk => hk.1.2) (.slice Ao12 t648.length co12)) (fun _ hk => hk.2) (.int .i64 t658)) (fun _ hk => hk.2) (.slice Ao34 t659.length co34)) (fun _ hk => hk.1.1.2)), by exact st46_3 HI0.out NB0_645.out NB0_646.out NB0_653.out, by exact bl46_3 HB.out HI0.out GE645.out GE646.out GE653.out, by exact kb46_3 HK.out GW645.out GW646.out GW653.out⟩
   ·replace c27 := Bool.eq_false_iff.mpr c27
    subst c27
    replace H := ifF H
    obtain ⟨⟨t664, t665, t666⟩, A36, H⟩ := obE H
    dsimp only at H
    rcases iteP H with ⟨c37, H⟩ | ⟨c37, H⟩
    ·have c37b0 := beq_iff_eq.mpr c37
     have c37b1 := bne_eq_false_iff_eq.mpr c37
     clear c37
     obtain ⟨⟨t667, t670, t671⟩, A38, H⟩ := obE H
     dsimp only at H
     obtain ⟨t672, A39, H⟩ := obE H
     obtain ⟨⟨t675, t676⟩, A40, H⟩ := obE H
     dsimp only at H
     simp only [Option.some.injEq, Prod.mk.injEq] at H
     obtain ⟨rfl, rfl, rfl, rfl, rfl, rfl⟩ := H
     try go_wp2_with (first | ((with_reducible refine gate_callee (f := 41) rfl ?_); refine goesQ (some 19) Tryd.func41 #[.pointer (some ⟨g, 0, none⟩), .int .i64 3] ?_; (with_reducible refine (spec_l1Cur_pick.calls g s0_0 x1001_2 x1002_2 3 t664 t665 t666 w0 _ ?_ ?_ A36.out).mono ?_); exact st46_3 HI0.out NB0_645.out NB0_646.out NB0_653.out; exact bl46_3 HB.out HI0.out GE645.out GE646.out GE653.out; rintro e w41 ⟨rfl, hi, hb, hk⟩; refine ⟨_, rfl, ?_⟩; replace HO_654001 := rK (IsS46.apart (show IsS46 w0 _ g s0_0 x1001_2 x1002_2 from by exact st46_3 HI0.out NB0_645.out NB0_646.out NB0_653.out) (Kd.R_g HO_654001.out) (by decide)) hk; replace BK645 := kB hk BK645; replace BK646 := kB hk BK646; replace BK653 := kB hk BK653; replace HK := kT (by exact kb46_3 HK.out GW645.out GW646.out GW653.out) hk; replace HI0 := mkA (hi); replace HB := mkA (hb); clear hb hk hi))
     replace HO_654001 := mkA (Kd.R_drew HO_654001.out)
     replace BK645 := mkA (blk_drew BK645.out)
     replace BK646 := mkA (blk_drew BK646.out)
     replace BK653 := mkA (blk_drew BK653.out)
     replace HI0 := mkA (IsS46.drew HI0.out)
     replace HK := mkA (keep_drew HK.out)
     replace HB := mkA (below_drew1 HB.out)
     refine start_ (n := 9) (S := fun w' => w'.cell? ⟨gb653, 0, none⟩ = some (.int .i64 t647) ∧ w'.cell? ⟨gb653, 1, none⟩ = some (.slice Ao12 t648.length co12)) (ds := []) (bm 9 0) (by kernel_rfl) rfl (by kernel_rfl) ⟨(blk_cell BK653.out 0).trans rfl, (blk_cell BK653.out 1).trans rfl⟩ (fun hHeld => ?_); refine with_tabW spec_l1Cur_both.tab6 spec_l1Cur_both.bits6 (fun HT_ HW_ => ?_)
     generalize w41.drew = w42 at HO_654001 BK645 BK646 BK653 HI0 HK HB hHeld ⊢
     refine purW 1 23 9 2 HT_ ?_
     refine purW 2 24 9 6 HT_ ?_
     refine takeW 0 (some 22) (bm 9 7) HT_ HW_ hHeld ?_
     refine takeW 3 (some 25) (bm 9 15) HT_ HW_ hHeld ?_
     refine oneW 4 (some 26) (bm 9 31) HT_ (fun K hK => ?_)
     refine goesR Tryd.func39 #[.pointer (some ⟨g, 0, none⟩), .int .i64 t647] ?_
     with_reducible refine (spec_l1Cur_levels.calls kj2 g s0_0 t665 t666 t647 t667 t670 t671 w0 _ ?s1 ?s2 A38.out).mono ?_
     (case s1 => exact st46_3 HI0.out NB0_645.out NB0_646.out NB0_653.out)
     (case s2 => exact bl46_3 HB.out HI0.out GE645.out GE646.out GE653.out)
     rintro e w43 ⟨v668, rfl, ho0, hi, hb, hk⟩
     refine ⟨_, rfl, ?_⟩
     replace BK645 := kB hk BK645
     replace BK646 := kB hk BK646
     replace BK653 := kB hk BK653
     have HO669 := mkA (Kd.R_lower (rN ho0 HO_654001) (keep_size (w := w) (g := g) (row := none) (by exact kb46_3 HK.out GW645.out GW646.out GW653.out)))
     replace HO_654001 := mkA (Kd.R_mono (Kd.R_told (Kd.R_oldK (IsS46.apart (show IsS46 w0 _ g s0_0 t665 t666 from by exact st46_3 HI0.out NB0_645.out NB0_646.out NB0_653.out) (Kd.R_g HO_654001.out) (by decide)) hk) (Kd.R_base ho0)) (fun _ h_ => h_.1))
     replace HK := kT (by exact kb46_3 HK.out GW645.out GW646.out GW653.out) hk
     replace HI0 := mkA (hi)
     replace HB := mkA (hb)
     (try clear hb)
     (try clear hb2)
     (try clear hk)
     (try clear hi)
     (try clear ho0)
     obtain ⟨Ao44, co44, eo44⟩ := Kd.R_slice HO669.out
     (first | subst eo44 | (injection eo44 with f1_ f2_ f3_; have f4_ := f1_.symm; have f5_ := f3_.symm; clear f1_ f2_ f3_; subst f4_; subst f5_))
     refine hK.out _ _ ⟨(blk_cell BK653.out 0).trans rfl, (blk_cell BK653.out 1).trans rfl⟩ (fun hHeld => ?_)
     clear hK K
     refine normW 26 ?_
     refine oneW 5 (some 27) (bm 9 63) HT_ (fun K hK => ?_)
     refine goesR Tryd.func26 #[.slice Ao44 t667.length co44] ?_
     with_reducible refine (spec_weOfNumbers.calls kj2 _ _ t667 t672 _ ?s1 ?s2 A39.out).mono ?_
     (case s1 => exact rC HO669)
     (case s2 => exact rL HO669)
     rintro e w45 ⟨v673, rfl, ho0, hb⟩
     refine ⟨_, rfl, ?_⟩
     have HO674 := mkA (Kd.R_lower (rN (rN ho0 HO_654001) HO669) (keep_size (w := w) (g := g) (row := none) (by exact kb46_3 HK.out GW645.out GW646.out GW653.out)))
     replace HO_654001 := rE HO_654001 ho0 hb
     replace HO669 := rE HO669 ho0 hb
     replace BK645 := blkB BK645 hb
     replace BK646 := blkB BK646 hb
     replace BK653 := blkB BK653 hb
     replace HK := kU (g := g) (by exact kb46_3 HK.out GW645.out GW646.out GW653.out) hb
     replace HB := mkA (below_step (by exact bl46_3 HB.out HI0.out GE645.out GE646.out GE653.out) hb)
     replace HI0 := mkA (IsS46.below (by exact st46_3 HI0.out NB0_645.out NB0_646.out NB0_653.out) hb)
     (try clear hb)
     (try clear hb2)
     (try clear hk)
     (try clear hi)
     (try clear ho0)
     obtain ⟨Ao46, co46, eo46⟩ := Kd.R_slice HO674.out
     (first | subst eo46 | (injection eo46 with f1_ f2_ f3_; have f4_ := f1_.symm; have f5_ := f3_.symm; clear f1_ f2_ f3_; subst f4_; subst f5_))
     refine hK.out _ _ ⟨(blk_cell BK653.out 0).trans rfl, (blk_cell BK653.out 1).trans rfl⟩ (fun hHeld => ?_)
     clear hK K
     refine normW 27 ?_
     refine oneW 6 (some 28) (bm 9 127) HT_ (fun K hK => ?_)
     refine goesR Tryd.func69 #[.slice Ao46 t672.length co46] ?_
     with_reducible refine (spec_weOrder.calls kj2 _ _ t672 t675 t676 _ ?s1 ?s2 A40.out).mono ?_
     (case s1 => exact rC HO674)
     (case s2 => exact rL HO674)
     rintro e w47 ⟨v677, rfl, ho0, hb⟩
     refine ⟨_, rfl, ?_⟩
     have HO678 := mkA (Kd.R_lower (rN (rN (rN ho0 HO_654001) HO669) HO674) (keep_size (w := w) (g := g) (row := none) (by exact kb46_3 HK.out GW645.out GW646.out GW653.out)))
     replace HO_654001 := rE HO_654001 ho0 hb
     replace HO669 := rE HO669 ho0 hb
     replace HO674 := rE HO674 ho0 hb
     replace BK645 := blkB BK645 hb
     replace BK646 := blkB BK646 hb
     replace BK653 := blkB BK653 hb
     replace HK := kU (g := g) (by exact kb46_3 HK.out GW645.out GW646.out GW653.out) hb
     replace HB := mkA (below_step (by exact bl46_3 HB.out HI0.out GE645.out GE646.out GE653.out) hb)
     replace HI0 := mkA (IsS46.below (by exact st46_3 HI0.out NB0_645.out NB0_646.out NB0_653.out) hb)
     (try clear hb)
     (try clear hb2)
     (try clear hk)
     (try clear hi)
     (try clear ho0)
     obtain ⟨Ao51, co51, eo51⟩ := Kd.R_slice HO678.out
     (first | subst eo51 | (injection eo51 with f1_ f2_ f3_; have f4_ := f1_.symm; have f5_ := f3_.symm; clear f1_ f2_ f3_; subst f4_; subst f5_))
     refine hK.out _ _ ⟨(blk_cell BK653.out 0).trans rfl, (blk_cell BK653.out 1).trans rfl⟩ (fun hHeld => ?_)
     clear hK K
     refine normW 28 ?_
     refine oneW 7 (none) (bm 9 255) HT_ (fun K hK => ?_)
     obtain ⟨_, _, _, _⟩ := blk2 BK645
     refine skip_ (w1 := ?_) (by rfl) rfl ?_ ?_
     rotate_left
     ·go_simp
      rfl
     refine hK.out _ _ ⟨(cF (cF hHeld.1)), (cF (cF hHeld.2))⟩ (fun hHeld => ?_)
     clear hK K
     refine oneW 8 (none) (bm 9 511) HT_ (fun K hK => ?_)
     obtain ⟨_, _, _, _⟩ := blk2 BK646
     refine skip_ (w1 := ?_) (by rfl) rfl ?_ ?_
     rotate_left
     ·go_simp
      rfl
     refine hK.out _ _ ⟨(cF (cF hHeld.1)), (cF (cF hHeld.2))⟩ (fun hHeld => ?_)
     clear hK K
     refine doneW HT_ ?_
     try go_wp2
     refine bodyPost_ret (results_cc rfl _ _ gb645 gb646 28 28 #[.int .i64 t647, .slice Ao12 t648.length co12] #[.int .i64 t675, .slice Ao51 t676.length co51] (0, 0) (0, 0) _ _ rfl (blkT BK645) Tryd.underlying28 rfl (by kernel_rfl) rfl (blkT BK646) Tryd.underlying28 rfl (by kernel_rfl)) rfl ?_
     exact ⟨_, _, eqE, Kd.R_g (Kd.R_mono (Kd.R_far (p := ⟨gb646, 1, none⟩) (Kd.R_far (p := ⟨gb646, 0, none⟩) (Kd.R_far (p := ⟨gb645, 1, none⟩) (Kd.R_far (p := ⟨gb645, 0, none⟩) (Kd.R_types (Kd.R_types HO_654001.out BK645.out (by decide)) BK646.out (by decide)) (fun _ hk => hk.1.2) (.int .i64 t647)) (fun _ hk => hk.1.2) (.slice Ao12 t648.length co12)) (fun _ hk => hk.2) (.int .i64 t675)) (fun _ hk => hk.2) (.slice Ao51 t676.length co51)) (fun _ hk => hk.1.1.2)), Kd.R_g (Kd.R_mono (Kd.R_far (p := ⟨gb646, 1, none⟩) (Kd.R_far (p := ⟨gb646, 0, none⟩) (Kd.R_far (p := ⟨gb645, 1, none⟩) (Kd.R_far (p := ⟨gb645, 0, none⟩) (Kd.R_types (Kd.R_types HO678.out BK645.out (by decide)) BK646.out (by decide)) (fun _ hk => hk.1.2) (.int .i64 t647)) (fun _ hk => hk.1.2) (.slice Ao12 t648.length co12)) (fun _ hk => hk.2) (.int .i64 t675)) (fun _ hk => hk.2) (.slice Ao51 t676.length co51)) (fun _ hk => hk.1.1.1.1.2)), by exact st46_3 HI0.out NB0_645.out NB0_646.out NB0_653.out, by exact bl46_3 HB.out HI0.out GE645.out GE646.out GE653.out, by exact kb46_3 HK.out GW645.out GW646.out GW653.out⟩
    ·have c37b0 := beq_eq_false_iff_ne.mpr c37
     have c37b1 := bne_iff_ne.mpr c37
     rcases iteP H with ⟨c53, H⟩ | ⟨c53, H⟩
     ·have c53b0 := beq_iff_eq.mpr c53
      have c53b1 := bne_eq_false_iff_eq.mpr c53
      clear c53
      obtain ⟨t679, A54, H⟩ := obE H
      have HC55 := mkA H
      clear H
      try go_wp2_with (first | ((with_reducible refine gate_callee (f := 41) rfl ?_); refine goesQ (some 19) Tryd.func41 #[.pointer (some ⟨g, 0, none⟩), .int .i64 3] ?_; (with_reducible refine (spec_l1Cur_pick.calls g s0_0 x1001_2 x1002_2 3 t664 t665 t666 w0 _ ?_ ?_ A36.out).mono ?_); exact st46_3 HI0.out NB0_645.out NB0_646.out NB0_653.out; exact bl46_3 HB.out HI0.out GE645.out GE646.out GE653.out; rintro e w56 ⟨rfl, hi, hb, hk⟩; refine ⟨_, rfl, ?_⟩; replace HO_654001 := rK (IsS46.apart (show IsS46 w0 _ g s0_0 x1001_2 x1002_2 from by exact st46_3 HI0.out NB0_645.out NB0_646.out NB0_653.out) (Kd.R_g HO_654001.out) (by decide)) hk; replace BK645 := kB hk BK645; replace BK646 := kB hk BK646; replace BK653 := kB hk BK653; replace HK := kT (by exact kb46_3 HK.out GW645.out GW646.out GW653.out) hk; replace HI0 := mkA (hi); replace HB := mkA (hb); clear hb hk hi))
      replace HO_654001 := mkA (Kd.R_drew HO_654001.out)
      replace BK645 := mkA (blk_drew BK645.out)
      replace BK646 := mkA (blk_drew BK646.out)
      replace BK653 := mkA (blk_drew BK653.out)
      replace HI0 := mkA (IsS46.drew HI0.out)
      replace HK := mkA (keep_drew HK.out)
      replace HB := mkA (below_drew1 HB.out)
      refine start_ (n := 8) (S := fun w' => w'.cell? ⟨gb653, 0, none⟩ = some (.int .i64 t647) ∧ w'.cell? ⟨gb653, 1, none⟩ = some (.slice Ao12 t648.length co12)) (ds := []) (bm 8 0) (by kernel_rfl) rfl (by kernel_rfl) ⟨(blk_cell BK653.out 0).trans rfl, (blk_cell BK653.out 1).trans rfl⟩ (fun hHeld => ?_); refine with_tabW spec_l1Cur_both.tab8 spec_l1Cur_both.bits8 (fun HT_ HW_ => ?_)
      generalize w56.drew = w57 at HO_654001 BK645 BK646 BK653 HI0 HK HB hHeld ⊢
      refine purW 0 31 8 1 HT_ ?_
      refine purW 2 33 8 5 HT_ ?_
      refine takeW 1 (some 32) (bm 8 7) HT_ HW_ hHeld ?_
      refine takeW 3 (some 34) (bm 8 15) HT_ HW_ hHeld ?_
      refine join_ (σ := Value × Nat) 1 (bm 8 127) (fun s_ => [(35, s_.1), (5, .pointer (some ⟨s_.2, 0, none⟩)), (36, .agg #[.int .i64 t647, s_.1])]) (fun s_ w' => (w'.cell? ⟨gb653, 0, none⟩ = some (.int .i64 t647) ∧ w'.cell? ⟨gb653, 1, none⟩ = some (.slice Ao12 t648.length co12)) ∧ (Kd.R (Kd.int .i64) 3 w' w.heap.size (fun k_ => some k_ ≠ (.slice Ao12 t648.length co12 : Value).ownBlock) s_.1 t679) ∧ (Kd.R (Kd.int .i64) 3 w' w.heap.size (fun k_ => some k_ ≠ (s_.1 : Value).ownBlock) (.slice Ao12 t648.length co12) t648) ∧ (w'.heap[gb645]? = some (.cells #[.int .i64 0, .slice none 0 0] 28 (0, 0))) ∧ (w'.heap[gb646]? = some (.cells #[.int .i64 0, .slice none 0 0] 28 (0, 0))) ∧ (w'.heap[gb653]? = some (.cells #[.int .i64 t647, .slice Ao12 t648.length co12] 28 (0, 0))) ∧ (w'.heap[s_.2]? = some (.cells #[.int .i64 0, .slice none 0 0] 28 (0, 0))) ∧ (w.heap.size ≤ s_.2) ∧ (w0.heap.size ≤ s_.2) ∧ (g ≠ s_.2) ∧ (s_.2 ≠ g) ∧ (gb645 ≠ s_.2) ∧ (s_.2 ≠ gb645) ∧ (gb646 ≠ s_.2) ∧ (s_.2 ≠ gb646) ∧ (gb653 ≠ s_.2) ∧ (s_.2 ≠ gb653) ∧ (IsS46 w0 w' g s0_0 t665 t666) ∧ (KeepBut w w' g none) ∧ (Below w0.heap.size w0 w')) ?_ ?_
      rotate_left
      ·intro hCont
       refine two_ (i := 4) (j := 6) (Ni := some 35) (Nj := some 5) (bm 8 31) (bm 8 79) rfl rfl rfl rfl (two_of HT_.out (by kernel_rfl)) (by decide) (by decide) (fun K hK => ?_) (fun K hK => ?_)
       ·skip
        refine goesR Tryd.func70 #[.slice Ao12 t648.length co12] ?_
        with_reducible refine (spec_l1Own.calls _ _ t648 t679 _ ?s1 ?s2 A54.out).mono ?_
        (case s1 => exact rC HO_654001)
        (case s2 => exact rL HO_654001)
        rintro e w58 ⟨v680, rfl, ho0, hb⟩
        refine ⟨_, rfl, ?_⟩
        have HO681 := mkA (Kd.R_lower (rN ho0 HO_654001) (keep_size (w := w) (g := g) (row := none) (by exact kb46_3 HK.out GW645.out GW646.out GW653.out)))
        replace HO_654001 := rE HO_654001 ho0 hb
        replace BK645 := blkB BK645 hb
        replace BK646 := blkB BK646 hb
        replace BK653 := blkB BK653 hb
        replace HK := kU (g := g) (by exact kb46_3 HK.out GW645.out GW646.out GW653.out) hb
        replace HB := mkA (below_step (by exact bl46_3 HB.out HI0.out GE645.out GE646.out GE653.out) hb)
        replace HI0 := mkA (IsS46.below (by exact st46_3 HI0.out NB0_645.out NB0_646.out NB0_653.out) hb)
        (try clear hb)
        (try clear hb2)
        (try clear hk)
        (try clear hi)
        (try clear ho0)
        obtain ⟨Ao59, co59, eo59⟩ := Kd.R_slice HO681.out
        (first | subst eo59 | (injection eo59 with f1_ f2_ f3_; have f4_ := f1_.symm; have f5_ := f3_.symm; clear f1_ f2_ f3_; subst f4_; subst f5_))
        refine hK.out _ _ ⟨(blk_cell BK653.out 0).trans rfl, (blk_cell BK653.out 1).trans rfl⟩ (fun hHeld => ?_)
        clear hK K
        refine normW 35 ?_
        refine purW 5 36 8 63 HT_ ?_
        refine oneW 6 (some 5) (bm 8 127) HT_ (fun K hK => ?_)
        refine box_step ?hg (N := 5) ?hd (cs := #[.int .i64 0, .slice none 0 0]) (t := 28) ?hr ?_; (case hd => rfl); (case hg => rfl); (case hr => first | (go_simp; done) | (go_simp; rfl))
        intro gb682 hg w60 hbox hb
        replace HO_654001 := rB HO_654001 hb
        replace HO681 := rB HO681 hb
        have BK682 := mkA (hbox)
        have GW682 := mkA ((by rw [hg]; exact (keep_size (w := w) (g := g) (row := none) (by exact kb46_3 HK.out GW645.out GW646.out GW653.out)) : w.heap.size ≤ gb682))
        have GE682 := mkA (Nat.le_trans HW0.out GW682.out)
        replace HK := kU (g := g) (by exact kb46_3 HK.out GW645.out GW646.out GW653.out) hb
        have NB645_682 := neL7 BK645 hg
        have NB682_645 := neR7 BK645 hg
        replace BK645 := blkB BK645 hb
        have NB646_682 := neL7 BK646 hg
        have NB682_646 := neR7 BK646 hg
        replace BK646 := blkB BK646 hb
        have NB653_682 := neL7 BK653 hg
        have NB682_653 := neR7 BK653 hg
        replace BK653 := blkB BK653 hb
        have NB0_682 : NeB _ _ := ⟨(by rw [hg]; exact Nat.ne_of_lt (IsS46.lt (show IsS46 w0 _ g s0_0 t665 t666 from by exact st46_3 HI0.out NB0_645.out NB0_646.out NB0_653.out)) : g ≠ gb682)⟩
        have NB682_0 : NeB _ _ := ⟨(by rw [hg]; exact Nat.ne_of_gt (IsS46.lt (show IsS46 w0 _ g s0_0 t665 t666 from by exact st46_3 HI0.out NB0_645.out NB0_646.out NB0_653.out)) : gb682 ≠ g)⟩
        replace HB := mkA (below_step (by exact bl46_3 HB.out HI0.out GE645.out GE646.out GE653.out) hb)
        replace HI0 := mkA (IsS46.below (by exact st46_3 HI0.out NB0_645.out NB0_646.out NB0_653.out) hb)
        clear hb hbox hg
        refine hK.out _ _ ⟨(blk_cell BK653.out 0).trans rfl, (blk_cell BK653.out 1).trans rfl⟩ (fun hHeld => ?_)
        clear hK K
        refine normW 5 ?_
        exact norm_ (by simp only [putAll, Act.put, List.setIfInBounds_toArray, List.set_cons_zero, List.set_cons_succ]) (hCont (.slice Ao59 t679.length co59, gb682) _ ⟨hHeld, (Kd.R_g (Kd.R_mono HO681.out (fun _ hk => hk.2))), (Kd.R_g (Kd.R_mono HO_654001.out (fun _ hk => hk.2))), (blk_g BK645.out), (blk_g BK646.out), (blk_g BK653.out), (blk_g BK682.out), GW682.out, GE682.out, NB0_682.out, NB682_0.out, NB645_682.out, NB682_645.out, NB646_682.out, NB682_646.out, NB653_682.out, NB682_653.out, (by exact st46_4 HI0.out NB0_645.out NB0_646.out NB0_653.out NB0_682.out), (by exact kb46_4 HK.out GW645.out GW646.out GW653.out GW682.out), (by exact bl46_4 HB.out HI0.out GE645.out GE646.out GE653.out GE682.out)⟩)
       ·skip
        refine box_step ?hg (N := 5) ?hd (cs := #[.int .i64 0, .slice none 0 0]) (t := 28) ?hr ?_; (case hd => rfl); (case hg => rfl); (case hr => first | (go_simp; done) | (go_simp; rfl))
        intro gb682 hg w58 hbox hb
        replace HO_654001 := rB HO_654001 hb
        have BK682 := mkA (hbox)
        have GW682 := mkA ((by rw [hg]; exact (keep_size (w := w) (g := g) (row := none) (by exact kb46_3 HK.out GW645.out GW646.out GW653.out)) : w.heap.size ≤ gb682))
        have GE682 := mkA (Nat.le_trans HW0.out GW682.out)
        replace HK := kU (g := g) (by exact kb46_3 HK.out GW645.out GW646.out GW653.out) hb
        have NB645_682 := neL7 BK645 hg
        have NB682_645 := neR7 BK645 hg
        replace BK645 := blkB BK645 hb
        have NB646_682 := neL7 BK646 hg
        have NB682_646 := neR7 BK646 hg
        replace BK646 := blkB BK646 hb
        have NB653_682 := neL7 BK653 hg
        have NB682_653 := neR7 BK653 hg
        replace BK653 := blkB BK653 hb
        have NB0_682 : NeB _ _ := ⟨(by rw [hg]; exact Nat.ne_of_lt (IsS46.lt (show IsS46 w0 _ g s0_0 t665 t666 from by exact st46_3 HI0.out NB0_645.out NB0_646.out NB0_653.out)) : g ≠ gb682)⟩
        have NB682_0 : NeB _ _ := ⟨(by rw [hg]; exact Nat.ne_of_gt (IsS46.lt (show IsS46 w0 _ g s0_0 t665 t666 from by exact st46_3 HI0.out NB0_645.out NB0_646.out NB0_653.out)) : gb682 ≠ g)⟩
        replace HB := mkA (below_step (by exact bl46_3 HB.out HI0.out GE645.out GE646.out GE653.out) hb)
        replace HI0 := mkA (IsS46.below (by exact st46_3 HI0.out NB0_645.out NB0_646.out NB0_653.out) hb)
        clear hb hbox hg
        refine hK.out _ _ ⟨(blk_cell BK653.out 0).trans rfl, (blk_cell BK653.out 1).trans rfl⟩ (fun hHeld => ?_)
        clear hK K
        refine normW 5 ?_
        refine oneW 4 (some 35) (bm 8 95) HT_ (fun K hK => ?_)
        refine goesR Tryd.func70 #[.slice Ao12 t648.length co12] ?_
        with_reducible refine (spec_l1Own.calls _ _ t648 t679 _ ?s1 ?s2 A54.out).mono ?_
        (case s1 => exact rC HO_654001)
        (case s2 => exact rL HO_654001)
        rintro e w59 ⟨v680, rfl, ho0, hb⟩
        refine ⟨_, rfl, ?_⟩
        have HO681 := mkA (Kd.R_lower (rN ho0 HO_654001) (keep_size (w := w) (g := g) (row := none) (by exact kb46_4 HK.out GW645.out GW646.out GW653.out GW682.out)))
        replace HO_654001 := rE HO_654001 ho0 hb
        replace BK645 := blkB BK645 hb
        replace BK646 := blkB BK646 hb
        replace BK653 := blkB BK653 hb
        replace BK682 := blkB BK682 hb
        replace HK := kU (g := g) (by exact kb46_4 HK.out GW645.out GW646.out GW653.out GW682.out) hb
        replace HB := mkA (below_step (by exact bl46_4 HB.out HI0.out GE645.out GE646.out GE653.out GE682.out) hb)
        replace HI0 := mkA (IsS46.below (by exact st46_4 HI0.out NB0_645.out NB0_646.out NB0_653.out NB0_682.out) hb)
        (try clear hb)
        (try clear hb2)
        (try clear hk)
        (try clear hi)
        (try clear ho0)
        obtain ⟨Ao60, co60, eo60⟩ := Kd.R_slice HO681.out
        (first | subst eo60 | (injection eo60 with f1_ f2_ f3_; have f4_ := f1_.symm; have f5_ := f3_.symm; clear f1_ f2_ f3_; subst f4_; subst f5_))
        refine hK.out _ _ ⟨(blk_cell BK653.out 0).trans rfl, (blk_cell BK653.out 1).trans rfl⟩ (fun hHeld => ?_)
        clear hK K
        refine normW 35 ?_
        refine purW 5 36 8 127 HT_ ?_
        exact norm_ (by simp only [putAll, Act.put, List.setIfInBounds_toArray, List.set_cons_zero, List.set_cons_succ]) (hCont (.slice Ao60 t679.length co60, gb682) _ ⟨hHeld, (Kd.R_g (Kd.R_mono HO681.out (fun _ hk => hk.2))), (Kd.R_g (Kd.R_mono HO_654001.out (fun _ hk => hk.2))), (blk_g BK645.out), (blk_g BK646.out), (blk_g BK653.out), (blk_g BK682.out), GW682.out, GE682.out, NB0_682.out, NB682_0.out, NB645_682.out, NB682_645.out, NB646_682.out, NB682_646.out, NB653_682.out, NB682_653.out, (by exact st46_4 HI0.out NB0_645.out NB0_646.out NB0_653.out NB0_682.out), (by exact kb46_4 HK.out GW645.out GW646.out GW653.out GW682.out), (by exact bl46_4 HB.out HI0.out GE645.out GE646.out GE653.out GE682.out)⟩)
      rintro ⟨v680, gb682⟩ w61 ⟨hS_, h0_, h1_, h2_, h3_, h4_, h5_, h6_, h7_, h8_, h9_, h10_, h11_, h12_, h13_, h14_, h15_, h16_, h17_, h18_⟩
      have n0_ : Fc (Kd.R (Kd.int .i64) 3 w61 w.heap.size (fun k_ => some k_ ≠ (.slice Ao12 t648.length co12 : Value).ownBlock) v680 t679) := ⟨h0_⟩
      have n1_ : Fc (Kd.R (Kd.int .i64) 3 w61 w.heap.size (fun k_ => some k_ ≠ (v680 : Value).ownBlock) (.slice Ao12 t648.length co12) t648) := ⟨h1_⟩
      have n2_ : Fc (w61.heap[gb645]? = some (.cells #[.int .i64 0, .slice none 0 0] 28 (0, 0))) := ⟨h2_⟩
      have n3_ : Fc (w61.heap[gb646]? = some (.cells #[.int .i64 0, .slice none 0 0] 28 (0, 0))) := ⟨h3_⟩
      have n4_ : Fc (w61.heap[gb653]? = some (.cells #[.int .i64 t647, .slice Ao12 t648.length co12] 28 (0, 0))) := ⟨h4_⟩
      have n5_ : Fc (w61.heap[gb682]? = some (.cells #[.int .i64 0, .slice none 0 0] 28 (0, 0))) := ⟨h5_⟩
      have n6_ : Ge w.heap.size gb682 := ⟨h6_⟩
      have n7_ : Ge w0.heap.size gb682 := ⟨h7_⟩
      have n8_ : NeB g gb682 := ⟨h8_⟩
      have n9_ : NeB gb682 g := ⟨h9_⟩
      have n10_ : NeB gb645 gb682 := ⟨h10_⟩
      have n11_ : NeB gb682 gb645 := ⟨h11_⟩
      have n12_ : NeB gb646 gb682 := ⟨h12_⟩
      have n13_ : NeB gb682 gb646 := ⟨h13_⟩
      have n14_ : NeB gb653 gb682 := ⟨h14_⟩
      have n15_ : NeB gb682 gb653 := ⟨h15_⟩
      have n16_ : Fc (IsS46 w0 w61 g s0_0 t665 t666) := ⟨h16_⟩
      have n17_ : Fc (KeepBut w w61 g none) := ⟨h17_⟩
      have n18_ : Fc (Below w0.heap.size w0 w61) := ⟨h18_⟩
      clear HO_654001
      clear BK645
      clear BK646
      clear BK653
      clear HI0
      clear HK
      clear HB
      clear h0_ h1_ h2_ h3_ h4_ h5_ h6_ h7_ h8_ h9_ h10_ h11_ h12_ h13_ h14_ h15_ h16_ h17_ h18_
      have HO681 := n0_
      have HO_654001 := n1_
      have BK645 := n2_
      have BK646 := n3_
      have BK653 := n4_
      have BK682 := n5_
      have GW682 := n6_
      have GE682 := n7_
      have NB0_682 := n8_
      have NB682_0 := n9_
      have NB645_682 := n10_
      have NB682_645 := n11_
      have NB646_682 := n12_
      have NB682_646 := n13_
      have NB653_682 := n14_
      have NB682_653 := n15_
      have HI0 := n16_
      have HK := n17_
      have HB := n18_
      clear n0_ n1_ n2_ n3_ n4_ n5_ n6_ n7_ n8_ n9_ n10_ n11_ n12_ n13_ n14_ n15_ n16_ n17_ n18_
      have hHeld : w61.cell? ⟨gb653, 0, none⟩ = some (.int .i64 t647) ∧ w61.cell? ⟨gb653, 1, none⟩ = some (.slice Ao12 t648.length co12) := hS_
      obtain ⟨Ao62, co62, eo62⟩ := Kd.R_slice HO681.out
      (first | subst eo62 | (injection eo62 with f1_ f2_ f3_; have f4_ := f1_.symm; have f5_ := f3_.symm; clear f1_ f2_ f3_; subst f4_; subst f5_))
      refine norm_ (a' := ?_) ?_ ?_
      rotate_left
      ·simp only [putAll, Act.put, List.setIfInBounds_toArray, List.set_cons_zero, List.set_cons_succ]
       rfl
      refine oneW 7 (none) (bm 8 255) HT_ (fun K hK => ?_)
      obtain ⟨_, _, _, _⟩ := blk2 BK682
      refine skip_ (w1 := ?_) (by rfl) rfl ?_ ?_
      rotate_left
      ·go_simp
       rfl
      refine hK.out _ _ ⟨(cF (cF hHeld.1)), (cF (cF hHeld.2))⟩ (fun hHeld => ?_)
      clear hK K
      refine doneW HT_ ?_
      obtain ⟨_, _, _, _⟩ := blk2 BK653
      go_upto_if 39 with (fail)
      go_cut [] (fun wc => ∃ (kq : Nat) (x1001_54 : Int) (x1002_54 : Int) (x654001_54 : List Int) (x683001_54 : List Int) (u654001 : Value) (u683001 : Value), Fc (spec_l1Cur_both.j1 kq s0_0 x1001_54 x1002_54 t647 x654001_54 t647 x683001_54 = some (r1, r2, r3, r4, r5, r6)) ∧ Fc (kq ≤ kj2) ∧ Fc (Kd.R (Kd.int .i64) 3 wc w.heap.size (fun k_ => some k_ ≠ (u683001 : Value).ownBlock) u654001 x654001_54) ∧ Fc (Kd.R (Kd.int .i64) 3 wc w.heap.size (fun k_ => some k_ ≠ (u654001 : Value).ownBlock) u683001 x683001_54) ∧ Fc (wc.heap[gb645]? = some (.cells #[.int .i64 0, (.slice none 0 0)] 28 (0, 0))) ∧ Fc (wc.heap[gb646]? = some (.cells #[.int .i64 0, (.slice none 0 0)] 28 (0, 0))) ∧ Fc (wc.heap[gb653]? = some (.cells #[.int .i64 t647, u654001] 28 (0, 0))) ∧ Fc (wc.heap[gb682]? = some (.cells #[.int .i64 t647, u683001] 28 (0, 0))) ∧ Fc (IsS46 w0 wc g s0_0 x1001_54 x1002_54) ∧ Fc (KeepBut w wc g none) ∧ Fc (Below w0.heap.size w0 wc))
      case first =>
       have H := HC55.out
       clear HC55
       rcases iteP H with ⟨c70, H⟩ | ⟨c70, H⟩
       ·have c70b0 := decide_eq_true c70
        clear c70
        (first | rw [c70b0] | (simp only [i64_w, i32_w]; rw [c70b0]) | skip)
        obtain ⟨⟨t683, t684, t685⟩, A71, H⟩ := obE H
        dsimp only at H
        obtain ⟨c72b0, H⟩ := itND H
        obtain ⟨c73b0, H⟩ := itND H
        obtain ⟨y686, hy686⟩ : ∃ y_ : List Int, y_ = (t679.set (t683 : Int).toNat 0) := ⟨_, rfl⟩
        rw [← hy686] at H
        have Ny686 := mkA hy686
        clear hy686
        have H' := mkA H
        clear H
        try go_wp2
        have n0_ : Fc (Kd.R (Kd.int .i64) 3 ((w61.setCell ⟨gb682, 0, none⟩ (.int .i64 t647)).setCell ⟨gb682, 1, none⟩ (.slice Ao62 t679.length co62)) w.heap.size (fun k_ => some k_ ≠ (.slice Ao62 t679.length co62 : Value).ownBlock) (.slice Ao12 t648.length co12) t648) := ⟨Kd.R_g (Kd.R_mono (Kd.R_far (p := ⟨gb682, 1, none⟩) (Kd.R_far (p := ⟨gb682, 0, none⟩) (Kd.R_types HO_654001.out BK682.out (by decide)) (fun _ hk => hk.2) (.int .i64 t647)) (fun _ hk => hk.2) (.slice Ao62 t679.length co62)) (fun _ hk => hk.1))⟩
        have n1_ : Fc (Kd.R (Kd.int .i64) 3 ((w61.setCell ⟨gb682, 0, none⟩ (.int .i64 t647)).setCell ⟨gb682, 1, none⟩ (.slice Ao62 t679.length co62)) w.heap.size (fun k_ => some k_ ≠ (.slice Ao12 t648.length co12 : Value).ownBlock) (.slice Ao62 t679.length co62) t679) := ⟨Kd.R_g (Kd.R_mono (Kd.R_far (p := ⟨gb682, 1, none⟩) (Kd.R_far (p := ⟨gb682, 0, none⟩) (Kd.R_types HO681.out BK682.out (by decide)) (fun _ hk => hk.2) (.int .i64 t647)) (fun _ hk => hk.2) (.slice Ao62 t679.length co62)) (fun _ hk => hk.1))⟩
        have n2_ : Fc (((w61.setCell ⟨gb682, 0, none⟩ (.int .i64 t647)).setCell ⟨gb682, 1, none⟩ (.slice Ao62 t679.length co62)).heap[gb645]? = some (.cells #[.int .i64 0, .slice none 0 0] 28 (0, 0))) := ⟨blkT BK645⟩
        have n3_ : Fc (((w61.setCell ⟨gb682, 0, none⟩ (.int .i64 t647)).setCell ⟨gb682, 1, none⟩ (.slice Ao62 t679.length co62)).heap[gb646]? = some (.cells #[.int .i64 0, .slice none 0 0] 28 (0, 0))) := ⟨blkT BK646⟩
        have n4_ : Fc (((w61.setCell ⟨gb682, 0, none⟩ (.int .i64 t647)).setCell ⟨gb682, 1, none⟩ (.slice Ao62 t679.length co62)).heap[gb653]? = some (.cells #[.int .i64 t647, .slice Ao12 t648.length co12] 28 (0, 0))) := ⟨blkT BK653⟩
        have n5_ : Fc (((w61.setCell ⟨gb682, 0, none⟩ (.int .i64 t647)).setCell ⟨gb682, 1, none⟩ (.slice Ao62 t679.length co62)).heap[gb682]? = some (.cells #[.int .i64 t647, .slice Ao62 t679.length co62] 28 (0, 0))) := ⟨blkT BK682⟩
        have n6_ : Fc (IsS46 w0 ((w61.setCell ⟨gb682, 0, none⟩ (.int .i64 t647)).setCell ⟨gb682, 1, none⟩ (.slice Ao62 t679.length co62)) g s0_0 t665 t666) := ⟨by exact st46_4 HI0.out NB0_645.out NB0_646.out NB0_653.out NB0_682.out⟩
        have n7_ : Fc (KeepBut w ((w61.setCell ⟨gb682, 0, none⟩ (.int .i64 t647)).setCell ⟨gb682, 1, none⟩ (.slice Ao62 t679.length co62)) g none) := ⟨by exact kb46_4 HK.out GW645.out GW646.out GW653.out GW682.out⟩
        have n8_ : Fc (Below w0.heap.size w0 ((w61.setCell ⟨gb682, 0, none⟩ (.int .i64 t647)).setCell ⟨gb682, 1, none⟩ (.slice Ao62 t679.length co62))) := ⟨by exact bl46_4 HB.out HI0.out GE645.out GE646.out GE653.out GE682.out⟩
        (try clear HO_654001)
        (try clear HO681)
        (try clear BK645)
        (try clear BK646)
        (try clear BK653)
        (try clear BK682)
        (try clear HI0)
        (try clear HK)
        (try clear HB)
        generalize ((w61.setCell ⟨gb682, 0, none⟩ (.int .i64 t647)).setCell ⟨gb682, 1, none⟩ (.slice Ao62 t679.length co62)) = w75 at n0_ n1_ n2_ n3_ n4_ n5_ n6_ n7_ n8_ ⊢
        have HO_654001 := n0_
        have HO681 := n1_
        have BK645 := n2_
        have BK646 := n3_
        have BK653 := n4_
        have BK682 := n5_
        have HI0 := n6_
        have HK := n7_
        have HB := n8_
        clear n0_ n1_ n2_ n3_ n4_ n5_ n6_ n7_ n8_
        replace HO_654001 := mkA (Kd.R_drew HO_654001.out)
        replace HO681 := mkA (Kd.R_drew HO681.out)
        replace BK645 := mkA (blk_drew BK645.out)
        replace BK646 := mkA (blk_drew BK646.out)
        replace BK653 := mkA (blk_drew BK653.out)
        replace BK682 := mkA (blk_drew BK682.out)
        replace HI0 := mkA (IsS46.drew HI0.out)
        replace HK := mkA (keep_drew HK.out)
        replace HB := mkA (below_drew1 HB.out)
        refine start_ (n := 8) (S := fun w' => w'.cell? ⟨gb682, 0, none⟩ = some (.int .i64 t647) ∧ w'.cell? ⟨gb682, 1, none⟩ = some (.slice Ao62 t679.length co62) ∧ w'.cell? ⟨gb653, 0, none⟩ = some (.int .i64 t647) ∧ w'.cell? ⟨gb653, 1, none⟩ = some (.slice Ao12 t648.length co12)) (ds := [7]) (bm 8 0) (by kernel_rfl) rfl rfl ⟨(blk_cell BK682.out 0).trans rfl, (blk_cell BK682.out 1).trans rfl, (blk_cell BK653.out 0).trans rfl, (blk_cell BK653.out 1).trans rfl⟩ (fun hHeld => ?_); refine with_tabW spec_l1Cur_both.tab10 spec_l1Cur_both.bits10 (fun HT_ HW_ => ?_)
        generalize w75.drew = w76 at HO_654001 HO681 BK645 BK646 BK653 BK682 HI0 HK HB hHeld ⊢
        refine purW 0 40 8 1 HT_ ?_
        refine purW 2 42 8 5 HT_ ?_
        refine purW 3 43 8 13 HT_ ?_
        refine takeW 1 (some 41) (bm 8 15) HT_ HW_ hHeld ?_
        refine takeW 4 (some 44) (bm 8 31) HT_ HW_ hHeld ?_
        refine oneW 5 (some 45) (bm 8 63) HT_ (fun K hK => ?_)
        refine goesR Tryd.func41 #[.pointer (some ⟨g, 0, none⟩), .int .i64 t647] ?_
        with_reducible refine (spec_l1Cur_pick.calls g s0_0 t665 t666 t647 t683 t684 t685 w0 _ ?s1 ?s2 A71.out).mono ?_
        (case s1 => exact st46_4 HI0.out NB0_645.out NB0_646.out NB0_653.out NB0_682.out)
        (case s2 => exact bl46_4 HB.out HI0.out GE645.out GE646.out GE653.out GE682.out)
        rintro e w77 ⟨rfl, hi, hb, hk⟩
        refine ⟨_, rfl, ?_⟩
        replace HO_654001 := rK (IsS46.apart (show IsS46 w0 _ g s0_0 t665 t666 from by exact st46_4 HI0.out NB0_645.out NB0_646.out NB0_653.out NB0_682.out) (Kd.R_g HO_654001.out) (by decide)) hk
        replace BK645 := kB hk BK645
        replace BK646 := kB hk BK646
        replace BK653 := kB hk BK653
        replace HO681 := rK (IsS46.apart (show IsS46 w0 _ g s0_0 t665 t666 from by exact st46_4 HI0.out NB0_645.out NB0_646.out NB0_653.out NB0_682.out) (Kd.R_g HO681.out) (by decide)) hk
        replace BK682 := kB hk BK682
        replace HK := kT (by exact kb46_4 HK.out GW645.out GW646.out GW653.out GW682.out) hk
        replace HI0 := mkA (hi)
        replace HB := mkA (hb)
        (try clear hb)
        (try clear hb2)
        (try clear hk)
        (try clear hi)
        have p74 : 0 ≤ (t683 : Int) := ofd
        have q74 : (t683 : Int) < ((t679.length : Int) : Int) := ofd
        obtain ⟨go74, co74, eo74, gb74, gl74, cl74, HG74⟩ := Kd.R_form HO681.out (by omega)
        (first | cases eo74 | (injection eo74 with ea_ en_ ec_; (first | subst ea_ | (injection ea_ with ea_; subst ea_)); subst ec_; clear en_))
        have GB74 : Ge _ _ := ⟨gb74⟩
        have GG74 := mkA HG74
        clear gb74 gl74 HG74
        obtain ⟨hx74_0, hf74_0⟩ := Kd.R_celln 0 HO681.out (t683 : Int) p74 q74
        replace p74 := eq_true p74
        replace q74 := eq_true q74
        have HN0_go74 := mkA (show g ≠ go74 from by have h_ := IsS46.own_ne HI0.out HO681.out (by decide); intro e_; exact h_ (by rw [e_]; rfl))
        have HP78 := Kd.R_putn HO681.out (t683 : Int) 0
        rw [← Ny686.out] at HP78
        have HQ78 := mkA HP78
        clear HP78
        refine hK.out _ _ ⟨(blk_cell BK682.out 0).trans rfl, (blk_cell BK682.out 1).trans rfl, (blk_cell BK653.out 0).trans rfl, (blk_cell BK653.out 1).trans rfl⟩ (fun hHeld => ?_)
        clear hK K
        refine normW 45 ?_
        refine purW 6 46 8 127 HT_ ?_
        refine last_ (i := 7) (N := none) (bm 8 255) rfl rfl (one_of HT_.out (by kernel_rfl)) (by decide) (fun K hK => ?_)
        refine skip_ (w1 := ?_) (by rfl) rfl ?_ ?_
        rotate_left
        ·go_simp
         rfl
        refine hK.out _ _ ?_
        clear hK K
        refine doneW HT_ ?_
        try go_wp2
        go_meet
        case rel => exact ⟨_, (t684), (t685), (t648), (y686), (.slice Ao12 t648.length co12), (.slice (some ⟨go74, 0, none⟩) t679.length co62), H', ⟨by have := HJ2.out; first | omega | exact Nat.le_refl _⟩, ⟨Kd.R_g (Kd.R_mono (Kd.R_far (p := ⟨go74, (t683 : Int).toNat, none⟩) (Kd.R_mono HO_654001.out (fun k_ hk => (⟨hk, fun e_ => hk (by rw [e_]; rfl)⟩ : _ ∧ k_ ≠ go74))) (fun _ hk => hk.2) (.int .i64 0)) (fun _ hk => hk.1))⟩, ⟨Kd.R_g HQ78.out⟩, ⟨by (with_reducible repeat (first | refine blk_drewN ?_ _ | refine blk_drew ?_ | refine blk_alloc ?_ _)); refine blk_far ?_ (by have h_ := Kd.R_ne HO681.out BK645.out (by decide); intro e_; exact h_ (by rw [e_]; rfl)) _; (with_reducible repeat (first | refine blk_drewN ?_ _ | refine blk_drew ?_ | refine blk_alloc ?_ _)); exact BK645.out⟩, ⟨by (with_reducible repeat (first | refine blk_drewN ?_ _ | refine blk_drew ?_ | refine blk_alloc ?_ _)); refine blk_far ?_ (by have h_ := Kd.R_ne HO681.out BK646.out (by decide); intro e_; exact h_ (by rw [e_]; rfl)) _; (with_reducible repeat (first | refine blk_drewN ?_ _ | refine blk_drew ?_ | refine blk_alloc ?_ _)); exact BK646.out⟩, ⟨by (with_reducible repeat (first | refine blk_drewN ?_ _ | refine blk_drew ?_ | refine blk_alloc ?_ _)); refine blk_far ?_ (by have h_ := Kd.R_ne HO681.out BK653.out (by decide); intro e_; exact h_ (by rw [e_]; rfl)) _; (with_reducible repeat (first | refine blk_drewN ?_ _ | refine blk_drew ?_ | refine blk_alloc ?_ _)); exact BK653.out⟩, ⟨by (with_reducible repeat (first | refine blk_drewN ?_ _ | refine blk_drew ?_ | refine blk_alloc ?_ _)); refine blk_far ?_ (by have h_ := Kd.R_ne HO681.out BK682.out (by decide); intro e_; exact h_ (by rw [e_]; rfl)) _; (with_reducible repeat (first | refine blk_drewN ?_ _ | refine blk_drew ?_ | refine blk_alloc ?_ _)); exact BK682.out⟩, ⟨by exact st46_5 HI0.out HN0_go74.out NB0_645.out NB0_646.out NB0_653.out NB0_682.out⟩, ⟨by exact kb46_5 HK.out GB74.out GW645.out GW646.out GW653.out GW682.out⟩, ⟨by repeat (first | (with_reducible first | exact HB.out | apply below_alloc | apply pw_below_drewN | apply below_drew1 | refine below_set ?_ (Nat.le_trans HL.out GB74.out) | refine below_set ?_ (IsS46.ge HI0.out) | refine below_set ?_ GE645.out | refine below_set ?_ GE646.out | refine below_set ?_ GE653.out | refine below_set ?_ GE682.out) | exact HB.out)⟩⟩
       ·have c70b0 := decide_eq_false c70
        clear c70
        (first | rw [c70b0] | (simp only [i64_w, i32_w]; rw [c70b0]) | skip)
        have H' := mkA H
        clear H
        go_wp2
        go_meet
        case rel => exact ⟨_, (t665), (t666), (t648), (t679), (.slice Ao12 t648.length co12), (.slice Ao62 t679.length co62), H', ⟨by have := HJ2.out; first | omega | exact Nat.le_refl _⟩, ⟨Kd.R_g (Kd.R_mono (Kd.R_far (p := ⟨gb682, 1, none⟩) (Kd.R_far (p := ⟨gb682, 0, none⟩) (Kd.R_types HO_654001.out BK682.out (by decide)) (fun _ hk => hk.2) (.int .i64 t647)) (fun _ hk => hk.2) (.slice Ao62 t679.length co62)) (fun _ hk => hk.1))⟩, ⟨Kd.R_g (Kd.R_mono (Kd.R_far (p := ⟨gb682, 1, none⟩) (Kd.R_far (p := ⟨gb682, 0, none⟩) (Kd.R_types HO681.out BK682.out (by decide)) (fun _ hk => hk.2) (.int .i64 t647)) (fun _ hk => hk.2) (.slice Ao62 t679.length co62)) (fun _ hk => hk.1))⟩, ⟨blkT BK645⟩, ⟨blkT BK646⟩, ⟨blkT BK653⟩, ⟨blkT BK682⟩, ⟨by exact st46_4 HI0.out NB0_645.out NB0_646.out NB0_653.out NB0_682.out⟩, ⟨by exact kb46_4 HK.out GW645.out GW646.out GW653.out GW682.out⟩, ⟨by exact bl46_4 HB.out HI0.out GE645.out GE646.out GE653.out GE682.out⟩⟩
      case rest =>
       clear HC55
       try clear c70
       try clear c70b0
       try clear c72
       try clear c72b0
       try clear c73
       try clear c73b0
       try clear p74
       try clear q74
       try clear hx74_0
       try clear p74
       try clear q74
       obtain ⟨kq, x1001_54, x1002_54, x654001_54, x683001_54, u654001, u683001, HA, HJ54, HO_654001, HO_683001, BK645, BK646, BK653, BK682, HI0, HK, HB⟩ := hcut
       cases kq with
       | zero => exact absurd HA.out (by simp [spec_l1Cur_both.j1])
       | succ kj54 =>
        have H := HA.out
        clear HA
        simp only [spec_l1Cur_both.j1] at H
        obtain ⟨t687, A79, H⟩ := obE H
        by_cases c80 : t687 = true
        ·subst c80
         replace H := ifT H
         obtain ⟨⟨t688, t689, t690⟩, A81, H⟩ := obE H
         dsimp only at H
         by_cases c82 : t688 = true
         ·subst c82
          replace H := ifT H
          simp only [Option.some.injEq, Prod.mk.injEq] at H
          obtain ⟨rfl, rfl, rfl, rfl, rfl, rfl⟩ := H
          obtain ⟨_, _, _, _⟩ := blk2 BK682
          obtain ⟨Ao88, co88, rfl⟩ := Kd.R_slice HO_683001.out
          try go_wp2_with (first | ((with_reducible refine gate_callee (f := 35) rfl ?_); refine goesQ (some 48) Tryd.func35 #[.agg #[.int .i64 t647, .slice Ao88 x683001_54.length co88]] ?_; (with_reducible refine (spec_orGood.calls kj54 t647 _ _ x683001_54 true _ ?_ ?_ A79.out).mono ?_); exact rC HO_683001; exact rL HO_683001; rintro e w89 ⟨rfl, hb⟩; refine ⟨_, rfl, ?_⟩; replace HO_654001 := rB HO_654001 hb; replace HO_683001 := rB HO_683001 hb; replace BK645 := blkB BK645 hb; replace BK646 := blkB BK646 hb; replace BK653 := blkB BK653 hb; replace BK682 := blkB BK682 hb; replace HK := kU (g := g) (by exact kb46_4 HK.out GW645.out GW646.out GW653.out GW682.out) hb; replace HB := mkA (below_step (by exact bl46_4 HB.out HI0.out GE645.out GE646.out GE653.out GE682.out) hb); replace HI0 := mkA (IsS46.below (by exact st46_4 HI0.out NB0_645.out NB0_646.out NB0_653.out NB0_682.out) hb); clear hb) | ((with_reducible refine gate_callee (f := 40) rfl ?_); refine goesQ (some 50) Tryd.func40 #[.pointer (some ⟨g, 0, none⟩), .int .i64 2] ?_; (with_reducible refine (spec_l1Cur_one.calls g s0_0 x1001_54 x1002_54 2 true t689 t690 w0 _ ?_ ?_ A81.out).mono ?_); exact st46_4 HI0.out NB0_645.out NB0_646.out NB0_653.out NB0_682.out; exact bl46_4 HB.out HI0.out GE645.out GE646.out GE653.out GE682.out; rintro e w90 ⟨rfl, hi, hb, hk⟩; refine ⟨_, rfl, ?_⟩; replace HO_654001 := rK (IsS46.apart (show IsS46 w0 _ g s0_0 x1001_54 x1002_54 from by exact st46_4 HI0.out NB0_645.out NB0_646.out NB0_653.out NB0_682.out) (Kd.R_g HO_654001.out) (by decide)) hk; replace HO_683001 := rK (IsS46.apart (show IsS46 w0 _ g s0_0 x1001_54 x1002_54 from by exact st46_4 HI0.out NB0_645.out NB0_646.out NB0_653.out NB0_682.out) (Kd.R_g HO_683001.out) (by decide)) hk; replace BK645 := kB hk BK645; replace BK646 := kB hk BK646; replace BK653 := kB hk BK653; replace BK682 := kB hk BK682; replace HK := kT (by exact kb46_4 HK.out GW645.out GW646.out GW653.out GW682.out) hk; replace HI0 := mkA (hi); replace HB := mkA (hb); clear hb hk hi))
          replace HO_654001 := mkA (Kd.R_drew HO_654001.out)
          replace HO_683001 := mkA (Kd.R_drew HO_683001.out)
          replace BK645 := mkA (blk_drew BK645.out)
          replace BK646 := mkA (blk_drew BK646.out)
          replace BK653 := mkA (blk_drew BK653.out)
          replace BK682 := mkA (blk_drew BK682.out)
          replace HI0 := mkA (IsS46.drew HI0.out)
          replace HK := mkA (keep_drew HK.out)
          replace HB := mkA (below_drew1 HB.out)
          obtain ⟨Ao95, co95, eo95⟩ := Kd.R_slice HO_654001.out
          (first | subst eo95 | (injection eo95 with f1_ f2_ f3_; have f4_ := f1_.symm; have f5_ := f3_.symm; clear f1_ f2_ f3_; subst f4_; subst f5_))
          refine start_ (n := 4) (S := fun w' => w'.cell? ⟨gb682, 0, none⟩ = some (.int .i64 t647) ∧ w'.cell? ⟨gb682, 1, none⟩ = some (.slice Ao88 x683001_54.length co88) ∧ w'.cell? ⟨gb653, 0, none⟩ = some (.int .i64 t647) ∧ w'.cell? ⟨gb653, 1, none⟩ = some (.slice Ao95 x654001_54.length co95)) (ds := []) (bm 4 0) (by kernel_rfl) rfl (by kernel_rfl) ⟨(blk_cell BK682.out 0).trans rfl, (blk_cell BK682.out 1).trans rfl, (blk_cell BK653.out 0).trans rfl, (blk_cell BK653.out 1).trans rfl⟩ (fun hHeld => ?_)
          generalize w90.drew = w91 at HO_654001 HO_683001 BK645 BK646 BK653 BK682 HI0 HK HB hHeld ⊢
          refine take_ (i := 0) (N := some 51) (v := ?_) (a' := ?_) (bm 4 1) rfl rfl (by kernel_rfl) (fun _ _ _ h => h) (Or.inl ⟨by rfl, ?_⟩) hHeld ?_ ?_
          rotate_left
          ·rintro w' ⟨s0, s1, s2, s3⟩
           go_simp
           with_reducible rfl
          rotate_left
          ·simp only [Act.put, List.setIfInBounds_toArray, List.set_cons_zero, List.set_cons_succ, i64_w, i32_w]
           rfl
          refine take_ (i := 1) (N := some 52) (v := ?_) (a' := ?_) (bm 4 3) rfl rfl (by kernel_rfl) (fun _ _ _ h => h) (Or.inl ⟨by rfl, ?_⟩) hHeld ?_ ?_
          rotate_left
          ·rintro w' ⟨s0, s1, s2, s3⟩
           go_simp
           with_reducible rfl
          rotate_left
          ·simp only [Act.put, List.setIfInBounds_toArray, List.set_cons_zero, List.set_cons_succ, i64_w, i32_w]
           rfl
          refine one_ (i := 2) (N := none) (bm 4 7) rfl rfl (by kernel_rfl) (by decide) (fun K hK => ?_)
          obtain ⟨_, _, _, _⟩ := blk2 BK645
          refine skip_ (w1 := ?_) (by rfl) rfl ?_ ?_
          rotate_left
          ·go_simp
           rfl
          refine hK.out _ _ ⟨(cF (cF hHeld.1)), (cF (cF hHeld.2.1)), (cF (cF hHeld.2.2.1)), (cF (cF hHeld.2.2.2))⟩ (fun hHeld => ?_)
          clear hK K
          refine one_ (i := 3) (N := none) (bm 4 15) rfl rfl (by kernel_rfl) (by decide) (fun K hK => ?_)
          obtain ⟨_, _, _, _⟩ := blk2 BK646
          refine skip_ (w1 := ?_) (by rfl) rfl ?_ ?_
          rotate_left
          ·go_simp
           rfl
          refine hK.out _ _ ⟨(cF (cF hHeld.1)), (cF (cF hHeld.2.1)), (cF (cF hHeld.2.2.1)), (cF (cF hHeld.2.2.2))⟩ (fun hHeld => ?_)
          clear hK K
          refine done_ (by kernel_rfl) ?_
          try go_wp2
          refine bodyPost_ret (results_cc rfl _ _ gb645 gb646 28 28 #[.int .i64 t647, .slice Ao88 x683001_54.length co88] #[.int .i64 t647, .slice Ao95 x654001_54.length co95] (0, 0) (0, 0) _ _ rfl (blkT BK645) Tryd.underlying28 rfl (by kernel_rfl) rfl (blkT BK646) Tryd.underlying28 rfl (by kernel_rfl)) rfl ?_
          exact ⟨_, _, eqE, Kd.R_g (Kd.R_mono (Kd.R_far (p := ⟨gb646, 1, none⟩) (Kd.R_far (p := ⟨gb646, 0, none⟩) (Kd.R_far (p := ⟨gb645, 1, none⟩) (Kd.R_far (p := ⟨gb645, 0, none⟩) (Kd.R_types (Kd.R_types HO_683001.out BK645.out (by decide)) BK646.out (by decide)) (fun _ hk => hk.1.2) (.int .i64 t647)) (fun _ hk => hk.1.2) (.slice Ao88 x683001_54.length co88)) (fun _ hk => hk.2) (.int .i64 t647)) (fun _ hk => hk.2) (.slice Ao95 x654001_54.length co95)) (fun _ hk => hk.1.1)), Kd.R_g (Kd.R_mono (Kd.R_far (p := ⟨gb646, 1, none⟩) (Kd.R_far (p := ⟨gb646, 0, none⟩) (Kd.R_far (p := ⟨gb645, 1, none⟩) (Kd.R_far (p := ⟨gb645, 0, none⟩) (Kd.R_types (Kd.R_types HO_654001.out BK645.out (by decide)) BK646.out (by decide)) (fun _ hk => hk.1.2) (.int .i64 t647)) (fun _ hk => hk.1.2) (.slice Ao88 x683001_54.length co88)) (fun _ hk => hk.2) (.int .i64 t647)) (fun _ hk => hk.2) (.slice Ao95 x654001_54.length co95)) (fun _ hk => hk.1.1)), by exact st46_4 HI0.out NB0_645.out NB0_646.out NB0_653.out NB0_682.out, by exact bl46_4 HB.out HI0.out GE645.out GE646.out GE653.out GE682.out, by exact kb46_4 HK.out GW645.out GW646.out GW653.out GW682.out⟩
         ·replace c82 := Bool.eq_false_iff.mpr c82
          subst c82
          replace H := ifF H
          simp only [Option.some.injEq, Prod.mk.injEq] at H
          obtain ⟨rfl, rfl, rfl, rfl, rfl, rfl⟩ := H
          obtain ⟨_, _, _, _⟩ := blk2 BK682
          obtain ⟨Ao102, co102, rfl⟩ := Kd.R_slice HO_683001.out
          try go_wp2_with (first | ((with_reducible refine gate_callee (f := 35) rfl ?_); refine goesQ (some 48) Tryd.func35 #[.agg #[.int .i64 t647, .slice Ao102 x683001_54.length co102]] ?_; (with_reducible refine (spec_orGood.calls kj54 t647 _ _ x683001_54 true _ ?_ ?_ A79.out).mono ?_); exact rC HO_683001; exact rL HO_683001; rintro e w103 ⟨rfl, hb⟩; refine ⟨_, rfl, ?_⟩; replace HO_654001 := rB HO_654001 hb; replace HO_683001 := rB HO_683001 hb; replace BK645 := blkB BK645 hb; replace BK646 := blkB BK646 hb; replace BK653 := blkB BK653 hb; replace BK682 := blkB BK682 hb; replace HK := kU (g := g) (by exact kb46_4 HK.out GW645.out GW646.out GW653.out GW682.out) hb; replace HB := mkA (below_step (by exact bl46_4 HB.out HI0.out GE645.out GE646.out GE653.out GE682.out) hb); replace HI0 := mkA (IsS46.below (by exact st46_4 HI0.out NB0_645.out NB0_646.out NB0_653.out NB0_682.out) hb); clear hb) | ((with_reducible refine gate_callee (f := 40) rfl ?_); refine goesQ (some 50) Tryd.func40 #[.pointer (some ⟨g, 0, none⟩), .int .i64 2] ?_; (with_reducible refine (spec_l1Cur_one.calls g s0_0 x1001_54 x1002_54 2 false t689 t690 w0 _ ?_ ?_ A81.out).mono ?_); exact st46_4 HI0.out NB0_645.out NB0_646.out NB0_653.out NB0_682.out; exact bl46_4 HB.out HI0.out GE645.out GE646.out GE653.out GE682.out; rintro e w104 ⟨rfl, hi, hb, hk⟩; refine ⟨_, rfl, ?_⟩; replace HO_654001 := rK (IsS46.apart (show IsS46 w0 _ g s0_0 x1001_54 x1002_54 from by exact st46_4 HI0.out NB0_645.out NB0_646.out NB0_653.out NB0_682.out) (Kd.R_g HO_654001.out) (by decide)) hk; replace HO_683001 := rK (IsS46.apart (show IsS46 w0 _ g s0_0 x1001_54 x1002_54 from by exact st46_4 HI0.out NB0_645.out NB0_646.out NB0_653.out NB0_682.out) (Kd.R_g HO_683001.out) (by decide)) hk; replace BK645 := kB hk BK645; replace BK646 := kB hk BK646; replace BK653 := kB hk BK653; replace BK682 := kB hk BK682; replace HK := kT (by exact kb46_4 HK.out GW645.out GW646.out GW653.out GW682.out) hk; replace HI0 := mkA (hi); replace HB := mkA (hb); clear hb hk hi))
          replace HO_654001 := mkA (Kd.R_drew HO_654001.out)
          replace HO_683001 := mkA (Kd.R_drew HO_683001.out)
          replace BK645 := mkA (blk_drew BK645.out)
          replace BK646 := mkA (blk_drew BK646.out)
          replace BK653 := mkA (blk_drew BK653.out)
          replace BK682 := mkA (blk_drew BK682.out)
          replace HI0 := mkA (IsS46.drew HI0.out)
          replace HK := mkA (keep_drew HK.out)
          replace HB := mkA (below_drew1 HB.out)
          obtain ⟨Ao107, co107, eo107⟩ := Kd.R_slice HO_654001.out
          (first | subst eo107 | (injection eo107 with f1_ f2_ f3_; have f4_ := f1_.symm; have f5_ := f3_.symm; clear f1_ f2_ f3_; subst f4_; subst f5_))
          refine start_ (n := 4) (S := fun w' => w'.cell? ⟨gb653, 0, none⟩ = some (.int .i64 t647) ∧ w'.cell? ⟨gb653, 1, none⟩ = some (.slice Ao107 x654001_54.length co107) ∧ w'.cell? ⟨gb682, 0, none⟩ = some (.int .i64 t647) ∧ w'.cell? ⟨gb682, 1, none⟩ = some (.slice Ao102 x683001_54.length co102)) (ds := []) (bm 4 0) (by kernel_rfl) rfl (by kernel_rfl) ⟨(blk_cell BK653.out 0).trans rfl, (blk_cell BK653.out 1).trans rfl, (blk_cell BK682.out 0).trans rfl, (blk_cell BK682.out 1).trans rfl⟩ (fun hHeld => ?_)
          generalize w104.drew = w105 at HO_654001 HO_683001 BK645 BK646 BK653 BK682 HI0 HK HB hHeld ⊢
          refine take_ (i := 0) (N := some 53) (v := ?_) (a' := ?_) (bm 4 1) rfl rfl (by kernel_rfl) (fun _ _ _ h => h) (Or.inl ⟨by rfl, ?_⟩) hHeld ?_ ?_
          rotate_left
          ·rintro w' ⟨s0, s1, s2, s3⟩
           go_simp
           with_reducible rfl
          rotate_left
          ·simp only [Act.put, List.setIfInBounds_toArray, List.set_cons_zero, List.set_cons_succ, i64_w, i32_w]
           rfl
          refine take_ (i := 1) (N := some 54) (v := ?_) (a' := ?_) (bm 4 3) rfl rfl (by kernel_rfl) (fun _ _ _ h => h) (Or.inl ⟨by rfl, ?_⟩) hHeld ?_ ?_
          rotate_left
          ·rintro w' ⟨s0, s1, s2, s3⟩
           go_simp
           with_reducible rfl
          rotate_left
          ·simp only [Act.put, List.setIfInBounds_toArray, List.set_cons_zero, List.set_cons_succ, i64_w, i32_w]
           rfl
          refine one_ (i := 2) (N := none) (bm 4 7) rfl rfl (by kernel_rfl) (by decide) (fun K hK => ?_)
          obtain ⟨_, _, _, _⟩ := blk2 BK645
          refine skip_ (w1 := ?_) (by rfl) rfl ?_ ?_
          rotate_left
          ·go_simp
           rfl
          refine hK.out _ _ ⟨(cF (cF hHeld.1)), (cF (cF hHeld.2.1)), (cF (cF hHeld.2.2.1)), (cF (cF hHeld.2.2.2))⟩ (fun hHeld => ?_)
          clear hK K
          refine one_ (i := 3) (N := none) (bm 4 15) rfl rfl (by kernel_rfl) (by decide) (fun K hK => ?_)
          obtain ⟨_, _, _, _⟩ := blk2 BK646
          refine skip_ (w1 := ?_) (by rfl) rfl ?_ ?_
          rotate_left
          ·go_simp
           rfl
          refine hK.out _ _ ⟨(cF (cF hHeld.1)), (cF (cF hHeld.2.1)), (cF (cF hHeld.2.2.1)), (cF (cF hHeld.2.2.2))⟩ (fun hHeld => ?_)
          clear hK K
          refine done_ (by kernel_rfl) ?_
          try go_wp2
          refine bodyPost_ret (results_cc rfl _ _ gb645 gb646 28 28 #[.int .i64 t647, .slice Ao107 x654001_54.length co107] #[.int .i64 t647, .slice Ao102 x683001_54.length co102] (0, 0) (0, 0) _ _ rfl (blkT BK645) Tryd.underlying28 rfl (by kernel_rfl) rfl (blkT BK646) Tryd.underlying28 rfl (by kernel_rfl)) rfl ?_
          exact ⟨_, _, eqE, Kd.R_g (Kd.R_mono (Kd.R_far (p := ⟨gb646, 1, none⟩) (Kd.R_far (p := ⟨gb646, 0, none⟩) (Kd.R_far (p := ⟨gb645, 1, none⟩) (Kd.R_far (p := ⟨gb645, 0, none⟩) (Kd.R_types (Kd.R_types HO_654001.out BK645.out (by decide)) BK646.out (by decide)) (fun _ hk => hk.1.2) (.int .i64 t647)) (fun _ hk => hk.1.2) (.slice Ao107 x654001_54.length co107)) (fun _ hk => hk.2) (.int .i64 t647)) (fun _ hk => hk.2) (.slice Ao102 x683001_54.length co102)) (fun _ hk => hk.1.1)), Kd.R_g (Kd.R_mono (Kd.R_far (p := ⟨gb646, 1, none⟩) (Kd.R_far (p := ⟨gb646, 0, none⟩) (Kd.R_far (p := ⟨gb645, 1, none⟩) (Kd.R_far (p := ⟨gb645, 0, none⟩) (Kd.R_types (Kd.R_types HO_683001.out BK645.out (by decide)) BK646.out (by decide)) (fun _ hk => hk.1.2) (.int .i64 t647)) (fun _ hk => hk.1.2) (.slice Ao107 x654001_54.length co107)) (fun _ hk => hk.2) (.int .i64 t647)) (fun _ hk => hk.2) (.slice Ao102 x683001_54.length co102)) (fun _ hk => hk.1.1)), by exact st46_4 HI0.out NB0_645.out NB0_646.out NB0_653.out NB0_682.out, by exact bl46_4 HB.out HI0.out GE645.out GE646.out GE653.out GE682.out, by exact kb46_4 HK.out GW645.out GW646.out GW653.out GW682.out⟩
        ·replace c80 := Bool.eq_false_iff.mpr c80
         subst c80
         replace H := ifF H
         obtain ⟨⟨t691, t692⟩, A111, H⟩ := obE H
         dsimp only at H
         simp only [Option.some.injEq, Prod.mk.injEq] at H
         obtain ⟨rfl, rfl, rfl, rfl, rfl, rfl⟩ := H
         obtain ⟨_, _, _, _⟩ := blk2 BK682
         obtain ⟨Ao117, co117, rfl⟩ := Kd.R_slice HO_683001.out
         try go_wp2_with (first | ((with_reducible refine gate_callee (f := 35) rfl ?_); refine goesQ (some 48) Tryd.func35 #[.agg #[.int .i64 t647, .slice Ao117 x683001_54.length co117]] ?_; (with_reducible refine (spec_orGood.calls kj54 t647 _ _ x683001_54 false _ ?_ ?_ A79.out).mono ?_); exact rC HO_683001; exact rL HO_683001; rintro e w118 ⟨rfl, hb⟩; refine ⟨_, rfl, ?_⟩; replace HO_654001 := rB HO_654001 hb; replace HO_683001 := rB HO_683001 hb; replace BK645 := blkB BK645 hb; replace BK646 := blkB BK646 hb; replace BK653 := blkB BK653 hb; replace BK682 := blkB BK682 hb; replace HK := kU (g := g) (by exact kb46_4 HK.out GW645.out GW646.out GW653.out GW682.out) hb; replace HB := mkA (below_step (by exact bl46_4 HB.out HI0.out GE645.out GE646.out GE653.out GE682.out) hb); replace HI0 := mkA (IsS46.below (by exact st46_4 HI0.out NB0_645.out NB0_646.out NB0_653.out NB0_682.out) hb); clear hb))
         replace HO_654001 := mkA (Kd.R_drew HO_654001.out)
         replace HO_683001 := mkA (Kd.R_drew HO_683001.out)
         replace BK645 := mkA (blk_drew BK645.out)
         replace BK646 := mkA (blk_drew BK646.out)
         replace BK653 := mkA (blk_drew BK653.out)
         replace BK682 := mkA (blk_drew BK682.out)
         replace HI0 := mkA (IsS46.drew HI0.out)
         replace HK := mkA (keep_drew HK.out)
         replace HB := mkA (below_drew1 HB.out)
         obtain ⟨Ao120, co120, eo120⟩ := Kd.R_slice HO_654001.out
         (first | subst eo120 | (injection eo120 with f1_ f2_ f3_; have f4_ := f1_.symm; have f5_ := f3_.symm; clear f1_ f2_ f3_; subst f4_; subst f5_))
         refine start_ (n := 5) (S := fun w' => w'.cell? ⟨gb653, 0, none⟩ = some (.int .i64 t647) ∧ w'.cell? ⟨gb653, 1, none⟩ = some (.slice Ao120 x654001_54.length co120)) (ds := []) (bm 5 0) (by kernel_rfl) rfl (by kernel_rfl) ⟨(blk_cell BK653.out 0).trans rfl, (blk_cell BK653.out 1).trans rfl⟩ (fun hHeld => ?_)
         generalize w118.drew = w119 at HO_654001 HO_683001 BK645 BK646 BK653 BK682 HI0 HK HB hHeld ⊢
         refine take_ (i := 0) (N := some 55) (v := ?_) (a' := ?_) (bm 5 1) rfl rfl (by kernel_rfl) (fun _ _ _ h => h) (Or.inl ⟨by rfl, ?_⟩) hHeld ?_ ?_
         rotate_left
         ·rintro w' ⟨s0, s1⟩
          go_simp
          with_reducible rfl
         rotate_left
         ·simp only [Act.put, List.setIfInBounds_toArray, List.set_cons_zero, List.set_cons_succ, i64_w, i32_w]
          rfl
         refine take_ (i := 1) (N := some 56) (v := ?_) (a' := ?_) (bm 5 3) rfl rfl (by kernel_rfl) (fun _ _ _ h => h) (Or.inl ⟨by rfl, ?_⟩) hHeld ?_ ?_
         rotate_left
         ·rintro w' ⟨s0, s1⟩
          go_simp
          with_reducible rfl
         rotate_left
         ·simp only [Act.put, List.setIfInBounds_toArray, List.set_cons_zero, List.set_cons_succ, i64_w, i32_w]
          rfl
         refine one_ (i := 2) (N := some 57) (bm 5 7) rfl rfl (by kernel_rfl) (by decide) (fun K hK => ?_)
         refine goesR Tryd.func71 #[.agg #[.int .i64 t647, .slice Ao120 x654001_54.length co120]] ?_
         with_reducible refine (spec_orMirror.calls kj54 t647 _ _ x654001_54 t691 t692 _ ?s1 ?s2 A111.out).mono ?_
         (case s1 => exact rC HO_654001)
         (case s2 => exact rL HO_654001)
         rintro e w121 ⟨v693, rfl, ho0, hb⟩
         refine ⟨_, rfl, ?_⟩
         have HO694 := mkA (Kd.R_lower (rN (rN ho0 HO_654001) HO_683001) (keep_size (w := w) (g := g) (row := none) (by exact kb46_4 HK.out GW645.out GW646.out GW653.out GW682.out)))
         replace HO_654001 := rE HO_654001 ho0 hb
         replace HO_683001 := rE HO_683001 ho0 hb
         replace BK645 := blkB BK645 hb
         replace BK646 := blkB BK646 hb
         replace BK653 := blkB BK653 hb
         replace BK682 := blkB BK682 hb
         replace HK := kU (g := g) (by exact kb46_4 HK.out GW645.out GW646.out GW653.out GW682.out) hb
         replace HB := mkA (below_step (by exact bl46_4 HB.out HI0.out GE645.out GE646.out GE653.out GE682.out) hb)
         replace HI0 := mkA (IsS46.below (by exact st46_4 HI0.out NB0_645.out NB0_646.out NB0_653.out NB0_682.out) hb)
         (try clear hb)
         (try clear hb2)
         (try clear hk)
         (try clear hi)
         (try clear ho0)
         obtain ⟨Ao125, co125, eo125⟩ := Kd.R_slice HO694.out
         (first | subst eo125 | (injection eo125 with f1_ f2_ f3_; have f4_ := f1_.symm; have f5_ := f3_.symm; clear f1_ f2_ f3_; subst f4_; subst f5_))
         refine hK.out _ _ ⟨(blk_cell BK653.out 0).trans rfl, (blk_cell BK653.out 1).trans rfl⟩ (fun hHeld => ?_)
         clear hK K
         refine normW 57 ?_
         refine one_ (i := 3) (N := none) (bm 5 15) rfl rfl (by kernel_rfl) (by decide) (fun K hK => ?_)
         obtain ⟨_, _, _, _⟩ := blk2 BK645
         refine skip_ (w1 := ?_) (by rfl) rfl ?_ ?_
         rotate_left
         ·go_simp
          rfl
         refine hK.out _ _ ⟨(cF (cF hHeld.1)), (cF (cF hHeld.2))⟩ (fun hHeld => ?_)
         clear hK K
         refine one_ (i := 4) (N := none) (bm 5 31) rfl rfl (by kernel_rfl) (by decide) (fun K hK => ?_)
         obtain ⟨_, _, _, _⟩ := blk2 BK646
         refine skip_ (w1 := ?_) (by rfl) rfl ?_ ?_
         rotate_left
         ·go_simp
          rfl
         refine hK.out _ _ ⟨(cF (cF hHeld.1)), (cF (cF hHeld.2))⟩ (fun hHeld => ?_)
         clear hK K
         refine done_ (by kernel_rfl) ?_
         try go_wp2
         refine bodyPost_ret (results_cc rfl _ _ gb645 gb646 28 28 #[.int .i64 t647, .slice Ao120 x654001_54.length co120] #[.int .i64 t691, .slice Ao125 t692.length co125] (0, 0) (0, 0) _ _ rfl (blkT BK645) Tryd.underlying28 rfl (by kernel_rfl) rfl (blkT BK646) Tryd.underlying28 rfl (by kernel_rfl)) rfl ?_
         exact ⟨_, _, eqE, Kd.R_g (Kd.R_mono (Kd.R_far (p := ⟨gb646, 1, none⟩) (Kd.R_far (p := ⟨gb646, 0, none⟩) (Kd.R_far (p := ⟨gb645, 1, none⟩) (Kd.R_far (p := ⟨gb645, 0, none⟩) (Kd.R_types (Kd.R_types HO_654001.out BK645.out (by decide)) BK646.out (by decide)) (fun _ hk => hk.1.2) (.int .i64 t647)) (fun _ hk => hk.1.2) (.slice Ao120 x654001_54.length co120)) (fun _ hk => hk.2) (.int .i64 t691)) (fun _ hk => hk.2) (.slice Ao125 t692.length co125)) (fun _ hk => hk.1.1.2)), Kd.R_g (Kd.R_mono (Kd.R_far (p := ⟨gb646, 1, none⟩) (Kd.R_far (p := ⟨gb646, 0, none⟩) (Kd.R_far (p := ⟨gb645, 1, none⟩) (Kd.R_far (p := ⟨gb645, 0, none⟩) (Kd.R_types (Kd.R_types HO694.out BK645.out (by decide)) BK646.out (by decide)) (fun _ hk => hk.1.2) (.int .i64 t647)) (fun _ hk => hk.1.2) (.slice Ao120 x654001_54.length co120)) (fun _ hk => hk.2) (.int .i64 t691)) (fun _ hk => hk.2) (.slice Ao125 t692.length co125)) (fun _ hk => hk.1.1.1.2)), by exact st46_4 HI0.out NB0_645.out NB0_646.out NB0_653.out NB0_682.out, by exact bl46_4 HB.out HI0.out GE645.out GE646.out GE653.out GE682.out, by exact kb46_4 HK.out GW645.out GW646.out GW653.out GW682.out⟩
     ·have c53b0 := beq_eq_false_iff_ne.mpr c53
      have c53b1 := bne_iff_ne.mpr c53
      obtain ⟨⟨t695, t696⟩, A127, H⟩ := obE H
      dsimp only at H
      simp only [Option.some.injEq, Prod.mk.injEq] at H
      obtain ⟨rfl, rfl, rfl, rfl, rfl, rfl⟩ := H
      try go_wp2_with (first | ((with_reducible refine gate_callee (f := 41) rfl ?_); refine goesQ (some 19) Tryd.func41 #[.pointer (some ⟨g, 0, none⟩), .int .i64 3] ?_; (with_reducible refine (spec_l1Cur_pick.calls g s0_0 x1001_2 x1002_2 3 t664 t665 t666 w0 _ ?_ ?_ A36.out).mono ?_); exact st46_3 HI0.out NB0_645.out NB0_646.out NB0_653.out; exact bl46_3 HB.out HI0.out GE645.out GE646.out GE653.out; rintro e w128 ⟨rfl, hi, hb, hk⟩; refine ⟨_, rfl, ?_⟩; replace HO_654001 := rK (IsS46.apart (show IsS46 w0 _ g s0_0 x1001_2 x1002_2 from by exact st46_3 HI0.out NB0_645.out NB0_646.out NB0_653.out) (Kd.R_g HO_654001.out) (by decide)) hk; replace BK645 := kB hk BK645; replace BK646 := kB hk BK646; replace BK653 := kB hk BK653; replace HK := kT (by exact kb46_3 HK.out GW645.out GW646.out GW653.out) hk; replace HI0 := mkA (hi); replace HB := mkA (hb); clear hb hk hi))
      replace HO_654001 := mkA (Kd.R_drew HO_654001.out)
      replace BK645 := mkA (blk_drew BK645.out)
      replace BK646 := mkA (blk_drew BK646.out)
      replace BK653 := mkA (blk_drew BK653.out)
      replace HI0 := mkA (IsS46.drew HI0.out)
      replace HK := mkA (keep_drew HK.out)
      replace HB := mkA (below_drew1 HB.out)
      refine start_ (n := 5) (S := fun w' => w'.cell? ⟨gb653, 0, none⟩ = some (.int .i64 t647) ∧ w'.cell? ⟨gb653, 1, none⟩ = some (.slice Ao12 t648.length co12)) (ds := []) (bm 5 0) (by kernel_rfl) rfl (by kernel_rfl) ⟨(blk_cell BK653.out 0).trans rfl, (blk_cell BK653.out 1).trans rfl⟩ (fun hHeld => ?_)
      generalize w128.drew = w129 at HO_654001 BK645 BK646 BK653 HI0 HK HB hHeld ⊢
      refine take_ (i := 0) (N := some 55) (v := ?_) (a' := ?_) (bm 5 1) rfl rfl (by kernel_rfl) (fun _ _ _ h => h) (Or.inl ⟨by rfl, ?_⟩) hHeld ?_ ?_
      rotate_left
      ·rintro w' ⟨s0, s1⟩
       go_simp
       with_reducible rfl
      rotate_left
      ·simp only [Act.put, List.setIfInBounds_toArray, List.set_cons_zero, List.set_cons_succ, i64_w, i32_w]
       rfl
      refine take_ (i := 1) (N := some 56) (v := ?_) (a' := ?_) (bm 5 3) rfl rfl (by kernel_rfl) (fun _ _ _ h => h) (Or.inl ⟨by rfl, ?_⟩) hHeld ?_ ?_
      rotate_left
      ·rintro w' ⟨s0, s1⟩
       go_simp
       with_reducible rfl
      rotate_left
      ·simp only [Act.put, List.setIfInBounds_toArray, List.set_cons_zero, List.set_cons_succ, i64_w, i32_w]
       rfl
      refine one_ (i := 2) (N := some 57) (bm 5 7) rfl rfl (by kernel_rfl) (by decide) (fun K hK => ?_)
      refine goesR Tryd.func71 #[.agg #[.int .i64 t647, .slice Ao12 t648.length co12]] ?_
      with_reducible refine (spec_orMirror.calls kj2 t647 _ _ t648 t695 t696 _ ?s1 ?s2 A127.out).mono ?_
      (case s1 => exact rC HO_654001)
      (case s2 => exact rL HO_654001)
      rintro e w130 ⟨v697, rfl, ho0, hb⟩
      refine ⟨_, rfl, ?_⟩
      have HO698 := mkA (Kd.R_lower (rN ho0 HO_654001) (keep_size (w := w) (g := g) (row := none) (by exact kb46_3 HK.out GW645.out GW646.out GW653.out)))
      replace HO_654001 := rE HO_654001 ho0 hb
      replace BK645 := blkB BK645 hb
      replace BK646 := blkB BK646 hb
      replace BK653 := blkB BK653 hb
      replace HK := kU (g := g) (by exact kb46_3 HK.out GW645.out GW646.out GW653.out) hb
      replace HB := mkA (below_step (by exact bl46_3 HB.out HI0.out GE645.out GE646.out GE653.out) hb)
      replace HI0 := mkA (IsS46.below (by exact st46_3 HI0.out NB0_645.out NB0_646.out NB0_653.out) hb)
      (try clear hb)
      (try clear hb2)
      (try clear hk)
      (try clear hi)
      (try clear ho0)
      obtain ⟨Ao134, co134, eo134⟩ := Kd.R_slice HO698.out
      (first | subst eo134 | (injection eo134 with f1_ f2_ f3_; have f4_ := f1_.symm; have f5_ := f3_.symm; clear f1_ f2_ f3_; subst f4_; subst f5_))
      refine hK.out _ _ ⟨(blk_cell BK653.out 0).trans rfl, (blk_cell BK653.out 1).trans rfl⟩ (fun hHeld => ?_)
      clear hK K
      refine normW 57 ?_
      refine one_ (i := 3) (N := none) (bm 5 15) rfl rfl (by kernel_rfl) (by decide) (fun K hK => ?_)
      obtain ⟨_, _, _, _⟩ := blk2 BK645
      refine skip_ (w1 := ?_) (by rfl) rfl ?_ ?_
      rotate_left
      ·go_simp
       rfl
      refine hK.out _ _ ⟨(cF (cF hHeld.1)), (cF (cF hHeld.2))⟩ (fun hHeld => ?_)
      clear hK K
      refine one_ (i := 4) (N := none) (bm 5 31) rfl rfl (by kernel_rfl) (by decide) (fun K hK => ?_)
      obtain ⟨_, _, _, _⟩ := blk2 BK646
      refine skip_ (w1 := ?_) (by rfl) rfl ?_ ?_
      rotate_left
      ·go_simp
       rfl
      refine hK.out _ _ ⟨(cF (cF hHeld.1)), (cF (cF hHeld.2))⟩ (fun hHeld => ?_)
      clear hK K
      refine done_ (by kernel_rfl) ?_
      try go_wp2
      refine bodyPost_ret (results_cc rfl _ _ gb645 gb646 28 28 #[.int .i64 t647, .slice Ao12 t648.length co12] #[.int .i64 t695, .slice Ao134 t696.length co134] (0, 0) (0, 0) _ _ rfl (blkT BK645) Tryd.underlying28 rfl (by kernel_rfl) rfl (blkT BK646) Tryd.underlying28 rfl (by kernel_rfl)) rfl ?_
      exact ⟨_, _, eqE, Kd.R_g (Kd.R_mono (Kd.R_far (p := ⟨gb646, 1, none⟩) (Kd.R_far (p := ⟨gb646, 0, none⟩) (Kd.R_far (p := ⟨gb645, 1, none⟩) (Kd.R_far (p := ⟨gb645, 0, none⟩) (Kd.R_types (Kd.R_types HO_654001.out BK645.out (by decide)) BK646.out (by decide)) (fun _ hk => hk.1.2) (.int .i64 t647)) (fun _ hk => hk.1.2) (.slice Ao12 t648.length co12)) (fun _ hk => hk.2) (.int .i64 t695)) (fun _ hk => hk.2) (.slice Ao134 t696.length co134)) (fun _ hk => hk.1.1.2)), Kd.R_g (Kd.R_mono (Kd.R_far (p := ⟨gb646, 1, none⟩) (Kd.R_far (p := ⟨gb646, 0, none⟩) (Kd.R_far (p := ⟨gb645, 1, none⟩) (Kd.R_far (p := ⟨gb645, 0, none⟩) (Kd.R_types (Kd.R_types HO698.out BK645.out (by decide)) BK646.out (by decide)) (fun _ hk => hk.1.2) (.int .i64 t647)) (fun _ hk => hk.1.2) (.slice Ao12 t648.length co12)) (fun _ hk => hk.2) (.int .i64 t695)) (fun _ hk => hk.2) (.slice Ao134 t696.length co134)) (fun _ hk => hk.1.1.2)), by exact st46_3 HI0.out NB0_645.out NB0_646.out NB0_653.out, by exact bl46_3 HB.out HI0.out GE645.out GE646.out GE653.out, by exact kb46_3 HK.out GW645.out GW646.out GW653.out⟩
end Go.Proofs.YtmdnbjhboppkdaaDoor.Q
