import Derived.Test.YtgbdjchdfcodcaaDoorBFnRefinements16
namespace Go.Proofs.YtgbdjchdfcodcaaDoor.Q
open Go.RowKit Go.Proofs.YtgbdjchdfcodcaaDoorW.PrintWords Go.Proofs.YtgbdjchdfcodcaaDoorW.PrintLast Go.Proofs.YtgbdjchdfcodcaaDoorW.PrintMore
attribute [local go_sem] max2_int min2_int max_two min_two max_three min_three max_four min_four neB_f
set_option linter.unusedVariables false
set_option maxHeartbeats 8000000
set_option maxRecDepth 100000
set_option linter.unusedSimpArgs false
def impl_DoesRefine.l0 : Nat → List Int → Int → Int → Int → List Int → Option (Bool × Bool)
 | 0, _, _, _, _, _ => none
 | k + 1, x13, x14, x15, x475000, x475001 => if x15 < x14 then (if 0 ≤ x15 then (if x15 < (x13.length : Int) then (if x15 < (x475001.length : Int) then (if (Go.bits .andNot .i64 (rd x13 x15) (rd x475001 x15)) = 0 then (impl_DoesRefine.l0 k x13 x14 (wrap64 (x15 + 1)) x475000 x475001) else (some (false, true))) else (none)) else (none)) else (none)) else (some (true, true))
def impl_DoesRefine.f (k : Nat) (a0_0 : Int) (l0_1 : List Int) (a1_0 : Int) (l1_1 : List Int) : Option (Bool × Bool) := (impl_areOrders.f k a0_0 l0_1 a1_0 l1_1).bind fun t476 => (if t476 = true then (impl_DoesRefine.l0 k l1_1 (l1_1.length : Int) 0 a0_0 l0_1) else (some (false, false)))
theorem impl_DoesRefine.mono_l : ∀ k, (∀ y0 y1 y2 y3 y4, LeO (impl_DoesRefine.l0 k y0 y1 y2 y3 y4) (impl_DoesRefine.l0 (k + 1) y0 y1 y2 y3 y4))
 | 0 => fun _ _ _ _ _ r h => by simp [impl_DoesRefine.l0] at h
 | k + 1 => by
  have ih0 := impl_DoesRefine.mono_l k
  ·intro y0 y1 y2 y3 y4
   unfold impl_DoesRefine.l0
   repeat' (with_reducible first|exact ih0 _ _ _ _ _|exact impl_areOrders.mono _ _ _ _ _|exact LeO.refl _|exact LeO.none _|refine LeO.ite ?_ ?_|refine LeO.bind ?_ (fun _ => ?_))
theorem impl_DoesRefine.mono : ∀ a0 a1 a2 a3 k, LeO (impl_DoesRefine.f k a0 a1 a2 a3) (impl_DoesRefine.f (k + 1) a0 a1 a2 a3) := by
 intro a0 a1 a2 a3 k
 have ih0 := impl_DoesRefine.mono_l k
 unfold impl_DoesRefine.f
 repeat' (with_reducible first|exact ih0 _ _ _ _ _|exact impl_areOrders.mono _ _ _ _ _|exact LeO.refl _|exact LeO.none _|refine LeO.ite ?_ ?_|refine LeO.bind ?_ (fun _ => ?_))
theorem impl_DoesRefine.calls (k : Nat) (a0_0 : Int) (A0_1 : Option Addr) (c0_1 : Nat) (l0_1 : List Int) (a1_0 : Int) (A1_1 : Option Addr) (c1_1 : Nat) (l1_1 : List Int) (r1 : Bool) (r2 : Bool) (w : World) (hr0_1 : Kd.C (Kd.int .i64) w A0_1 l0_1.length l0_1) (hc0_1 : l0_1.length ≤ c0_1) (hr1_1 : Kd.C (Kd.int .i64) w A1_1 l1_1.length l1_1) (hc1_1 : l1_1.length ≤ c1_1) (hTAB : Tab w) (h : impl_DoesRefine.f k a0_0 l0_1 a1_0 l1_1 = some (r1, r2)) :
  Calls Tryd.prog 8 #[.agg #[.int .i64 a0_0, .slice A0_1 l0_1.length c0_1], .agg #[.int .i64 a1_0, .slice A1_1 l1_1.length c1_1]] w fun e w' => e = .returned (.tuple #[.bool r1, .bool r2]) ∧ Below w.heap.size w w' := by
 have HTAB := mkA hTAB
 clear hTAB
 have hu26 := Tryd.underlying26
 have HR0_1 := mkA hr0_1
 have HC0_1 := mkA hc0_1
 clear hr0_1 hc0_1
 have HR1_1 := mkA hr1_1
 have HC1_1 := mkA hc1_1
 clear hr1_1 hc1_1
 have HB := mkA (Below.refl w.heap.size w)
 have H := h
 clear h
 unfold impl_DoesRefine.f at H
 obtain ⟨t476, A3, H⟩ := obE H
 by_cases c4 : t476 = true
 ·subst c4
  replace H := ifT H
  have H' := mkA H
  clear H
  go_enter Tryd.func8, Tryd.ntmps8
  go_wp2_with (first | ((with_reducible refine gate_dst (N := 2) rfl ?_); refine boxE (N := 2) (cs := #[.int .i64 a0_0, .slice A0_1 l0_1.length c0_1]) (t := 26) ?_; intro gb474 hg w5 hbox hb; have BK474 := mkA (hbox); have GE474 := geB HB hg; replace HB := bst HB hb; clear hb hbox hg) | ((with_reducible refine gate_dst (N := 3) rfl ?_); refine boxE (N := 3) (cs := #[.int .i64 a1_0, .slice A1_1 l1_1.length c1_1]) (t := 26) ?_; intro gb475 hg w6 hbox hb; have BK475 := mkA (hbox); have GE475 := geB HB hg; have NB474_475 := neL7 BK474 hg; have NB475_474 := neR7 BK474 hg; replace BK474 := blkB BK474 hb; replace HB := bst HB hb; clear hb hbox hg; obtain ⟨_, _, _, _⟩ := blk2 BK474; obtain ⟨_, _, _, _⟩ := blk2 BK475) | ((with_reducible refine gate_callee (f := 18) rfl ?_); refine goesQ (some 10) Tryd.func18 #[.agg #[.int .i64 a0_0, .slice A0_1 l0_1.length c0_1], .agg #[.int .i64 a1_0, .slice A1_1 l1_1.length c1_1]] ?_; (with_reducible refine (impl_areOrders.calls k a0_0 _ _ l0_1 a1_0 _ _ l1_1 true _ ?s1 ?s2 ?s3 ?s4 ?s5 A3.out).mono ?_); (case s1 => exact C_g HR0_1 HB); (case s2 => exact HC0_1.out); (case s3 => exact C_g HR1_1 HB); (case s4 => exact HC1_1.out); (case s5 => exact Tab.below HTAB.out (bel_g HB.out)); rintro e w10 ⟨rfl, hb⟩; refine ⟨_, rfl, ?_⟩; replace BK474 := blkB BK474 hb; replace BK475 := blkB BK475 hb; replace HB := bst HB hb; (try clear hb); obtain ⟨_, _, _, _⟩ := blk2 BK475))
  go_loopg [15] k (fun kq v15 w' => ∃ (x15_1 : Int), v15 = .int .i64 x15_1 ∧ Fc (impl_DoesRefine.l0 kq l1_1 (l1_1.length : Int) x15_1 a0_0 l0_1 = some (r1, r2)) ∧ Fc (kq ≤ k) ∧ Fc (w'.heap[gb474]? = some (.cells #[.int .i64 a0_0, (.slice A0_1 l0_1.length c0_1)] 26 (0, 0))) ∧ Fc (w'.heap[gb475]? = some (.cells #[.int .i64 a1_0, (.slice A1_1 l1_1.length c1_1)] 26 (0, 0))) ∧ Fc (Below w.heap.size w w'))
  case atStart => exact ⟨(0), eqS, H', ⟨Nat.le_refl _⟩, ⟨blk_g BK474.out⟩, ⟨blk_g BK475.out⟩, ⟨bel_g HB.out⟩⟩
  case round =>
   clear H'
   try clear c4
   obtain ⟨x15_1, rfl, HA, HK1, BK474, BK475, HB⟩ := hrel
   cases gk with
   | zero => exact absurd HA.out (by simp [impl_DoesRefine.l0])
   | succ k1 =>
    have H := HA.out
    clear HA
    simp only [impl_DoesRefine.l0] at H
    rcases iteE H with ⟨c12b0, H⟩ | ⟨c12b0, H⟩
    ·obtain ⟨c13, H⟩ := itNP H
     have c13b0 : decide (0 ≤ x15_1) = true := decide_eq_true c13
     clear c13
     obtain ⟨c14, H⟩ := itNP H
     have c14b0 : decide (x15_1 < (l1_1.length : Int)) = true := decide_eq_true c14
     clear c14
     obtain ⟨c15, H⟩ := itNP H
     have c15b0 : decide (x15_1 < (l0_1.length : Int)) = true := decide_eq_true c15
     clear c15
     rcases iteP H with ⟨c16, H⟩ | ⟨c16, H⟩
     ·have c16b0 : ((Go.bits .andNot .i64 (rd l1_1 x15_1) (rd l0_1 x15_1)) == 0) = true := beq_iff_eq.mpr c16
      have c16b1 : ((Go.bits .andNot .i64 (rd l1_1 x15_1) (rd l0_1 x15_1)) != 0) = false := bne_eq_false_iff_eq.mpr c16
      clear c16
      have H' := mkA H
      clear H
      have p477 : 0 ≤ (x15_1 : Int) := ofd
      have q477 : x15_1 < (l1_1.length : Int) := ofd
      obtain ⟨ad477, e477, hx477_0⟩ := Kd.at_int HR1_1.out x15_1 p477 q477
      cases e477
      replace hx477_0 := (HB.out.cell (World.block_lt_of_cell? w _ hx477_0)).trans hx477_0
      replace p477 := eq_true p477
      replace q477 := eq_true q477
      obtain ⟨_, _, _, _⟩ := blk2 BK474
      have p478 : 0 ≤ (x15_1 : Int) := ofd
      have q478 : x15_1 < (l0_1.length : Int) := ofd
      obtain ⟨ad478, e478, hx478_0⟩ := Kd.at_int HR0_1.out x15_1 p478 q478
      cases e478
      replace hx478_0 := (HB.out.cell (World.block_lt_of_cell? w _ hx478_0)).trans hx478_0
      replace p478 := eq_true p478
      replace q478 := eq_true q478
      go_wp2
      go_roundg k1
      case measure => have := HK1.out; omega
      case rel => exact ⟨(wrap64 (x15_1 + 1)), eqS, H', ⟨by have := HK1.out; omega⟩, ⟨blk_g BK474.out⟩, ⟨blk_g BK475.out⟩, ⟨bel_g HB.out⟩⟩
     ·have c16b0 : ((Go.bits .andNot .i64 (rd l1_1 x15_1) (rd l0_1 x15_1)) == 0) = false := beq_eq_false_iff_ne.mpr c16
      have c16b1 : ((Go.bits .andNot .i64 (rd l1_1 x15_1) (rd l0_1 x15_1)) != 0) = true := bne_iff_ne.mpr c16
      simp only [Option.some.injEq, Prod.mk.injEq] at H
      obtain ⟨rfl, rfl⟩ := H
      have p477 : 0 ≤ (x15_1 : Int) := ofd
      have q477 : x15_1 < (l1_1.length : Int) := ofd
      obtain ⟨ad477, e477, hx477_0⟩ := Kd.at_int HR1_1.out x15_1 p477 q477
      cases e477
      replace hx477_0 := (HB.out.cell (World.block_lt_of_cell? w _ hx477_0)).trans hx477_0
      replace p477 := eq_true p477
      replace q477 := eq_true q477
      obtain ⟨_, _, _, _⟩ := blk2 BK474
      have p478 : 0 ≤ (x15_1 : Int) := ofd
      have q478 : x15_1 < (l0_1.length : Int) := ofd
      obtain ⟨ad478, e478, hx478_0⟩ := Kd.at_int HR0_1.out x15_1 p478 q478
      cases e478
      replace hx478_0 := (HB.out.cell (World.block_lt_of_cell? w _ hx478_0)).trans hx478_0
      replace p478 := eq_true p478
      replace q478 := eq_true q478
      go_wp2
      go_ret2
      exact ⟨eqE, bel_g HB.out⟩
    ·simp only [Option.some.injEq, Prod.mk.injEq] at H
     obtain ⟨rfl, rfl⟩ := H
     go_wp2
     go_ret2
     exact ⟨eqE, bel_g HB.out⟩
 ·replace c4 := Bool.eq_false_iff.mpr c4
  subst c4
  replace H := ifF H
  simp only [Option.some.injEq, Prod.mk.injEq] at H
  obtain ⟨rfl, rfl⟩ := H
  go_enter Tryd.func8, Tryd.ntmps8
  go_wp2_with (first | ((with_reducible refine gate_dst (N := 2) rfl ?_); refine boxE (N := 2) (cs := #[.int .i64 a0_0, .slice A0_1 l0_1.length c0_1]) (t := 26) ?_; intro gb474 hg w21 hbox hb; have BK474 := mkA (hbox); have GE474 := geB HB hg; replace HB := bst HB hb; clear hb hbox hg) | ((with_reducible refine gate_dst (N := 3) rfl ?_); refine boxE (N := 3) (cs := #[.int .i64 a1_0, .slice A1_1 l1_1.length c1_1]) (t := 26) ?_; intro gb475 hg w22 hbox hb; have BK475 := mkA (hbox); have GE475 := geB HB hg; have NB474_475 := neL7 BK474 hg; have NB475_474 := neR7 BK474 hg; replace BK474 := blkB BK474 hb; replace HB := bst HB hb; clear hb hbox hg; obtain ⟨_, _, _, _⟩ := blk2 BK474; obtain ⟨_, _, _, _⟩ := blk2 BK475) | ((with_reducible refine gate_callee (f := 18) rfl ?_); refine goesQ (some 10) Tryd.func18 #[.agg #[.int .i64 a0_0, .slice A0_1 l0_1.length c0_1], .agg #[.int .i64 a1_0, .slice A1_1 l1_1.length c1_1]] ?_; (with_reducible refine (impl_areOrders.calls k a0_0 _ _ l0_1 a1_0 _ _ l1_1 false _ ?s1 ?s2 ?s3 ?s4 ?s5 A3.out).mono ?_); (case s1 => exact C_g HR0_1 HB); (case s2 => exact HC0_1.out); (case s3 => exact C_g HR1_1 HB); (case s4 => exact HC1_1.out); (case s5 => exact Tab.below HTAB.out (bel_g HB.out)); rintro e w26 ⟨rfl, hb⟩; refine ⟨_, rfl, ?_⟩; replace BK474 := blkB BK474 hb; replace BK475 := blkB BK475 hb; replace HB := bst HB hb; (try clear hb)))
  go_ret2
  exact ⟨eqE, bel_g HB.out⟩
mutual
def spec_DoesRefine.j0 : Nat → Bool → Int → List Int → Int → List Int → Option (Bool × Bool)
 | 0, _, _, _, _, _ => none
 | k + 1, x22, x480000, x480001, x481000, x481001 => if x22 = true then (some (false, false)) else (spec_DoesRefine.l0 k x481001 (x481001.length : Int) 0 x480000 x480001)
def spec_DoesRefine.l0 : Nat → List Int → Int → Int → Int → List Int → Option (Bool × Bool)
 | 0, _, _, _, _, _ => none
 | k + 1, x24, x25, x26, x480000, x480001 => if x26 < x25 then (if 0 ≤ x26 then (if x26 < (x24.length : Int) then (if x26 < (x480001.length : Int) then (if (Go.bits .andNot .i64 (rd x24 x26) (rd x480001 x26)) = 0 then (spec_DoesRefine.l0 k x24 x25 (wrap64 (x26 + 1)) x480000 x480001) else (some (false, true))) else (none)) else (none)) else (none)) else (some (true, true))
end
def spec_DoesRefine.f (k : Nat) (a0_0 : Int) (l0_1 : List Int) (a1_0 : Int) (l1_1 : List Int) : Option (Bool × Bool) := (spec_orGood.f k a0_0 l0_1).bind fun t481 => (if t481 = true then ((spec_orGood.f k a1_0 l1_1).bind fun t482 => (if t482 = true then (spec_DoesRefine.j0 k (a0_0 != a1_0) a0_0 l0_1 a1_0 l1_1) else (spec_DoesRefine.j0 k true a0_0 l0_1 a1_0 l1_1))) else (spec_DoesRefine.j0 k true a0_0 l0_1 a1_0 l1_1))
theorem spec_DoesRefine.mono_l : ∀ k, (∀ y0 y1 y2 y3 y4, LeO (spec_DoesRefine.j0 k y0 y1 y2 y3 y4) (spec_DoesRefine.j0 (k + 1) y0 y1 y2 y3 y4)) ∧ (∀ y0 y1 y2 y3 y4, LeO (spec_DoesRefine.l0 k y0 y1 y2 y3 y4) (spec_DoesRefine.l0 (k + 1) y0 y1 y2 y3 y4))
 | 0 => ⟨fun _ _ _ _ _ r h => by simp [spec_DoesRefine.j0] at h, fun _ _ _ _ _ r h => by simp [spec_DoesRefine.l0] at h⟩
 | k + 1 => by
  obtain ⟨ih0, ih1⟩ := spec_DoesRefine.mono_l k
  refine ⟨?_, ?_⟩ <;> intros
  unfold spec_DoesRefine.j0
  rotate_left
  unfold spec_DoesRefine.l0
  rotate_left
  all_goals repeat' (with_reducible first|exact ih0 _ _ _ _ _|exact ih1 _ _ _ _ _|exact spec_orGood.mono _ _ _|exact LeO.refl _|exact LeO.none _|refine LeO.ite ?_ ?_|refine LeO.bind ?_ (fun _ => ?_))
theorem spec_DoesRefine.mono : ∀ a0 a1 a2 a3 k, LeO (spec_DoesRefine.f k a0 a1 a2 a3) (spec_DoesRefine.f (k + 1) a0 a1 a2 a3) := by
 intro a0 a1 a2 a3 k
 obtain ⟨ih0, ih1⟩ := spec_DoesRefine.mono_l k
 unfold spec_DoesRefine.f
 repeat' (with_reducible first|exact ih0 _ _ _ _ _|exact ih1 _ _ _ _ _|exact spec_orGood.mono _ _ _|exact LeO.refl _|exact LeO.none _|refine LeO.ite ?_ ?_|refine LeO.bind ?_ (fun _ => ?_))
theorem spec_DoesRefine.calls (k : Nat) (a0_0 : Int) (A0_1 : Option Addr) (c0_1 : Nat) (l0_1 : List Int) (a1_0 : Int) (A1_1 : Option Addr) (c1_1 : Nat) (l1_1 : List Int) (r1 : Bool) (r2 : Bool) (w : World) (hr0_1 : Kd.C (Kd.int .i64) w A0_1 l0_1.length l0_1) (hc0_1 : l0_1.length ≤ c0_1) (hr1_1 : Kd.C (Kd.int .i64) w A1_1 l1_1.length l1_1) (hc1_1 : l1_1.length ≤ c1_1) (h : spec_DoesRefine.f k a0_0 l0_1 a1_0 l1_1 = some (r1, r2)) :
  Calls Tryd.prog 9 #[.agg #[.int .i64 a0_0, .slice A0_1 l0_1.length c0_1], .agg #[.int .i64 a1_0, .slice A1_1 l1_1.length c1_1]] w fun e w' => e = .returned (.tuple #[.bool r1, .bool r2]) ∧ Below w.heap.size w w' := by
 have hu26 := Tryd.underlying26
 have HR0_1 := mkA hr0_1
 have HC0_1 := mkA hc0_1
 clear hr0_1 hc0_1
 have HR1_1 := mkA hr1_1
 have HC1_1 := mkA hc1_1
 clear hr1_1 hc1_1
 have HB := mkA (Below.refl w.heap.size w)
 have H := h
 clear h
 unfold spec_DoesRefine.f at H
 have HC3 := mkA H
 clear H
 go_enter Tryd.func9, Tryd.ntmps9
 go_upto_region 1 with (first | ((with_reducible refine gate_dst (N := 2) rfl ?_); refine boxE (N := 2) (cs := #[.int .i64 a0_0, .slice A0_1 l0_1.length c0_1]) (t := 26) ?_; intro gb479 hg w4 hbox hb; have BK479 := mkA (hbox); have GE479 := geB HB hg; replace HB := bst HB hb; clear hb hbox hg) | ((with_reducible refine gate_dst (N := 3) rfl ?_); refine boxE (N := 3) (cs := #[.int .i64 a1_0, .slice A1_1 l1_1.length c1_1]) (t := 26) ?_; intro gb480 hg w5 hbox hb; have BK480 := mkA (hbox); have GE480 := geB HB hg; have NB479_480 := neL7 BK479 hg; have NB480_479 := neR7 BK479 hg; replace BK479 := blkB BK479 hb; replace HB := bst HB hb; clear hb hbox hg))
 (try simp only [Act.put, List.setIfInBounds_toArray, List.set_cons_zero, List.set_cons_succ])
 go_cut [22] (fun v22 wc => ∃ (kq : Nat) (x22_2 : Bool), v22 = .bool x22_2 ∧ Fc (spec_DoesRefine.j0 kq x22_2 a0_0 l0_1 a1_0 l1_1 = some (r1, r2)) ∧ Fc (kq ≤ k) ∧ Fc (wc.heap[gb479]? = some (.cells #[.int .i64 a0_0, (.slice A0_1 l0_1.length c0_1)] 26 (0, 0))) ∧ Fc (wc.heap[gb480]? = some (.cells #[.int .i64 a1_0, (.slice A1_1 l1_1.length c1_1)] 26 (0, 0))) ∧ Fc (Below w.heap.size w wc))
 case first =>
  have H := HC3.out
  clear HC3
  obtain ⟨t481, A6, H⟩ := obE H
  by_cases c7 : t481 = true
  ·subst c7
   replace H := ifT H
   obtain ⟨t482, A8, H⟩ := obE H
   by_cases c9 : t482 = true
   ·subst c9
    replace H := ifT H
    have H' := mkA H
    clear H
    obtain ⟨_, _, _, _⟩ := blk2 BK479
    go_wp2_with (first | ((with_reducible refine gate_callee (f := 22) rfl ?_); refine goesQ (some 9) Tryd.func22 #[.agg #[.int .i64 a0_0, .slice A0_1 l0_1.length c0_1]] ?_; (with_reducible refine (spec_orGood.calls k a0_0 _ _ l0_1 true _ ?s1 ?s2 A6.out).mono ?_); (case s1 => exact C_g HR0_1 HB); (case s2 => exact HC0_1.out); rintro e w12 ⟨rfl, hb⟩; refine ⟨_, rfl, ?_⟩; replace BK479 := blkB BK479 hb; replace BK480 := blkB BK480 hb; replace HB := bst HB hb; (try clear hb); obtain ⟨_, _, _, _⟩ := blk2 BK480) | (go_at_call 22; (with_reducible refine (spec_orGood.calls k a1_0 _ _ l1_1 true _ ?s1 ?s2 A8.out).mono ?_); (case s1 => exact C_g HR1_1 HB); (case s2 => exact HC1_1.out); rintro e w14 ⟨rfl, hb⟩; replace BK479 := blkB BK479 hb; replace BK480 := blkB BK480 hb; replace HB := bst HB hb; (try clear hb); obtain ⟨_, _, _, _⟩ := blk2 BK479; obtain ⟨_, _, _, _⟩ := blk2 BK480))
    go_meet
    case rel => exact ⟨_, ((a0_0 != a1_0)), eqS, H', ⟨by first | omega | exact Nat.le_refl _⟩, ⟨blk_g BK479.out⟩, ⟨blk_g BK480.out⟩, ⟨bel_g HB.out⟩⟩
   ·replace c9 := Bool.eq_false_iff.mpr c9
    subst c9
    replace H := ifF H
    have H' := mkA H
    clear H
    obtain ⟨_, _, _, _⟩ := blk2 BK479
    go_wp2_with (first | ((with_reducible refine gate_callee (f := 22) rfl ?_); refine goesQ (some 9) Tryd.func22 #[.agg #[.int .i64 a0_0, .slice A0_1 l0_1.length c0_1]] ?_; (with_reducible refine (spec_orGood.calls k a0_0 _ _ l0_1 true _ ?s1 ?s2 A6.out).mono ?_); (case s1 => exact C_g HR0_1 HB); (case s2 => exact HC0_1.out); rintro e w19 ⟨rfl, hb⟩; refine ⟨_, rfl, ?_⟩; replace BK479 := blkB BK479 hb; replace BK480 := blkB BK480 hb; replace HB := bst HB hb; (try clear hb); obtain ⟨_, _, _, _⟩ := blk2 BK480) | (go_at_call 22; (with_reducible refine (spec_orGood.calls k a1_0 _ _ l1_1 false _ ?s1 ?s2 A8.out).mono ?_); (case s1 => exact C_g HR1_1 HB); (case s2 => exact HC1_1.out); rintro e w21 ⟨rfl, hb⟩; replace BK479 := blkB BK479 hb; replace BK480 := blkB BK480 hb; replace HB := bst HB hb; (try clear hb)))
    go_meet
    case rel => exact ⟨_, (true), eqS, H', ⟨by first | omega | exact Nat.le_refl _⟩, ⟨blk_g BK479.out⟩, ⟨blk_g BK480.out⟩, ⟨bel_g HB.out⟩⟩
  ·replace c7 := Bool.eq_false_iff.mpr c7
   subst c7
   replace H := ifF H
   have H' := mkA H
   clear H
   obtain ⟨_, _, _, _⟩ := blk2 BK479
   go_wp2_with (first | ((with_reducible refine gate_callee (f := 22) rfl ?_); refine goesQ (some 9) Tryd.func22 #[.agg #[.int .i64 a0_0, .slice A0_1 l0_1.length c0_1]] ?_; (with_reducible refine (spec_orGood.calls k a0_0 _ _ l0_1 false _ ?s1 ?s2 A6.out).mono ?_); (case s1 => exact C_g HR0_1 HB); (case s2 => exact HC0_1.out); rintro e w24 ⟨rfl, hb⟩; refine ⟨_, rfl, ?_⟩; replace BK479 := blkB BK479 hb; replace BK480 := blkB BK480 hb; replace HB := bst HB hb; (try clear hb)))
   go_meet
   case rel => exact ⟨_, (true), eqS, H', ⟨by first | omega | exact Nat.le_refl _⟩, ⟨blk_g BK479.out⟩, ⟨blk_g BK480.out⟩, ⟨bel_g HB.out⟩⟩
 case rest =>
  clear HC3
  try clear c7
  try clear c9
  obtain ⟨kq, x22_2, rfl, HA, HJ2, BK479, BK480, HB⟩ := hcut
  cases kq with
  | zero => exact absurd HA.out (by simp [spec_DoesRefine.j0])
  | succ kj2 =>
   have H := HA.out
   clear HA
   simp only [spec_DoesRefine.j0] at H
   by_cases c25 : x22_2 = true
   ·subst c25
    replace H := ifT H
    simp only [Option.some.injEq, Prod.mk.injEq] at H
    obtain ⟨rfl, rfl⟩ := H
    go_wp2
    go_ret2
    exact ⟨eqE, bel_g HB.out⟩
   ·replace c25 := Bool.eq_false_iff.mpr c25
    subst c25
    replace H := ifF H
    have H' := mkA H
    clear H
    obtain ⟨_, _, _, _⟩ := blk2 BK480
    go_wp2
    go_loopg [26] kj2 (fun kq v26 w' => ∃ (x26_2 : Int), v26 = .int .i64 x26_2 ∧ Fc (spec_DoesRefine.l0 kq l1_1 (l1_1.length : Int) x26_2 a0_0 l0_1 = some (r1, r2)) ∧ Fc (kq ≤ kj2) ∧ Fc (w'.heap[gb479]? = some (.cells #[.int .i64 a0_0, (.slice A0_1 l0_1.length c0_1)] 26 (0, 0))) ∧ Fc (w'.heap[gb480]? = some (.cells #[.int .i64 a1_0, (.slice A1_1 l1_1.length c1_1)] 26 (0, 0))) ∧ Fc (Below w.heap.size w w'))
    case atStart => exact ⟨(0), eqS, H', ⟨Nat.le_refl _⟩, ⟨blk_g BK479.out⟩, ⟨blk_g BK480.out⟩, ⟨bel_g HB.out⟩⟩
    case round =>
     clear H'
     try clear c7
     try clear c9
     try clear c25
     obtain ⟨x26_2, rfl, HA, HK2, BK479, BK480, HB⟩ := hrel
     cases gk with
     | zero => exact absurd HA.out (by simp [spec_DoesRefine.l0])
     | succ k2 =>
      have H := HA.out
      clear HA
      simp only [spec_DoesRefine.l0] at H
      rcases iteE H with ⟨c28b0, H⟩ | ⟨c28b0, H⟩
      ·obtain ⟨c29, H⟩ := itNP H
       have c29b0 : decide (0 ≤ x26_2) = true := decide_eq_true c29
       clear c29
       obtain ⟨c30, H⟩ := itNP H
       have c30b0 : decide (x26_2 < (l1_1.length : Int)) = true := decide_eq_true c30
       clear c30
       obtain ⟨c31, H⟩ := itNP H
       have c31b0 : decide (x26_2 < (l0_1.length : Int)) = true := decide_eq_true c31
       clear c31
       rcases iteP H with ⟨c32, H⟩ | ⟨c32, H⟩
       ·have c32b0 : ((Go.bits .andNot .i64 (rd l1_1 x26_2) (rd l0_1 x26_2)) == 0) = true := beq_iff_eq.mpr c32
        have c32b1 : ((Go.bits .andNot .i64 (rd l1_1 x26_2) (rd l0_1 x26_2)) != 0) = false := bne_eq_false_iff_eq.mpr c32
        clear c32
        have H' := mkA H
        clear H
        have p483 : 0 ≤ (x26_2 : Int) := ofd
        have q483 : x26_2 < (l1_1.length : Int) := ofd
        obtain ⟨ad483, e483, hx483_0⟩ := Kd.at_int HR1_1.out x26_2 p483 q483
        cases e483
        replace hx483_0 := (HB.out.cell (World.block_lt_of_cell? w _ hx483_0)).trans hx483_0
        replace p483 := eq_true p483
        replace q483 := eq_true q483
        obtain ⟨_, _, _, _⟩ := blk2 BK479
        have p484 : 0 ≤ (x26_2 : Int) := ofd
        have q484 : x26_2 < (l0_1.length : Int) := ofd
        obtain ⟨ad484, e484, hx484_0⟩ := Kd.at_int HR0_1.out x26_2 p484 q484
        cases e484
        replace hx484_0 := (HB.out.cell (World.block_lt_of_cell? w _ hx484_0)).trans hx484_0
        replace p484 := eq_true p484
        replace q484 := eq_true q484
        go_wp2
        go_roundg k2
        case measure => have := HJ2.out; have := HK2.out; omega
        case rel => exact ⟨(wrap64 (x26_2 + 1)), eqS, H', ⟨by have := HJ2.out; have := HK2.out; omega⟩, ⟨blk_g BK479.out⟩, ⟨blk_g BK480.out⟩, ⟨bel_g HB.out⟩⟩
       ·have c32b0 : ((Go.bits .andNot .i64 (rd l1_1 x26_2) (rd l0_1 x26_2)) == 0) = false := beq_eq_false_iff_ne.mpr c32
        have c32b1 : ((Go.bits .andNot .i64 (rd l1_1 x26_2) (rd l0_1 x26_2)) != 0) = true := bne_iff_ne.mpr c32
        simp only [Option.some.injEq, Prod.mk.injEq] at H
        obtain ⟨rfl, rfl⟩ := H
        have p483 : 0 ≤ (x26_2 : Int) := ofd
        have q483 : x26_2 < (l1_1.length : Int) := ofd
        obtain ⟨ad483, e483, hx483_0⟩ := Kd.at_int HR1_1.out x26_2 p483 q483
        cases e483
        replace hx483_0 := (HB.out.cell (World.block_lt_of_cell? w _ hx483_0)).trans hx483_0
        replace p483 := eq_true p483
        replace q483 := eq_true q483
        obtain ⟨_, _, _, _⟩ := blk2 BK479
        have p484 : 0 ≤ (x26_2 : Int) := ofd
        have q484 : x26_2 < (l0_1.length : Int) := ofd
        obtain ⟨ad484, e484, hx484_0⟩ := Kd.at_int HR0_1.out x26_2 p484 q484
        cases e484
        replace hx484_0 := (HB.out.cell (World.block_lt_of_cell? w _ hx484_0)).trans hx484_0
        replace p484 := eq_true p484
        replace q484 := eq_true q484
        go_wp2
        go_ret2
        exact ⟨eqE, bel_g HB.out⟩
      ·simp only [Option.some.injEq, Prod.mk.injEq] at H
       obtain ⟨rfl, rfl⟩ := H
       go_wp2
       go_ret2
       exact ⟨eqE, bel_g HB.out⟩
def laws_vSame.l0 : Nat → List Int → List Int → Int → Int → Option (Bool)
 | 0, _, _, _, _ => none
 | k + 1, x0, x1, x12, x13 => if x13 < x12 then (if 0 ≤ x13 then (if x13 < (x0.length : Int) then (if x13 < (x1.length : Int) then (if (rd x0 x13) = (rd x1 x13) then (laws_vSame.l0 k x0 x1 x12 (wrap64 (x13 + 1))) else (some false)) else (none)) else (none)) else (none)) else (some true)
def laws_vSame.f (k : Nat) (l0 : List Int) (l1 : List Int) : Option (Bool) := if (l0.length : Int) = (l1.length : Int) then (laws_vSame.l0 k l0 l1 (l0.length : Int) 0) else (some false)
theorem laws_vSame.mono_l : ∀ k, (∀ y0 y1 y2 y3, LeO (laws_vSame.l0 k y0 y1 y2 y3) (laws_vSame.l0 (k + 1) y0 y1 y2 y3))
 | 0 => fun _ _ _ _ r h => by simp [laws_vSame.l0] at h
 | k + 1 => by
  have ih0 := laws_vSame.mono_l k
  ·intro y0 y1 y2 y3
   unfold laws_vSame.l0
   repeat' (with_reducible first|exact ih0 _ _ _ _|exact LeO.refl _|exact LeO.none _|refine LeO.ite ?_ ?_|refine LeO.bind ?_ (fun _ => ?_))
theorem laws_vSame.mono : ∀ a0 a1 k, LeO (laws_vSame.f k a0 a1) (laws_vSame.f (k + 1) a0 a1) := by
 intro a0 a1 k
 have ih0 := laws_vSame.mono_l k
 unfold laws_vSame.f
 repeat' (with_reducible first|exact ih0 _ _ _ _|exact LeO.refl _|exact LeO.none _|refine LeO.ite ?_ ?_|refine LeO.bind ?_ (fun _ => ?_))
theorem laws_vSame.calls (k : Nat) (A0 : Option Addr) (c0 : Nat) (l0 : List Int) (A1 : Option Addr) (c1 : Nat) (l1 : List Int) (r : Bool) (w : World) (hr0 : Kd.C (Kd.int .i64) w A0 l0.length l0) (hc0 : l0.length ≤ c0) (hr1 : Kd.C (Kd.int .i64) w A1 l1.length l1) (hc1 : l1.length ≤ c1) (h : laws_vSame.f k l0 l1 = some r) :
  Calls Tryd.prog 15 #[.slice A0 l0.length c0, .slice A1 l1.length c1] w fun e w' => e = .returned (.bool r) ∧ Drawn0 w w' := by
 have HR0 := mkA hr0
 have HC0 := mkA hc0
 clear hr0 hc0
 have HR1 := mkA hr1
 have HC1 := mkA hc1
 clear hr1 hc1
 have H := h
 clear h
 unfold laws_vSame.f at H
 rcases iteP H with ⟨c3, H⟩ | ⟨c3, H⟩
 ·have c3b0 : ((l0.length : Int) == (l1.length : Int)) = true := beq_iff_eq.mpr c3
  have c3b1 : ((l0.length : Int) != (l1.length : Int)) = false := bne_eq_false_iff_eq.mpr c3
  have c3b2 : (l0.length == l1.length) = true := by first | simpa using c3 | (simp at c3 ⊢; omega)
  clear c3
  have H' := mkA H
  clear H
  go_enter Tryd.func15, Tryd.ntmps15
  go_wp2
  repeat (go_quiet (fail); try go_wp2)
  go_loopg [13] k (fun kq v13 w' => ∃ (x13_1 : Int), v13 = .int .i64 x13_1 ∧ Fc (laws_vSame.l0 kq l0 l1 (l0.length : Int) x13_1 = some r) ∧ Fc (kq ≤ k) ∧ Drawn0 w w')
  case atStart => exact ⟨(0), eqS, H', ⟨Nat.le_refl _⟩, by repeat (first | exact Drawn0.refl _ | apply Drawn0.step)⟩
  case round =>
   clear H'
   try clear c1
   try clear c3
   try clear c3b0
   try clear c3b1
   try clear c3b2
   obtain ⟨x13_1, rfl, HA, HK1, ⟨m1, rfl⟩⟩ := hrel
   cases gk with
   | zero => exact absurd HA.out (by simp [laws_vSame.l0])
   | succ k1 =>
    have H := HA.out
    clear HA
    simp only [laws_vSame.l0] at H
    rcases iteE H with ⟨c4b0, H⟩ | ⟨c4b0, H⟩
    ·obtain ⟨c5, H⟩ := itNP H
     have c5b0 : decide (0 ≤ x13_1) = true := decide_eq_true c5
     clear c5
     obtain ⟨c6, H⟩ := itNP H
     have c6b0 : decide (x13_1 < (l0.length : Int)) = true := decide_eq_true c6
     clear c6
     obtain ⟨c7, H⟩ := itNP H
     have c7b0 : decide (x13_1 < (l1.length : Int)) = true := decide_eq_true c7
     clear c7
     rcases iteP H with ⟨c8, H⟩ | ⟨c8, H⟩
     ·have c8b0 : ((rd l0 x13_1) == (rd l1 x13_1)) = true := beq_iff_eq.mpr c8
      have c8b1 : ((rd l0 x13_1) != (rd l1 x13_1)) = false := bne_eq_false_iff_eq.mpr c8
      clear c8
      have H' := mkA H
      clear H
      have p485 : 0 ≤ (x13_1 : Int) := ofd
      have q485 : x13_1 < (l0.length : Int) := ofd
      obtain ⟨ad485, e485, hx485_0⟩ := Kd.at_int HR0.out x13_1 p485 q485
      cases e485
      replace p485 := eq_true p485
      replace q485 := eq_true q485
      have p486 : 0 ≤ (x13_1 : Int) := ofd
      have q486 : x13_1 < (l1.length : Int) := ofd
      obtain ⟨ad486, e486, hx486_0⟩ := Kd.at_int HR1.out x13_1 p486 q486
      cases e486
      replace p486 := eq_true p486
      replace q486 := eq_true q486
      go_wp2
      repeat (go_quiet (fail); try go_wp2)
      go_roundg k1
      case measure => have := HK1.out; omega
      case rel => exact ⟨(wrap64 (x13_1 + 1)), eqS, H', ⟨by have := HK1.out; omega⟩, by repeat (first | exact Drawn0.refl _ | apply Drawn0.step)⟩
     ·have c8b0 : ((rd l0 x13_1) == (rd l1 x13_1)) = false := beq_eq_false_iff_ne.mpr c8
      have c8b1 : ((rd l0 x13_1) != (rd l1 x13_1)) = true := bne_iff_ne.mpr c8
      obtain rfl := Option.some.inj H
      have p485 : 0 ≤ (x13_1 : Int) := ofd
      have q485 : x13_1 < (l0.length : Int) := ofd
      obtain ⟨ad485, e485, hx485_0⟩ := Kd.at_int HR0.out x13_1 p485 q485
      cases e485
      replace p485 := eq_true p485
      replace q485 := eq_true q485
      have p486 : 0 ≤ (x13_1 : Int) := ofd
      have q486 : x13_1 < (l1.length : Int) := ofd
      obtain ⟨ad486, e486, hx486_0⟩ := Kd.at_int HR1.out x13_1 p486 q486
      cases e486
      replace p486 := eq_true p486
      replace q486 := eq_true q486
      go_wp2
      repeat (go_quiet (fail); try go_wp2)
      go_ret
      exact ⟨by first | rfl | (simp; done) | (simp [*]; done), by repeat (first | exact Drawn0.refl _ | apply Drawn0.step)⟩
    ·obtain rfl := Option.some.inj H
     go_wp2
     repeat (go_quiet (fail); try go_wp2)
     go_ret
     exact ⟨by first | rfl | (simp; done) | (simp [*]; done), by repeat (first | exact Drawn0.refl _ | apply Drawn0.step)⟩
 ·have c3b0 : ((l0.length : Int) == (l1.length : Int)) = false := beq_eq_false_iff_ne.mpr c3
  have c3b1 : ((l0.length : Int) != (l1.length : Int)) = true := bne_iff_ne.mpr c3
  have c3b2 : (l0.length == l1.length) = false := by first | simpa using c3 | (simp at c3 ⊢; omega)
  obtain rfl := Option.some.inj H
  go_enter Tryd.func15, Tryd.ntmps15
  go_wp2
  repeat (go_quiet (fail); try go_wp2)
  go_ret
  exact ⟨by first | rfl | (simp; done) | (simp [*]; done), by repeat (first | exact Drawn0.refl _ | apply Drawn0.step)⟩
end Go.Proofs.YtgbdjchdfcodcaaDoor.Q
