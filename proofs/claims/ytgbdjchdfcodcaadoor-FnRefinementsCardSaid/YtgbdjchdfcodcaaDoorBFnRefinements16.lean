import Derived.Test.YtgbdjchdfcodcaaDoorBFnRefinements15
namespace Go.Proofs.YtgbdjchdfcodcaaDoor.Q
open Go.RowKit Go.Proofs.YtgbdjchdfcodcaaDoorW.PrintWords Go.Proofs.YtgbdjchdfcodcaaDoorW.PrintLast Go.Proofs.YtgbdjchdfcodcaaDoorW.PrintMore
attribute [local go_sem] max2_int min2_int max_two min_two max_three min_three max_four min_four neB_f
set_option linter.unusedVariables false
set_option maxHeartbeats 8000000
set_option maxRecDepth 100000
set_option linter.unusedSimpArgs false
mutual
def impl_IsOrder.l0 : Nat → List Int → Int → Int → Int → List Int → Option (Bool)
 | 0, _, _, _, _, _ => none
 | k + 1, x11, x12, x13, x431000, x431001 => if x13 < x12 then (if 0 ≤ x13 then (if x13 < (x11.length : Int) then ((impl_Order_better.f x431000 x431001 x13 x13).bind fun t433 => (if t433 = true then (some false) else ((impl_members.f k (rd x11 x13)).bind fun t434 => (impl_IsOrder.l1 k (rd x11 x13) x11 x12 x13 t434 (t434.length : Int) 0 x431000 x431001)))) else (none)) else (none)) else (some true)
def impl_IsOrder.l1 : Nat → Int → List Int → Int → Int → List Int → Int → Int → Int → List Int → Option (Bool)
 | 0, _, _, _, _, _, _, _, _, _ => none
 | k + 1, x4, x11, x12, x13, x23, x24, x25, x431000, x431001 => if x25 < x24 then (if 0 ≤ x25 then (if x25 < (x23.length : Int) then (if 0 ≤ (rd x23 x25) then (if (rd x23 x25) < (x431001.length : Int) then (if (Go.bits .andNot .i64 (rd x431001 (rd x23 x25)) x4) = 0 then (impl_IsOrder.l1 k x4 x11 x12 x13 x23 x24 (wrap64 (x25 + 1)) x431000 x431001) else (some false)) else (none)) else (none)) else (none)) else (none)) else (impl_IsOrder.l0 k x11 x12 (wrap64 (x13 + 1)) x431000 x431001)
end
def impl_IsOrder.f (k : Nat) (a0_0 : Int) (l0_1 : List Int) : Option (Bool) := (impl_IsRelation.f k a0_0 l0_1).bind fun t431 => (if t431 = true then (impl_IsOrder.l0 k l0_1 (l0_1.length : Int) 0 a0_0 l0_1) else (some false))
theorem impl_IsOrder.mono_l : ∀ k, (∀ y0 y1 y2 y3 y4, LeO (impl_IsOrder.l0 k y0 y1 y2 y3 y4) (impl_IsOrder.l0 (k + 1) y0 y1 y2 y3 y4)) ∧ (∀ y0 y1 y2 y3 y4 y5 y6 y7 y8, LeO (impl_IsOrder.l1 k y0 y1 y2 y3 y4 y5 y6 y7 y8) (impl_IsOrder.l1 (k + 1) y0 y1 y2 y3 y4 y5 y6 y7 y8))
 | 0 => ⟨fun _ _ _ _ _ r h => by simp [impl_IsOrder.l0] at h, fun _ _ _ _ _ _ _ _ _ r h => by simp [impl_IsOrder.l1] at h⟩
 | k + 1 => by
  obtain ⟨ih0, ih1⟩ := impl_IsOrder.mono_l k
  refine ⟨?_, ?_⟩ <;> intros
  unfold impl_IsOrder.l0
  rotate_left
  unfold impl_IsOrder.l1
  rotate_left
  all_goals repeat' (with_reducible first|exact ih0 _ _ _ _ _|exact ih1 _ _ _ _ _ _ _ _ _|exact impl_IsRelation.mono _ _ _|exact impl_members.mono _ _|exact LeO.refl _|exact LeO.none _|refine LeO.ite ?_ ?_|refine LeO.bind ?_ (fun _ => ?_))
theorem impl_IsOrder.mono : ∀ a0 a1 k, LeO (impl_IsOrder.f k a0 a1) (impl_IsOrder.f (k + 1) a0 a1) := by
 intro a0 a1 k
 obtain ⟨ih0, ih1⟩ := impl_IsOrder.mono_l k
 unfold impl_IsOrder.f
 repeat' (with_reducible first|exact ih0 _ _ _ _ _|exact ih1 _ _ _ _ _ _ _ _ _|exact impl_IsRelation.mono _ _ _|exact impl_members.mono _ _|exact LeO.refl _|exact LeO.none _|refine LeO.ite ?_ ?_|refine LeO.bind ?_ (fun _ => ?_))
theorem impl_IsOrder.calls (k : Nat) (a0_0 : Int) (A0_1 : Option Addr) (c0_1 : Nat) (l0_1 : List Int) (r : Bool) (w : World) (hr0_1 : Kd.C (Kd.int .i64) w A0_1 l0_1.length l0_1) (hc0_1 : l0_1.length ≤ c0_1) (hTAB : Tab w) (h : impl_IsOrder.f k a0_0 l0_1 = some r) :
  Calls Tryd.prog 11 #[.agg #[.int .i64 a0_0, .slice A0_1 l0_1.length c0_1]] w fun e w' => e = .returned (.bool r) ∧ Below w.heap.size w w' := by
 have HTAB := mkA hTAB
 clear hTAB
 have hu26 := Tryd.underlying26
 have HR0_1 := mkA hr0_1
 have HC0_1 := mkA hc0_1
 clear hr0_1 hc0_1
 have HB := mkA (Below.refl w.heap.size w)
 have H := h
 clear h
 unfold impl_IsOrder.f at H
 obtain ⟨t431, A2, H⟩ := obE H
 by_cases c3 : t431 = true
 ·subst c3
  replace H := ifT H
  have H' := mkA H
  clear H
  go_enter Tryd.func11, Tryd.ntmps11
  go_wp2_with (first | ((with_reducible refine gate_dst (N := 1) rfl ?_); refine boxE (N := 1) (cs := #[.int .i64 a0_0, .slice A0_1 l0_1.length c0_1]) (t := 26) ?_; intro gb430 hg w4 hbox hb; have BK430 := mkA (hbox); have GE430 := geB HB hg; replace HB := bst HB hb; clear hb hbox hg; obtain ⟨_, _, _, _⟩ := blk2 BK430) | ((with_reducible refine gate_callee (f := 23) rfl ?_); refine goesQ (some 8) Tryd.func23 #[.agg #[.int .i64 a0_0, .slice A0_1 l0_1.length c0_1]] ?_; (with_reducible refine (impl_IsRelation.calls k a0_0 _ _ l0_1 true _ ?s1 ?s2 A2.out).mono ?_); (case s1 => exact C_g HR0_1 HB); (case s2 => exact HC0_1.out); rintro e w6 ⟨rfl, hb⟩; refine ⟨_, rfl, ?_⟩; replace BK430 := blkB BK430 hb; replace HB := bst HB hb; (try clear hb); obtain ⟨_, _, _, _⟩ := blk2 BK430))
  go_loopg [13] k (fun kq v13 w' => ∃ (x13_1 : Int), v13 = .int .i64 x13_1 ∧ Fc (impl_IsOrder.l0 kq l0_1 (l0_1.length : Int) x13_1 a0_0 l0_1 = some r) ∧ Fc (kq ≤ k) ∧ Fc (w'.heap[gb430]? = some (.cells #[.int .i64 a0_0, (.slice A0_1 l0_1.length c0_1)] 26 (0, 0))) ∧ Fc (Below w.heap.size w w'))
  case atStart => exact ⟨(0), eqS, H', ⟨Nat.le_refl _⟩, ⟨blk_g BK430.out⟩, ⟨bel_g HB.out⟩⟩
  case round =>
   clear H'
   try clear c3
   obtain ⟨x13_1, rfl, HA, HK1, BK430, HB⟩ := hrel
   cases gk with
   | zero => exact absurd HA.out (by simp [impl_IsOrder.l0])
   | succ k1 =>
    have H := HA.out
    clear HA
    simp only [impl_IsOrder.l0] at H
    rcases iteE H with ⟨c8b0, H⟩ | ⟨c8b0, H⟩
    ·obtain ⟨c9, H⟩ := itNP H
     have c9b0 : decide (0 ≤ x13_1) = true := decide_eq_true c9
     clear c9
     obtain ⟨c10, H⟩ := itNP H
     have c10b0 : decide (x13_1 < (l0_1.length : Int)) = true := decide_eq_true c10
     clear c10
     obtain ⟨t433, A11, H⟩ := obE H
     by_cases c12 : t433 = true
     ·subst c12
      replace H := ifT H
      obtain rfl := Option.some.inj H
      have p432 : 0 ≤ (x13_1 : Int) := ofd
      have q432 : x13_1 < (l0_1.length : Int) := ofd
      obtain ⟨ad432, e432, hx432_0⟩ := Kd.at_int HR0_1.out x13_1 p432 q432
      cases e432
      replace hx432_0 := (HB.out.cell (World.block_lt_of_cell? w _ hx432_0)).trans hx432_0
      replace p432 := eq_true p432
      replace q432 := eq_true q432
      obtain ⟨_, _, _, _⟩ := blk2 BK430
      go_wp2_with (first | ((with_reducible refine gate_callee (f := 21) rfl ?_); refine goesQ (some 21) Tryd.func21 #[.agg #[.int .i64 a0_0, .slice (some ad432) l0_1.length c0_1], .int .i64 x13_1, .int .i64 x13_1] ?_; (with_reducible refine (impl_Order_better.calls a0_0 _ _ l0_1 x13_1 x13_1 true _ ?s1 ?s2 A11.out).mono ?_); (case s1 => exact C_g HR0_1 HB); (case s2 => exact HC0_1.out); rintro e w14 ⟨rfl, hb⟩; refine ⟨_, rfl, ?_⟩; replace BK430 := blkB BK430 hb; replace HB := bst HB hb; (try clear hb)))
      go_ret
      exact ⟨eqE, bel_g HB.out⟩
     ·replace c12 := Bool.eq_false_iff.mpr c12
      subst c12
      replace H := ifF H
      obtain ⟨t434, A15, H⟩ := obE H
      have H' := mkA H
      clear H
      have p432 : 0 ≤ (x13_1 : Int) := ofd
      have q432 : x13_1 < (l0_1.length : Int) := ofd
      obtain ⟨ad432, e432, hx432_0⟩ := Kd.at_int HR0_1.out x13_1 p432 q432
      cases e432
      replace hx432_0 := (HB.out.cell (World.block_lt_of_cell? w _ hx432_0)).trans hx432_0
      replace p432 := eq_true p432
      replace q432 := eq_true q432
      obtain ⟨_, _, _, _⟩ := blk2 BK430
      go_wp2_with (first | ((with_reducible refine gate_callee (f := 21) rfl ?_); refine goesQ (some 21) Tryd.func21 #[.agg #[.int .i64 a0_0, .slice (some ad432) l0_1.length c0_1], .int .i64 x13_1, .int .i64 x13_1] ?_; (with_reducible refine (impl_Order_better.calls a0_0 _ _ l0_1 x13_1 x13_1 false _ ?s1 ?s2 A11.out).mono ?_); (case s1 => exact C_g HR0_1 HB); (case s2 => exact HC0_1.out); rintro e w17 ⟨rfl, hb⟩; refine ⟨_, rfl, ?_⟩; replace BK430 := blkB BK430 hb; replace HB := bst HB hb; (try clear hb)) | ((with_reducible refine gate_callee (f := 24) rfl ?_); refine goesQ (some 23) Tryd.func24 #[.int .i64 (rd l0_1 x13_1)] ?_; (with_reducible refine (impl_members.calls k1 (rd l0_1 x13_1) t434 _ ?s1 A15.out).mono ?_); (case s1 => exact Tab.below HTAB.out (bel_g HB.out)); rintro e w18 ⟨v435, rfl, ho0, hb⟩; refine ⟨_, rfl, ?_⟩; have HO436 := mkA (Kd.R_lower ho0 (below_size (bel_g HB.out))); replace BK430 := blkB BK430 hb; replace HB := bst HB hb; (try clear hb); (try clear ho0); obtain ⟨Ao19, co19, eo19⟩ := Kd.R_slice HO436.out; subst eo19))
      go_loopg [25] k1 (fun kq v25 w' => ∃ (x25_2 : Int), v25 = .int .i64 x25_2 ∧ Fc (impl_IsOrder.l1 kq (rd l0_1 x13_1) l0_1 (l0_1.length : Int) x13_1 t434 (t434.length : Int) x25_2 a0_0 l0_1 = some r) ∧ Fc (kq ≤ k1) ∧ Fc (Kd.R (Kd.int .i64) 3 w' w.heap.size (fun _ => True) (.slice Ao19 t434.length co19) t434) ∧ Fc (w'.heap[gb430]? = some (.cells #[.int .i64 a0_0, (.slice (some ad432) l0_1.length c0_1)] 26 (0, 0))) ∧ Fc (Below w.heap.size w w'))
      case atStart => exact ⟨(0), eqS, H', ⟨Nat.le_refl _⟩, ⟨Kd.R_g HO436.out⟩, ⟨blk_g BK430.out⟩, ⟨bel_g HB.out⟩⟩
      case round =>
       clear H'
       try clear c3
       try clear c8b0
       try clear c9
       try clear c9b0
       try clear c10
       try clear c10b0
       try clear c12
       try clear hx432_0
       try clear p432
       try clear q432
       obtain ⟨x25_2, rfl, HA, HK2, HO_23, BK430, HB⟩ := hrel
       cases gk with
       | zero => exact absurd HA.out (by simp [impl_IsOrder.l1])
       | succ k2 =>
        have H := HA.out
        clear HA
        simp only [impl_IsOrder.l1] at H
        rcases iteE H with ⟨c20b0, H⟩ | ⟨c20b0, H⟩
        ·obtain ⟨c21, H⟩ := itNP H
         have c21b0 : decide (0 ≤ x25_2) = true := decide_eq_true c21
         clear c21
         obtain ⟨c22, H⟩ := itNP H
         have c22b0 : decide (x25_2 < (t434.length : Int)) = true := decide_eq_true c22
         clear c22
         obtain ⟨c23, H⟩ := itNP H
         have c23b0 : decide (0 ≤ (rd t434 x25_2)) = true := decide_eq_true c23
         clear c23
         obtain ⟨c24, H⟩ := itNP H
         have c24b0 : decide ((rd t434 x25_2) < (l0_1.length : Int)) = true := decide_eq_true c24
         clear c24
         rcases iteP H with ⟨c25, H⟩ | ⟨c25, H⟩
         ·have c25b0 : ((Go.bits .andNot .i64 (rd l0_1 (rd t434 x25_2)) (rd l0_1 x13_1)) == 0) = true := beq_iff_eq.mpr c25
          have c25b1 : ((Go.bits .andNot .i64 (rd l0_1 (rd t434 x25_2)) (rd l0_1 x13_1)) != 0) = false := bne_eq_false_iff_eq.mpr c25
          clear c25
          have H' := mkA H
          clear H
          have p437 : 0 ≤ (x25_2 : Int) := ofd
          have q437 : x25_2 < (t434.length : Int) := ofd
          obtain ⟨ad437, e437, hx437_0⟩ := Kd.at_int (Kd.R_reads' HO_23.out).2.2 x25_2 p437 q437
          cases e437
          replace p437 := eq_true p437
          replace q437 := eq_true q437
          obtain ⟨_, _, _, _⟩ := blk2 BK430
          have p438 : 0 ≤ ((rd t434 x25_2) : Int) := ofd
          have q438 : (rd t434 x25_2) < (l0_1.length : Int) := ofd
          obtain ⟨ad438, e438, hx438_0⟩ := Kd.at_int HR0_1.out (rd t434 x25_2) p438 q438
          obtain rfl : ad432 = ad438 := (by injection e438)
          replace hx438_0 := (HB.out.cell (World.block_lt_of_cell? w _ hx438_0)).trans hx438_0
          replace p438 := eq_true p438
          replace q438 := eq_true q438
          go_wp2
          go_roundg k2
          case measure => have := HK1.out; have := HK2.out; omega
          case rel => exact ⟨(wrap64 (x25_2 + 1)), eqS, H', ⟨by have := HK1.out; have := HK2.out; omega⟩, ⟨Kd.R_g HO_23.out⟩, ⟨blk_g BK430.out⟩, ⟨bel_g HB.out⟩⟩
         ·have c25b0 : ((Go.bits .andNot .i64 (rd l0_1 (rd t434 x25_2)) (rd l0_1 x13_1)) == 0) = false := beq_eq_false_iff_ne.mpr c25
          have c25b1 : ((Go.bits .andNot .i64 (rd l0_1 (rd t434 x25_2)) (rd l0_1 x13_1)) != 0) = true := bne_iff_ne.mpr c25
          obtain rfl := Option.some.inj H
          have p437 : 0 ≤ (x25_2 : Int) := ofd
          have q437 : x25_2 < (t434.length : Int) := ofd
          obtain ⟨ad437, e437, hx437_0⟩ := Kd.at_int (Kd.R_reads' HO_23.out).2.2 x25_2 p437 q437
          cases e437
          replace p437 := eq_true p437
          replace q437 := eq_true q437
          obtain ⟨_, _, _, _⟩ := blk2 BK430
          have p438 : 0 ≤ ((rd t434 x25_2) : Int) := ofd
          have q438 : (rd t434 x25_2) < (l0_1.length : Int) := ofd
          obtain ⟨ad438, e438, hx438_0⟩ := Kd.at_int HR0_1.out (rd t434 x25_2) p438 q438
          obtain rfl : ad432 = ad438 := (by injection e438)
          replace hx438_0 := (HB.out.cell (World.block_lt_of_cell? w _ hx438_0)).trans hx438_0
          replace p438 := eq_true p438
          replace q438 := eq_true q438
          go_wp2
          go_ret
          exact ⟨eqE, bel_g HB.out⟩
        ·have H' := mkA H
         clear H
         go_wp2
         go_roundg k2
         case measure => have := HK1.out; have := HK2.out; omega
         case rel => exact ⟨(wrap64 (x13_1 + 1)), eqS, H', ⟨by have := HK1.out; have := HK2.out; omega⟩, ⟨blk_g BK430.out⟩, ⟨bel_g HB.out⟩⟩
    ·obtain rfl := Option.some.inj H
     go_wp2
     go_ret
     exact ⟨eqE, bel_g HB.out⟩
 ·replace c3 := Bool.eq_false_iff.mpr c3
  subst c3
  replace H := ifF H
  obtain rfl := Option.some.inj H
  go_enter Tryd.func11, Tryd.ntmps11
  go_wp2_with (first | ((with_reducible refine gate_dst (N := 1) rfl ?_); refine boxE (N := 1) (cs := #[.int .i64 a0_0, .slice A0_1 l0_1.length c0_1]) (t := 26) ?_; intro gb430 hg w28 hbox hb; have BK430 := mkA (hbox); have GE430 := geB HB hg; replace HB := bst HB hb; clear hb hbox hg; obtain ⟨_, _, _, _⟩ := blk2 BK430) | ((with_reducible refine gate_callee (f := 23) rfl ?_); refine goesQ (some 8) Tryd.func23 #[.agg #[.int .i64 a0_0, .slice A0_1 l0_1.length c0_1]] ?_; (with_reducible refine (impl_IsRelation.calls k a0_0 _ _ l0_1 false _ ?s1 ?s2 A2.out).mono ?_); (case s1 => exact C_g HR0_1 HB); (case s2 => exact HC0_1.out); rintro e w30 ⟨rfl, hb⟩; refine ⟨_, rfl, ?_⟩; replace BK430 := blkB BK430 hb; replace HB := bst HB hb; (try clear hb)))
  go_ret
  exact ⟨eqE, bel_g HB.out⟩
def impl_areOrders.f (k : Nat) (a0_0 : Int) (l0_1 : List Int) (a1_0 : Int) (l1_1 : List Int) : Option (Bool) := (impl_IsOrder.f k a0_0 l0_1).bind fun t441 => (if t441 = true then ((impl_IsOrder.f k a1_0 l1_1).bind fun t442 => (if t442 = true then (some (a0_0 == a1_0)) else (some false))) else (some false))
theorem impl_areOrders.mono : ∀ a0 a1 a2 a3 k, LeO (impl_areOrders.f k a0 a1 a2 a3) (impl_areOrders.f (k + 1) a0 a1 a2 a3) := by
 intro a0 a1 a2 a3 k
 unfold impl_areOrders.f
 repeat' (with_reducible first|exact impl_IsOrder.mono _ _ _|exact LeO.refl _|exact LeO.none _|refine LeO.ite ?_ ?_|refine LeO.bind ?_ (fun _ => ?_))
theorem impl_areOrders.calls (k : Nat) (a0_0 : Int) (A0_1 : Option Addr) (c0_1 : Nat) (l0_1 : List Int) (a1_0 : Int) (A1_1 : Option Addr) (c1_1 : Nat) (l1_1 : List Int) (r : Bool) (w : World) (hr0_1 : Kd.C (Kd.int .i64) w A0_1 l0_1.length l0_1) (hc0_1 : l0_1.length ≤ c0_1) (hr1_1 : Kd.C (Kd.int .i64) w A1_1 l1_1.length l1_1) (hc1_1 : l1_1.length ≤ c1_1) (hTAB : Tab w) (h : impl_areOrders.f k a0_0 l0_1 a1_0 l1_1 = some r) :
  Calls Tryd.prog 18 #[.agg #[.int .i64 a0_0, .slice A0_1 l0_1.length c0_1], .agg #[.int .i64 a1_0, .slice A1_1 l1_1.length c1_1]] w fun e w' => e = .returned (.bool r) ∧ Below w.heap.size w w' := by
 have HTAB := mkA hTAB
 clear hTAB
 have hu26 := Tryd.underlying26
 have HR0_1 := mkA hr0_1
 have HC0_1 := mkA hc0_1
 clear hr0_1 hc0_1
 have HR1_1 := mkA hr1_1
 have HC1_1 := mkA hc1_1
 clear hr1_1 hc1_1
 have HB := mkA (Below.refl w.heap.size w)
 have H := h
 clear h
 unfold impl_areOrders.f at H
 obtain ⟨t441, A3, H⟩ := obE H
 by_cases c4 : t441 = true
 ·subst c4
  replace H := ifT H
  obtain ⟨t442, A5, H⟩ := obE H
  by_cases c6 : t442 = true
  ·subst c6
   replace H := ifT H
   obtain rfl := Option.some.inj H
   go_enter Tryd.func18, Tryd.ntmps18
   go_wp2_with (first | ((with_reducible refine gate_dst (N := 2) rfl ?_); refine boxE (N := 2) (cs := #[.int .i64 a0_0, .slice A0_1 l0_1.length c0_1]) (t := 26) ?_; intro gb439 hg w7 hbox hb; have BK439 := mkA (hbox); have GE439 := geB HB hg; replace HB := bst HB hb; clear hb hbox hg) | ((with_reducible refine gate_dst (N := 3) rfl ?_); refine boxE (N := 3) (cs := #[.int .i64 a1_0, .slice A1_1 l1_1.length c1_1]) (t := 26) ?_; intro gb440 hg w8 hbox hb; have BK440 := mkA (hbox); have GE440 := geB HB hg; have NB439_440 := neL7 BK439 hg; have NB440_439 := neR7 BK439 hg; replace BK439 := blkB BK439 hb; replace HB := bst HB hb; clear hb hbox hg; obtain ⟨_, _, _, _⟩ := blk2 BK439) | ((with_reducible refine gate_callee (f := 11) rfl ?_); refine goesQ (some 6) Tryd.func11 #[.agg #[.int .i64 a0_0, .slice A0_1 l0_1.length c0_1]] ?_; (with_reducible refine (impl_IsOrder.calls k a0_0 _ _ l0_1 true _ ?s1 ?s2 ?s3 A3.out).mono ?_); (case s1 => exact C_g HR0_1 HB); (case s2 => exact HC0_1.out); (case s3 => exact Tab.below HTAB.out (bel_g HB.out)); rintro e w11 ⟨rfl, hb⟩; refine ⟨_, rfl, ?_⟩; replace BK439 := blkB BK439 hb; replace BK440 := blkB BK440 hb; replace HB := bst HB hb; (try clear hb); obtain ⟨_, _, _, _⟩ := blk2 BK440) | (go_at_call 11; (with_reducible refine (impl_IsOrder.calls k a1_0 _ _ l1_1 true _ ?s1 ?s2 ?s3 A5.out).mono ?_); (case s1 => exact C_g HR1_1 HB); (case s2 => exact HC1_1.out); (case s3 => exact Tab.below HTAB.out (bel_g HB.out)); rintro e w13 ⟨rfl, hb⟩; replace BK439 := blkB BK439 hb; replace BK440 := blkB BK440 hb; replace HB := bst HB hb; (try clear hb); obtain ⟨_, _, _, _⟩ := blk2 BK439; obtain ⟨_, _, _, _⟩ := blk2 BK440))
   go_ret
   exact ⟨eqE, bel_g HB.out⟩
  ·replace c6 := Bool.eq_false_iff.mpr c6
   subst c6
   replace H := ifF H
   obtain rfl := Option.some.inj H
   go_enter Tryd.func18, Tryd.ntmps18
   go_wp2_with (first | ((with_reducible refine gate_dst (N := 2) rfl ?_); refine boxE (N := 2) (cs := #[.int .i64 a0_0, .slice A0_1 l0_1.length c0_1]) (t := 26) ?_; intro gb439 hg w16 hbox hb; have BK439 := mkA (hbox); have GE439 := geB HB hg; replace HB := bst HB hb; clear hb hbox hg) | ((with_reducible refine gate_dst (N := 3) rfl ?_); refine boxE (N := 3) (cs := #[.int .i64 a1_0, .slice A1_1 l1_1.length c1_1]) (t := 26) ?_; intro gb440 hg w17 hbox hb; have BK440 := mkA (hbox); have GE440 := geB HB hg; have NB439_440 := neL7 BK439 hg; have NB440_439 := neR7 BK439 hg; replace BK439 := blkB BK439 hb; replace HB := bst HB hb; clear hb hbox hg; obtain ⟨_, _, _, _⟩ := blk2 BK439) | ((with_reducible refine gate_callee (f := 11) rfl ?_); refine goesQ (some 6) Tryd.func11 #[.agg #[.int .i64 a0_0, .slice A0_1 l0_1.length c0_1]] ?_; (with_reducible refine (impl_IsOrder.calls k a0_0 _ _ l0_1 true _ ?s1 ?s2 ?s3 A3.out).mono ?_); (case s1 => exact C_g HR0_1 HB); (case s2 => exact HC0_1.out); (case s3 => exact Tab.below HTAB.out (bel_g HB.out)); rintro e w20 ⟨rfl, hb⟩; refine ⟨_, rfl, ?_⟩; replace BK439 := blkB BK439 hb; replace BK440 := blkB BK440 hb; replace HB := bst HB hb; (try clear hb); obtain ⟨_, _, _, _⟩ := blk2 BK440) | (go_at_call 11; (with_reducible refine (impl_IsOrder.calls k a1_0 _ _ l1_1 false _ ?s1 ?s2 ?s3 A5.out).mono ?_); (case s1 => exact C_g HR1_1 HB); (case s2 => exact HC1_1.out); (case s3 => exact Tab.below HTAB.out (bel_g HB.out)); rintro e w22 ⟨rfl, hb⟩; replace BK439 := blkB BK439 hb; replace BK440 := blkB BK440 hb; replace HB := bst HB hb; (try clear hb)))
   go_ret
   exact ⟨eqE, bel_g HB.out⟩
 ·replace c4 := Bool.eq_false_iff.mpr c4
  subst c4
  replace H := ifF H
  obtain rfl := Option.some.inj H
  go_enter Tryd.func18, Tryd.ntmps18
  go_wp2_with (first | ((with_reducible refine gate_dst (N := 2) rfl ?_); refine boxE (N := 2) (cs := #[.int .i64 a0_0, .slice A0_1 l0_1.length c0_1]) (t := 26) ?_; intro gb439 hg w23 hbox hb; have BK439 := mkA (hbox); have GE439 := geB HB hg; replace HB := bst HB hb; clear hb hbox hg) | ((with_reducible refine gate_dst (N := 3) rfl ?_); refine boxE (N := 3) (cs := #[.int .i64 a1_0, .slice A1_1 l1_1.length c1_1]) (t := 26) ?_; intro gb440 hg w24 hbox hb; have BK440 := mkA (hbox); have GE440 := geB HB hg; have NB439_440 := neL7 BK439 hg; have NB440_439 := neR7 BK439 hg; replace BK439 := blkB BK439 hb; replace HB := bst HB hb; clear hb hbox hg; obtain ⟨_, _, _, _⟩ := blk2 BK439) | ((with_reducible refine gate_callee (f := 11) rfl ?_); refine goesQ (some 6) Tryd.func11 #[.agg #[.int .i64 a0_0, .slice A0_1 l0_1.length c0_1]] ?_; (with_reducible refine (impl_IsOrder.calls k a0_0 _ _ l0_1 false _ ?s1 ?s2 ?s3 A3.out).mono ?_); (case s1 => exact C_g HR0_1 HB); (case s2 => exact HC0_1.out); (case s3 => exact Tab.below HTAB.out (bel_g HB.out)); rintro e w27 ⟨rfl, hb⟩; refine ⟨_, rfl, ?_⟩; replace BK439 := blkB BK439 hb; replace BK440 := blkB BK440 hb; replace HB := bst HB hb; (try clear hb)))
  go_ret
  exact ⟨eqE, bel_g HB.out⟩
end Go.Proofs.YtgbdjchdfcodcaaDoor.Q
