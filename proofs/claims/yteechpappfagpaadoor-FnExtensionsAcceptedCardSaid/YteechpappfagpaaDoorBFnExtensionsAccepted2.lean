import Derived.Test.YteechpappfagpaaDoorBFnExtensionsAccepted0
import Derived.Test.YteechpappfagpaaDoorBFnExtensionsAccepted1
-- printed by this project's own program (wip/mp/mp.py) over the kit's print, for this seat; Lean checks it
namespace Go.Proofs.YteechpappfagpaaDoor.Q
open Go.RowKit Go.Proofs.YteechpappfagpaaDoorW.PrintWords Go.Proofs.YteechpappfagpaaDoorW.PrintLast Go.Proofs.YteechpappfagpaaDoorW.PrintMore
attribute [local go_sem] max2_int min2_int max_two min_two max_three min_three max_four min_four   -- for this text's walks alone
set_option linter.unusedVariables false
set_option maxHeartbeats 8000000
set_option maxRecDepth 100000
set_option linter.unusedSimpArgs false

/-! ### impl_IsOrder: function 45 -/
mutual
def impl_IsOrder.l0 : Nat → List Int → Int → Int → Int → List Int → Option (Bool)
 | 0, _, _, _, _, _ => none
 | k + 1, x11, x12, x13, x154000, x154001 => if x13 < x12 then (if 0 ≤ x13 then (if x13 < (x11.length : Int) then ((impl_Order_better.f x154000 x154001 x13 x13).bind fun t156 => (if t156 = true then (some false) else ((impl_members.f k (rd x11 x13)).bind fun t157 => (impl_IsOrder.l1 k (rd x11 x13) x11 x12 x13 t157 (t157.length : Int) 0 x154000 x154001)))) else (none)) else (none)) else (some true)
def impl_IsOrder.l1 : Nat → Int → List Int → Int → Int → List Int → Int → Int → Int → List Int → Option (Bool)
 | 0, _, _, _, _, _, _, _, _, _ => none
 | k + 1, x4, x11, x12, x13, x23, x24, x25, x154000, x154001 => if x25 < x24 then (if 0 ≤ x25 then (if x25 < (x23.length : Int) then (if 0 ≤ (rd x23 x25) then (if (rd x23 x25) < (x154001.length : Int) then (if (Go.bits .andNot .i64 (rd x154001 (rd x23 x25)) x4) = 0 then (impl_IsOrder.l1 k x4 x11 x12 x13 x23 x24 (wrap64 (x25 + 1)) x154000 x154001) else (some false)) else (none)) else (none)) else (none)) else (none)) else (impl_IsOrder.l0 k x11 x12 (wrap64 (x13 + 1)) x154000 x154001)
end
def impl_IsOrder.f (k : Nat) (a0_0 : Int) (l0_1 : List Int) : Option (Bool) := (impl_IsRelation.f k a0_0 l0_1).bind fun t154 => (if t154 = true then (impl_IsOrder.l0 k l0_1 (l0_1.length : Int) 0 a0_0 l0_1) else (some false))
theorem impl_IsOrder.mono_l : ∀ k, (∀ y0 y1 y2 y3 y4, LeO (impl_IsOrder.l0 k y0 y1 y2 y3 y4) (impl_IsOrder.l0 (k + 1) y0 y1 y2 y3 y4)) ∧ (∀ y0 y1 y2 y3 y4 y5 y6 y7 y8, LeO (impl_IsOrder.l1 k y0 y1 y2 y3 y4 y5 y6 y7 y8) (impl_IsOrder.l1 (k + 1) y0 y1 y2 y3 y4 y5 y6 y7 y8))
 | 0 => ⟨fun _ _ _ _ _ r h => by simp [impl_IsOrder.l0] at h, fun _ _ _ _ _ _ _ _ _ r h => by simp [impl_IsOrder.l1] at h⟩
 | k + 1 => by
  obtain ⟨ih0, ih1⟩ := impl_IsOrder.mono_l k
  refine ⟨?_, ?_⟩
  ·intro y0 y1 y2 y3 y4
   unfold impl_IsOrder.l0
   repeat' (with_reducible first|exact ih0 _ _ _ _ _|exact ih1 _ _ _ _ _ _ _ _ _|exact impl_IsRelation.mono _ _ _|exact impl_members.mono _ _|exact LeO.refl _|exact LeO.none _|refine LeO.ite ?_ ?_|refine LeO.bind ?_ (fun _ => ?_))
  ·intro y0 y1 y2 y3 y4 y5 y6 y7 y8
   unfold impl_IsOrder.l1
   repeat' (with_reducible first|exact ih0 _ _ _ _ _|exact ih1 _ _ _ _ _ _ _ _ _|exact impl_IsRelation.mono _ _ _|exact impl_members.mono _ _|exact LeO.refl _|exact LeO.none _|refine LeO.ite ?_ ?_|refine LeO.bind ?_ (fun _ => ?_))
theorem impl_IsOrder.mono : ∀ a0 a1 k, LeO (impl_IsOrder.f k a0 a1) (impl_IsOrder.f (k + 1) a0 a1) := by
 intro a0 a1 k
 obtain ⟨ih0, ih1⟩ := impl_IsOrder.mono_l k
 unfold impl_IsOrder.f
 repeat' (with_reducible first|exact ih0 _ _ _ _ _|exact ih1 _ _ _ _ _ _ _ _ _|exact impl_IsRelation.mono _ _ _|exact impl_members.mono _ _|exact LeO.refl _|exact LeO.none _|refine LeO.ite ?_ ?_|refine LeO.bind ?_ (fun _ => ?_))
theorem impl_IsOrder.calls (k : Nat) (a0_0 : Int) (A0_1 : Option Addr) (c0_1 : Nat) (l0_1 : List Int) (r : Bool) (w : World) (hr0_1 : Kd.C (Kd.int .i64) w A0_1 l0_1.length l0_1) (hc0_1 : l0_1.length ≤ c0_1) (hTAB : Tab w) (h : impl_IsOrder.f k a0_0 l0_1 = some r) :
  Calls Tryd.prog 45 #[.agg #[.int .i64 a0_0, .slice A0_1 l0_1.length c0_1]] w fun e w' => e = .returned (.bool r) ∧ Below w.heap.size w w' := by
 have HTAB := Aside0.mk hTAB
 clear hTAB
 have hu28 := Tryd.underlying28
 have HR0_1 := Aside0.mk hr0_1
 have HC0_1 := Aside0.mk hc0_1
 clear hr0_1 hc0_1
 have HB := Aside0.mk (Below.refl w.heap.size w)
 have H : ((impl_IsRelation.f k a0_0 l0_1).bind fun t154 => (if t154 = true then (impl_IsOrder.l0 k l0_1 (l0_1.length : Int) 0 a0_0 l0_1) else (some false))) = some r := h
 clear h
 obtain ⟨t154, A2, H⟩ := obE H
 by_cases c3 : t154 = true
 ·subst c3
  replace H := ifT H
  have H' := Aside0.mk H
  clear H
  go_enter Tryd.func45, Tryd.ntmps45
  go_wp2_with (first | ((with_reducible refine gate_dst (N := 1) rfl ?_); refine boxE (N := 1) (cs := #[.int .i64 a0_0, .slice A0_1 l0_1.length c0_1]) (t := 28) ?_; intro gb153 hg w4 hbox hb; have BK153 := Aside0.mk (hbox); have GE153 := geB HB hg; replace HB := bst HB hb; clear hb hbox hg; obtain ⟨hcz5_0, hcz5_1, hfz5_0, hfz5_1⟩ := blk2 BK153) | ((with_reducible refine gate_callee (f := 109) rfl ?_); refine goesQ (some 8) Tryd.func109 #[.agg #[.int .i64 a0_0, .slice A0_1 l0_1.length c0_1]] ?_; (with_reducible refine (impl_IsRelation.calls k a0_0 _ _ l0_1 true _ ?side1 ?side2 A2.out).mono ?_); (case side1 => exact C_g HR0_1 HB); (case side2 => exact HC0_1.out); rintro e w6 ⟨rfl, hb⟩; refine ⟨_, rfl, ?_⟩; replace BK153 := blkB BK153 hb; replace HB := bst HB hb; (try clear hb); obtain ⟨hcz7_0, hcz7_1, hfz7_0, hfz7_1⟩ := blk2 BK153))
  go_loopg [13] k (fun kq v13 w' => ∃ (x13_1 : Int), v13 = .int .i64 x13_1 ∧ Aside0 (impl_IsOrder.l0 kq l0_1 (l0_1.length : Int) x13_1 a0_0 l0_1 = some r) ∧ Aside0 (kq ≤ k) ∧ Aside0 (w'.heap[gb153]? = some (.cells #[.int .i64 a0_0, (.slice A0_1 l0_1.length c0_1)] 28 (0, 0))) ∧ Aside0 (Below w.heap.size w w'))
  case atStart => exact ⟨(0), eqS, H', ⟨Nat.le_refl _⟩, ⟨blk_g BK153.out⟩, ⟨bel_g HB.out⟩⟩
  case round =>
   clear H'
   try clear c3
   try clear hcz5_0
   try clear hcz5_1
   try clear hcz7_0
   try clear hcz7_1
   try clear hfz5_0
   try clear hfz5_1
   try clear hfz7_0
   try clear hfz7_1
   obtain ⟨x13_1, rfl, HA, HK1, BK153, HB⟩ := hrel
   cases gk with
   | zero => exact absurd HA.out (by simp [impl_IsOrder.l0])
   | succ k1 =>
    have H := HA.out
    clear HA
    simp only [impl_IsOrder.l0] at H
    rcases iteE H with ⟨c8b0, H⟩ | ⟨c8b0, H⟩
    ·rcases iteP H with ⟨c9, H⟩ | ⟨c9, H⟩
     ·have c9b0 : decide (0 ≤ x13_1) = true := decide_eq_true c9
      clear c9
      rcases iteP H with ⟨c10, H⟩ | ⟨c10, H⟩
      ·have c10b0 : decide (x13_1 < (l0_1.length : Int)) = true := decide_eq_true c10
       clear c10
       obtain ⟨t156, A11, H⟩ := obE H
       by_cases c12 : t156 = true
       ·subst c12
        replace H := ifT H
        obtain rfl := Option.some.inj H
        have p155 : 0 ≤ (x13_1 : Int) := ofd
        have q155 : x13_1 < (l0_1.length : Int) := ofd
        obtain ⟨ad155, e155, hx155_0⟩ := Kd.at_int HR0_1.out x13_1 p155 q155
        cases e155
        replace hx155_0 := (HB.out.cell (World.block_lt_of_cell? w _ hx155_0)).trans hx155_0
        replace p155 := eq_true p155
        replace q155 := eq_true q155
        obtain ⟨hcz13_0, hcz13_1, hfz13_0, hfz13_1⟩ := blk2 BK153
        go_wp2_with (first | ((with_reducible refine gate_callee (f := 91) rfl ?_); refine goesQ (some 21) Tryd.func91 #[.agg #[.int .i64 a0_0, .slice (some ad155) l0_1.length c0_1], .int .i64 x13_1, .int .i64 x13_1] ?_; (with_reducible refine (impl_Order_better.calls a0_0 _ _ l0_1 x13_1 x13_1 true _ ?side1 ?side2 A11.out).mono ?_); (case side1 => exact C_g HR0_1 HB); (case side2 => exact HC0_1.out); rintro e w14 ⟨rfl, hb⟩; refine ⟨_, rfl, ?_⟩; replace BK153 := blkB BK153 hb; replace HB := bst HB hb; (try clear hb)))
        go_ret
        exact ⟨eqE, bel_g HB.out⟩
       ·replace c12 := Bool.eq_false_iff.mpr c12
        subst c12
        replace H := ifF H
        obtain ⟨t157, A15, H⟩ := obE H
        have H' := Aside0.mk H
        clear H
        have p155 : 0 ≤ (x13_1 : Int) := ofd
        have q155 : x13_1 < (l0_1.length : Int) := ofd
        obtain ⟨ad155, e155, hx155_0⟩ := Kd.at_int HR0_1.out x13_1 p155 q155
        cases e155
        replace hx155_0 := (HB.out.cell (World.block_lt_of_cell? w _ hx155_0)).trans hx155_0
        replace p155 := eq_true p155
        replace q155 := eq_true q155
        obtain ⟨hcz16_0, hcz16_1, hfz16_0, hfz16_1⟩ := blk2 BK153
        go_wp2_with (first | ((with_reducible refine gate_callee (f := 91) rfl ?_); refine goesQ (some 21) Tryd.func91 #[.agg #[.int .i64 a0_0, .slice (some ad155) l0_1.length c0_1], .int .i64 x13_1, .int .i64 x13_1] ?_; (with_reducible refine (impl_Order_better.calls a0_0 _ _ l0_1 x13_1 x13_1 false _ ?side1 ?side2 A11.out).mono ?_); (case side1 => exact C_g HR0_1 HB); (case side2 => exact HC0_1.out); rintro e w17 ⟨rfl, hb⟩; refine ⟨_, rfl, ?_⟩; replace BK153 := blkB BK153 hb; replace HB := bst HB hb; (try clear hb)) | ((with_reducible refine gate_callee (f := 113) rfl ?_); refine goesQ (some 23) Tryd.func113 #[.int .i64 (rd l0_1 x13_1)] ?_; (with_reducible refine (impl_members.calls k1 (rd l0_1 x13_1) t157 _ ?side1 A15.out).mono ?_); (case side1 => first | exact HTAB.out | exact Tab.drewN HTAB.out _ | exact Tab.below HTAB.out (bel_g HB.out) | exact Tab.below HTAB.out (by repeat (first | exact Below.refl _ _ | apply below_alloc | apply pw_below_drewN | apply below_drew1))); rintro e w18 ⟨v158, rfl, ho0, hb⟩; refine ⟨_, rfl, ?_⟩; have HO159 := Aside0.mk (Kd.R_lower ho0 (below_size (bel_g HB.out))); replace BK153 := blkB BK153 hb; replace HB := bst HB hb; (try clear hb); (try clear ho0); obtain ⟨Ao19, co19, eo19⟩ := Kd.R_slice HO159.out; subst eo19))
        go_loopg [25] k1 (fun kq v25 w' => ∃ (x25_2 : Int), v25 = .int .i64 x25_2 ∧ Aside0 (impl_IsOrder.l1 kq (rd l0_1 x13_1) l0_1 (l0_1.length : Int) x13_1 t157 (t157.length : Int) x25_2 a0_0 l0_1 = some r) ∧ Aside0 (kq ≤ k1) ∧ Aside0 (Kd.R (Kd.int .i64) 3 w' w.heap.size (fun _ => True) (.slice Ao19 t157.length co19) t157) ∧ Aside0 (w'.heap[gb153]? = some (.cells #[.int .i64 a0_0, (.slice (some ad155) l0_1.length c0_1)] 28 (0, 0))) ∧ Aside0 (Below w.heap.size w w'))
        case atStart => exact ⟨(0), eqS, H', ⟨Nat.le_refl _⟩, ⟨Kd.R_g HO159.out⟩, ⟨blk_g BK153.out⟩, ⟨bel_g HB.out⟩⟩
        case round =>
         clear H'
         try clear c3
         try clear c8b0
         try clear c9
         try clear c9b0
         try clear c10
         try clear c10b0
         try clear c12
         try clear hcz13_0
         try clear hcz13_1
         try clear hcz16_0
         try clear hcz16_1
         try clear hcz5_0
         try clear hcz5_1
         try clear hcz7_0
         try clear hcz7_1
         try clear hfz13_0
         try clear hfz13_1
         try clear hfz16_0
         try clear hfz16_1
         try clear hfz5_0
         try clear hfz5_1
         try clear hfz7_0
         try clear hfz7_1
         try clear hx155_0
         try clear p155
         try clear q155
         obtain ⟨x25_2, rfl, HA, HK2, HO_23, BK153, HB⟩ := hrel
         cases gk with
         | zero => exact absurd HA.out (by simp [impl_IsOrder.l1])
         | succ k2 =>
          have H := HA.out
          clear HA
          simp only [impl_IsOrder.l1] at H
          rcases iteE H with ⟨c20b0, H⟩ | ⟨c20b0, H⟩
          ·rcases iteP H with ⟨c21, H⟩ | ⟨c21, H⟩
           ·have c21b0 : decide (0 ≤ x25_2) = true := decide_eq_true c21
            clear c21
            rcases iteP H with ⟨c22, H⟩ | ⟨c22, H⟩
            ·have c22b0 : decide (x25_2 < (t157.length : Int)) = true := decide_eq_true c22
             clear c22
             rcases iteP H with ⟨c23, H⟩ | ⟨c23, H⟩
             ·have c23b0 : decide (0 ≤ (rd t157 x25_2)) = true := decide_eq_true c23
              clear c23
              rcases iteP H with ⟨c24, H⟩ | ⟨c24, H⟩
              ·have c24b0 : decide ((rd t157 x25_2) < (l0_1.length : Int)) = true := decide_eq_true c24
               clear c24
               rcases iteP H with ⟨c25, H⟩ | ⟨c25, H⟩
               ·have c25b0 : ((Go.bits .andNot .i64 (rd l0_1 (rd t157 x25_2)) (rd l0_1 x13_1)) == 0) = true := beq_iff_eq.mpr c25
                have c25b1 : ((Go.bits .andNot .i64 (rd l0_1 (rd t157 x25_2)) (rd l0_1 x13_1)) != 0) = false := bne_eq_false_iff_eq.mpr c25
                clear c25
                have H' := Aside0.mk H
                clear H
                have p160 : 0 ≤ (x25_2 : Int) := ofd
                have q160 : x25_2 < (t157.length : Int) := ofd
                obtain ⟨ad160, e160, hx160_0⟩ := Kd.at_int (Kd.R_reads' HO_23.out).2.2 x25_2 p160 q160
                cases e160
                replace p160 := eq_true p160
                replace q160 := eq_true q160
                obtain ⟨hcz26_0, hcz26_1, hfz26_0, hfz26_1⟩ := blk2 BK153
                have p161 : 0 ≤ ((rd t157 x25_2) : Int) := ofd
                have q161 : (rd t157 x25_2) < (l0_1.length : Int) := ofd
                obtain ⟨ad161, e161, hx161_0⟩ := Kd.at_int HR0_1.out (rd t157 x25_2) p161 q161
                obtain rfl : ad155 = ad161 := (by injection e161)
                replace hx161_0 := (HB.out.cell (World.block_lt_of_cell? w _ hx161_0)).trans hx161_0
                replace p161 := eq_true p161
                replace q161 := eq_true q161
                go_wp2
                go_roundg k2
                case measure => have := HK1.out; have := HK2.out; omega
                case rel => exact ⟨(wrap64 (x25_2 + 1)), eqS, H', ⟨by have := HK1.out; have := HK2.out; omega⟩, ⟨Kd.R_g HO_23.out⟩, ⟨blk_g BK153.out⟩, ⟨bel_g HB.out⟩⟩
               ·have c25b0 : ((Go.bits .andNot .i64 (rd l0_1 (rd t157 x25_2)) (rd l0_1 x13_1)) == 0) = false := beq_eq_false_iff_ne.mpr c25
                have c25b1 : ((Go.bits .andNot .i64 (rd l0_1 (rd t157 x25_2)) (rd l0_1 x13_1)) != 0) = true := bne_iff_ne.mpr c25
                obtain rfl := Option.some.inj H
                have p160 : 0 ≤ (x25_2 : Int) := ofd
                have q160 : x25_2 < (t157.length : Int) := ofd
                obtain ⟨ad160, e160, hx160_0⟩ := Kd.at_int (Kd.R_reads' HO_23.out).2.2 x25_2 p160 q160
                cases e160
                replace p160 := eq_true p160
                replace q160 := eq_true q160
                obtain ⟨hcz27_0, hcz27_1, hfz27_0, hfz27_1⟩ := blk2 BK153
                have p161 : 0 ≤ ((rd t157 x25_2) : Int) := ofd
                have q161 : (rd t157 x25_2) < (l0_1.length : Int) := ofd
                obtain ⟨ad161, e161, hx161_0⟩ := Kd.at_int HR0_1.out (rd t157 x25_2) p161 q161
                obtain rfl : ad155 = ad161 := (by injection e161)
                replace hx161_0 := (HB.out.cell (World.block_lt_of_cell? w _ hx161_0)).trans hx161_0
                replace p161 := eq_true p161
                replace q161 := eq_true q161
                go_wp2
                go_ret
                exact ⟨eqE, bel_g HB.out⟩
              ·exact absurd H (by simp)
             ·exact absurd H (by simp)
            ·exact absurd H (by simp)
           ·exact absurd H (by simp)
          ·have H' := Aside0.mk H
           clear H
           go_wp2
           go_roundg k2
           case measure => have := HK1.out; have := HK2.out; omega
           case rel => exact ⟨(wrap64 (x13_1 + 1)), eqS, H', ⟨by have := HK1.out; have := HK2.out; omega⟩, ⟨blk_g BK153.out⟩, ⟨bel_g HB.out⟩⟩
      ·exact absurd H (by simp)
     ·exact absurd H (by simp)
    ·obtain rfl := Option.some.inj H
     go_wp2
     go_ret
     exact ⟨eqE, bel_g HB.out⟩
 ·replace c3 := Bool.eq_false_iff.mpr c3
  subst c3
  replace H := ifF H
  obtain rfl := Option.some.inj H
  go_enter Tryd.func45, Tryd.ntmps45
  go_wp2_with (first | ((with_reducible refine gate_dst (N := 1) rfl ?_); refine boxE (N := 1) (cs := #[.int .i64 a0_0, .slice A0_1 l0_1.length c0_1]) (t := 28) ?_; intro gb153 hg w28 hbox hb; have BK153 := Aside0.mk (hbox); have GE153 := geB HB hg; replace HB := bst HB hb; clear hb hbox hg; obtain ⟨hcz29_0, hcz29_1, hfz29_0, hfz29_1⟩ := blk2 BK153) | ((with_reducible refine gate_callee (f := 109) rfl ?_); refine goesQ (some 8) Tryd.func109 #[.agg #[.int .i64 a0_0, .slice A0_1 l0_1.length c0_1]] ?_; (with_reducible refine (impl_IsRelation.calls k a0_0 _ _ l0_1 false _ ?side1 ?side2 A2.out).mono ?_); (case side1 => exact C_g HR0_1 HB); (case side2 => exact HC0_1.out); rintro e w30 ⟨rfl, hb⟩; refine ⟨_, rfl, ?_⟩; replace BK153 := blkB BK153 hb; replace HB := bst HB hb; (try clear hb)))
  go_ret
  exact ⟨eqE, bel_g HB.out⟩

end Go.Proofs.YteechpappfagpaaDoor.Q
