import Derived.Test.YteechpappfagpaaDoorBFnOrdersOfPlaces0
import Derived.Test.YteechpappfagpaaDoorBFnOrdersOfPlaces8
-- printed by this project's own program (wip/mp/mp.py) over the kit's print, for this seat; Lean checks it
namespace Go.Proofs.YteechpappfagpaaDoor.Q
open Go.RowKit Go.Proofs.YteechpappfagpaaDoorW.PrintWords Go.Proofs.YteechpappfagpaaDoorW.PrintLast Go.Proofs.YteechpappfagpaaDoorW.PrintMore
attribute [local go_sem] max2_int min2_int max_two min_two max_three min_three max_four min_four   -- for this text's walks alone
set_option linter.unusedVariables false
set_option maxHeartbeats 8000000
set_option maxRecDepth 100000
set_option linter.unusedSimpArgs false

/-! ### impl_Order_twoTwo: function 165 -/
mutual
def impl_Order_twoTwo.l0 : Nat → Int → Int → Int → List Int → Option (List Int)
 | 0, _, _, _, _ => none
 | k + 1, x8, x9, x626000, x626001 => if x9 < x8 then (impl_Order_twoTwo.l1 k x9 x8 x9 x626000 0 x626000 x626001) else (some ([] : List Int))
def impl_Order_twoTwo.l1 : Nat → Int → Int → Int → Int → Int → Int → List Int → Option (List Int)
 | 0, _, _, _, _, _, _, _ => none
 | k + 1, x3, x8, x9, x13, x14, x626000, x626001 => if x14 < x13 then (impl_Order_twoTwo.l2 k x3 x14 x8 x9 x13 x14 x626000 0 x626000 x626001) else (impl_Order_twoTwo.l0 k x8 (wrap64 (x9 + 1)) x626000 x626001)
def impl_Order_twoTwo.l2 : Nat → Int → Int → Int → Int → Int → Int → Int → Int → Int → List Int → Option (List Int)
 | 0, _, _, _, _, _, _, _, _, _, _ => none
 | k + 1, x3, x4, x8, x9, x13, x14, x18, x19, x626000, x626001 => if x19 < x18 then (impl_Order_twoTwo.l3 k x3 x4 x19 x8 x9 x13 x14 x18 x19 x626000 0 x626000 x626001) else (impl_Order_twoTwo.l1 k x3 x8 x9 x13 (wrap64 (x14 + 1)) x626000 x626001)
def impl_Order_twoTwo.l3 : Nat → Int → Int → Int → Int → Int → Int → Int → Int → Int → Int → Int → Int → List Int → Option (List Int)
 | 0, _, _, _, _, _, _, _, _, _, _, _, _, _ => none
 | k + 1, x3, x4, x5, x8, x9, x13, x14, x18, x19, x23, x24, x626000, x626001 => if x24 < x23 then ((impl_Order_better.f x626000 x626001 x3 x4).bind fun t626 => (if t626 = true then ((impl_Order_better.f x626000 x626001 x5 x24).bind fun t627 => (if t627 = true then ((impl_Order_better.f x626000 x626001 x5 x4).bind fun t628 => (if t628 = true then (impl_Order_twoTwo.l3 k x3 x4 x5 x8 x9 x13 x14 x18 x19 x23 (wrap64 (x24 + 1)) x626000 x626001) else ((impl_Order_better.f x626000 x626001 x3 x24).bind fun t629 => (if t629 = true then (impl_Order_twoTwo.l3 k x3 x4 x5 x8 x9 x13 x14 x18 x19 x23 (wrap64 (x24 + 1)) x626000 x626001) else (some (([x3, x4, x5, x24] : List Int))))))) else (impl_Order_twoTwo.l3 k x3 x4 x5 x8 x9 x13 x14 x18 x19 x23 (wrap64 (x24 + 1)) x626000 x626001))) else (impl_Order_twoTwo.l3 k x3 x4 x5 x8 x9 x13 x14 x18 x19 x23 (wrap64 (x24 + 1)) x626000 x626001))) else (impl_Order_twoTwo.l2 k x3 x4 x8 x9 x13 x14 x18 (wrap64 (x19 + 1)) x626000 x626001)
end
def impl_Order_twoTwo.f (k : Nat) (a0_0 : Int) (l0_1 : List Int) : Option (List Int) := impl_Order_twoTwo.l0 k a0_0 0 a0_0 l0_1
theorem impl_Order_twoTwo.mono_l : ∀ k, (∀ y0 y1 y2 y3, LeO (impl_Order_twoTwo.l0 k y0 y1 y2 y3) (impl_Order_twoTwo.l0 (k + 1) y0 y1 y2 y3)) ∧ (∀ y0 y1 y2 y3 y4 y5 y6, LeO (impl_Order_twoTwo.l1 k y0 y1 y2 y3 y4 y5 y6) (impl_Order_twoTwo.l1 (k + 1) y0 y1 y2 y3 y4 y5 y6)) ∧ (∀ y0 y1 y2 y3 y4 y5 y6 y7 y8 y9, LeO (impl_Order_twoTwo.l2 k y0 y1 y2 y3 y4 y5 y6 y7 y8 y9) (impl_Order_twoTwo.l2 (k + 1) y0 y1 y2 y3 y4 y5 y6 y7 y8 y9)) ∧ (∀ y0 y1 y2 y3 y4 y5 y6 y7 y8 y9 y10 y11 y12, LeO (impl_Order_twoTwo.l3 k y0 y1 y2 y3 y4 y5 y6 y7 y8 y9 y10 y11 y12) (impl_Order_twoTwo.l3 (k + 1) y0 y1 y2 y3 y4 y5 y6 y7 y8 y9 y10 y11 y12))
 | 0 => ⟨fun _ _ _ _ r h => by simp [impl_Order_twoTwo.l0] at h, fun _ _ _ _ _ _ _ r h => by simp [impl_Order_twoTwo.l1] at h, fun _ _ _ _ _ _ _ _ _ _ r h => by simp [impl_Order_twoTwo.l2] at h, fun _ _ _ _ _ _ _ _ _ _ _ _ _ r h => by simp [impl_Order_twoTwo.l3] at h⟩
 | k + 1 => by
  obtain ⟨ih0, ih1, ih2, ih3⟩ := impl_Order_twoTwo.mono_l k
  refine ⟨?_, ?_, ?_, ?_⟩
  ·intro y0 y1 y2 y3
   unfold impl_Order_twoTwo.l0
   repeat' (with_reducible first|exact ih0 _ _ _ _|exact ih1 _ _ _ _ _ _ _|exact ih2 _ _ _ _ _ _ _ _ _ _|exact ih3 _ _ _ _ _ _ _ _ _ _ _ _ _|exact LeO.refl _|exact LeO.none _|refine LeO.ite ?_ ?_|refine LeO.bind ?_ (fun _ => ?_))
  ·intro y0 y1 y2 y3 y4 y5 y6
   unfold impl_Order_twoTwo.l1
   repeat' (with_reducible first|exact ih0 _ _ _ _|exact ih1 _ _ _ _ _ _ _|exact ih2 _ _ _ _ _ _ _ _ _ _|exact ih3 _ _ _ _ _ _ _ _ _ _ _ _ _|exact LeO.refl _|exact LeO.none _|refine LeO.ite ?_ ?_|refine LeO.bind ?_ (fun _ => ?_))
  ·intro y0 y1 y2 y3 y4 y5 y6 y7 y8 y9
   unfold impl_Order_twoTwo.l2
   repeat' (with_reducible first|exact ih0 _ _ _ _|exact ih1 _ _ _ _ _ _ _|exact ih2 _ _ _ _ _ _ _ _ _ _|exact ih3 _ _ _ _ _ _ _ _ _ _ _ _ _|exact LeO.refl _|exact LeO.none _|refine LeO.ite ?_ ?_|refine LeO.bind ?_ (fun _ => ?_))
  ·intro y0 y1 y2 y3 y4 y5 y6 y7 y8 y9 y10 y11 y12
   unfold impl_Order_twoTwo.l3
   repeat' (with_reducible first|exact ih0 _ _ _ _|exact ih1 _ _ _ _ _ _ _|exact ih2 _ _ _ _ _ _ _ _ _ _|exact ih3 _ _ _ _ _ _ _ _ _ _ _ _ _|exact LeO.refl _|exact LeO.none _|refine LeO.ite ?_ ?_|refine LeO.bind ?_ (fun _ => ?_))
theorem impl_Order_twoTwo.mono : ∀ a0 a1 k, LeO (impl_Order_twoTwo.f k a0 a1) (impl_Order_twoTwo.f (k + 1) a0 a1) := by
 intro a0 a1 k
 obtain ⟨ih0, ih1, ih2, ih3⟩ := impl_Order_twoTwo.mono_l k
 unfold impl_Order_twoTwo.f
 repeat' (with_reducible first|exact ih0 _ _ _ _|exact ih1 _ _ _ _ _ _ _|exact ih2 _ _ _ _ _ _ _ _ _ _|exact ih3 _ _ _ _ _ _ _ _ _ _ _ _ _|exact LeO.refl _|exact LeO.none _|refine LeO.ite ?_ ?_|refine LeO.bind ?_ (fun _ => ?_))
theorem impl_Order_twoTwo.calls (k : Nat) (a0_0 : Int) (A0_1 : Option Addr) (c0_1 : Nat) (l0_1 : List Int) (r : List Int) (w : World) (hr0_1 : Kd.C (Kd.int .i64) w A0_1 l0_1.length l0_1) (hc0_1 : l0_1.length ≤ c0_1) (h : impl_Order_twoTwo.f k a0_0 l0_1 = some r) :
  Calls Tryd.prog 165 #[.agg #[.int .i64 a0_0, .slice A0_1 l0_1.length c0_1]] w fun e w' => ∃ v0_ : Value, e = .returned (v0_) ∧ Kd.R (Kd.int .i64) 3 w' w.heap.size (fun _ => True) v0_ r ∧ Below w.heap.size w w' ∧ (r = [] → v0_ = .slice none 0 0) := by
 have hu28 := Tryd.underlying28
 have HR0_1 := Aside0.mk hr0_1
 have HC0_1 := Aside0.mk hc0_1
 clear hr0_1 hc0_1
 have HB := Aside0.mk (Below.refl w.heap.size w)
 have H : (impl_Order_twoTwo.l0 k a0_0 0 a0_0 l0_1) = some r := h
 clear h
 have H' := Aside0.mk H
 clear H
 go_enter Tryd.func165, Tryd.ntmps165
 go_wp2_with (first | ((with_reducible refine gate_dst (N := 1) rfl ?_); refine boxE (N := 1) (cs := #[.int .i64 a0_0, .slice A0_1 l0_1.length c0_1]) (t := 28) ?_; intro gb625 hg w2 hbox hb; have BK625 := Aside0.mk (hbox); have GE625 := geB HB hg; replace HB := bst HB hb; clear hb hbox hg; obtain ⟨hcz3_0, hcz3_1, hfz3_0, hfz3_1⟩ := blk2 BK625))
 go_loopg [9] k (fun kq v9 w' => ∃ (x9_1 : Int), v9 = .int .i64 x9_1 ∧ Aside0 (impl_Order_twoTwo.l0 kq a0_0 x9_1 a0_0 l0_1 = some r) ∧ Aside0 (kq ≤ k) ∧ Aside0 (w'.heap[gb625]? = some (.cells #[.int .i64 a0_0, (.slice A0_1 l0_1.length c0_1)] 28 (0, 0))) ∧ Aside0 (Below w.heap.size w w'))
 case atStart => exact ⟨(0), eqS, H', ⟨Nat.le_refl _⟩, ⟨blk_g BK625.out⟩, ⟨bel_g HB.out⟩⟩
 case round =>
  clear H'
  try clear hcz3_0
  try clear hcz3_1
  try clear hfz3_0
  try clear hfz3_1
  obtain ⟨x9_1, rfl, HA, HK1, BK625, HB⟩ := hrel
  cases gk with
  | zero => exact absurd HA.out (by simp [impl_Order_twoTwo.l0])
  | succ k1 =>
   have H := HA.out
   clear HA
   simp only [impl_Order_twoTwo.l0] at H
   rcases iteE H with ⟨c4b0, H⟩ | ⟨c4b0, H⟩
   ·have H' := Aside0.mk H
    clear H
    obtain ⟨hcz5_0, hcz5_1, hfz5_0, hfz5_1⟩ := blk2 BK625
    go_wp2
    go_loopg [14] k1 (fun kq v14 w' => ∃ (x14_2 : Int), v14 = .int .i64 x14_2 ∧ Aside0 (impl_Order_twoTwo.l1 kq x9_1 a0_0 x9_1 a0_0 x14_2 a0_0 l0_1 = some r) ∧ Aside0 (kq ≤ k1) ∧ Aside0 (w'.heap[gb625]? = some (.cells #[.int .i64 a0_0, (.slice A0_1 l0_1.length c0_1)] 28 (0, 0))) ∧ Aside0 (Below w.heap.size w w'))
    case atStart => exact ⟨(0), eqS, H', ⟨Nat.le_refl _⟩, ⟨blk_g BK625.out⟩, ⟨bel_g HB.out⟩⟩
    case round =>
     clear H'
     try clear c4b0
     try clear hcz3_0
     try clear hcz3_1
     try clear hcz5_0
     try clear hcz5_1
     try clear hfz3_0
     try clear hfz3_1
     try clear hfz5_0
     try clear hfz5_1
     obtain ⟨x14_2, rfl, HA, HK2, BK625, HB⟩ := hrel
     cases gk with
     | zero => exact absurd HA.out (by simp [impl_Order_twoTwo.l1])
     | succ k2 =>
      have H := HA.out
      clear HA
      simp only [impl_Order_twoTwo.l1] at H
      rcases iteE H with ⟨c6b0, H⟩ | ⟨c6b0, H⟩
      ·have H' := Aside0.mk H
       clear H
       obtain ⟨hcz7_0, hcz7_1, hfz7_0, hfz7_1⟩ := blk2 BK625
       go_wp2
       go_loopg [19] k2 (fun kq v19 w' => ∃ (x19_3 : Int), v19 = .int .i64 x19_3 ∧ Aside0 (impl_Order_twoTwo.l2 kq x9_1 x14_2 a0_0 x9_1 a0_0 x14_2 a0_0 x19_3 a0_0 l0_1 = some r) ∧ Aside0 (kq ≤ k2) ∧ Aside0 (w'.heap[gb625]? = some (.cells #[.int .i64 a0_0, (.slice A0_1 l0_1.length c0_1)] 28 (0, 0))) ∧ Aside0 (Below w.heap.size w w'))
       case atStart => exact ⟨(0), eqS, H', ⟨Nat.le_refl _⟩, ⟨blk_g BK625.out⟩, ⟨bel_g HB.out⟩⟩
       case round =>
        clear H'
        try clear c4b0
        try clear c6b0
        try clear hcz3_0
        try clear hcz3_1
        try clear hcz5_0
        try clear hcz5_1
        try clear hcz7_0
        try clear hcz7_1
        try clear hfz3_0
        try clear hfz3_1
        try clear hfz5_0
        try clear hfz5_1
        try clear hfz7_0
        try clear hfz7_1
        obtain ⟨x19_3, rfl, HA, HK3, BK625, HB⟩ := hrel
        cases gk with
        | zero => exact absurd HA.out (by simp [impl_Order_twoTwo.l2])
        | succ k3 =>
         have H := HA.out
         clear HA
         simp only [impl_Order_twoTwo.l2] at H
         rcases iteE H with ⟨c8b0, H⟩ | ⟨c8b0, H⟩
         ·have H' := Aside0.mk H
          clear H
          obtain ⟨hcz9_0, hcz9_1, hfz9_0, hfz9_1⟩ := blk2 BK625
          go_wp2
          go_loopg [24] k3 (fun kq v24 w' => ∃ (x24_4 : Int), v24 = .int .i64 x24_4 ∧ Aside0 (impl_Order_twoTwo.l3 kq x9_1 x14_2 x19_3 a0_0 x9_1 a0_0 x14_2 a0_0 x19_3 a0_0 x24_4 a0_0 l0_1 = some r) ∧ Aside0 (kq ≤ k3) ∧ Aside0 (w'.heap[gb625]? = some (.cells #[.int .i64 a0_0, (.slice A0_1 l0_1.length c0_1)] 28 (0, 0))) ∧ Aside0 (Below w.heap.size w w'))
          case atStart => exact ⟨(0), eqS, H', ⟨Nat.le_refl _⟩, ⟨blk_g BK625.out⟩, ⟨bel_g HB.out⟩⟩
          case round =>
           clear H'
           try clear c4b0
           try clear c6b0
           try clear c8b0
           try clear hcz3_0
           try clear hcz3_1
           try clear hcz5_0
           try clear hcz5_1
           try clear hcz7_0
           try clear hcz7_1
           try clear hcz9_0
           try clear hcz9_1
           try clear hfz3_0
           try clear hfz3_1
           try clear hfz5_0
           try clear hfz5_1
           try clear hfz7_0
           try clear hfz7_1
           try clear hfz9_0
           try clear hfz9_1
           obtain ⟨x24_4, rfl, HA, HK4, BK625, HB⟩ := hrel
           cases gk with
           | zero => exact absurd HA.out (by simp [impl_Order_twoTwo.l3])
           | succ k4 =>
            have H := HA.out
            clear HA
            simp only [impl_Order_twoTwo.l3] at H
            rcases iteE H with ⟨c10b0, H⟩ | ⟨c10b0, H⟩
            ·obtain ⟨t626, A11, H⟩ := obE H
             by_cases c12 : t626 = true
             ·subst c12
              replace H := ifT H
              obtain ⟨t627, A13, H⟩ := obE H
              by_cases c14 : t627 = true
              ·subst c14
               replace H := ifT H
               obtain ⟨t628, A15, H⟩ := obE H
               by_cases c16 : t628 = true
               ·subst c16
                replace H := ifT H
                have H' := Aside0.mk H
                clear H
                obtain ⟨hcz17_0, hcz17_1, hfz17_0, hfz17_1⟩ := blk2 BK625
                go_wp2_with (first | ((with_reducible refine gate_callee (f := 91) rfl ?_); refine goesQ (some 30) Tryd.func91 #[.agg #[.int .i64 a0_0, .slice A0_1 l0_1.length c0_1], .int .i64 x9_1, .int .i64 x14_2] ?_; (with_reducible refine (impl_Order_better.calls a0_0 _ _ l0_1 x9_1 x14_2 true _ ?side1 ?side2 A11.out).mono ?_); (case side1 => exact C_g HR0_1 HB); (case side2 => exact HC0_1.out); rintro e w18 ⟨rfl, hb⟩; refine ⟨_, rfl, ?_⟩; replace BK625 := blkB BK625 hb; replace HB := bst HB hb; (try clear hb); (try clear hk); obtain ⟨hcz19_0, hcz19_1, hfz19_0, hfz19_1⟩ := blk2 BK625) | (go_at_call 91; (with_reducible refine (impl_Order_better.calls a0_0 _ _ l0_1 x19_3 x24_4 true _ ?side1 ?side2 A13.out).mono ?_); (case side1 => exact C_g HR0_1 HB); (case side2 => exact HC0_1.out); rintro e w20 ⟨rfl, hb⟩; replace BK625 := blkB BK625 hb; replace HB := bst HB hb; (try clear hb); (try clear hk); obtain ⟨hcz21_0, hcz21_1, hfz21_0, hfz21_1⟩ := blk2 BK625) | (go_at_call 91; (with_reducible refine (impl_Order_better.calls a0_0 _ _ l0_1 x19_3 x14_2 true _ ?side1 ?side2 A15.out).mono ?_); (case side1 => exact C_g HR0_1 HB); (case side2 => exact HC0_1.out); rintro e w22 ⟨rfl, hb⟩; replace BK625 := blkB BK625 hb; replace HB := bst HB hb; (try clear hb); (try clear hk)))
                go_roundg k4
                case measure => have := HK1.out; have := HK2.out; have := HK3.out; have := HK4.out; omega
                case rel => exact ⟨(wrap64 (x24_4 + 1)), eqS, H', ⟨by have := HK1.out; have := HK2.out; have := HK3.out; have := HK4.out; omega⟩, ⟨blk_g BK625.out⟩, ⟨bel_g HB.out⟩⟩
               ·replace c16 := Bool.eq_false_iff.mpr c16
                subst c16
                replace H := ifF H
                obtain ⟨t629, A23, H⟩ := obE H
                by_cases c24 : t629 = true
                ·subst c24
                 replace H := ifT H
                 have H' := Aside0.mk H
                 clear H
                 obtain ⟨hcz25_0, hcz25_1, hfz25_0, hfz25_1⟩ := blk2 BK625
                 go_wp2_with (first | ((with_reducible refine gate_callee (f := 91) rfl ?_); refine goesQ (some 30) Tryd.func91 #[.agg #[.int .i64 a0_0, .slice A0_1 l0_1.length c0_1], .int .i64 x9_1, .int .i64 x14_2] ?_; (with_reducible refine (impl_Order_better.calls a0_0 _ _ l0_1 x9_1 x14_2 true _ ?side1 ?side2 A11.out).mono ?_); (case side1 => exact C_g HR0_1 HB); (case side2 => exact HC0_1.out); rintro e w26 ⟨rfl, hb⟩; refine ⟨_, rfl, ?_⟩; replace BK625 := blkB BK625 hb; replace HB := bst HB hb; (try clear hb); (try clear hk); obtain ⟨hcz27_0, hcz27_1, hfz27_0, hfz27_1⟩ := blk2 BK625) | (go_at_call 91; (with_reducible refine (impl_Order_better.calls a0_0 _ _ l0_1 x19_3 x24_4 true _ ?side1 ?side2 A13.out).mono ?_); (case side1 => exact C_g HR0_1 HB); (case side2 => exact HC0_1.out); rintro e w28 ⟨rfl, hb⟩; replace BK625 := blkB BK625 hb; replace HB := bst HB hb; (try clear hb); (try clear hk); obtain ⟨hcz29_0, hcz29_1, hfz29_0, hfz29_1⟩ := blk2 BK625) | (go_at_call 91; (with_reducible refine (impl_Order_better.calls a0_0 _ _ l0_1 x19_3 x14_2 false _ ?side1 ?side2 A15.out).mono ?_); (case side1 => exact C_g HR0_1 HB); (case side2 => exact HC0_1.out); rintro e w30 ⟨rfl, hb⟩; replace BK625 := blkB BK625 hb; replace HB := bst HB hb; (try clear hb); (try clear hk); obtain ⟨hcz31_0, hcz31_1, hfz31_0, hfz31_1⟩ := blk2 BK625) | (go_at_call 91; (with_reducible refine (impl_Order_better.calls a0_0 _ _ l0_1 x9_1 x24_4 true _ ?side1 ?side2 A23.out).mono ?_); (case side1 => exact C_g HR0_1 HB); (case side2 => exact HC0_1.out); rintro e w32 ⟨rfl, hb⟩; replace BK625 := blkB BK625 hb; replace HB := bst HB hb; (try clear hb); (try clear hk)))
                 go_roundg k4
                 case measure => have := HK1.out; have := HK2.out; have := HK3.out; have := HK4.out; omega
                 case rel => exact ⟨(wrap64 (x24_4 + 1)), eqS, H', ⟨by have := HK1.out; have := HK2.out; have := HK3.out; have := HK4.out; omega⟩, ⟨blk_g BK625.out⟩, ⟨bel_g HB.out⟩⟩
                ·replace c24 := Bool.eq_false_iff.mpr c24
                 subst c24
                 replace H := ifF H
                 obtain ⟨y630, hy630⟩ : ∃ y_ : List Int, y_ = (([x9_1, x14_2, x19_3, x24_4] : List Int)) := ⟨_, rfl⟩
                 replace H : (some y630) = some r := by first | (rw [hy630]; with_reducible exact H) | (have H2_ := (Option.bind_some _ _).symm.trans H; rw [hy630]; with_reducible exact H2_) | (have H2_ := (Option.bind_some _ _).symm.trans H; with_reducible exact H2_) | with_reducible exact H | (rw [hy630]; exact H) | exact H
                 have Ny630 := Aside0.mk hy630
                 clear hy630
                 obtain rfl := Option.some.inj H
                 obtain ⟨hcz33_0, hcz33_1, hfz33_0, hfz33_1⟩ := blk2 BK625
                 go_wp2_with (first | ((with_reducible refine gate_callee (f := 91) rfl ?_); refine goesQ (some 30) Tryd.func91 #[.agg #[.int .i64 a0_0, .slice A0_1 l0_1.length c0_1], .int .i64 x9_1, .int .i64 x14_2] ?_; (with_reducible refine (impl_Order_better.calls a0_0 _ _ l0_1 x9_1 x14_2 true _ ?side1 ?side2 A11.out).mono ?_); (case side1 => exact C_g HR0_1 HB); (case side2 => exact HC0_1.out); rintro e w34 ⟨rfl, hb⟩; refine ⟨_, rfl, ?_⟩; replace BK625 := blkB BK625 hb; replace HB := bst HB hb; (try clear hb); (try clear hk); obtain ⟨hcz35_0, hcz35_1, hfz35_0, hfz35_1⟩ := blk2 BK625) | (go_at_call 91; (with_reducible refine (impl_Order_better.calls a0_0 _ _ l0_1 x19_3 x24_4 true _ ?side1 ?side2 A13.out).mono ?_); (case side1 => exact C_g HR0_1 HB); (case side2 => exact HC0_1.out); rintro e w36 ⟨rfl, hb⟩; replace BK625 := blkB BK625 hb; replace HB := bst HB hb; (try clear hb); (try clear hk); obtain ⟨hcz37_0, hcz37_1, hfz37_0, hfz37_1⟩ := blk2 BK625) | (go_at_call 91; (with_reducible refine (impl_Order_better.calls a0_0 _ _ l0_1 x19_3 x14_2 false _ ?side1 ?side2 A15.out).mono ?_); (case side1 => exact C_g HR0_1 HB); (case side2 => exact HC0_1.out); rintro e w38 ⟨rfl, hb⟩; replace BK625 := blkB BK625 hb; replace HB := bst HB hb; (try clear hb); (try clear hk); obtain ⟨hcz39_0, hcz39_1, hfz39_0, hfz39_1⟩ := blk2 BK625) | (go_at_call 91; (with_reducible refine (impl_Order_better.calls a0_0 _ _ l0_1 x9_1 x24_4 false _ ?side1 ?side2 A23.out).mono ?_); (case side1 => exact C_g HR0_1 HB); (case side2 => exact HC0_1.out); rintro e w40 ⟨rfl, hb⟩; replace BK625 := blkB BK625 hb; replace HB := bst HB hb; (try clear hb); (try clear hk)) | ((with_reducible refine gate_dst (N := 55) rfl ?_); refine Kd.R_lit (Kd.int .i64) _ 3 ?hg (N := 55) ?hd (xs := ([x9_1, x14_2, x19_3, x24_4] : List Int)) (inner := [.int .i64 x9_1, .int .i64 x14_2, .int .i64 x19_3, .int .i64 x24_4]) (ok := fun _ => True) (okp := fun _ => True) ?hr ?hp (fun _ hk => hk) trivial (Below.refl _ _) (Nat.le_refl _) (by simp) ?_; (case hd => rfl); (case hg => rfl); (case hr => first | (go_simp; done) | (go_simp; rfl)); (case hp => exact (Reps.one (show Kd.M (Kd.int .i64) _ _ _ x9_1 [.int .i64 x9_1] from rfl) (Reps.one (show Kd.M (Kd.int .i64) _ _ _ x14_2 [.int .i64 x14_2] from rfl) (Reps.one (show Kd.M (Kd.int .i64) _ _ _ x19_3 [.int .i64 x19_3] from rfl) (Reps.one (show Kd.M (Kd.int .i64) _ _ _ x24_4 [.int .i64 x24_4] from rfl) (Reps.none _ _)))))); intro v631 w41 ho42 hb hg_ hnew_; clear hg_ hnew_; (first | rw [← Ny630.out] at ho42 | (simp only [Int.reduceToNat] at ho42; rw [← Ny630.out] at ho42)); have HO632 := Aside0.mk (Kd.R_lower ho42 (below_size (bel_g HB.out))); replace BK625 := blkB BK625 hb; replace HB := bst HB hb; clear hb ho42))
                 go_ret
                 exact ⟨_, eqE, by (with_reducible repeat (first | apply Kd.R_alloc | apply Kd.R_drewN | apply Kd.R_drew)); exact HO632.out, bel_g HB.out, by first | rfl | (intro _; rfl) | (intro h_; simp at h_; done) | (intro h_; rw [Ny630.out] at h_; simp at h_; done)⟩
              ·replace c14 := Bool.eq_false_iff.mpr c14
               subst c14
               replace H := ifF H
               have H' := Aside0.mk H
               clear H
               obtain ⟨hcz43_0, hcz43_1, hfz43_0, hfz43_1⟩ := blk2 BK625
               go_wp2_with (first | ((with_reducible refine gate_callee (f := 91) rfl ?_); refine goesQ (some 30) Tryd.func91 #[.agg #[.int .i64 a0_0, .slice A0_1 l0_1.length c0_1], .int .i64 x9_1, .int .i64 x14_2] ?_; (with_reducible refine (impl_Order_better.calls a0_0 _ _ l0_1 x9_1 x14_2 true _ ?side1 ?side2 A11.out).mono ?_); (case side1 => exact C_g HR0_1 HB); (case side2 => exact HC0_1.out); rintro e w44 ⟨rfl, hb⟩; refine ⟨_, rfl, ?_⟩; replace BK625 := blkB BK625 hb; replace HB := bst HB hb; (try clear hb); (try clear hk); obtain ⟨hcz45_0, hcz45_1, hfz45_0, hfz45_1⟩ := blk2 BK625) | (go_at_call 91; (with_reducible refine (impl_Order_better.calls a0_0 _ _ l0_1 x19_3 x24_4 false _ ?side1 ?side2 A13.out).mono ?_); (case side1 => exact C_g HR0_1 HB); (case side2 => exact HC0_1.out); rintro e w46 ⟨rfl, hb⟩; replace BK625 := blkB BK625 hb; replace HB := bst HB hb; (try clear hb); (try clear hk)))
               go_roundg k4
               case measure => have := HK1.out; have := HK2.out; have := HK3.out; have := HK4.out; omega
               case rel => exact ⟨(wrap64 (x24_4 + 1)), eqS, H', ⟨by have := HK1.out; have := HK2.out; have := HK3.out; have := HK4.out; omega⟩, ⟨blk_g BK625.out⟩, ⟨bel_g HB.out⟩⟩
             ·replace c12 := Bool.eq_false_iff.mpr c12
              subst c12
              replace H := ifF H
              have H' := Aside0.mk H
              clear H
              obtain ⟨hcz47_0, hcz47_1, hfz47_0, hfz47_1⟩ := blk2 BK625
              go_wp2_with (first | ((with_reducible refine gate_callee (f := 91) rfl ?_); refine goesQ (some 30) Tryd.func91 #[.agg #[.int .i64 a0_0, .slice A0_1 l0_1.length c0_1], .int .i64 x9_1, .int .i64 x14_2] ?_; (with_reducible refine (impl_Order_better.calls a0_0 _ _ l0_1 x9_1 x14_2 false _ ?side1 ?side2 A11.out).mono ?_); (case side1 => exact C_g HR0_1 HB); (case side2 => exact HC0_1.out); rintro e w48 ⟨rfl, hb⟩; refine ⟨_, rfl, ?_⟩; replace BK625 := blkB BK625 hb; replace HB := bst HB hb; (try clear hb); (try clear hk)))
              go_roundg k4
              case measure => have := HK1.out; have := HK2.out; have := HK3.out; have := HK4.out; omega
              case rel => exact ⟨(wrap64 (x24_4 + 1)), eqS, H', ⟨by have := HK1.out; have := HK2.out; have := HK3.out; have := HK4.out; omega⟩, ⟨blk_g BK625.out⟩, ⟨bel_g HB.out⟩⟩
            ·have H' := Aside0.mk H
             clear H
             go_wp2
             go_roundg k4
             case measure => have := HK1.out; have := HK2.out; have := HK3.out; have := HK4.out; omega
             case rel => exact ⟨(wrap64 (x19_3 + 1)), eqS, H', ⟨by have := HK1.out; have := HK2.out; have := HK3.out; have := HK4.out; omega⟩, ⟨blk_g BK625.out⟩, ⟨bel_g HB.out⟩⟩
         ·have H' := Aside0.mk H
          clear H
          go_wp2
          go_roundg k3
          case measure => have := HK1.out; have := HK2.out; have := HK3.out; omega
          case rel => exact ⟨(wrap64 (x14_2 + 1)), eqS, H', ⟨by have := HK1.out; have := HK2.out; have := HK3.out; omega⟩, ⟨blk_g BK625.out⟩, ⟨bel_g HB.out⟩⟩
      ·have H' := Aside0.mk H
       clear H
       go_wp2
       go_roundg k2
       case measure => have := HK1.out; have := HK2.out; omega
       case rel => exact ⟨(wrap64 (x9_1 + 1)), eqS, H', ⟨by have := HK1.out; have := HK2.out; omega⟩, ⟨blk_g BK625.out⟩, ⟨bel_g HB.out⟩⟩
   ·obtain rfl := Option.some.inj H
    go_wp2
    go_ret
    exact ⟨_, eqE, by first | exact Kd.R_nil _ _ _ _ _ | exact Kd.N_nil _ _ _ _ _ | exact Kd.V_nil _ _ _ _ _ | exact Kd.Q_nil _ _ _ _ _ | exact Kd.S_nil _ _ _ _ _, bel_g HB.out, by first | rfl | (intro _; rfl) | (intro h_; simp at h_; done)⟩

end Go.Proofs.YteechpappfagpaaDoor.Q
