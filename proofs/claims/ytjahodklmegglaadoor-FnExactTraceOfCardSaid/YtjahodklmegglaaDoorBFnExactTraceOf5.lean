import Derived.Test.YtjahodklmegglaaDoorBFnExactTraceOf0
import Derived.Test.YtjahodklmegglaaDoorBFnExactTraceOf3
import Derived.Test.YtjahodklmegglaaDoorBFnExactTraceOf4
-- printed by this project's own program (wip/mp/mp.py) over the kit's print, for this seat; Lean checks it
namespace Go.Proofs.YtjahodklmegglaaDoor.Q
open Go.RowKit Go.Proofs.YtjahodklmegglaaDoorW.PrintWords Go.Proofs.YtjahodklmegglaaDoorW.PrintLast Go.Proofs.YtjahodklmegglaaDoorW.PrintMore
attribute [local go_sem] max2_int min2_int max_two min_two max_three min_three max_four min_four   -- for this text's walks alone
set_option linter.unusedVariables false
set_option maxHeartbeats 8000000
set_option maxRecDepth 100000
set_option linter.unusedSimpArgs false

/-! ### spec_ThreeOneOf: function 45 -/
mutual
def spec_ThreeOneOf.l0 : Nat → Int → Int → List Int → Option (List Int × Bool)
 | 0, _, _, _ => none
 | k + 1, x4, x463000, x463001 => if x4 < x463000 then (if 0 ≤ x4 then (if x4 < (x463001.length : Int) then ((spec_orList.f k (rd x463001 x4)).bind fun t465 => (spec_ThreeOneOf.l1 k x4 t465 (t465.length : Int) 0 x463000 x463001)) else (none)) else (none)) else (some (([] : List Int), false))
def spec_ThreeOneOf.l1 : Nat → Int → List Int → Int → Int → Int → List Int → Option (List Int × Bool)
 | 0, _, _, _, _, _, _ => none
 | k + 1, x4, x25, x26, x27, x463000, x463001 => if x27 < x26 then (if 0 ≤ x27 then (if x27 < (x25.length : Int) then (if 0 ≤ (rd x25 x27) then (if (rd x25 x27) < (x463001.length : Int) then ((spec_orList.f k (rd x463001 (rd x25 x27))).bind fun t470 => (spec_ThreeOneOf.l2 k x4 (rd x25 x27) x25 x26 x27 t470 (t470.length : Int) 0 x463000 x463001)) else (none)) else (none)) else (none)) else (none)) else (spec_ThreeOneOf.l0 k (wrap64 (x4 + 1)) x463000 x463001)
def spec_ThreeOneOf.l2 : Nat → Int → Int → List Int → Int → Int → List Int → Int → Int → Int → List Int → Option (List Int × Bool)
 | 0, _, _, _, _, _, _, _, _, _, _ => none
 | k + 1, x4, x6, x25, x26, x27, x36, x37, x38, x463000, x463001 => if x38 < x37 then (if 0 ≤ x38 then (if x38 < (x36.length : Int) then ((spec_orFree.f k x463000 x463001 x4).bind fun t474 => ((spec_orFree.f k x463000 x463001 x6).bind fun t475 => ((spec_orFree.f k x463000 x463001 (rd x36 x38)).bind fun t476 => ((spec_orList.f k (Go.bits .and .i64 (Go.bits .and .i64 t474 t475) t476)).bind fun t477 => (spec_ThreeOneOf.l3 k x4 x6 (rd x36 x38) x25 x26 x27 x36 x37 x38 t477 (t477.length : Int) 0 x463000 x463001))))) else (none)) else (none)) else (spec_ThreeOneOf.l1 k x4 x25 x26 (wrap64 (x27 + 1)) x463000 x463001)
def spec_ThreeOneOf.l3 : Nat → Int → Int → Int → List Int → Int → Int → List Int → Int → Int → List Int → Int → Int → Int → List Int → Option (List Int × Bool)
 | 0, _, _, _, _, _, _, _, _, _, _, _, _, _, _ => none
 | k + 1, x4, x6, x8, x25, x26, x27, x36, x37, x38, x53, x54, x55, x463000, x463001 => if x55 < x54 then (if 0 ≤ x55 then (if x55 < (x53.length : Int) then (some ((([x4, x6, x8, rd x53 x55] : List Int)), true)) else (none)) else (none)) else (spec_ThreeOneOf.l2 k x4 x6 x25 x26 x27 x36 x37 (wrap64 (x38 + 1)) x463000 x463001)
end
def spec_ThreeOneOf.f (k : Nat) (a0_0 : Int) (l0_1 : List Int) : Option (List Int × Bool) := (spec_orGood.f k a0_0 l0_1).bind fun t463 => (if t463 = true then (spec_ThreeOneOf.l0 k 0 a0_0 l0_1) else (some (([] : List Int), false)))
theorem spec_ThreeOneOf.mono_l : ∀ k, (∀ y0 y1 y2, LeO (spec_ThreeOneOf.l0 k y0 y1 y2) (spec_ThreeOneOf.l0 (k + 1) y0 y1 y2)) ∧ (∀ y0 y1 y2 y3 y4 y5, LeO (spec_ThreeOneOf.l1 k y0 y1 y2 y3 y4 y5) (spec_ThreeOneOf.l1 (k + 1) y0 y1 y2 y3 y4 y5)) ∧ (∀ y0 y1 y2 y3 y4 y5 y6 y7 y8 y9, LeO (spec_ThreeOneOf.l2 k y0 y1 y2 y3 y4 y5 y6 y7 y8 y9) (spec_ThreeOneOf.l2 (k + 1) y0 y1 y2 y3 y4 y5 y6 y7 y8 y9)) ∧ (∀ y0 y1 y2 y3 y4 y5 y6 y7 y8 y9 y10 y11 y12 y13, LeO (spec_ThreeOneOf.l3 k y0 y1 y2 y3 y4 y5 y6 y7 y8 y9 y10 y11 y12 y13) (spec_ThreeOneOf.l3 (k + 1) y0 y1 y2 y3 y4 y5 y6 y7 y8 y9 y10 y11 y12 y13))
 | 0 => ⟨fun _ _ _ r h => by simp [spec_ThreeOneOf.l0] at h, fun _ _ _ _ _ _ r h => by simp [spec_ThreeOneOf.l1] at h, fun _ _ _ _ _ _ _ _ _ _ r h => by simp [spec_ThreeOneOf.l2] at h, fun _ _ _ _ _ _ _ _ _ _ _ _ _ _ r h => by simp [spec_ThreeOneOf.l3] at h⟩
 | k + 1 => by
  obtain ⟨ih0, ih1, ih2, ih3⟩ := spec_ThreeOneOf.mono_l k
  refine ⟨?_, ?_, ?_, ?_⟩
  ·intro y0 y1 y2
   unfold spec_ThreeOneOf.l0
   repeat' (with_reducible first|exact ih0 _ _ _|exact ih1 _ _ _ _ _ _|exact ih2 _ _ _ _ _ _ _ _ _ _|exact ih3 _ _ _ _ _ _ _ _ _ _ _ _ _ _|exact spec_orFree.mono _ _ _ _|exact spec_orGood.mono _ _ _|exact spec_orList.mono _ _|exact LeO.refl _|exact LeO.none _|refine LeO.ite ?_ ?_|refine LeO.bind ?_ (fun _ => ?_))
  ·intro y0 y1 y2 y3 y4 y5
   unfold spec_ThreeOneOf.l1
   repeat' (with_reducible first|exact ih0 _ _ _|exact ih1 _ _ _ _ _ _|exact ih2 _ _ _ _ _ _ _ _ _ _|exact ih3 _ _ _ _ _ _ _ _ _ _ _ _ _ _|exact spec_orFree.mono _ _ _ _|exact spec_orGood.mono _ _ _|exact spec_orList.mono _ _|exact LeO.refl _|exact LeO.none _|refine LeO.ite ?_ ?_|refine LeO.bind ?_ (fun _ => ?_))
  ·intro y0 y1 y2 y3 y4 y5 y6 y7 y8 y9
   unfold spec_ThreeOneOf.l2
   repeat' (with_reducible first|exact ih0 _ _ _|exact ih1 _ _ _ _ _ _|exact ih2 _ _ _ _ _ _ _ _ _ _|exact ih3 _ _ _ _ _ _ _ _ _ _ _ _ _ _|exact spec_orFree.mono _ _ _ _|exact spec_orGood.mono _ _ _|exact spec_orList.mono _ _|exact LeO.refl _|exact LeO.none _|refine LeO.ite ?_ ?_|refine LeO.bind ?_ (fun _ => ?_))
  ·intro y0 y1 y2 y3 y4 y5 y6 y7 y8 y9 y10 y11 y12 y13
   unfold spec_ThreeOneOf.l3
   repeat' (with_reducible first|exact ih0 _ _ _|exact ih1 _ _ _ _ _ _|exact ih2 _ _ _ _ _ _ _ _ _ _|exact ih3 _ _ _ _ _ _ _ _ _ _ _ _ _ _|exact spec_orFree.mono _ _ _ _|exact spec_orGood.mono _ _ _|exact spec_orList.mono _ _|exact LeO.refl _|exact LeO.none _|refine LeO.ite ?_ ?_|refine LeO.bind ?_ (fun _ => ?_))
theorem spec_ThreeOneOf.mono : ∀ a0 a1 k, LeO (spec_ThreeOneOf.f k a0 a1) (spec_ThreeOneOf.f (k + 1) a0 a1) := by
 intro a0 a1 k
 obtain ⟨ih0, ih1, ih2, ih3⟩ := spec_ThreeOneOf.mono_l k
 unfold spec_ThreeOneOf.f
 repeat' (with_reducible first|exact ih0 _ _ _|exact ih1 _ _ _ _ _ _|exact ih2 _ _ _ _ _ _ _ _ _ _|exact ih3 _ _ _ _ _ _ _ _ _ _ _ _ _ _|exact spec_orFree.mono _ _ _ _|exact spec_orGood.mono _ _ _|exact spec_orList.mono _ _|exact LeO.refl _|exact LeO.none _|refine LeO.ite ?_ ?_|refine LeO.bind ?_ (fun _ => ?_))
def spec_ThreeOneOf.T12 : Bool × List (List Nat × List Nat) := (true, [([], []), ([], []), ([0, 1], [0, 1]), ([], []), ([], []), ([3, 4, 2], [3, 4]), ([2, 5], [2, 5]), ([], []), ([], []), ([7, 8, 5], [7, 8]), ([6, 9], [6, 9]), ([10, 9], [10]), ([11], [11]), ([], [])])
def spec_ThreeOneOf.B12 : List Nat := [0, 0, 3, 0, 0, 31, 63, 0, 0, 447, 1023, 2047, 4095, 0]
theorem spec_ThreeOneOf.tab12 : rtab .any (opsOf Tryd.f45 12) = spec_ThreeOneOf.T12 := by kernel_rfl
theorem spec_ThreeOneOf.bits12 : waitsOk spec_ThreeOneOf.T12.2 spec_ThreeOneOf.B12 = true := by kernel_rfl
theorem spec_ThreeOneOf.calls (k : Nat) (a0_0 : Int) (A0_1 : Option Addr) (c0_1 : Nat) (l0_1 : List Int) (r1 : List Int) (r2 : Bool) (w : World) (hr0_1 : Kd.C (Kd.int .i64) w A0_1 l0_1.length l0_1) (hc0_1 : l0_1.length ≤ c0_1) (h : spec_ThreeOneOf.f k a0_0 l0_1 = some (r1, r2)) :
  Calls Tryd.prog 45 #[.agg #[.int .i64 a0_0, .slice A0_1 l0_1.length c0_1]] w fun e w' => ∃ v0_ : Value, e = .returned (.tuple #[v0_, .bool r2]) ∧ Kd.R (Kd.int .i64) 3 w' w.heap.size (fun _ => True) v0_ r1 ∧ Below w.heap.size w w' := by
 have hu28 := Tryd.underlying28
 have HR0_1 := Aside0.mk hr0_1
 have HC0_1 := Aside0.mk hc0_1
 clear hr0_1 hc0_1
 have HB := Aside0.mk (Below.refl w.heap.size w)
 have H : ((spec_orGood.f k a0_0 l0_1).bind fun t463 => (if t463 = true then (spec_ThreeOneOf.l0 k 0 a0_0 l0_1) else (some (([] : List Int), false)))) = some (r1, r2) := h
 clear h
 obtain ⟨t463, A2, H⟩ := obE H
 by_cases c3 : t463 = true
 ·subst c3
  replace H := ifT H
  have H' := Aside0.mk H
  clear H
  go_enter Tryd.func45, Tryd.ntmps45
  go_wp2_with (first | ((with_reducible refine gate_dst (N := 1) rfl ?_); refine boxE (N := 1) (cs := #[.int .i64 a0_0, .slice A0_1 l0_1.length c0_1]) (t := 28) ?_; intro gb462 hg w4 hbox hb; have BK462 := Aside0.mk (hbox); have GE462 := geB HB hg; replace HB := bst HB hb; clear hb hbox hg; obtain ⟨hcz5_0, hcz5_1, hfz5_0, hfz5_1⟩ := blk2 BK462) | ((with_reducible refine gate_callee (f := 37) rfl ?_); refine goesQ (some 12) Tryd.func37 #[.agg #[.int .i64 a0_0, .slice A0_1 l0_1.length c0_1]] ?_; (with_reducible refine (spec_orGood.calls k a0_0 _ _ l0_1 true _ ?side1 ?side2 A2.out).mono ?_); (case side1 => exact C_g HR0_1 HB); (case side2 => exact HC0_1.out); rintro e w6 ⟨rfl, hb⟩; refine ⟨_, rfl, ?_⟩; replace BK462 := blkB BK462 hb; replace HB := bst HB hb; (try clear hb); (try clear hk)))
  go_loopg [4] k (fun kq v4 w' => ∃ (x4_1 : Int), v4 = .int .i64 x4_1 ∧ Aside0 (spec_ThreeOneOf.l0 kq x4_1 a0_0 l0_1 = some (r1, r2)) ∧ Aside0 (kq ≤ k) ∧ Aside0 (w'.heap[gb462]? = some (.cells #[.int .i64 a0_0, (.slice A0_1 l0_1.length c0_1)] 28 (0, 0))) ∧ Aside0 (Below w.heap.size w w'))
  case atStart => exact ⟨(0), eqS, H', ⟨Nat.le_refl _⟩, ⟨blk_g BK462.out⟩, ⟨bel_g HB.out⟩⟩
  case round =>
   clear H'
   try clear c3
   try clear hcz5_0
   try clear hcz5_1
   try clear hfz5_0
   try clear hfz5_1
   obtain ⟨x4_1, rfl, HA, HK1, BK462, HB⟩ := hrel
   cases gk with
   | zero => exact absurd HA.out (by simp [spec_ThreeOneOf.l0])
   | succ k1 =>
    have H := HA.out
    clear HA
    simp only [spec_ThreeOneOf.l0] at H
    rcases iteE H with ⟨c7b0, H⟩ | ⟨c7b0, H⟩
    ·rcases iteP H with ⟨c8, H⟩ | ⟨c8, H⟩
     ·have c8b0 : decide (0 ≤ x4_1) = true := decide_eq_true c8
      clear c8
      rcases iteP H with ⟨c9, H⟩ | ⟨c9, H⟩
      ·have c9b0 : decide (x4_1 < (l0_1.length : Int)) = true := decide_eq_true c9
       clear c9
       obtain ⟨t465, A10, H⟩ := obE H
       have H' := Aside0.mk H
       clear H
       obtain ⟨hcz11_0, hcz11_1, hfz11_0, hfz11_1⟩ := blk2 BK462
       have p464 : 0 ≤ (x4_1 : Int) := ofd
       have q464 : x4_1 < (l0_1.length : Int) := ofd
       obtain ⟨ad464, e464, hx464_0⟩ := Kd.at_int HR0_1.out x4_1 p464 q464
       cases e464
       replace hx464_0 := (HB.out.cell (World.block_lt_of_cell? w _ hx464_0)).trans hx464_0
       replace p464 := eq_true p464
       replace q464 := eq_true q464
       go_wp2_with (first | ((with_reducible refine gate_callee (f := 38) rfl ?_); refine goesQ (some 25) Tryd.func38 #[.int .i64 (rd l0_1 x4_1)] ?_; (with_reducible refine (spec_orList.calls k1 (rd l0_1 x4_1) t465 _ A10.out).mono ?_); rintro e w12 ⟨v466, rfl, ho0, hb⟩; refine ⟨_, rfl, ?_⟩; have HO467 := Aside0.mk (Kd.R_lower ho0 (below_size (bel_g HB.out))); replace BK462 := blkB BK462 hb; replace HB := bst HB hb; (try clear hb); (try clear hk); (try clear ho0); obtain ⟨Ao13, co13, eo13⟩ := Kd.R_slice HO467.out; subst eo13))
       go_loopg [27] k1 (fun kq v27 w' => ∃ (x27_2 : Int), v27 = .int .i64 x27_2 ∧ Aside0 (spec_ThreeOneOf.l1 kq x4_1 t465 (t465.length : Int) x27_2 a0_0 l0_1 = some (r1, r2)) ∧ Aside0 (kq ≤ k1) ∧ Aside0 (Kd.R (Kd.int .i64) 3 w' w.heap.size (fun _ => True) (.slice Ao13 t465.length co13) t465) ∧ Aside0 (w'.heap[gb462]? = some (.cells #[.int .i64 a0_0, (.slice (some ad464) l0_1.length c0_1)] 28 (0, 0))) ∧ Aside0 (Below w.heap.size w w'))
       case atStart => exact ⟨(0), eqS, H', ⟨Nat.le_refl _⟩, ⟨Kd.R_g HO467.out⟩, ⟨blk_g BK462.out⟩, ⟨bel_g HB.out⟩⟩
       case round =>
        clear H'
        try clear c3
        try clear c7b0
        try clear c8
        try clear c8b0
        try clear c9
        try clear c9b0
        try clear hcz11_0
        try clear hcz11_1
        try clear hcz5_0
        try clear hcz5_1
        try clear hfz11_0
        try clear hfz11_1
        try clear hfz5_0
        try clear hfz5_1
        try clear hx464_0
        try clear p464
        try clear q464
        obtain ⟨x27_2, rfl, HA, HK2, HO_25, BK462, HB⟩ := hrel
        cases gk with
        | zero => exact absurd HA.out (by simp [spec_ThreeOneOf.l1])
        | succ k2 =>
         have H := HA.out
         clear HA
         simp only [spec_ThreeOneOf.l1] at H
         rcases iteE H with ⟨c14b0, H⟩ | ⟨c14b0, H⟩
         ·rcases iteP H with ⟨c15, H⟩ | ⟨c15, H⟩
          ·have c15b0 : decide (0 ≤ x27_2) = true := decide_eq_true c15
           clear c15
           rcases iteP H with ⟨c16, H⟩ | ⟨c16, H⟩
           ·have c16b0 : decide (x27_2 < (t465.length : Int)) = true := decide_eq_true c16
            clear c16
            rcases iteP H with ⟨c17, H⟩ | ⟨c17, H⟩
            ·have c17b0 : decide (0 ≤ (rd t465 x27_2)) = true := decide_eq_true c17
             clear c17
             rcases iteP H with ⟨c18, H⟩ | ⟨c18, H⟩
             ·have c18b0 : decide ((rd t465 x27_2) < (l0_1.length : Int)) = true := decide_eq_true c18
              clear c18
              obtain ⟨t470, A19, H⟩ := obE H
              have H' := Aside0.mk H
              clear H
              have p468 : 0 ≤ (x27_2 : Int) := ofd
              have q468 : x27_2 < (t465.length : Int) := ofd
              obtain ⟨ad468, e468, hx468_0⟩ := Kd.at_int (Kd.R_reads' HO_25.out).2.2 x27_2 p468 q468
              cases e468
              replace p468 := eq_true p468
              replace q468 := eq_true q468
              obtain ⟨hcz20_0, hcz20_1, hfz20_0, hfz20_1⟩ := blk2 BK462
              have p469 : 0 ≤ ((rd t465 x27_2) : Int) := ofd
              have q469 : (rd t465 x27_2) < (l0_1.length : Int) := ofd
              obtain ⟨ad469, e469, hx469_0⟩ := Kd.at_int HR0_1.out (rd t465 x27_2) p469 q469
              obtain rfl : ad464 = ad469 := (by injection e469)
              replace hx469_0 := (HB.out.cell (World.block_lt_of_cell? w _ hx469_0)).trans hx469_0
              replace p469 := eq_true p469
              replace q469 := eq_true q469
              go_wp2_with (first | ((with_reducible refine gate_callee (f := 38) rfl ?_); refine goesQ (some 36) Tryd.func38 #[.int .i64 (rd l0_1 (rd t465 x27_2))] ?_; (with_reducible refine (spec_orList.calls k2 (rd l0_1 (rd t465 x27_2)) t470 _ A19.out).mono ?_); rintro e w21 ⟨v471, rfl, ho0, hb⟩; refine ⟨_, rfl, ?_⟩; have HO472 := Aside0.mk (Kd.R_lower (Kd.R_new' ho0 (Kd.R_lt (Kd.R_g HO_25.out))) (below_size (bel_g HB.out))); replace HO_25 := Aside0.mk (Kd.R_elder' (Kd.R_g HO_25.out) (Kd.R_base ho0) hb); replace BK462 := blkB BK462 hb; replace HB := bst HB hb; (try clear hb); (try clear hk); (try clear ho0); obtain ⟨Ao22, co22, eo22⟩ := Kd.R_slice HO472.out; subst eo22))
              go_loopg [38] k2 (fun kq v38 w' => ∃ (x38_3 : Int), v38 = .int .i64 x38_3 ∧ Aside0 (spec_ThreeOneOf.l2 kq x4_1 (rd t465 x27_2) t465 (t465.length : Int) x27_2 t470 (t470.length : Int) x38_3 a0_0 l0_1 = some (r1, r2)) ∧ Aside0 (kq ≤ k2) ∧ Aside0 (Kd.R (Kd.int .i64) 3 w' w.heap.size (fun k_ => some k_ ≠ ((.slice Ao22 t470.length co22) : Value).ownBlock) (.slice (some ad468) t465.length co13) t465) ∧ Aside0 (Kd.R (Kd.int .i64) 3 w' w.heap.size (fun k_ => some k_ ≠ ((.slice (some ad468) t465.length co13) : Value).ownBlock) (.slice Ao22 t470.length co22) t470) ∧ Aside0 (w'.heap[gb462]? = some (.cells #[.int .i64 a0_0, (.slice (some ad464) l0_1.length c0_1)] 28 (0, 0))) ∧ Aside0 (Below w.heap.size w w'))
              case atStart => exact ⟨(0), eqS, H', ⟨Nat.le_refl _⟩, ⟨Kd.R_g (Kd.R_mono HO_25.out (fun _ hk => hk.2))⟩, ⟨Kd.R_g (Kd.R_mono HO472.out (fun _ hk => hk.2))⟩, ⟨blk_g BK462.out⟩, ⟨bel_g HB.out⟩⟩
              case round =>
               clear H'
               try clear c3
               try clear c7b0
               try clear c8
               try clear c8b0
               try clear c9
               try clear c9b0
               try clear c14b0
               try clear c15
               try clear c15b0
               try clear c16
               try clear c16b0
               try clear c17
               try clear c17b0
               try clear c18
               try clear c18b0
               try clear hcz11_0
               try clear hcz11_1
               try clear hcz20_0
               try clear hcz20_1
               try clear hcz5_0
               try clear hcz5_1
               try clear hfz11_0
               try clear hfz11_1
               try clear hfz20_0
               try clear hfz20_1
               try clear hfz5_0
               try clear hfz5_1
               try clear hx464_0
               try clear hx468_0
               try clear hx469_0
               try clear p464
               try clear p468
               try clear p469
               try clear q464
               try clear q468
               try clear q469
               obtain ⟨x38_3, rfl, HA, HK3, HO_25, HO_36, BK462, HB⟩ := hrel
               cases gk with
               | zero => exact absurd HA.out (by simp [spec_ThreeOneOf.l2])
               | succ k3 =>
                have H := HA.out
                clear HA
                simp only [spec_ThreeOneOf.l2] at H
                rcases iteE H with ⟨c23b0, H⟩ | ⟨c23b0, H⟩
                ·rcases iteP H with ⟨c24, H⟩ | ⟨c24, H⟩
                 ·have c24b0 : decide (0 ≤ x38_3) = true := decide_eq_true c24
                  clear c24
                  rcases iteP H with ⟨c25, H⟩ | ⟨c25, H⟩
                  ·have c25b0 : decide (x38_3 < (t470.length : Int)) = true := decide_eq_true c25
                   clear c25
                   obtain ⟨t474, A26, H⟩ := obE H
                   obtain ⟨t475, A27, H⟩ := obE H
                   obtain ⟨t476, A28, H⟩ := obE H
                   obtain ⟨t477, A29, H⟩ := obE H
                   have H' := Aside0.mk H
                   clear H
                   have p473 : 0 ≤ (x38_3 : Int) := ofd
                   have q473 : x38_3 < (t470.length : Int) := ofd
                   obtain ⟨ad473, e473, hx473_0⟩ := Kd.at_int (Kd.R_reads' HO_36.out).2.2 x38_3 p473 q473
                   cases e473
                   replace p473 := eq_true p473
                   replace q473 := eq_true q473
                   try go_wp2
                   replace HO_25 := Aside0.mk (Kd.R_drew HO_25.out)
                   replace HO_36 := Aside0.mk (Kd.R_drew HO_36.out)
                   replace BK462 := Aside0.mk (blk_drew BK462.out)
                   replace HB := Aside0.mk (below_drew1 HB.out)
                   refine start_ (n := 14) (S := fun w' => w'.cell? ⟨gb462, 0, none⟩ = some (.int .i64 a0_0) ∧ w'.cell? ⟨gb462, 1, none⟩ = some (.slice (some ad464) l0_1.length c0_1)) (ds := []) (bm 14 0) (by kernel_rfl) rfl (by kernel_rfl) ⟨(blk_cell BK462.out 0).trans rfl, (blk_cell BK462.out 1).trans rfl⟩ (fun hHeld => ?_); refine with_tabW spec_ThreeOneOf.tab12 spec_ThreeOneOf.bits12 (fun HT_ HW_ => ?_)
                   generalize wr.drew = w30 at HO_25 HO_36 BK462 HB hHeld ⊢
                   refine pureW 1 (some 43) (bm 14 2) HT_ ?_
                   refine pureW 4 (some 46) (bm 14 18) HT_ ?_
                   refine pureW 8 (some 50) (bm 14 274) HT_ ?_
                   refine pureW 13 (some 55) (bm 14 8466) HT_ ?_
                   refine takeW 0 (some 42) (bm 14 8467) HT_ HW_ hHeld ?_
                   refine takeW 3 (some 45) (bm 14 8475) HT_ HW_ hHeld ?_
                   refine takeW 7 (some 49) (bm 14 8603) HT_ HW_ hHeld ?_
                   refine oneW 2 (some 44) (bm 14 8607) HT_ (fun K hK => ?_)
                   refine goesR Tryd.func56 #[.agg #[.int .i64 a0_0, .slice (some ad464) l0_1.length c0_1], .int .i64 x4_1] ?_
                   with_reducible refine (spec_orFree.calls k3 a0_0 _ _ l0_1 x4_1 t474 _ ?side1 ?side2 A26.out).mono ?_
                   (case side1 => exact C_g HR0_1 HB)
                   (case side2 => exact HC0_1.out)
                   rintro e w31 ⟨rfl, hb⟩
                   refine ⟨_, rfl, ?_⟩
                   replace HO_25 := Aside0.mk (Kd.R_below (Kd.R_g HO_25.out) hb)
                   replace HO_36 := Aside0.mk (Kd.R_below (Kd.R_g HO_36.out) hb)
                   replace BK462 := blkB BK462 hb
                   replace HB := bst HB hb
                   (try clear hb)
                   (try clear hb2)
                   (try clear hk)
                   (try clear hi)
                   refine hK.out _ _ ⟨(blk_cell BK462.out 0).trans rfl, (blk_cell BK462.out 1).trans rfl⟩ (fun hHeld => ?_)
                   clear hK K
                   refine normW 44 ?_
                   refine oneW 5 (some 47) (bm 14 8639) HT_ (fun K hK => ?_)
                   refine goesR Tryd.func56 #[.agg #[.int .i64 a0_0, .slice (some ad464) l0_1.length c0_1], .int .i64 (rd t465 x27_2)] ?_
                   with_reducible refine (spec_orFree.calls k3 a0_0 _ _ l0_1 (rd t465 x27_2) t475 _ ?side1 ?side2 A27.out).mono ?_
                   (case side1 => exact C_g HR0_1 HB)
                   (case side2 => exact HC0_1.out)
                   rintro e w32 ⟨rfl, hb⟩
                   refine ⟨_, rfl, ?_⟩
                   replace HO_25 := Aside0.mk (Kd.R_below (Kd.R_g HO_25.out) hb)
                   replace HO_36 := Aside0.mk (Kd.R_below (Kd.R_g HO_36.out) hb)
                   replace BK462 := blkB BK462 hb
                   replace HB := bst HB hb
                   (try clear hb)
                   (try clear hb2)
                   (try clear hk)
                   (try clear hi)
                   refine hK.out _ _ ⟨(blk_cell BK462.out 0).trans rfl, (blk_cell BK462.out 1).trans rfl⟩ (fun hHeld => ?_)
                   clear hK K
                   refine normW 47 ?_
                   refine pureW 6 (some 48) (bm 14 8703) HT_ ?_
                   refine oneW 9 (some 51) (bm 14 9215) HT_ (fun K hK => ?_)
                   refine goesR Tryd.func56 #[.agg #[.int .i64 a0_0, .slice (some ad464) l0_1.length c0_1], .int .i64 (rd t470 x38_3)] ?_
                   with_reducible refine (spec_orFree.calls k3 a0_0 _ _ l0_1 (rd t470 x38_3) t476 _ ?side1 ?side2 A28.out).mono ?_
                   (case side1 => exact C_g HR0_1 HB)
                   (case side2 => exact HC0_1.out)
                   rintro e w33 ⟨rfl, hb⟩
                   refine ⟨_, rfl, ?_⟩
                   replace HO_25 := Aside0.mk (Kd.R_below (Kd.R_g HO_25.out) hb)
                   replace HO_36 := Aside0.mk (Kd.R_below (Kd.R_g HO_36.out) hb)
                   replace BK462 := blkB BK462 hb
                   replace HB := bst HB hb
                   (try clear hb)
                   (try clear hb2)
                   (try clear hk)
                   (try clear hi)
                   refine hK.out _ _ ⟨(blk_cell BK462.out 0).trans rfl, (blk_cell BK462.out 1).trans rfl⟩ (fun hHeld => ?_)
                   clear hK K
                   refine normW 51 ?_
                   refine pureW 10 (some 52) (bm 14 10239) HT_ ?_
                   refine oneW 11 (some 53) (bm 14 12287) HT_ (fun K hK => ?_)
                   refine goesR Tryd.func38 #[.int .i64 (Go.bits .and .i64 (Go.bits .and .i64 t474 t475) t476)] ?_
                   with_reducible refine (spec_orList.calls k3 (Go.bits .and .i64 (Go.bits .and .i64 t474 t475) t476) t477 _ A29.out).mono ?_
                   rintro e w34 ⟨v478, rfl, ho0, hb⟩
                   refine ⟨_, rfl, ?_⟩
                   have HO479 := Aside0.mk (Kd.R_lower (Kd.R_new' (Kd.R_new' ho0 (Kd.R_lt (Kd.R_g HO_25.out))) (Kd.R_lt (Kd.R_g HO_36.out))) (below_size (bel_g HB.out)))
                   replace HO_25 := Aside0.mk (Kd.R_elder' (Kd.R_g HO_25.out) (Kd.R_base ho0) hb)
                   replace HO_36 := Aside0.mk (Kd.R_elder' (Kd.R_g HO_36.out) (Kd.R_base ho0) hb)
                   replace BK462 := blkB BK462 hb
                   replace HB := bst HB hb
                   (try clear hb)
                   (try clear hb2)
                   (try clear hk)
                   (try clear hi)
                   (try clear ho0)
                   obtain ⟨Ao35, co35, eo35⟩ := Kd.R_slice HO479.out
                   (first | subst eo35 | (injection eo35 with f1_ f2_ f3_; have f4_ := f1_.symm; have f5_ := f3_.symm; clear f1_ f2_ f3_; subst f4_; subst f5_))
                   refine hK.out _ _ ⟨(blk_cell BK462.out 0).trans rfl, (blk_cell BK462.out 1).trans rfl⟩ (fun hHeld => ?_)
                   clear hK K
                   refine normW 53 ?_
                   refine pureW 12 (some 54) (bm 14 16383) HT_ ?_
                   refine doneW HT_ ?_
                   try go_wp2
                   go_loopg [55] k3 (fun kq v55 w' => ∃ (x55_4 : Int), v55 = .int .i64 x55_4 ∧ Aside0 (spec_ThreeOneOf.l3 kq x4_1 (rd t465 x27_2) (rd t470 x38_3) t465 (t465.length : Int) x27_2 t470 (t470.length : Int) x38_3 t477 (t477.length : Int) x55_4 a0_0 l0_1 = some (r1, r2)) ∧ Aside0 (kq ≤ k3) ∧ Aside0 (Kd.R (Kd.int .i64) 3 w' w.heap.size (fun k_ => some k_ ≠ ((.slice (some ad473) t470.length co22) : Value).ownBlock ∧ some k_ ≠ ((.slice Ao35 t477.length co35) : Value).ownBlock) (.slice (some ad468) t465.length co13) t465) ∧ Aside0 (Kd.R (Kd.int .i64) 3 w' w.heap.size (fun k_ => some k_ ≠ ((.slice (some ad468) t465.length co13) : Value).ownBlock ∧ some k_ ≠ ((.slice Ao35 t477.length co35) : Value).ownBlock) (.slice (some ad473) t470.length co22) t470) ∧ Aside0 (Kd.R (Kd.int .i64) 3 w' w.heap.size (fun k_ => some k_ ≠ ((.slice (some ad468) t465.length co13) : Value).ownBlock ∧ some k_ ≠ ((.slice (some ad473) t470.length co22) : Value).ownBlock) (.slice Ao35 t477.length co35) t477) ∧ Aside0 (w'.heap[gb462]? = some (.cells #[.int .i64 a0_0, (.slice (some ad464) l0_1.length c0_1)] 28 (0, 0))) ∧ Aside0 (Below w.heap.size w w'))
                   case atStart => exact ⟨(0), eqS, H', ⟨Nat.le_refl _⟩, ⟨Kd.R_g HO_25.out⟩, ⟨Kd.R_g HO_36.out⟩, ⟨Kd.R_g (Kd.R_mono HO479.out (fun _ hk => ⟨hk.1.2, hk.2⟩))⟩, ⟨blk_g BK462.out⟩, ⟨bel_g HB.out⟩⟩
                   case round =>
                    clear H'
                    try clear c3
                    try clear c7b0
                    try clear c8
                    try clear c8b0
                    try clear c9
                    try clear c9b0
                    try clear c14b0
                    try clear c15
                    try clear c15b0
                    try clear c16
                    try clear c16b0
                    try clear c17
                    try clear c17b0
                    try clear c18
                    try clear c18b0
                    try clear c23b0
                    try clear c24
                    try clear c24b0
                    try clear c25
                    try clear c25b0
                    try clear hcz11_0
                    try clear hcz11_1
                    try clear hcz20_0
                    try clear hcz20_1
                    try clear hcz5_0
                    try clear hcz5_1
                    try clear hfz11_0
                    try clear hfz11_1
                    try clear hfz20_0
                    try clear hfz20_1
                    try clear hfz5_0
                    try clear hfz5_1
                    try clear hx464_0
                    try clear hx468_0
                    try clear hx469_0
                    try clear hx473_0
                    try clear p464
                    try clear p468
                    try clear p469
                    try clear p473
                    try clear q464
                    try clear q468
                    try clear q469
                    try clear q473
                    obtain ⟨x55_4, rfl, HA, HK4, HO_25, HO_36, HO_53, BK462, HB⟩ := hrel
                    cases gk with
                    | zero => exact absurd HA.out (by simp [spec_ThreeOneOf.l3])
                    | succ k4 =>
                     have H := HA.out
                     clear HA
                     simp only [spec_ThreeOneOf.l3] at H
                     rcases iteE H with ⟨c36b0, H⟩ | ⟨c36b0, H⟩
                     ·rcases iteP H with ⟨c37, H⟩ | ⟨c37, H⟩
                      ·have c37b0 : decide (0 ≤ x55_4) = true := decide_eq_true c37
                       clear c37
                       rcases iteP H with ⟨c38, H⟩ | ⟨c38, H⟩
                       ·have c38b0 : decide (x55_4 < (t477.length : Int)) = true := decide_eq_true c38
                        clear c38
                        obtain ⟨y481, hy481⟩ : ∃ y_ : List Int, y_ = (([x4_1, (rd t465 x27_2), (rd t470 x38_3), rd t477 x55_4] : List Int)) := ⟨_, rfl⟩
                        replace H : (some (y481, true)) = some (r1, r2) := by first | (rw [hy481]; with_reducible exact H) | (have H2_ := (Option.bind_some _ _).symm.trans H; rw [hy481]; with_reducible exact H2_) | (have H2_ := (Option.bind_some _ _).symm.trans H; with_reducible exact H2_) | with_reducible exact H | (rw [hy481]; exact H) | exact H
                        have Ny481 := Aside0.mk hy481
                        clear hy481
                        simp only [Option.some.injEq, Prod.mk.injEq] at H
                        obtain ⟨rfl, rfl⟩ := H
                        have p480 : 0 ≤ (x55_4 : Int) := ofd
                        have q480 : x55_4 < (t477.length : Int) := ofd
                        obtain ⟨ad480, e480, hx480_0⟩ := Kd.at_int (Kd.R_reads' HO_53.out).2.2 x55_4 p480 q480
                        cases e480
                        replace p480 := eq_true p480
                        replace q480 := eq_true q480
                        go_wp2_with (first | ((with_reducible refine gate_dst (N := 63) rfl ?_); refine Kd.R_lit (Kd.int .i64) _ 3 ?hg (N := 63) ?hd (xs := ([x4_1, (rd t465 x27_2), (rd t470 x38_3), rd t477 x55_4] : List Int)) (inner := [.int .i64 x4_1, .int .i64 (rd t465 x27_2), .int .i64 (rd t470 x38_3), .int .i64 (rd t477 x55_4)]) (ok := fun _ => True) (okp := fun _ => True) ?hr ?hp (fun _ hk => hk) trivial (Below.refl _ _) (Nat.le_refl _) (by simp) ?_; (case hd => rfl); (case hg => rfl); (case hr => first | (go_simp; done) | (go_simp; rfl)); (case hp => exact (Reps.one (show Kd.M (Kd.int .i64) _ _ _ x4_1 [.int .i64 x4_1] from rfl) (Reps.one (show Kd.M (Kd.int .i64) _ _ _ (rd t465 x27_2) [.int .i64 (rd t465 x27_2)] from rfl) (Reps.one (show Kd.M (Kd.int .i64) _ _ _ (rd t470 x38_3) [.int .i64 (rd t470 x38_3)] from rfl) (Reps.one (show Kd.M (Kd.int .i64) _ _ _ (rd t477 x55_4) [.int .i64 (rd t477 x55_4)] from rfl) (Reps.none _ _)))))); intro v482 w39 ho40 hb hg_ hnew_; clear hg_ hnew_; (first | rw [← Ny481.out] at ho40 | (simp only [Int.reduceToNat] at ho40; rw [← Ny481.out] at ho40)); have HO483 := Aside0.mk (Kd.R_lower (Kd.R_new' (Kd.R_new' (Kd.R_new' ho40 (Kd.R_lt (Kd.R_g HO_25.out))) (Kd.R_lt (Kd.R_g HO_36.out))) (Kd.R_lt (Kd.R_g HO_53.out))) (below_size (bel_g HB.out))); replace HO_25 := Aside0.mk (Kd.R_elder' (Kd.R_g HO_25.out) (Kd.R_base ho40) hb); replace HO_36 := Aside0.mk (Kd.R_elder' (Kd.R_g HO_36.out) (Kd.R_base ho40) hb); replace HO_53 := Aside0.mk (Kd.R_elder' (Kd.R_g HO_53.out) (Kd.R_base ho40) hb); replace BK462 := blkB BK462 hb; replace HB := bst HB hb; clear hb ho40))
                        go_ret2
                        exact ⟨_, eqE, by (with_reducible repeat (first | apply Kd.R_alloc | apply Kd.R_drewN | apply Kd.R_drew)); exact Kd.R_mono HO483.out (fun _ hk => trivial), bel_g HB.out⟩
                       ·exact absurd H (by simp)
                      ·exact absurd H (by simp)
                     ·have H' := Aside0.mk H
                      clear H
                      go_wp2
                      go_roundg k4
                      case measure => have := HK1.out; have := HK2.out; have := HK3.out; have := HK4.out; omega
                      case rel => exact ⟨(wrap64 (x38_3 + 1)), eqS, H', ⟨by have := HK1.out; have := HK2.out; have := HK3.out; have := HK4.out; omega⟩, ⟨Kd.R_g (Kd.R_mono HO_25.out (fun _ hk => hk.1))⟩, ⟨Kd.R_g (Kd.R_mono HO_36.out (fun _ hk => hk.1))⟩, ⟨blk_g BK462.out⟩, ⟨bel_g HB.out⟩⟩
                  ·exact absurd H (by simp)
                 ·exact absurd H (by simp)
                ·have H' := Aside0.mk H
                 clear H
                 go_wp2
                 go_roundg k3
                 case measure => have := HK1.out; have := HK2.out; have := HK3.out; omega
                 case rel => exact ⟨(wrap64 (x27_2 + 1)), eqS, H', ⟨by have := HK1.out; have := HK2.out; have := HK3.out; omega⟩, ⟨Kd.R_g (Kd.R_mono HO_25.out (fun _ hk => trivial))⟩, ⟨blk_g BK462.out⟩, ⟨bel_g HB.out⟩⟩
             ·exact absurd H (by simp)
            ·exact absurd H (by simp)
           ·exact absurd H (by simp)
          ·exact absurd H (by simp)
         ·have H' := Aside0.mk H
          clear H
          go_wp2
          go_roundg k2
          case measure => have := HK1.out; have := HK2.out; omega
          case rel => exact ⟨(wrap64 (x4_1 + 1)), eqS, H', ⟨by have := HK1.out; have := HK2.out; omega⟩, ⟨blk_g BK462.out⟩, ⟨bel_g HB.out⟩⟩
      ·exact absurd H (by simp)
     ·exact absurd H (by simp)
    ·simp only [Option.some.injEq, Prod.mk.injEq] at H
     obtain ⟨rfl, rfl⟩ := H
     obtain ⟨hcz41_0, hcz41_1, hfz41_0, hfz41_1⟩ := blk2 BK462
     go_wp2
     go_ret2
     exact ⟨_, eqE, by first | exact Kd.R_nil _ _ _ _ _ | exact Kd.N_nil _ _ _ _ _ | exact Kd.V_nil _ _ _ _ _ | exact Kd.Q_nil _ _ _ _ _ | exact Kd.S_nil _ _ _ _ _, bel_g HB.out⟩
 ·replace c3 := Bool.eq_false_iff.mpr c3
  subst c3
  replace H := ifF H
  simp only [Option.some.injEq, Prod.mk.injEq] at H
  obtain ⟨rfl, rfl⟩ := H
  go_enter Tryd.func45, Tryd.ntmps45
  go_wp2_with (first | ((with_reducible refine gate_dst (N := 1) rfl ?_); refine boxE (N := 1) (cs := #[.int .i64 a0_0, .slice A0_1 l0_1.length c0_1]) (t := 28) ?_; intro gb462 hg w42 hbox hb; have BK462 := Aside0.mk (hbox); have GE462 := geB HB hg; replace HB := bst HB hb; clear hb hbox hg; obtain ⟨hcz43_0, hcz43_1, hfz43_0, hfz43_1⟩ := blk2 BK462) | ((with_reducible refine gate_callee (f := 37) rfl ?_); refine goesQ (some 12) Tryd.func37 #[.agg #[.int .i64 a0_0, .slice A0_1 l0_1.length c0_1]] ?_; (with_reducible refine (spec_orGood.calls k a0_0 _ _ l0_1 false _ ?side1 ?side2 A2.out).mono ?_); (case side1 => exact C_g HR0_1 HB); (case side2 => exact HC0_1.out); rintro e w44 ⟨rfl, hb⟩; refine ⟨_, rfl, ?_⟩; replace BK462 := blkB BK462 hb; replace HB := bst HB hb; (try clear hb); (try clear hk)))
  go_ret2
  exact ⟨_, eqE, by first | exact Kd.R_nil _ _ _ _ _ | exact Kd.N_nil _ _ _ _ _ | exact Kd.V_nil _ _ _ _ _ | exact Kd.Q_nil _ _ _ _ _ | exact Kd.S_nil _ _ _ _ _, bel_g HB.out⟩

end Go.Proofs.YtjahodklmegglaaDoor.Q
