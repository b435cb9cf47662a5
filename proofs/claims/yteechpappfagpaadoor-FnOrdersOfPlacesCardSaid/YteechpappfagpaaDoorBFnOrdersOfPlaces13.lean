import Derived.Test.YteechpappfagpaaDoorBFnOrdersOfPlaces0
import Derived.Test.YteechpappfagpaaDoorBFnOrdersOfPlaces9
import Derived.Test.YteechpappfagpaaDoorBFnOrdersOfPlaces12
-- printed by this project's own program (wip/mp/mp.py) over the kit's print, for this seat; Lean checks it
namespace Go.Proofs.YteechpappfagpaaDoor.Q
open Go.RowKit Go.Proofs.YteechpappfagpaaDoorW.PrintWords Go.Proofs.YteechpappfagpaaDoorW.PrintLast Go.Proofs.YteechpappfagpaaDoorW.PrintMore
attribute [local go_sem] max2_int min2_int max_two min_two max_three min_three max_four min_four   -- for this text's walks alone
set_option linter.unusedVariables false
set_option maxHeartbeats 8000000
set_option maxRecDepth 100000
set_option linter.unusedSimpArgs false

/-! ### impl_Order_threeOne: function 152 -/
mutual
def impl_Order_threeOne.l0 : Nat → List Int → Int → Int → Int → List Int → Option (List Int)
 | 0, _, _, _, _, _ => none
 | k + 1, x3, x13, x14, x639000, x639001 => if x14 < x13 then (if 0 ≤ x14 then (if x14 < (x639001.length : Int) then ((impl_members.f k (rd x639001 x14)).bind fun t643 => (impl_Order_threeOne.l1 k x3 x14 x13 x14 t643 (t643.length : Int) 0 x639000 x639001)) else (none)) else (none)) else (some ([] : List Int))
def impl_Order_threeOne.l1 : Nat → List Int → Int → Int → Int → List Int → Int → Int → Int → List Int → Option (List Int)
 | 0, _, _, _, _, _, _, _, _, _ => none
 | k + 1, x3, x4, x13, x14, x22, x23, x24, x639000, x639001 => if x24 < x23 then (if 0 ≤ x24 then (if x24 < (x22.length : Int) then (if 0 ≤ (rd x22 x24) then (if (rd x22 x24) < (x639001.length : Int) then ((impl_members.f k (rd x639001 (rd x22 x24))).bind fun t648 => (impl_Order_threeOne.l2 k x3 x4 (rd x22 x24) x13 x14 x22 x23 x24 t648 (t648.length : Int) 0 x639000 x639001)) else (none)) else (none)) else (none)) else (none)) else (impl_Order_threeOne.l0 k x3 x13 (wrap64 (x14 + 1)) x639000 x639001)
def impl_Order_threeOne.l2 : Nat → List Int → Int → Int → Int → Int → List Int → Int → Int → List Int → Int → Int → Int → List Int → Option (List Int)
 | 0, _, _, _, _, _, _, _, _, _, _, _, _, _ => none
 | k + 1, x3, x4, x6, x13, x14, x22, x23, x24, x33, x34, x35, x639000, x639001 => if x35 < x34 then (if 0 ≤ x35 then (if x35 < (x33.length : Int) then (if 0 ≤ x4 then (if x4 < (x3.length : Int) then (if 0 ≤ x6 then (if x6 < (x3.length : Int) then (if 0 ≤ (rd x33 x35) then (if (rd x33 x35) < (x3.length : Int) then (if (Go.bits .and .i64 (Go.bits .and .i64 (rd x3 x4) (rd x3 x6)) (rd x3 (rd x33 x35))) = 0 then (impl_Order_threeOne.l2 k x3 x4 x6 x13 x14 x22 x23 x24 x33 x34 (wrap64 (x35 + 1)) x639000 x639001) else ((impl_members.f k (Go.bits .and .i64 (Go.bits .and .i64 (rd x3 x4) (rd x3 x6)) (rd x3 (rd x33 x35)))).bind fun t655 => (if 0 < (t655.length : Int) then (some (([x4, x6, rd x33 x35, rd t655 0] : List Int))) else (none)))) else (none)) else (none)) else (none)) else (none)) else (none)) else (none)) else (none)) else (none)) else (impl_Order_threeOne.l1 k x3 x4 x13 x14 x22 x23 (wrap64 (x24 + 1)) x639000 x639001)
end
def impl_Order_threeOne.f (k : Nat) (a0_0 : Int) (l0_1 : List Int) : Option (List Int) := (impl_Order_indifferent.f k a0_0 l0_1).bind fun t639 => (impl_Order_threeOne.l0 k t639 a0_0 0 a0_0 l0_1)
theorem impl_Order_threeOne.mono_l : ∀ k, (∀ y0 y1 y2 y3 y4, LeO (impl_Order_threeOne.l0 k y0 y1 y2 y3 y4) (impl_Order_threeOne.l0 (k + 1) y0 y1 y2 y3 y4)) ∧ (∀ y0 y1 y2 y3 y4 y5 y6 y7 y8, LeO (impl_Order_threeOne.l1 k y0 y1 y2 y3 y4 y5 y6 y7 y8) (impl_Order_threeOne.l1 (k + 1) y0 y1 y2 y3 y4 y5 y6 y7 y8)) ∧ (∀ y0 y1 y2 y3 y4 y5 y6 y7 y8 y9 y10 y11 y12, LeO (impl_Order_threeOne.l2 k y0 y1 y2 y3 y4 y5 y6 y7 y8 y9 y10 y11 y12) (impl_Order_threeOne.l2 (k + 1) y0 y1 y2 y3 y4 y5 y6 y7 y8 y9 y10 y11 y12))
 | 0 => ⟨fun _ _ _ _ _ r h => by simp [impl_Order_threeOne.l0] at h, fun _ _ _ _ _ _ _ _ _ r h => by simp [impl_Order_threeOne.l1] at h, fun _ _ _ _ _ _ _ _ _ _ _ _ _ r h => by simp [impl_Order_threeOne.l2] at h⟩
 | k + 1 => by
  obtain ⟨ih0, ih1, ih2⟩ := impl_Order_threeOne.mono_l k
  refine ⟨?_, ?_, ?_⟩
  ·intro y0 y1 y2 y3 y4
   unfold impl_Order_threeOne.l0
   repeat' (with_reducible first|exact ih0 _ _ _ _ _|exact ih1 _ _ _ _ _ _ _ _ _|exact ih2 _ _ _ _ _ _ _ _ _ _ _ _ _|exact impl_Order_indifferent.mono _ _ _|exact impl_members.mono _ _|exact LeO.refl _|exact LeO.none _|refine LeO.ite ?_ ?_|refine LeO.bind ?_ (fun _ => ?_))
  ·intro y0 y1 y2 y3 y4 y5 y6 y7 y8
   unfold impl_Order_threeOne.l1
   repeat' (with_reducible first|exact ih0 _ _ _ _ _|exact ih1 _ _ _ _ _ _ _ _ _|exact ih2 _ _ _ _ _ _ _ _ _ _ _ _ _|exact impl_Order_indifferent.mono _ _ _|exact impl_members.mono _ _|exact LeO.refl _|exact LeO.none _|refine LeO.ite ?_ ?_|refine LeO.bind ?_ (fun _ => ?_))
  ·intro y0 y1 y2 y3 y4 y5 y6 y7 y8 y9 y10 y11 y12
   unfold impl_Order_threeOne.l2
   repeat' (with_reducible first|exact ih0 _ _ _ _ _|exact ih1 _ _ _ _ _ _ _ _ _|exact ih2 _ _ _ _ _ _ _ _ _ _ _ _ _|exact impl_Order_indifferent.mono _ _ _|exact impl_members.mono _ _|exact LeO.refl _|exact LeO.none _|refine LeO.ite ?_ ?_|refine LeO.bind ?_ (fun _ => ?_))
theorem impl_Order_threeOne.mono : ∀ a0 a1 k, LeO (impl_Order_threeOne.f k a0 a1) (impl_Order_threeOne.f (k + 1) a0 a1) := by
 intro a0 a1 k
 obtain ⟨ih0, ih1, ih2⟩ := impl_Order_threeOne.mono_l k
 unfold impl_Order_threeOne.f
 repeat' (with_reducible first|exact ih0 _ _ _ _ _|exact ih1 _ _ _ _ _ _ _ _ _|exact ih2 _ _ _ _ _ _ _ _ _ _ _ _ _|exact impl_Order_indifferent.mono _ _ _|exact impl_members.mono _ _|exact LeO.refl _|exact LeO.none _|refine LeO.ite ?_ ?_|refine LeO.bind ?_ (fun _ => ?_))
theorem impl_Order_threeOne.calls (k : Nat) (a0_0 : Int) (A0_1 : Option Addr) (c0_1 : Nat) (l0_1 : List Int) (r : List Int) (w : World) (hr0_1 : Kd.C (Kd.int .i64) w A0_1 l0_1.length l0_1) (hc0_1 : l0_1.length ≤ c0_1) (hTAB : Tab w) (h : impl_Order_threeOne.f k a0_0 l0_1 = some r) :
  Calls Tryd.prog 152 #[.agg #[.int .i64 a0_0, .slice A0_1 l0_1.length c0_1]] w fun e w' => ∃ v0_ : Value, e = .returned (v0_) ∧ Kd.R (Kd.int .i64) 3 w' w.heap.size (fun _ => True) v0_ r ∧ Below w.heap.size w w' ∧ (r = [] → v0_ = .slice none 0 0) := by
 have HTAB := Aside0.mk hTAB
 clear hTAB
 have hu28 := Tryd.underlying28
 have HR0_1 := Aside0.mk hr0_1
 have HC0_1 := Aside0.mk hc0_1
 clear hr0_1 hc0_1
 have HB := Aside0.mk (Below.refl w.heap.size w)
 have H : ((impl_Order_indifferent.f k a0_0 l0_1).bind fun t639 => (impl_Order_threeOne.l0 k t639 a0_0 0 a0_0 l0_1)) = some r := h
 clear h
 obtain ⟨t639, A2, H⟩ := obE H
 have H' := Aside0.mk H
 clear H
 go_enter Tryd.func152, Tryd.ntmps152
 go_wp2_with (first | ((with_reducible refine gate_dst (N := 1) rfl ?_); refine boxE (N := 1) (cs := #[.int .i64 a0_0, .slice A0_1 l0_1.length c0_1]) (t := 28) ?_; intro gb638 hg w3 hbox hb; have BK638 := Aside0.mk (hbox); have GE638 := geB HB hg; replace HB := bst HB hb; clear hb hbox hg; obtain ⟨hcz4_0, hcz4_1, hfz4_0, hfz4_1⟩ := blk2 BK638) | (go_at_call 115; (with_reducible refine (impl_Order_indifferent.calls k a0_0 _ _ l0_1 t639 _ ?side1 ?side2 A2.out).mono ?_); (case side1 => exact C_g HR0_1 HB); (case side2 => exact HC0_1.out); rintro e w5 ⟨v640, rfl, ho0, hb⟩; have HO641 := Aside0.mk (Kd.R_lower ho0 (below_size (bel_g HB.out))); replace BK638 := blkB BK638 hb; replace HB := bst HB hb; (try clear hb); (try clear hk); (try clear ho0); obtain ⟨hcz6_0, hcz6_1, hfz6_0, hfz6_1⟩ := blk2 BK638))
 repeat (go_quiet (first | ((with_reducible refine gate_dst (N := 1) rfl ?_); refine boxE (N := 1) (cs := #[.int .i64 a0_0, .slice A0_1 l0_1.length c0_1]) (t := 28) ?_; intro gb638 hg w3 hbox hb; have BK638 := Aside0.mk (hbox); have GE638 := geB HB hg; replace HB := bst HB hb; clear hb hbox hg; obtain ⟨hcz4_0, hcz4_1, hfz4_0, hfz4_1⟩ := blk2 BK638) | (go_at_call 115; (with_reducible refine (impl_Order_indifferent.calls k a0_0 _ _ l0_1 t639 _ ?side1 ?side2 A2.out).mono ?_); (case side1 => exact C_g HR0_1 HB); (case side2 => exact HC0_1.out); rintro e w5 ⟨v640, rfl, ho0, hb⟩; have HO641 := Aside0.mk (Kd.R_lower ho0 (below_size (bel_g HB.out))); replace BK638 := blkB BK638 hb; replace HB := bst HB hb; (try clear hb); (try clear hk); (try clear ho0); obtain ⟨hcz6_0, hcz6_1, hfz6_0, hfz6_1⟩ := blk2 BK638)); try go_wp2_with (first | ((with_reducible refine gate_dst (N := 1) rfl ?_); refine boxE (N := 1) (cs := #[.int .i64 a0_0, .slice A0_1 l0_1.length c0_1]) (t := 28) ?_; intro gb638 hg w3 hbox hb; have BK638 := Aside0.mk (hbox); have GE638 := geB HB hg; replace HB := bst HB hb; clear hb hbox hg; obtain ⟨hcz4_0, hcz4_1, hfz4_0, hfz4_1⟩ := blk2 BK638) | (go_at_call 115; (with_reducible refine (impl_Order_indifferent.calls k a0_0 _ _ l0_1 t639 _ ?side1 ?side2 A2.out).mono ?_); (case side1 => exact C_g HR0_1 HB); (case side2 => exact HC0_1.out); rintro e w5 ⟨v640, rfl, ho0, hb⟩; have HO641 := Aside0.mk (Kd.R_lower ho0 (below_size (bel_g HB.out))); replace BK638 := blkB BK638 hb; replace HB := bst HB hb; (try clear hb); (try clear hk); (try clear ho0); obtain ⟨hcz6_0, hcz6_1, hfz6_0, hfz6_1⟩ := blk2 BK638)))
 go_loopg [14] k (fun kq v14 w' => ∃ (x14_1 : Int), v14 = .int .i64 x14_1 ∧ Aside0 (impl_Order_threeOne.l0 kq t639 a0_0 x14_1 a0_0 l0_1 = some r) ∧ Aside0 (kq ≤ k) ∧ Aside0 (Kd.R (Kd.int .i64) 3 w' w.heap.size (fun _ => True) v640 t639) ∧ Aside0 (w'.heap[gb638]? = some (.cells #[.int .i64 a0_0, (.slice A0_1 l0_1.length c0_1)] 28 (0, 0))) ∧ Aside0 (Below w.heap.size w w'))
 case atStart => exact ⟨(0), eqS, H', ⟨Nat.le_refl _⟩, ⟨Kd.R_g HO641.out⟩, ⟨blk_g BK638.out⟩, ⟨bel_g HB.out⟩⟩
 case round =>
  clear H'
  try clear hcz4_0
  try clear hcz4_1
  try clear hcz6_0
  try clear hcz6_1
  try clear hfz4_0
  try clear hfz4_1
  try clear hfz6_0
  try clear hfz6_1
  obtain ⟨x14_1, rfl, HA, HK1, HO_3, BK638, HB⟩ := hrel
  cases gk with
  | zero => exact absurd HA.out (by simp [impl_Order_threeOne.l0])
  | succ k1 =>
   have H := HA.out
   clear HA
   simp only [impl_Order_threeOne.l0] at H
   rcases iteE H with ⟨c7b0, H⟩ | ⟨c7b0, H⟩
   ·rcases iteP H with ⟨c8, H⟩ | ⟨c8, H⟩
    ·have c8b0 : decide (0 ≤ x14_1) = true := decide_eq_true c8
     clear c8
     rcases iteP H with ⟨c9, H⟩ | ⟨c9, H⟩
     ·have c9b0 : decide (x14_1 < (l0_1.length : Int)) = true := decide_eq_true c9
      clear c9
      obtain ⟨t643, A10, H⟩ := obE H
      have H' := Aside0.mk H
      clear H
      obtain ⟨hcz11_0, hcz11_1, hfz11_0, hfz11_1⟩ := blk2 BK638
      have p642 : 0 ≤ (x14_1 : Int) := ofd
      have q642 : x14_1 < (l0_1.length : Int) := ofd
      obtain ⟨ad642, e642, hx642_0⟩ := Kd.at_int HR0_1.out x14_1 p642 q642
      cases e642
      replace hx642_0 := (HB.out.cell (World.block_lt_of_cell? w _ hx642_0)).trans hx642_0
      replace p642 := eq_true p642
      replace q642 := eq_true q642
      go_wp2_with (first | (go_at_call 113; (with_reducible refine (impl_members.calls k1 (rd l0_1 x14_1) t643 _ ?side1 A10.out).mono ?_); (case side1 => first | exact HTAB.out | exact Tab.drewN HTAB.out _ | exact Tab.below HTAB.out (bel_g HB.out) | exact Tab.below HTAB.out (by repeat (first | exact Below.refl _ _ | apply below_alloc | apply pw_below_drewN | apply below_drew1))); rintro e w12 ⟨v644, rfl, ho0, hb⟩; have HO645 := Aside0.mk (Kd.R_lower (Kd.R_new' ho0 (Kd.R_lt (Kd.R_g HO_3.out))) (below_size (bel_g HB.out))); replace HO_3 := Aside0.mk (Kd.R_elder' (Kd.R_g HO_3.out) (Kd.R_base ho0) hb); replace BK638 := blkB BK638 hb; replace HB := bst HB hb; (try clear hb); (try clear hk); (try clear ho0); obtain ⟨Ao13, co13, eo13⟩ := Kd.R_slice HO645.out; subst eo13))
      repeat (go_quiet (first | (go_at_call 113; (with_reducible refine (impl_members.calls k1 (rd l0_1 x14_1) t643 _ ?side1 A10.out).mono ?_); (case side1 => first | exact HTAB.out | exact Tab.drewN HTAB.out _ | exact Tab.below HTAB.out (bel_g HB.out) | exact Tab.below HTAB.out (by repeat (first | exact Below.refl _ _ | apply below_alloc | apply pw_below_drewN | apply below_drew1))); rintro e w12 ⟨v644, rfl, ho0, hb⟩; have HO645 := Aside0.mk (Kd.R_lower (Kd.R_new' ho0 (Kd.R_lt (Kd.R_g HO_3.out))) (below_size (bel_g HB.out))); replace HO_3 := Aside0.mk (Kd.R_elder' (Kd.R_g HO_3.out) (Kd.R_base ho0) hb); replace BK638 := blkB BK638 hb; replace HB := bst HB hb; (try clear hb); (try clear hk); (try clear ho0); obtain ⟨Ao13, co13, eo13⟩ := Kd.R_slice HO645.out; subst eo13)); try go_wp2_with (first | (go_at_call 113; (with_reducible refine (impl_members.calls k1 (rd l0_1 x14_1) t643 _ ?side1 A10.out).mono ?_); (case side1 => first | exact HTAB.out | exact Tab.drewN HTAB.out _ | exact Tab.below HTAB.out (bel_g HB.out) | exact Tab.below HTAB.out (by repeat (first | exact Below.refl _ _ | apply below_alloc | apply pw_below_drewN | apply below_drew1))); rintro e w12 ⟨v644, rfl, ho0, hb⟩; have HO645 := Aside0.mk (Kd.R_lower (Kd.R_new' ho0 (Kd.R_lt (Kd.R_g HO_3.out))) (below_size (bel_g HB.out))); replace HO_3 := Aside0.mk (Kd.R_elder' (Kd.R_g HO_3.out) (Kd.R_base ho0) hb); replace BK638 := blkB BK638 hb; replace HB := bst HB hb; (try clear hb); (try clear hk); (try clear ho0); obtain ⟨Ao13, co13, eo13⟩ := Kd.R_slice HO645.out; subst eo13)))
      go_loopg [24] k1 (fun kq v24 w' => ∃ (x24_2 : Int), v24 = .int .i64 x24_2 ∧ Aside0 (impl_Order_threeOne.l1 kq t639 x14_1 a0_0 x14_1 t643 (t643.length : Int) x24_2 a0_0 l0_1 = some r) ∧ Aside0 (kq ≤ k1) ∧ Aside0 (Kd.R (Kd.int .i64) 3 w' w.heap.size (fun k_ => some k_ ≠ ((.slice Ao13 t643.length co13) : Value).ownBlock) v640 t639) ∧ Aside0 (Kd.R (Kd.int .i64) 3 w' w.heap.size (fun k_ => some k_ ≠ (v640 : Value).ownBlock) (.slice Ao13 t643.length co13) t643) ∧ Aside0 (w'.heap[gb638]? = some (.cells #[.int .i64 a0_0, (.slice (some ad642) l0_1.length c0_1)] 28 (0, 0))) ∧ Aside0 (Below w.heap.size w w'))
      case atStart => exact ⟨(0), eqS, H', ⟨Nat.le_refl _⟩, ⟨Kd.R_g (Kd.R_mono HO_3.out (fun _ hk => hk.2))⟩, ⟨Kd.R_g (Kd.R_mono HO645.out (fun _ hk => hk.2))⟩, ⟨blk_g BK638.out⟩, ⟨bel_g HB.out⟩⟩
      case round =>
       clear H'
       try clear c7b0
       try clear c8
       try clear c8b0
       try clear c9
       try clear c9b0
       try clear hcz11_0
       try clear hcz11_1
       try clear hcz4_0
       try clear hcz4_1
       try clear hcz6_0
       try clear hcz6_1
       try clear hfz11_0
       try clear hfz11_1
       try clear hfz4_0
       try clear hfz4_1
       try clear hfz6_0
       try clear hfz6_1
       try clear hx642_0
       try clear p642
       try clear q642
       obtain ⟨x24_2, rfl, HA, HK2, HO_3, HO_22, BK638, HB⟩ := hrel
       cases gk with
       | zero => exact absurd HA.out (by simp [impl_Order_threeOne.l1])
       | succ k2 =>
        have H := HA.out
        clear HA
        simp only [impl_Order_threeOne.l1] at H
        rcases iteE H with ⟨c14b0, H⟩ | ⟨c14b0, H⟩
        ·rcases iteP H with ⟨c15, H⟩ | ⟨c15, H⟩
         ·have c15b0 : decide (0 ≤ x24_2) = true := decide_eq_true c15
          clear c15
          rcases iteP H with ⟨c16, H⟩ | ⟨c16, H⟩
          ·have c16b0 : decide (x24_2 < (t643.length : Int)) = true := decide_eq_true c16
           clear c16
           rcases iteP H with ⟨c17, H⟩ | ⟨c17, H⟩
           ·have c17b0 : decide (0 ≤ (rd t643 x24_2)) = true := decide_eq_true c17
            clear c17
            rcases iteP H with ⟨c18, H⟩ | ⟨c18, H⟩
            ·have c18b0 : decide ((rd t643 x24_2) < (l0_1.length : Int)) = true := decide_eq_true c18
             clear c18
             obtain ⟨t648, A19, H⟩ := obE H
             have H' := Aside0.mk H
             clear H
             have p646 : 0 ≤ (x24_2 : Int) := ofd
             have q646 : x24_2 < (t643.length : Int) := ofd
             obtain ⟨ad646, e646, hx646_0⟩ := Kd.at_int (Kd.R_reads' HO_22.out).2.2 x24_2 p646 q646
             cases e646
             replace p646 := eq_true p646
             replace q646 := eq_true q646
             obtain ⟨hcz20_0, hcz20_1, hfz20_0, hfz20_1⟩ := blk2 BK638
             have p647 : 0 ≤ ((rd t643 x24_2) : Int) := ofd
             have q647 : (rd t643 x24_2) < (l0_1.length : Int) := ofd
             obtain ⟨ad647, e647, hx647_0⟩ := Kd.at_int HR0_1.out (rd t643 x24_2) p647 q647
             obtain rfl : ad642 = ad647 := (by injection e647)
             replace hx647_0 := (HB.out.cell (World.block_lt_of_cell? w _ hx647_0)).trans hx647_0
             replace p647 := eq_true p647
             replace q647 := eq_true q647
             go_wp2_with (first | (go_at_call 113; (with_reducible refine (impl_members.calls k2 (rd l0_1 (rd t643 x24_2)) t648 _ ?side1 A19.out).mono ?_); (case side1 => first | exact HTAB.out | exact Tab.drewN HTAB.out _ | exact Tab.below HTAB.out (bel_g HB.out) | exact Tab.below HTAB.out (by repeat (first | exact Below.refl _ _ | apply below_alloc | apply pw_below_drewN | apply below_drew1))); rintro e w21 ⟨v649, rfl, ho0, hb⟩; have HO650 := Aside0.mk (Kd.R_lower (Kd.R_new' (Kd.R_new' ho0 (Kd.R_lt (Kd.R_g HO_3.out))) (Kd.R_lt (Kd.R_g HO_22.out))) (below_size (bel_g HB.out))); replace HO_3 := Aside0.mk (Kd.R_elder' (Kd.R_g HO_3.out) (Kd.R_base ho0) hb); replace HO_22 := Aside0.mk (Kd.R_elder' (Kd.R_g HO_22.out) (Kd.R_base ho0) hb); replace BK638 := blkB BK638 hb; replace HB := bst HB hb; (try clear hb); (try clear hk); (try clear ho0); obtain ⟨Ao22, co22, eo22⟩ := Kd.R_slice HO650.out; subst eo22))
             repeat (go_quiet (first | (go_at_call 113; (with_reducible refine (impl_members.calls k2 (rd l0_1 (rd t643 x24_2)) t648 _ ?side1 A19.out).mono ?_); (case side1 => first | exact HTAB.out | exact Tab.drewN HTAB.out _ | exact Tab.below HTAB.out (bel_g HB.out) | exact Tab.below HTAB.out (by repeat (first | exact Below.refl _ _ | apply below_alloc | apply pw_below_drewN | apply below_drew1))); rintro e w21 ⟨v649, rfl, ho0, hb⟩; have HO650 := Aside0.mk (Kd.R_lower (Kd.R_new' (Kd.R_new' ho0 (Kd.R_lt (Kd.R_g HO_3.out))) (Kd.R_lt (Kd.R_g HO_22.out))) (below_size (bel_g HB.out))); replace HO_3 := Aside0.mk (Kd.R_elder' (Kd.R_g HO_3.out) (Kd.R_base ho0) hb); replace HO_22 := Aside0.mk (Kd.R_elder' (Kd.R_g HO_22.out) (Kd.R_base ho0) hb); replace BK638 := blkB BK638 hb; replace HB := bst HB hb; (try clear hb); (try clear hk); (try clear ho0); obtain ⟨Ao22, co22, eo22⟩ := Kd.R_slice HO650.out; subst eo22)); try go_wp2_with (first | (go_at_call 113; (with_reducible refine (impl_members.calls k2 (rd l0_1 (rd t643 x24_2)) t648 _ ?side1 A19.out).mono ?_); (case side1 => first | exact HTAB.out | exact Tab.drewN HTAB.out _ | exact Tab.below HTAB.out (bel_g HB.out) | exact Tab.below HTAB.out (by repeat (first | exact Below.refl _ _ | apply below_alloc | apply pw_below_drewN | apply below_drew1))); rintro e w21 ⟨v649, rfl, ho0, hb⟩; have HO650 := Aside0.mk (Kd.R_lower (Kd.R_new' (Kd.R_new' ho0 (Kd.R_lt (Kd.R_g HO_3.out))) (Kd.R_lt (Kd.R_g HO_22.out))) (below_size (bel_g HB.out))); replace HO_3 := Aside0.mk (Kd.R_elder' (Kd.R_g HO_3.out) (Kd.R_base ho0) hb); replace HO_22 := Aside0.mk (Kd.R_elder' (Kd.R_g HO_22.out) (Kd.R_base ho0) hb); replace BK638 := blkB BK638 hb; replace HB := bst HB hb; (try clear hb); (try clear hk); (try clear ho0); obtain ⟨Ao22, co22, eo22⟩ := Kd.R_slice HO650.out; subst eo22)))
             go_loopg [35] k2 (fun kq v35 w' => ∃ (x35_3 : Int), v35 = .int .i64 x35_3 ∧ Aside0 (impl_Order_threeOne.l2 kq t639 x14_1 (rd t643 x24_2) a0_0 x14_1 t643 (t643.length : Int) x24_2 t648 (t648.length : Int) x35_3 a0_0 l0_1 = some r) ∧ Aside0 (kq ≤ k2) ∧ Aside0 (Kd.R (Kd.int .i64) 3 w' w.heap.size (fun k_ => some k_ ≠ ((.slice (some ad646) t643.length co13) : Value).ownBlock ∧ some k_ ≠ ((.slice Ao22 t648.length co22) : Value).ownBlock) v640 t639) ∧ Aside0 (Kd.R (Kd.int .i64) 3 w' w.heap.size (fun k_ => some k_ ≠ (v640 : Value).ownBlock ∧ some k_ ≠ ((.slice Ao22 t648.length co22) : Value).ownBlock) (.slice (some ad646) t643.length co13) t643) ∧ Aside0 (Kd.R (Kd.int .i64) 3 w' w.heap.size (fun k_ => some k_ ≠ (v640 : Value).ownBlock ∧ some k_ ≠ ((.slice (some ad646) t643.length co13) : Value).ownBlock) (.slice Ao22 t648.length co22) t648) ∧ Aside0 (w'.heap[gb638]? = some (.cells #[.int .i64 a0_0, (.slice (some ad642) l0_1.length c0_1)] 28 (0, 0))) ∧ Aside0 (Below w.heap.size w w'))
             case atStart => exact ⟨(0), eqS, H', ⟨Nat.le_refl _⟩, ⟨Kd.R_g HO_3.out⟩, ⟨Kd.R_g HO_22.out⟩, ⟨Kd.R_g (Kd.R_mono HO650.out (fun _ hk => ⟨hk.1.2, hk.2⟩))⟩, ⟨blk_g BK638.out⟩, ⟨bel_g HB.out⟩⟩
             case round =>
              clear H'
              try clear c7b0
              try clear c8
              try clear c8b0
              try clear c9
              try clear c9b0
              try clear c14b0
              try clear c15
              try clear c15b0
              try clear c16
              try clear c16b0
              try clear c17
              try clear c17b0
              try clear c18
              try clear c18b0
              try clear hcz11_0
              try clear hcz11_1
              try clear hcz20_0
              try clear hcz20_1
              try clear hcz4_0
              try clear hcz4_1
              try clear hcz6_0
              try clear hcz6_1
              try clear hfz11_0
              try clear hfz11_1
              try clear hfz20_0
              try clear hfz20_1
              try clear hfz4_0
              try clear hfz4_1
              try clear hfz6_0
              try clear hfz6_1
              try clear hx642_0
              try clear hx646_0
              try clear hx647_0
              try clear p642
              try clear p646
              try clear p647
              try clear q642
              try clear q646
              try clear q647
              obtain ⟨x35_3, rfl, HA, HK3, HO_3, HO_22, HO_33, BK638, HB⟩ := hrel
              cases gk with
              | zero => exact absurd HA.out (by simp [impl_Order_threeOne.l2])
              | succ k3 =>
               have H := HA.out
               clear HA
               simp only [impl_Order_threeOne.l2] at H
               rcases iteE H with ⟨c23b0, H⟩ | ⟨c23b0, H⟩
               ·rcases iteP H with ⟨c24, H⟩ | ⟨c24, H⟩
                ·have c24b0 : decide (0 ≤ x35_3) = true := decide_eq_true c24
                 clear c24
                 rcases iteP H with ⟨c25, H⟩ | ⟨c25, H⟩
                 ·have c25b0 : decide (x35_3 < (t648.length : Int)) = true := decide_eq_true c25
                  clear c25
                  rcases iteP H with ⟨c26, H⟩ | ⟨c26, H⟩
                  ·have c26b0 : decide (0 ≤ x14_1) = true := decide_eq_true c26
                   clear c26
                   rcases iteP H with ⟨c27, H⟩ | ⟨c27, H⟩
                   ·have c27b0 : decide (x14_1 < (t639.length : Int)) = true := decide_eq_true c27
                    clear c27
                    rcases iteP H with ⟨c28, H⟩ | ⟨c28, H⟩
                    ·have c28b0 : decide (0 ≤ (rd t643 x24_2)) = true := decide_eq_true c28
                     clear c28
                     rcases iteP H with ⟨c29, H⟩ | ⟨c29, H⟩
                     ·have c29b0 : decide ((rd t643 x24_2) < (t639.length : Int)) = true := decide_eq_true c29
                      clear c29
                      rcases iteP H with ⟨c30, H⟩ | ⟨c30, H⟩
                      ·have c30b0 : decide (0 ≤ (rd t648 x35_3)) = true := decide_eq_true c30
                       clear c30
                       rcases iteP H with ⟨c31, H⟩ | ⟨c31, H⟩
                       ·have c31b0 : decide ((rd t648 x35_3) < (t639.length : Int)) = true := decide_eq_true c31
                        clear c31
                        rcases iteP H with ⟨c32, H⟩ | ⟨c32, H⟩
                        ·have c32b0 : ((Go.bits .and .i64 (Go.bits .and .i64 (rd t639 x14_1) (rd t639 (rd t643 x24_2))) (rd t639 (rd t648 x35_3))) == 0) = true := beq_iff_eq.mpr c32
                         have c32b1 : ((Go.bits .and .i64 (Go.bits .and .i64 (rd t639 x14_1) (rd t639 (rd t643 x24_2))) (rd t639 (rd t648 x35_3))) != 0) = false := bne_eq_false_iff_eq.mpr c32
                         clear c32
                         have H' := Aside0.mk H
                         clear H
                         have p651 : 0 ≤ (x35_3 : Int) := ofd
                         have q651 : x35_3 < (t648.length : Int) := ofd
                         obtain ⟨ad651, e651, hx651_0⟩ := Kd.at_int (Kd.R_reads' HO_33.out).2.2 x35_3 p651 q651
                         cases e651
                         replace p651 := eq_true p651
                         replace q651 := eq_true q651
                         obtain ⟨Ao33, co33, eo33⟩ := Kd.R_slice HO_3.out
                         subst eo33
                         have p652 : 0 ≤ (x14_1 : Int) := ofd
                         have q652 : x14_1 < (t639.length : Int) := ofd
                         obtain ⟨ad652, e652, hx652_0⟩ := Kd.at_int (Kd.R_reads' HO_3.out).2.2 x14_1 p652 q652
                         cases e652
                         replace p652 := eq_true p652
                         replace q652 := eq_true q652
                         have p653 : 0 ≤ ((rd t643 x24_2) : Int) := ofd
                         have q653 : (rd t643 x24_2) < (t639.length : Int) := ofd
                         obtain ⟨ad653, e653, hx653_0⟩ := Kd.at_int (Kd.R_reads' HO_3.out).2.2 (rd t643 x24_2) p653 q653
                         obtain rfl : ad652 = ad653 := (by injection e653)
                         replace p653 := eq_true p653
                         replace q653 := eq_true q653
                         have p654 : 0 ≤ ((rd t648 x35_3) : Int) := ofd
                         have q654 : (rd t648 x35_3) < (t639.length : Int) := ofd
                         obtain ⟨ad654, e654, hx654_0⟩ := Kd.at_int (Kd.R_reads' HO_3.out).2.2 (rd t648 x35_3) p654 q654
                         obtain rfl : ad652 = ad654 := (by injection e654)
                         replace p654 := eq_true p654
                         replace q654 := eq_true q654
                         go_wp2
                         repeat (go_quiet (fail); try go_wp2)
                         go_roundg k3
                         case measure => have := HK1.out; have := HK2.out; have := HK3.out; omega
                         case rel => exact ⟨(wrap64 (x35_3 + 1)), eqS, H', ⟨by have := HK1.out; have := HK2.out; have := HK3.out; omega⟩, ⟨Kd.R_g HO_3.out⟩, ⟨Kd.R_g HO_22.out⟩, ⟨Kd.R_g HO_33.out⟩, ⟨blk_g BK638.out⟩, ⟨bel_g HB.out⟩⟩
                        ·have c32b0 : ((Go.bits .and .i64 (Go.bits .and .i64 (rd t639 x14_1) (rd t639 (rd t643 x24_2))) (rd t639 (rd t648 x35_3))) == 0) = false := beq_eq_false_iff_ne.mpr c32
                         have c32b1 : ((Go.bits .and .i64 (Go.bits .and .i64 (rd t639 x14_1) (rd t639 (rd t643 x24_2))) (rd t639 (rd t648 x35_3))) != 0) = true := bne_iff_ne.mpr c32
                         obtain ⟨t655, A34, H⟩ := obE H
                         rcases iteP H with ⟨c35, H⟩ | ⟨c35, H⟩
                         ·have c35b0 : decide (0 < (t655.length : Int)) = true := decide_eq_true c35
                          have c35b1 : decide (0 < t655.length) = true := decide_eq_true (by omega)
                          clear c35
                          obtain ⟨y659, hy659⟩ : ∃ y_ : List Int, y_ = (([x14_1, (rd t643 x24_2), rd t648 x35_3, rd t655 0] : List Int)) := ⟨_, rfl⟩
                          replace H : (some y659) = some r := by first | (rw [hy659]; with_reducible exact H) | (have H2_ := (Option.bind_some _ _).symm.trans H; rw [hy659]; with_reducible exact H2_) | (have H2_ := (Option.bind_some _ _).symm.trans H; with_reducible exact H2_) | with_reducible exact H | (rw [hy659]; exact H) | exact H
                          have Ny659 := Aside0.mk hy659
                          clear hy659
                          obtain rfl := Option.some.inj H
                          have p651 : 0 ≤ (x35_3 : Int) := ofd
                          have q651 : x35_3 < (t648.length : Int) := ofd
                          obtain ⟨ad651, e651, hx651_0⟩ := Kd.at_int (Kd.R_reads' HO_33.out).2.2 x35_3 p651 q651
                          cases e651
                          replace p651 := eq_true p651
                          replace q651 := eq_true q651
                          obtain ⟨Ao36, co36, eo36⟩ := Kd.R_slice HO_3.out
                          subst eo36
                          have p652 : 0 ≤ (x14_1 : Int) := ofd
                          have q652 : x14_1 < (t639.length : Int) := ofd
                          obtain ⟨ad652, e652, hx652_0⟩ := Kd.at_int (Kd.R_reads' HO_3.out).2.2 x14_1 p652 q652
                          cases e652
                          replace p652 := eq_true p652
                          replace q652 := eq_true q652
                          have p653 : 0 ≤ ((rd t643 x24_2) : Int) := ofd
                          have q653 : (rd t643 x24_2) < (t639.length : Int) := ofd
                          obtain ⟨ad653, e653, hx653_0⟩ := Kd.at_int (Kd.R_reads' HO_3.out).2.2 (rd t643 x24_2) p653 q653
                          obtain rfl : ad652 = ad653 := (by injection e653)
                          replace p653 := eq_true p653
                          replace q653 := eq_true q653
                          have p654 : 0 ≤ ((rd t648 x35_3) : Int) := ofd
                          have q654 : (rd t648 x35_3) < (t639.length : Int) := ofd
                          obtain ⟨ad654, e654, hx654_0⟩ := Kd.at_int (Kd.R_reads' HO_3.out).2.2 (rd t648 x35_3) p654 q654
                          obtain rfl : ad652 = ad654 := (by injection e654)
                          replace p654 := eq_true p654
                          replace q654 := eq_true q654
                          go_wp2_with (first | (go_at_call 113; (with_reducible refine (impl_members.calls k3 (Go.bits .and .i64 (Go.bits .and .i64 (rd t639 x14_1) (rd t639 (rd t643 x24_2))) (rd t639 (rd t648 x35_3))) t655 _ ?side1 A34.out).mono ?_); (case side1 => first | exact HTAB.out | exact Tab.drewN HTAB.out _ | exact Tab.below HTAB.out (bel_g HB.out) | exact Tab.below HTAB.out (by repeat (first | exact Below.refl _ _ | apply below_alloc | apply pw_below_drewN | apply below_drew1))); rintro e w37 ⟨v656, rfl, ho0, hb⟩; have HO657 := Aside0.mk (Kd.R_lower (Kd.R_new' (Kd.R_new' (Kd.R_new' ho0 (Kd.R_lt (Kd.R_g HO_3.out))) (Kd.R_lt (Kd.R_g HO_22.out))) (Kd.R_lt (Kd.R_g HO_33.out))) (below_size (bel_g HB.out))); replace HO_3 := Aside0.mk (Kd.R_elder' (Kd.R_g HO_3.out) (Kd.R_base ho0) hb); replace HO_22 := Aside0.mk (Kd.R_elder' (Kd.R_g HO_22.out) (Kd.R_base ho0) hb); replace HO_33 := Aside0.mk (Kd.R_elder' (Kd.R_g HO_33.out) (Kd.R_base ho0) hb); replace BK638 := blkB BK638 hb; replace HB := bst HB hb; (try clear hb); (try clear hk); (try clear ho0); obtain ⟨Ao38, co38, eo38⟩ := Kd.R_slice HO657.out; subst eo38; have p658 : 0 ≤ (0 : Int) := (by omega); have q658 : 0 < (t655.length : Int) := ofd; obtain ⟨ad658, e658, hx658_0⟩ := Kd.at_int (Kd.R_reads' HO657.out).2.2 0 p658 q658; cases e658; have qi658 : (0 < t655.length) = True := eq_true (by omega); (try rw [show ((0 : Int)).toNat = 0 from rfl] at hx658_0); (try rw [Addr.add_zero'] at hx658_0); replace p658 := eq_true p658; replace q658 := eq_true q658) | ((with_reducible refine gate_dst (N := 62) rfl ?_); refine Kd.R_lit (Kd.int .i64) _ 3 ?hg (N := 62) ?hd (xs := ([x14_1, (rd t643 x24_2), rd t648 x35_3, rd t655 0] : List Int)) (inner := [.int .i64 x14_1, .int .i64 (rd t643 x24_2), .int .i64 (rd t648 x35_3), .int .i64 (rd t655 0)]) (ok := fun _ => True) (okp := fun _ => True) ?hr ?hp (fun _ hk => hk) trivial (Below.refl _ _) (Nat.le_refl _) (by simp) ?_; (case hd => rfl); (case hg => rfl); (case hr => first | (go_simp; done) | (go_simp; rfl)); (case hp => exact (Reps.one (show Kd.M (Kd.int .i64) _ _ _ x14_1 [.int .i64 x14_1] from rfl) (Reps.one (show Kd.M (Kd.int .i64) _ _ _ (rd t643 x24_2) [.int .i64 (rd t643 x24_2)] from rfl) (Reps.one (show Kd.M (Kd.int .i64) _ _ _ (rd t648 x35_3) [.int .i64 (rd t648 x35_3)] from rfl) (Reps.one (show Kd.M (Kd.int .i64) _ _ _ (rd t655 0) [.int .i64 (rd t655 0)] from rfl) (Reps.none _ _)))))); intro v660 w39 ho40 hb hg_ hnew_; clear hg_ hnew_; (first | rw [← Ny659.out] at ho40 | (simp only [Int.reduceToNat] at ho40; rw [← Ny659.out] at ho40)); have HO661 := Aside0.mk (Kd.R_lower (Kd.R_new' (Kd.R_new' (Kd.R_new' (Kd.R_new' ho40 (Kd.R_lt (Kd.R_g HO_3.out))) (Kd.R_lt (Kd.R_g HO_22.out))) (Kd.R_lt (Kd.R_g HO_33.out))) (Kd.R_lt (Kd.R_g HO657.out))) (below_size (bel_g HB.out))); replace HO_3 := Aside0.mk (Kd.R_elder' (Kd.R_g HO_3.out) (Kd.R_base ho40) hb); replace HO_22 := Aside0.mk (Kd.R_elder' (Kd.R_g HO_22.out) (Kd.R_base ho40) hb); replace HO_33 := Aside0.mk (Kd.R_elder' (Kd.R_g HO_33.out) (Kd.R_base ho40) hb); replace HO657 := Aside0.mk (Kd.R_elder' (Kd.R_g HO657.out) (Kd.R_base ho40) hb); replace BK638 := blkB BK638 hb; replace HB := bst HB hb; clear hb ho40))
                          repeat (go_quiet (first | (go_at_call 113; (with_reducible refine (impl_members.calls k3 (Go.bits .and .i64 (Go.bits .and .i64 (rd t639 x14_1) (rd t639 (rd t643 x24_2))) (rd t639 (rd t648 x35_3))) t655 _ ?side1 A34.out).mono ?_); (case side1 => first | exact HTAB.out | exact Tab.drewN HTAB.out _ | exact Tab.below HTAB.out (bel_g HB.out) | exact Tab.below HTAB.out (by repeat (first | exact Below.refl _ _ | apply below_alloc | apply pw_below_drewN | apply below_drew1))); rintro e w37 ⟨v656, rfl, ho0, hb⟩; have HO657 := Aside0.mk (Kd.R_lower (Kd.R_new' (Kd.R_new' (Kd.R_new' ho0 (Kd.R_lt (Kd.R_g HO_3.out))) (Kd.R_lt (Kd.R_g HO_22.out))) (Kd.R_lt (Kd.R_g HO_33.out))) (below_size (bel_g HB.out))); replace HO_3 := Aside0.mk (Kd.R_elder' (Kd.R_g HO_3.out) (Kd.R_base ho0) hb); replace HO_22 := Aside0.mk (Kd.R_elder' (Kd.R_g HO_22.out) (Kd.R_base ho0) hb); replace HO_33 := Aside0.mk (Kd.R_elder' (Kd.R_g HO_33.out) (Kd.R_base ho0) hb); replace BK638 := blkB BK638 hb; replace HB := bst HB hb; (try clear hb); (try clear hk); (try clear ho0); obtain ⟨Ao38, co38, eo38⟩ := Kd.R_slice HO657.out; subst eo38; have p658 : 0 ≤ (0 : Int) := (by omega); have q658 : 0 < (t655.length : Int) := ofd; obtain ⟨ad658, e658, hx658_0⟩ := Kd.at_int (Kd.R_reads' HO657.out).2.2 0 p658 q658; cases e658; have qi658 : (0 < t655.length) = True := eq_true (by omega); (try rw [show ((0 : Int)).toNat = 0 from rfl] at hx658_0); (try rw [Addr.add_zero'] at hx658_0); replace p658 := eq_true p658; replace q658 := eq_true q658) | ((with_reducible refine gate_dst (N := 62) rfl ?_); refine Kd.R_lit (Kd.int .i64) _ 3 ?hg (N := 62) ?hd (xs := ([x14_1, (rd t643 x24_2), rd t648 x35_3, rd t655 0] : List Int)) (inner := [.int .i64 x14_1, .int .i64 (rd t643 x24_2), .int .i64 (rd t648 x35_3), .int .i64 (rd t655 0)]) (ok := fun _ => True) (okp := fun _ => True) ?hr ?hp (fun _ hk => hk) trivial (Below.refl _ _) (Nat.le_refl _) (by simp) ?_; (case hd => rfl); (case hg => rfl); (case hr => first | (go_simp; done) | (go_simp; rfl)); (case hp => exact (Reps.one (show Kd.M (Kd.int .i64) _ _ _ x14_1 [.int .i64 x14_1] from rfl) (Reps.one (show Kd.M (Kd.int .i64) _ _ _ (rd t643 x24_2) [.int .i64 (rd t643 x24_2)] from rfl) (Reps.one (show Kd.M (Kd.int .i64) _ _ _ (rd t648 x35_3) [.int .i64 (rd t648 x35_3)] from rfl) (Reps.one (show Kd.M (Kd.int .i64) _ _ _ (rd t655 0) [.int .i64 (rd t655 0)] from rfl) (Reps.none _ _)))))); intro v660 w39 ho40 hb hg_ hnew_; clear hg_ hnew_; (first | rw [← Ny659.out] at ho40 | (simp only [Int.reduceToNat] at ho40; rw [← Ny659.out] at ho40)); have HO661 := Aside0.mk (Kd.R_lower (Kd.R_new' (Kd.R_new' (Kd.R_new' (Kd.R_new' ho40 (Kd.R_lt (Kd.R_g HO_3.out))) (Kd.R_lt (Kd.R_g HO_22.out))) (Kd.R_lt (Kd.R_g HO_33.out))) (Kd.R_lt (Kd.R_g HO657.out))) (below_size (bel_g HB.out))); replace HO_3 := Aside0.mk (Kd.R_elder' (Kd.R_g HO_3.out) (Kd.R_base ho40) hb); replace HO_22 := Aside0.mk (Kd.R_elder' (Kd.R_g HO_22.out) (Kd.R_base ho40) hb); replace HO_33 := Aside0.mk (Kd.R_elder' (Kd.R_g HO_33.out) (Kd.R_base ho40) hb); replace HO657 := Aside0.mk (Kd.R_elder' (Kd.R_g HO657.out) (Kd.R_base ho40) hb); replace BK638 := blkB BK638 hb; replace HB := bst HB hb; clear hb ho40)); try go_wp2_with (first | (go_at_call 113; (with_reducible refine (impl_members.calls k3 (Go.bits .and .i64 (Go.bits .and .i64 (rd t639 x14_1) (rd t639 (rd t643 x24_2))) (rd t639 (rd t648 x35_3))) t655 _ ?side1 A34.out).mono ?_); (case side1 => first | exact HTAB.out | exact Tab.drewN HTAB.out _ | exact Tab.below HTAB.out (bel_g HB.out) | exact Tab.below HTAB.out (by repeat (first | exact Below.refl _ _ | apply below_alloc | apply pw_below_drewN | apply below_drew1))); rintro e w37 ⟨v656, rfl, ho0, hb⟩; have HO657 := Aside0.mk (Kd.R_lower (Kd.R_new' (Kd.R_new' (Kd.R_new' ho0 (Kd.R_lt (Kd.R_g HO_3.out))) (Kd.R_lt (Kd.R_g HO_22.out))) (Kd.R_lt (Kd.R_g HO_33.out))) (below_size (bel_g HB.out))); replace HO_3 := Aside0.mk (Kd.R_elder' (Kd.R_g HO_3.out) (Kd.R_base ho0) hb); replace HO_22 := Aside0.mk (Kd.R_elder' (Kd.R_g HO_22.out) (Kd.R_base ho0) hb); replace HO_33 := Aside0.mk (Kd.R_elder' (Kd.R_g HO_33.out) (Kd.R_base ho0) hb); replace BK638 := blkB BK638 hb; replace HB := bst HB hb; (try clear hb); (try clear hk); (try clear ho0); obtain ⟨Ao38, co38, eo38⟩ := Kd.R_slice HO657.out; subst eo38; have p658 : 0 ≤ (0 : Int) := (by omega); have q658 : 0 < (t655.length : Int) := ofd; obtain ⟨ad658, e658, hx658_0⟩ := Kd.at_int (Kd.R_reads' HO657.out).2.2 0 p658 q658; cases e658; have qi658 : (0 < t655.length) = True := eq_true (by omega); (try rw [show ((0 : Int)).toNat = 0 from rfl] at hx658_0); (try rw [Addr.add_zero'] at hx658_0); replace p658 := eq_true p658; replace q658 := eq_true q658) | ((with_reducible refine gate_dst (N := 62) rfl ?_); refine Kd.R_lit (Kd.int .i64) _ 3 ?hg (N := 62) ?hd (xs := ([x14_1, (rd t643 x24_2), rd t648 x35_3, rd t655 0] : List Int)) (inner := [.int .i64 x14_1, .int .i64 (rd t643 x24_2), .int .i64 (rd t648 x35_3), .int .i64 (rd t655 0)]) (ok := fun _ => True) (okp := fun _ => True) ?hr ?hp (fun _ hk => hk) trivial (Below.refl _ _) (Nat.le_refl _) (by simp) ?_; (case hd => rfl); (case hg => rfl); (case hr => first | (go_simp; done) | (go_simp; rfl)); (case hp => exact (Reps.one (show Kd.M (Kd.int .i64) _ _ _ x14_1 [.int .i64 x14_1] from rfl) (Reps.one (show Kd.M (Kd.int .i64) _ _ _ (rd t643 x24_2) [.int .i64 (rd t643 x24_2)] from rfl) (Reps.one (show Kd.M (Kd.int .i64) _ _ _ (rd t648 x35_3) [.int .i64 (rd t648 x35_3)] from rfl) (Reps.one (show Kd.M (Kd.int .i64) _ _ _ (rd t655 0) [.int .i64 (rd t655 0)] from rfl) (Reps.none _ _)))))); intro v660 w39 ho40 hb hg_ hnew_; clear hg_ hnew_; (first | rw [← Ny659.out] at ho40 | (simp only [Int.reduceToNat] at ho40; rw [← Ny659.out] at ho40)); have HO661 := Aside0.mk (Kd.R_lower (Kd.R_new' (Kd.R_new' (Kd.R_new' (Kd.R_new' ho40 (Kd.R_lt (Kd.R_g HO_3.out))) (Kd.R_lt (Kd.R_g HO_22.out))) (Kd.R_lt (Kd.R_g HO_33.out))) (Kd.R_lt (Kd.R_g HO657.out))) (below_size (bel_g HB.out))); replace HO_3 := Aside0.mk (Kd.R_elder' (Kd.R_g HO_3.out) (Kd.R_base ho40) hb); replace HO_22 := Aside0.mk (Kd.R_elder' (Kd.R_g HO_22.out) (Kd.R_base ho40) hb); replace HO_33 := Aside0.mk (Kd.R_elder' (Kd.R_g HO_33.out) (Kd.R_base ho40) hb); replace HO657 := Aside0.mk (Kd.R_elder' (Kd.R_g HO657.out) (Kd.R_base ho40) hb); replace BK638 := blkB BK638 hb; replace HB := bst HB hb; clear hb ho40)))
                          go_ret
                          exact ⟨_, eqE, by (with_reducible repeat (first | apply Kd.R_alloc | apply Kd.R_drewN | apply Kd.R_drew)); exact Kd.R_mono HO661.out (fun _ hk => trivial), bel_g HB.out, by first | rfl | (intro _; rfl) | (intro h_; simp at h_; done) | (intro h_; rw [Ny659.out] at h_; simp at h_; done)⟩
                         ·exact absurd H (by simp)
                       ·exact absurd H (by simp)
                      ·exact absurd H (by simp)
                     ·exact absurd H (by simp)
                    ·exact absurd H (by simp)
                   ·exact absurd H (by simp)
                  ·exact absurd H (by simp)
                 ·exact absurd H (by simp)
                ·exact absurd H (by simp)
               ·have H' := Aside0.mk H
                clear H
                go_wp2
                repeat (go_quiet (fail); try go_wp2)
                go_roundg k3
                case measure => have := HK1.out; have := HK2.out; have := HK3.out; omega
                case rel => exact ⟨(wrap64 (x24_2 + 1)), eqS, H', ⟨by have := HK1.out; have := HK2.out; have := HK3.out; omega⟩, ⟨Kd.R_g (Kd.R_mono HO_3.out (fun _ hk => hk.1))⟩, ⟨Kd.R_g (Kd.R_mono HO_22.out (fun _ hk => hk.1))⟩, ⟨blk_g BK638.out⟩, ⟨bel_g HB.out⟩⟩
            ·exact absurd H (by simp)
           ·exact absurd H (by simp)
          ·exact absurd H (by simp)
         ·exact absurd H (by simp)
        ·have H' := Aside0.mk H
         clear H
         go_wp2
         repeat (go_quiet (fail); try go_wp2)
         go_roundg k2
         case measure => have := HK1.out; have := HK2.out; omega
         case rel => exact ⟨(wrap64 (x14_1 + 1)), eqS, H', ⟨by have := HK1.out; have := HK2.out; omega⟩, ⟨Kd.R_g (Kd.R_mono HO_3.out (fun _ hk => trivial))⟩, ⟨blk_g BK638.out⟩, ⟨bel_g HB.out⟩⟩
     ·exact absurd H (by simp)
    ·exact absurd H (by simp)
   ·obtain rfl := Option.some.inj H
    go_wp2
    repeat (go_quiet (fail); try go_wp2)
    go_ret
    exact ⟨_, eqE, by first | exact Kd.R_nil _ _ _ _ _ | exact Kd.N_nil _ _ _ _ _ | exact Kd.V_nil _ _ _ _ _ | exact Kd.Q_nil _ _ _ _ _ | exact Kd.S_nil _ _ _ _ _, bel_g HB.out, by first | rfl | (intro _; rfl) | (intro h_; simp at h_; done)⟩

end Go.Proofs.YteechpappfagpaaDoor.Q
