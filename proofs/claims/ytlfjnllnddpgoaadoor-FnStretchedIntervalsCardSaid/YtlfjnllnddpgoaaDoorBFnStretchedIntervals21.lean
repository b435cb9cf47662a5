import Derived.Test.YtlfjnllnddpgoaaDoorBFnStretchedIntervals8
import Derived.Test.YtlfjnllnddpgoaaDoorBFnStretchedIntervals20
namespace Go.Proofs.YtlfjnllnddpgoaaDoor.Q
open Go.RowKit Go.Proofs.YtlfjnllnddpgoaaDoorW.PrintWords Go.Proofs.YtlfjnllnddpgoaaDoorW.PrintLast Go.Proofs.YtlfjnllnddpgoaaDoorW.PrintMore
attribute [local go_sem] max2_int min2_int max_two min_two max_three min_three max_four min_four neB_f
set_option linter.unusedVariables false
set_option maxHeartbeats 8000000
set_option maxRecDepth 100000
set_option linter.unusedSimpArgs false
mutual
def spec_orGood.l0 : Nat → List Int → Int → Int → Int → List Int → Option (Bool)
 | 0, _, _, _, _, _ => none
 | k + 1, x11, x12, x13, x673000, x673001 => if x13 < x12 then (if 0 ≤ x13 then (if x13 < (x11.length : Int) then ((spec_orHas.f (rd x11 x13) x13).bind fun t675 => (if t675 = true then (some false) else ((spec_orList.f k (rd x11 x13)).bind fun t676 => (spec_orGood.l1 k (rd x11 x13) x11 x12 x13 t676 (t676.length : Int) 0 x673000 x673001)))) else (none)) else (none)) else (some true)
def spec_orGood.l1 : Nat → Int → List Int → Int → Int → List Int → Int → Int → Int → List Int → Option (Bool)
 | 0, _, _, _, _, _, _, _, _, _ => none
 | k + 1, x4, x11, x12, x13, x22, x23, x24, x673000, x673001 => if x24 < x23 then (if 0 ≤ x24 then (if x24 < (x22.length : Int) then (if 0 ≤ (rd x22 x24) then (if (rd x22 x24) < (x673001.length : Int) then (if (Go.bits .andNot .i64 (rd x673001 (rd x22 x24)) x4) = 0 then (spec_orGood.l1 k x4 x11 x12 x13 x22 x23 (wrap64 (x24 + 1)) x673000 x673001) else (some false)) else (none)) else (none)) else (none)) else (none)) else (spec_orGood.l0 k x11 x12 (wrap64 (x13 + 1)) x673000 x673001)
end
def spec_orGood.f (k : Nat) (a0_0 : Int) (l0_1 : List Int) : Option (Bool) := (spec_orRelation.f k a0_0 l0_1).bind fun t673 => (if t673 = true then (spec_orGood.l0 k l0_1 (l0_1.length : Int) 0 a0_0 l0_1) else (some false))
theorem spec_orGood.mono_l : ∀ k, (∀ y0 y1 y2 y3 y4, LeO (spec_orGood.l0 k y0 y1 y2 y3 y4) (spec_orGood.l0 (k + 1) y0 y1 y2 y3 y4)) ∧ (∀ y0 y1 y2 y3 y4 y5 y6 y7 y8, LeO (spec_orGood.l1 k y0 y1 y2 y3 y4 y5 y6 y7 y8) (spec_orGood.l1 (k + 1) y0 y1 y2 y3 y4 y5 y6 y7 y8))
 | 0 => ⟨fun _ _ _ _ _ r h => by simp [spec_orGood.l0] at h, fun _ _ _ _ _ _ _ _ _ r h => by simp [spec_orGood.l1] at h⟩
 | k + 1 => by
  obtain ⟨ih0, ih1⟩ := spec_orGood.mono_l k
  refine ⟨?_, ?_⟩ <;> intros
  unfold spec_orGood.l0
  rotate_left
  unfold spec_orGood.l1
  rotate_left
  all_goals repeat' (with_reducible first|apply ih0|apply ih1|apply spec_orList.mono|apply spec_orRelation.mono|apply LeO.refl|apply LeO.none|apply LeO.ite|apply LeO.bind|intro)
theorem spec_orGood.mono : ∀ a0 a1 k, LeO (spec_orGood.f k a0 a1) (spec_orGood.f (k + 1) a0 a1) := by
 intro a0 a1 k
 obtain ⟨ih0, ih1⟩ := spec_orGood.mono_l k
 unfold spec_orGood.f
 repeat' (with_reducible first|apply ih0|apply ih1|apply spec_orList.mono|apply spec_orRelation.mono|apply LeO.refl|apply LeO.none|apply LeO.ite|apply LeO.bind|intro)
theorem spec_orGood.calls (k : Nat) (a0_0 : Int) (A0_1 : Option Addr) (c0_1 : Nat) (l0_1 : List Int) (r : Bool) (w : World) (hr0_1 : Kd.C (Kd.int .i64) w A0_1 l0_1.length l0_1) (hc0_1 : l0_1.length ≤ c0_1) (h : spec_orGood.f k a0_0 l0_1 = some r) :
  Calls Tryd.prog 48 #[.agg #[.int .i64 a0_0, .slice A0_1 l0_1.length c0_1]] w fun e w' => e = .returned (.bool r) ∧ Below w.heap.size w w' := by
 have hu32 := Tryd.underlying32
 have HR0_1 := mkA hr0_1
 have HC0_1 := mkA hc0_1
 clear hr0_1 hc0_1
 have HB := mkA (Below.refl w.heap.size w)
 have H := h
 clear h
 unfold spec_orGood.f at H
 obtain ⟨t673, A2, H⟩ := obE H
 by_cases c3 : t673 = true
 ·subst c3
  replace H := ifT H
  have H' := mkA H
  clear H
  go_enter Tryd.func48, Tryd.ntmps48
  go_wp2_with (first | ((with_reducible refine gate_dst (N := 1) rfl ?_); refine boxG HB #[.int .i64 a0_0, .slice A0_1 l0_1.length c0_1] 32 ?_; intro gb672 hg w4 BK672 GE672 hb; replace HB := bst HB hb; clear hb hg; obtain ⟨_, _, _, _⟩ := blk2 BK672) | ((with_reducible refine gate_callee (f := 60) rfl ?_); refine goesQ (some 8) Tryd.func60 #[.agg #[.int .i64 a0_0, .slice A0_1 l0_1.length c0_1]] ?_; (with_reducible refine (spec_orRelation.calls k a0_0 _ _ l0_1 true _ ?_ ?_ A2.out).mono ?_); exact C_g HR0_1 HB; exact HC0_1.out; rintro e w6 ⟨rfl, hb⟩; refine ⟨_, rfl, ?_⟩; replace BK672 := blkB BK672 hb; replace HB := bst HB hb; clear hb; obtain ⟨_, _, _, _⟩ := blk2 BK672))
  go_loopg [13] k (fun kq v13 w' => ∃ (x13_1 : Int), v13 = .int .i64 x13_1 ∧ Fc (spec_orGood.l0 kq l0_1 (l0_1.length : Int) x13_1 a0_0 l0_1 = some r) ∧ Fc (kq ≤ k) ∧ Fc (w'.heap[gb672]? = some (.cells #[.int .i64 a0_0, (.slice A0_1 l0_1.length c0_1)] 32 (0, 0))) ∧ Fc (Below w.heap.size w w'))
  case atStart => exact ⟨(0), eqS, H', ⟨Nat.le_refl _⟩, bg BK672, hbg HB⟩
  case round =>
   clear H'
   try clear c3
   obtain ⟨x13_1, rfl, HA, HK1, BK672, HB⟩ := hrel
   cases gk with
   | zero => exact absurd HA.out (by simp [spec_orGood.l0])
   | succ k1 =>
    have H := HA.out
    clear HA
    simp only [spec_orGood.l0] at H
    rcases iteE H with ⟨c8b0, H⟩ | ⟨c8b0, H⟩
    ·obtain ⟨c9b0, H⟩ := itND H
     obtain ⟨c10b0, H⟩ := itND H
     obtain ⟨t675, A11, H⟩ := obE H
     by_cases c12 : t675 = true
     ·subst c12
      replace H := ifT H
      obtain rfl := Option.some.inj H
      obtain ⟨p674, q674, ad674, e674, hx674_0⟩ := atI HR0_1.out x13_1
      cases e674
      replace hx674_0 := (HB.out.cell (World.block_lt_of_cell? w _ hx674_0)).trans hx674_0
      go_wp2_with (first | ((with_reducible refine gate_callee (f := 51) rfl ?_); refine goesQ (some 20) Tryd.func51 #[.int .i64 (rd l0_1 x13_1), .int .i64 x13_1] ?_; (with_reducible refine (spec_orHas.calls (rd l0_1 x13_1) x13_1 true _ A11.out).mono ?_); rintro e w' ⟨rfl, ⟨nd, rfl⟩⟩; refine ⟨_, rfl, ?_⟩))
      go_ret
      exact ⟨eqE, bel_g HB.out⟩
     ·replace c12 := Bool.eq_false_iff.mpr c12
      subst c12
      replace H := ifF H
      obtain ⟨t676, A13, H⟩ := obE H
      have H' := mkA H
      clear H
      obtain ⟨p674, q674, ad674, e674, hx674_0⟩ := atI HR0_1.out x13_1
      cases e674
      replace hx674_0 := (HB.out.cell (World.block_lt_of_cell? w _ hx674_0)).trans hx674_0
      go_wp2_with (first | ((with_reducible refine gate_callee (f := 51) rfl ?_); refine goesQ (some 20) Tryd.func51 #[.int .i64 (rd l0_1 x13_1), .int .i64 x13_1] ?_; (with_reducible refine (spec_orHas.calls (rd l0_1 x13_1) x13_1 false _ A11.out).mono ?_); rintro e w' ⟨rfl, ⟨nd, rfl⟩⟩; refine ⟨_, rfl, ?_⟩) | ((with_reducible refine gate_callee (f := 61) rfl ?_); refine goesQ (some 22) Tryd.func61 #[.int .i64 (rd l0_1 x13_1)] ?_; (with_reducible refine (spec_orList.calls k1 (rd l0_1 x13_1) t676 _ A13.out).mono ?_); rintro e w14 ⟨v677, rfl, ho0, hb⟩; refine ⟨_, rfl, ?_⟩; have HO678 := rLo ho0 HB; replace BK672 := blkB BK672 hb; replace HB := bst HB hb; clear hb ho0; obtain ⟨Ao15, co15, rfl⟩ := Kd.R_slice HO678.out))
      go_loopg [24] k1 (fun kq v24 w' => ∃ (x24_2 : Int), v24 = .int .i64 x24_2 ∧ Fc (spec_orGood.l1 kq (rd l0_1 x13_1) l0_1 (l0_1.length : Int) x13_1 t676 (t676.length : Int) x24_2 a0_0 l0_1 = some r) ∧ Fc (kq ≤ k1) ∧ Fc (Kd.R (Kd.int .i64) 3 w' w.heap.size (fun _ => True) (.slice Ao15 t676.length co15) t676) ∧ Fc (w'.heap[gb672]? = some (.cells #[.int .i64 a0_0, (.slice (some ad674) l0_1.length c0_1)] 32 (0, 0))) ∧ Fc (Below w.heap.size w w'))
      case atStart => exact ⟨(0), eqS, H', ⟨Nat.le_refl _⟩, rg HO678, bg BK672, hbg HB⟩
      case round =>
       clear H'
       try clear c3
       try clear c8b0
       try clear c9
       try clear c9b0
       try clear c10
       try clear c10b0
       try clear c12
       try clear hx674_0
       try clear p674
       try clear q674
       obtain ⟨x24_2, rfl, HA, HK2, HO_22, BK672, HB⟩ := hrel
       cases gk with
       | zero => exact absurd HA.out (by simp [spec_orGood.l1])
       | succ k2 =>
        have H := HA.out
        clear HA
        simp only [spec_orGood.l1] at H
        rcases iteE H with ⟨c16b0, H⟩ | ⟨c16b0, H⟩
        ·obtain ⟨c17b0, H⟩ := itND H
         obtain ⟨c18b0, H⟩ := itND H
         obtain ⟨c19b0, H⟩ := itND H
         obtain ⟨c20b0, H⟩ := itND H
         rcases iteP H with ⟨c21, H⟩ | ⟨c21, H⟩
         ·have c21b0 := beq_iff_eq.mpr c21
          have c21b1 := bne_eq_false_iff_eq.mpr c21
          clear c21
          have H' := mkA H
          clear H
          obtain ⟨p679, q679, ad679, e679, hx679_0⟩ := atI (Kd.R_reads' HO_22.out).2.2 x24_2
          cases e679
          obtain ⟨_, _, _, _⟩ := blk2 BK672
          obtain ⟨p680, q680, ad680, e680, hx680_0⟩ := atI HR0_1.out (rd t676 x24_2)
          obtain rfl : ad674 = ad680 := (by injection e680)
          replace hx680_0 := (HB.out.cell (World.block_lt_of_cell? w _ hx680_0)).trans hx680_0
          go_wp2
          go_roundg k2
          case measure => have := HK1.out; have := HK2.out; omega
          case rel => exact ⟨(wrap64 (x24_2 + 1)), eqS, H', ⟨by have := HK1.out; have := HK2.out; omega⟩, rg HO_22, bg BK672, hbg HB⟩
         ·have c21b0 := beq_eq_false_iff_ne.mpr c21
          have c21b1 := bne_iff_ne.mpr c21
          obtain rfl := Option.some.inj H
          obtain ⟨p679, q679, ad679, e679, hx679_0⟩ := atI (Kd.R_reads' HO_22.out).2.2 x24_2
          cases e679
          obtain ⟨_, _, _, _⟩ := blk2 BK672
          obtain ⟨p680, q680, ad680, e680, hx680_0⟩ := atI HR0_1.out (rd t676 x24_2)
          obtain rfl : ad674 = ad680 := (by injection e680)
          replace hx680_0 := (HB.out.cell (World.block_lt_of_cell? w _ hx680_0)).trans hx680_0
          go_wp2
          go_ret
          exact ⟨eqE, bel_g HB.out⟩
        ·have H' := mkA H
         clear H
         go_wp2
         go_roundg k2
         case measure => have := HK1.out; have := HK2.out; omega
         case rel => exact ⟨(wrap64 (x13_1 + 1)), eqS, H', ⟨by have := HK1.out; have := HK2.out; omega⟩, bg BK672, hbg HB⟩
    ·obtain rfl := Option.some.inj H
     go_wp2
     go_ret
     exact ⟨eqE, bel_g HB.out⟩
 ·replace c3 := Bool.eq_false_iff.mpr c3
  subst c3
  replace H := ifF H
  obtain rfl := Option.some.inj H
  go_enter Tryd.func48, Tryd.ntmps48
  go_wp2_with (first | ((with_reducible refine gate_dst (N := 1) rfl ?_); refine boxG HB #[.int .i64 a0_0, .slice A0_1 l0_1.length c0_1] 32 ?_; intro gb672 hg w24 BK672 GE672 hb; replace HB := bst HB hb; clear hb hg; obtain ⟨_, _, _, _⟩ := blk2 BK672) | ((with_reducible refine gate_callee (f := 60) rfl ?_); refine goesQ (some 8) Tryd.func60 #[.agg #[.int .i64 a0_0, .slice A0_1 l0_1.length c0_1]] ?_; (with_reducible refine (spec_orRelation.calls k a0_0 _ _ l0_1 false _ ?_ ?_ A2.out).mono ?_); exact C_g HR0_1 HB; exact HC0_1.out; rintro e w26 ⟨rfl, hb⟩; refine ⟨_, rfl, ?_⟩; replace BK672 := blkB BK672 hb; replace HB := bst HB hb; clear hb))
  go_ret
  exact ⟨eqE, bel_g HB.out⟩
def spec_ivRefuses.f (a0_0 : Int) (l0_1 : List Int) (a1 : Int) (a2 : Int) (a3 : Int) (a4 : Int) : Option (Bool) := if 0 ≤ a1 then (if a1 < (l0_1.length : Int) then ((spec_orHas.f (rd l0_1 a1) a2).bind fun t683 => (if t683 = true then (if 0 ≤ a3 then (if a3 < (l0_1.length : Int) then ((spec_orHas.f (rd l0_1 a3) a4).bind fun t685 => (if t685 = true then ((spec_orHas.f (rd l0_1 a3) a2).bind fun t687 => (if t687 = true then (some false) else ((spec_orHas.f (rd l0_1 a1) a4).bind fun t689 => (some (!t689))))) else (some false))) else (none)) else (none)) else (some false))) else (none)) else (none)
theorem spec_ivRefuses.calls (a0_0 : Int) (A0_1 : Option Addr) (c0_1 : Nat) (l0_1 : List Int) (a1 : Int) (a2 : Int) (a3 : Int) (a4 : Int) (r : Bool) (w : World) (hr0_1 : Kd.C (Kd.int .i64) w A0_1 l0_1.length l0_1) (hc0_1 : l0_1.length ≤ c0_1) (h : spec_ivRefuses.f a0_0 l0_1 a1 a2 a3 a4 = some r) :
  Calls Tryd.prog 72 #[.agg #[.int .i64 a0_0, .slice A0_1 l0_1.length c0_1], .int .i64 a1, .int .i64 a2, .int .i64 a3, .int .i64 a4] w fun e w' => e = .returned (.bool r) ∧ Below w.heap.size w w' := by
 have hu32 := Tryd.underlying32
 have HR0_1 := mkA hr0_1
 have HC0_1 := mkA hc0_1
 clear hr0_1 hc0_1
 have HB := mkA (Below.refl w.heap.size w)
 have H := h
 clear h
 unfold spec_ivRefuses.f at H
 obtain ⟨c6b0, H⟩ := itND H
 obtain ⟨c7b0, H⟩ := itND H
 obtain ⟨t683, A8, H⟩ := obE H
 by_cases c9 : t683 = true
 ·subst c9
  replace H := ifT H
  obtain ⟨c10b0, H⟩ := itND H
  obtain ⟨c11b0, H⟩ := itND H
  obtain ⟨t685, A12, H⟩ := obE H
  by_cases c13 : t685 = true
  ·subst c13
   replace H := ifT H
   obtain ⟨t687, A14, H⟩ := obE H
   by_cases c15 : t687 = true
   ·subst c15
    replace H := ifT H
    obtain rfl := Option.some.inj H
    go_enter Tryd.func72, Tryd.ntmps72
    go_wp2_with (first | ((with_reducible refine gate_dst (N := 5) rfl ?_); refine boxG HB #[.int .i64 a0_0, .slice A0_1 l0_1.length c0_1] 32 ?_; intro gb681 hg w16 BK681 GE681 hb; replace HB := bst HB hb; clear hb hg; obtain ⟨_, _, _, _⟩ := blk2 BK681; have p682 : 0 ≤ (a1 : Int) := ofd; have q682 : a1 < (l0_1.length : Int) := ofd; obtain ⟨ad682, e682, hx682_0⟩ := Kd.at_int HR0_1.out a1 p682 q682; cases e682; replace hx682_0 := (HB.out.cell (World.block_lt_of_cell? w _ hx682_0)).trans hx682_0; replace p682 := eq_true p682; replace q682 := eq_true q682) | ((with_reducible refine gate_callee (f := 51) rfl ?_); refine goesQ (some 17) Tryd.func51 #[.int .i64 (rd l0_1 a1), .int .i64 a2] ?_; (with_reducible refine (spec_orHas.calls (rd l0_1 a1) a2 true _ A8.out).mono ?_); rintro e w' ⟨rfl, ⟨nd, rfl⟩⟩; refine ⟨_, rfl, ?_⟩; have p684 : 0 ≤ (a3 : Int) := ofd; have q684 : a3 < (l0_1.length : Int) := ofd; obtain ⟨ad684, e684, hx684_0⟩ := Kd.at_int HR0_1.out a3 p684 q684; obtain rfl : ad682 = ad684 := (by injection e684); replace hx684_0 := (HB.out.cell (World.block_lt_of_cell? w _ hx684_0)).trans hx684_0; replace p684 := eq_true p684; replace q684 := eq_true q684) | (go_at_call 51; (with_reducible refine (spec_orHas.calls (rd l0_1 a3) a4 true _ A12.out).mono ?_); rintro e w' ⟨rfl, ⟨nd, rfl⟩⟩; have p686 : 0 ≤ (a3 : Int) := ofd; have q686 : a3 < (l0_1.length : Int) := ofd; obtain ⟨ad686, e686, hx686_0⟩ := Kd.at_int HR0_1.out a3 p686 q686; obtain rfl : ad682 = ad686 := (by injection e686); replace hx686_0 := (HB.out.cell (World.block_lt_of_cell? w _ hx686_0)).trans hx686_0; replace p686 := eq_true p686; replace q686 := eq_true q686) | (go_at_call 51; (with_reducible refine (spec_orHas.calls (rd l0_1 a3) a2 true _ A14.out).mono ?_); rintro e w' ⟨rfl, ⟨nd, rfl⟩⟩))
    go_ret
    exact ⟨eqE, bel_g HB.out⟩
   ·replace c15 := Bool.eq_false_iff.mpr c15
    subst c15
    replace H := ifF H
    obtain ⟨t689, A18, H⟩ := obE H
    obtain rfl := Option.some.inj H
    go_enter Tryd.func72, Tryd.ntmps72
    go_wp2_with (first | ((with_reducible refine gate_dst (N := 5) rfl ?_); refine boxG HB #[.int .i64 a0_0, .slice A0_1 l0_1.length c0_1] 32 ?_; intro gb681 hg w19 BK681 GE681 hb; replace HB := bst HB hb; clear hb hg; obtain ⟨_, _, _, _⟩ := blk2 BK681; have p682 : 0 ≤ (a1 : Int) := ofd; have q682 : a1 < (l0_1.length : Int) := ofd; obtain ⟨ad682, e682, hx682_0⟩ := Kd.at_int HR0_1.out a1 p682 q682; cases e682; replace hx682_0 := (HB.out.cell (World.block_lt_of_cell? w _ hx682_0)).trans hx682_0; replace p682 := eq_true p682; replace q682 := eq_true q682) | ((with_reducible refine gate_callee (f := 51) rfl ?_); refine goesQ (some 17) Tryd.func51 #[.int .i64 (rd l0_1 a1), .int .i64 a2] ?_; (with_reducible refine (spec_orHas.calls (rd l0_1 a1) a2 true _ A8.out).mono ?_); rintro e w' ⟨rfl, ⟨nd, rfl⟩⟩; refine ⟨_, rfl, ?_⟩; have p684 : 0 ≤ (a3 : Int) := ofd; have q684 : a3 < (l0_1.length : Int) := ofd; obtain ⟨ad684, e684, hx684_0⟩ := Kd.at_int HR0_1.out a3 p684 q684; obtain rfl : ad682 = ad684 := (by injection e684); replace hx684_0 := (HB.out.cell (World.block_lt_of_cell? w _ hx684_0)).trans hx684_0; replace p684 := eq_true p684; replace q684 := eq_true q684) | (go_at_call 51; (with_reducible refine (spec_orHas.calls (rd l0_1 a3) a4 true _ A12.out).mono ?_); rintro e w' ⟨rfl, ⟨nd, rfl⟩⟩; have p686 : 0 ≤ (a3 : Int) := ofd; have q686 : a3 < (l0_1.length : Int) := ofd; obtain ⟨ad686, e686, hx686_0⟩ := Kd.at_int HR0_1.out a3 p686 q686; obtain rfl : ad682 = ad686 := (by injection e686); replace hx686_0 := (HB.out.cell (World.block_lt_of_cell? w _ hx686_0)).trans hx686_0; replace p686 := eq_true p686; replace q686 := eq_true q686) | (go_at_call 51; (with_reducible refine (spec_orHas.calls (rd l0_1 a3) a2 false _ A14.out).mono ?_); rintro e w' ⟨rfl, ⟨nd, rfl⟩⟩; have p688 : 0 ≤ (a1 : Int) := ofd; have q688 : a1 < (l0_1.length : Int) := ofd; obtain ⟨ad688, e688, hx688_0⟩ := Kd.at_int HR0_1.out a1 p688 q688; obtain rfl : ad682 = ad688 := (by injection e688); replace hx688_0 := (HB.out.cell (World.block_lt_of_cell? w _ hx688_0)).trans hx688_0; replace p688 := eq_true p688; replace q688 := eq_true q688) | (go_at_call 51; (with_reducible refine (spec_orHas.calls (rd l0_1 a1) a4 t689 _ A18.out).mono ?_); rintro e w' ⟨rfl, ⟨nd, rfl⟩⟩))
    go_ret
    exact ⟨eqE, bel_g HB.out⟩
  ·replace c13 := Bool.eq_false_iff.mpr c13
   subst c13
   replace H := ifF H
   obtain rfl := Option.some.inj H
   go_enter Tryd.func72, Tryd.ntmps72
   go_wp2_with (first | ((with_reducible refine gate_dst (N := 5) rfl ?_); refine boxG HB #[.int .i64 a0_0, .slice A0_1 l0_1.length c0_1] 32 ?_; intro gb681 hg w21 BK681 GE681 hb; replace HB := bst HB hb; clear hb hg; obtain ⟨_, _, _, _⟩ := blk2 BK681; have p682 : 0 ≤ (a1 : Int) := ofd; have q682 : a1 < (l0_1.length : Int) := ofd; obtain ⟨ad682, e682, hx682_0⟩ := Kd.at_int HR0_1.out a1 p682 q682; cases e682; replace hx682_0 := (HB.out.cell (World.block_lt_of_cell? w _ hx682_0)).trans hx682_0; replace p682 := eq_true p682; replace q682 := eq_true q682) | ((with_reducible refine gate_callee (f := 51) rfl ?_); refine goesQ (some 17) Tryd.func51 #[.int .i64 (rd l0_1 a1), .int .i64 a2] ?_; (with_reducible refine (spec_orHas.calls (rd l0_1 a1) a2 true _ A8.out).mono ?_); rintro e w' ⟨rfl, ⟨nd, rfl⟩⟩; refine ⟨_, rfl, ?_⟩; have p684 : 0 ≤ (a3 : Int) := ofd; have q684 : a3 < (l0_1.length : Int) := ofd; obtain ⟨ad684, e684, hx684_0⟩ := Kd.at_int HR0_1.out a3 p684 q684; obtain rfl : ad682 = ad684 := (by injection e684); replace hx684_0 := (HB.out.cell (World.block_lt_of_cell? w _ hx684_0)).trans hx684_0; replace p684 := eq_true p684; replace q684 := eq_true q684) | (go_at_call 51; (with_reducible refine (spec_orHas.calls (rd l0_1 a3) a4 false _ A12.out).mono ?_); rintro e w' ⟨rfl, ⟨nd, rfl⟩⟩))
   go_ret
   exact ⟨eqE, bel_g HB.out⟩
 ·replace c9 := Bool.eq_false_iff.mpr c9
  subst c9
  replace H := ifF H
  obtain rfl := Option.some.inj H
  go_enter Tryd.func72, Tryd.ntmps72
  go_wp2_with (first | ((with_reducible refine gate_dst (N := 5) rfl ?_); refine boxG HB #[.int .i64 a0_0, .slice A0_1 l0_1.length c0_1] 32 ?_; intro gb681 hg w23 BK681 GE681 hb; replace HB := bst HB hb; clear hb hg; obtain ⟨_, _, _, _⟩ := blk2 BK681; have p682 : 0 ≤ (a1 : Int) := ofd; have q682 : a1 < (l0_1.length : Int) := ofd; obtain ⟨ad682, e682, hx682_0⟩ := Kd.at_int HR0_1.out a1 p682 q682; cases e682; replace hx682_0 := (HB.out.cell (World.block_lt_of_cell? w _ hx682_0)).trans hx682_0; replace p682 := eq_true p682; replace q682 := eq_true q682) | ((with_reducible refine gate_callee (f := 51) rfl ?_); refine goesQ (some 17) Tryd.func51 #[.int .i64 (rd l0_1 a1), .int .i64 a2] ?_; (with_reducible refine (spec_orHas.calls (rd l0_1 a1) a2 false _ A8.out).mono ?_); rintro e w' ⟨rfl, ⟨nd, rfl⟩⟩; refine ⟨_, rfl, ?_⟩))
  go_ret
  exact ⟨eqE, bel_g HB.out⟩
end Go.Proofs.YtlfjnllnddpgoaaDoor.Q
