import Derived.Test.YtgbdjchdfcodcaaGreatDoorBFnWeakOrders16
namespace Go.Proofs.YtgbdjchdfcodcaaGreatDoor.Q
open Go.RowKit Go.Proofs.YtgbdjchdfcodcaaGreatDoorW.PrintWords Go.Proofs.YtgbdjchdfcodcaaGreatDoorW.PrintLast Go.Proofs.YtgbdjchdfcodcaaGreatDoorW.PrintMore
attribute [local go_sem] max2_int min2_int max_two min_two max_three min_three max_four min_four neB_f
set_option linter.unusedVariables false
set_option maxHeartbeats 8000000
set_option maxRecDepth 100000
set_option linter.unusedSimpArgs false
mutual
def spec_orGood.l0 : Nat → List Int → Int → Int → Int → List Int → Option (Bool)
 | 0, _, _, _, _, _ => none
 | k + 1, x11, x12, x13, x585000, x585001 => if x13 < x12 then (if 0 ≤ x13 then (if x13 < (x11.length : Int) then ((spec_orHas.f (rd x11 x13) x13).bind fun t587 => (if t587 = true then (some false) else ((spec_orList.f k (rd x11 x13)).bind fun t588 => (spec_orGood.l1 k (rd x11 x13) x11 x12 x13 t588 (t588.length : Int) 0 x585000 x585001)))) else (none)) else (none)) else (some true)
def spec_orGood.l1 : Nat → Int → List Int → Int → Int → List Int → Int → Int → Int → List Int → Option (Bool)
 | 0, _, _, _, _, _, _, _, _, _ => none
 | k + 1, x4, x11, x12, x13, x22, x23, x24, x585000, x585001 => if x24 < x23 then (if 0 ≤ x24 then (if x24 < (x22.length : Int) then (if 0 ≤ (rd x22 x24) then (if (rd x22 x24) < (x585001.length : Int) then (if (Go.bits .andNot .i64 (rd x585001 (rd x22 x24)) x4) = 0 then (spec_orGood.l1 k x4 x11 x12 x13 x22 x23 (wrap64 (x24 + 1)) x585000 x585001) else (some false)) else (none)) else (none)) else (none)) else (none)) else (spec_orGood.l0 k x11 x12 (wrap64 (x13 + 1)) x585000 x585001)
end
def spec_orGood.f (k : Nat) (a0_0 : Int) (l0_1 : List Int) : Option (Bool) := (spec_orRelation.f k a0_0 l0_1).bind fun t585 => (if t585 = true then (spec_orGood.l0 k l0_1 (l0_1.length : Int) 0 a0_0 l0_1) else (some false))
theorem spec_orGood.mono_l : ∀ k, (∀ y0 y1 y2 y3 y4, LeO (spec_orGood.l0 k y0 y1 y2 y3 y4) (spec_orGood.l0 (k + 1) y0 y1 y2 y3 y4)) ∧ (∀ y0 y1 y2 y3 y4 y5 y6 y7 y8, LeO (spec_orGood.l1 k y0 y1 y2 y3 y4 y5 y6 y7 y8) (spec_orGood.l1 (k + 1) y0 y1 y2 y3 y4 y5 y6 y7 y8))
 | 0 => ⟨fun _ _ _ _ _ r h => by simp [spec_orGood.l0] at h, fun _ _ _ _ _ _ _ _ _ r h => by simp [spec_orGood.l1] at h⟩
 | k + 1 => by
  obtain ⟨ih0, ih1⟩ := spec_orGood.mono_l k
  refine ⟨?_, ?_⟩ <;> intros
  unfold spec_orGood.l0
  rotate_left
  unfold spec_orGood.l1
  rotate_left
  all_goals repeat' (with_reducible first|apply ih0|apply ih1|apply spec_orList.mono|apply spec_orRelation.mono|apply LeO.refl|apply LeO.none|apply LeO.ite|apply LeO.bind|intro)
theorem spec_orGood.mono : ∀ a0 a1 k, LeO (spec_orGood.f k a0 a1) (spec_orGood.f (k + 1) a0 a1) := by
 intro a0 a1 k
 obtain ⟨ih0, ih1⟩ := spec_orGood.mono_l k
 unfold spec_orGood.f
 repeat' (with_reducible first|apply ih0|apply ih1|apply spec_orList.mono|apply spec_orRelation.mono|apply LeO.refl|apply LeO.none|apply LeO.ite|apply LeO.bind|intro)
theorem spec_orGood.calls (k : Nat) (a0_0 : Int) (A0_1 : Option Addr) (c0_1 : Nat) (l0_1 : List Int) (r : Bool) (w : World) (hr0_1 : Kd.C (Kd.int .i64) w A0_1 l0_1.length l0_1) (hc0_1 : l0_1.length ≤ c0_1) (h : spec_orGood.f k a0_0 l0_1 = some r) :
  Calls Tryz.prog 27 #[.agg #[.int .i64 a0_0, .slice A0_1 l0_1.length c0_1]] w fun e w' => e = .returned (.bool r) ∧ Below w.heap.size w w' := by
 have hu26 := Tryz.underlying26
 have HR0_1 := mkA hr0_1
 have HC0_1 := mkA hc0_1
 clear hr0_1 hc0_1
 have HB := mkA (Below.refl w.heap.size w)
 have H := h
 clear h
 unfold spec_orGood.f at H
 obtain ⟨t585, A2, H⟩ := obE H
 by_cases c3 : t585 = true
 ·subst c3
  replace H := ifT H
  have H' := mkA H
  clear H
  go_enter Tryz.func27, Tryz.ntmps27
  go_wp2_with (first | ((with_reducible refine gate_dst (N := 1) rfl ?_); refine boxG HB #[.int .i64 a0_0, .slice A0_1 l0_1.length c0_1] 26 ?_; intro gb584 hg w4 BK584 GE584 hb; replace HB := bst HB hb; clear hb hg; obtain ⟨_, _, _, _⟩ := blk2 BK584) | ((with_reducible refine gate_callee (f := 50) rfl ?_); refine goesQ (some 8) Tryz.func50 #[.agg #[.int .i64 a0_0, .slice A0_1 l0_1.length c0_1]] ?_; (with_reducible refine (spec_orRelation.calls k a0_0 _ _ l0_1 true _ ?_ ?_ A2.out).mono ?_); exact C_g HR0_1 HB; exact HC0_1.out; rintro e w6 ⟨rfl, hb⟩; refine ⟨_, rfl, ?_⟩; replace BK584 := blkB BK584 hb; replace HB := bst HB hb; clear hb; obtain ⟨_, _, _, _⟩ := blk2 BK584))
  go_loopg [13] k (fun kq v13 w' => ∃ (x13_1 : Int), v13 = .int .i64 x13_1 ∧ Fc (spec_orGood.l0 kq l0_1 (l0_1.length : Int) x13_1 a0_0 l0_1 = some r) ∧ Fc (kq ≤ k) ∧ Fc (w'.heap[gb584]? = some (.cells #[.int .i64 a0_0, (.slice A0_1 l0_1.length c0_1)] 26 (0, 0))) ∧ Fc (Below w.heap.size w w'))
  case atStart => exact ⟨(0), eqS, H', ⟨Nat.le_refl _⟩, bg BK584, hbg HB⟩
  case round =>
   clear H'
   try clear c3
   obtain ⟨x13_1, rfl, HA, HK1, BK584, HB⟩ := hrel
   cases gk with
   | zero => exact absurd HA.out (by simp [spec_orGood.l0])
   | succ k1 =>
    have H := HA.out
    clear HA
    simp only [spec_orGood.l0] at H
    rcases iteE H with ⟨c8b0, H⟩ | ⟨c8b0, H⟩
    ·obtain ⟨c9b0, H⟩ := itND H
     obtain ⟨c10b0, H⟩ := itND H
     obtain ⟨t587, A11, H⟩ := obE H
     by_cases c12 : t587 = true
     ·subst c12
      replace H := ifT H
      obtain rfl := Option.some.inj H
      obtain ⟨p586, q586, ad586, e586, hx586_0⟩ := atI HR0_1.out x13_1
      cases e586
      replace hx586_0 := (HB.out.cell (World.block_lt_of_cell? w _ hx586_0)).trans hx586_0
      go_wp2_with (first | ((with_reducible refine gate_callee (f := 51) rfl ?_); refine goesQ (some 20) Tryz.func51 #[.int .i64 (rd l0_1 x13_1), .int .i64 x13_1] ?_; (with_reducible refine (spec_orHas.calls (rd l0_1 x13_1) x13_1 true _ A11.out).mono ?_); rintro e w' ⟨rfl, ⟨nd, rfl⟩⟩; refine ⟨_, rfl, ?_⟩))
      go_ret
      exact ⟨eqE, bel_g HB.out⟩
     ·replace c12 := Bool.eq_false_iff.mpr c12
      subst c12
      replace H := ifF H
      obtain ⟨t588, A13, H⟩ := obE H
      have H' := mkA H
      clear H
      obtain ⟨p586, q586, ad586, e586, hx586_0⟩ := atI HR0_1.out x13_1
      cases e586
      replace hx586_0 := (HB.out.cell (World.block_lt_of_cell? w _ hx586_0)).trans hx586_0
      go_wp2_with (first | ((with_reducible refine gate_callee (f := 51) rfl ?_); refine goesQ (some 20) Tryz.func51 #[.int .i64 (rd l0_1 x13_1), .int .i64 x13_1] ?_; (with_reducible refine (spec_orHas.calls (rd l0_1 x13_1) x13_1 false _ A11.out).mono ?_); rintro e w' ⟨rfl, ⟨nd, rfl⟩⟩; refine ⟨_, rfl, ?_⟩) | ((with_reducible refine gate_callee (f := 28) rfl ?_); refine goesQ (some 22) Tryz.func28 #[.int .i64 (rd l0_1 x13_1)] ?_; (with_reducible refine (spec_orList.calls k1 (rd l0_1 x13_1) t588 _ A13.out).mono ?_); rintro e w14 ⟨v589, rfl, ho0, hb⟩; refine ⟨_, rfl, ?_⟩; have HO590 := rLo ho0 HB; replace BK584 := blkB BK584 hb; replace HB := bst HB hb; clear hb ho0; obtain ⟨Ao15, co15, rfl⟩ := Kd.R_slice HO590.out))
      go_loopg [24] k1 (fun kq v24 w' => ∃ (x24_2 : Int), v24 = .int .i64 x24_2 ∧ Fc (spec_orGood.l1 kq (rd l0_1 x13_1) l0_1 (l0_1.length : Int) x13_1 t588 (t588.length : Int) x24_2 a0_0 l0_1 = some r) ∧ Fc (kq ≤ k1) ∧ Fc (Kd.R (Kd.int .i64) 3 w' w.heap.size (fun _ => True) (.slice Ao15 t588.length co15) t588) ∧ Fc (w'.heap[gb584]? = some (.cells #[.int .i64 a0_0, (.slice (some ad586) l0_1.length c0_1)] 26 (0, 0))) ∧ Fc (Below w.heap.size w w'))
      case atStart => exact ⟨(0), eqS, H', ⟨Nat.le_refl _⟩, rg HO590, bg BK584, hbg HB⟩
      case round =>
       clear H'
       try clear c3
       try clear c8b0
       try clear c9
       try clear c9b0
       try clear c10
       try clear c10b0
       try clear c12
       try clear hx586_0
       try clear p586
       try clear q586
       obtain ⟨x24_2, rfl, HA, HK2, HO_22, BK584, HB⟩ := hrel
       cases gk with
       | zero => exact absurd HA.out (by simp [spec_orGood.l1])
       | succ k2 =>
        have H := HA.out
        clear HA
        simp only [spec_orGood.l1] at H
        rcases iteE H with ⟨c16b0, H⟩ | ⟨c16b0, H⟩
        ·obtain ⟨c17b0, H⟩ := itND H
         obtain ⟨c18b0, H⟩ := itND H
         obtain ⟨c19b0, H⟩ := itND H
         obtain ⟨c20b0, H⟩ := itND H
         rcases iteP H with ⟨c21, H⟩ | ⟨c21, H⟩
         ·have c21b0 := beq_iff_eq.mpr c21
          have c21b1 := bne_eq_false_iff_eq.mpr c21
          clear c21
          have H' := mkA H
          clear H
          obtain ⟨p591, q591, ad591, e591, hx591_0⟩ := atI (Kd.R_reads' HO_22.out).2.2 x24_2
          cases e591
          obtain ⟨_, _, _, _⟩ := blk2 BK584
          obtain ⟨p592, q592, ad592, e592, hx592_0⟩ := atI HR0_1.out (rd t588 x24_2)
          obtain rfl : ad586 = ad592 := (by injection e592)
          replace hx592_0 := (HB.out.cell (World.block_lt_of_cell? w _ hx592_0)).trans hx592_0
          go_wp2
          go_roundg k2
          case measure => have := HK1.out; have := HK2.out; omega
          case rel => exact ⟨(wrap64 (x24_2 + 1)), eqS, H', ⟨by have := HK1.out; have := HK2.out; omega⟩, rg HO_22, bg BK584, hbg HB⟩
         ·have c21b0 := beq_eq_false_iff_ne.mpr c21
          have c21b1 := bne_iff_ne.mpr c21
          obtain rfl := Option.some.inj H
          obtain ⟨p591, q591, ad591, e591, hx591_0⟩ := atI (Kd.R_reads' HO_22.out).2.2 x24_2
          cases e591
          obtain ⟨_, _, _, _⟩ := blk2 BK584
          obtain ⟨p592, q592, ad592, e592, hx592_0⟩ := atI HR0_1.out (rd t588 x24_2)
          obtain rfl : ad586 = ad592 := (by injection e592)
          replace hx592_0 := (HB.out.cell (World.block_lt_of_cell? w _ hx592_0)).trans hx592_0
          go_wp2
          go_ret
          exact ⟨eqE, bel_g HB.out⟩
        ·have H' := mkA H
         clear H
         go_wp2
         go_roundg k2
         case measure => have := HK1.out; have := HK2.out; omega
         case rel => exact ⟨(wrap64 (x13_1 + 1)), eqS, H', ⟨by have := HK1.out; have := HK2.out; omega⟩, bg BK584, hbg HB⟩
    ·obtain rfl := Option.some.inj H
     go_wp2
     go_ret
     exact ⟨eqE, bel_g HB.out⟩
 ·replace c3 := Bool.eq_false_iff.mpr c3
  subst c3
  replace H := ifF H
  obtain rfl := Option.some.inj H
  go_enter Tryz.func27, Tryz.ntmps27
  go_wp2_with (first | ((with_reducible refine gate_dst (N := 1) rfl ?_); refine boxG HB #[.int .i64 a0_0, .slice A0_1 l0_1.length c0_1] 26 ?_; intro gb584 hg w24 BK584 GE584 hb; replace HB := bst HB hb; clear hb hg; obtain ⟨_, _, _, _⟩ := blk2 BK584) | ((with_reducible refine gate_callee (f := 50) rfl ?_); refine goesQ (some 8) Tryz.func50 #[.agg #[.int .i64 a0_0, .slice A0_1 l0_1.length c0_1]] ?_; (with_reducible refine (spec_orRelation.calls k a0_0 _ _ l0_1 false _ ?_ ?_ A2.out).mono ?_); exact C_g HR0_1 HB; exact HC0_1.out; rintro e w26 ⟨rfl, hb⟩; refine ⟨_, rfl, ?_⟩; replace BK584 := blkB BK584 hb; replace HB := bst HB hb; clear hb))
  go_ret
  exact ⟨eqE, bel_g HB.out⟩
def spec_orBelow.l0 : Nat → Int → Int → List Int → Int → Int → Option (Int)
 | 0, _, _, _, _, _ => none
 | k + 1, x1, x5, x9, x10, x11 => if x11 < x10 then (if 0 ≤ x11 then (if x11 < (x9.length : Int) then ((spec_orHas.f (rd x9 x11) x1).bind fun t595 => (if t595 = true then (spec_orBelow.l0 k x1 (Go.bits .or .i64 x5 (shl .i64 1 x11)) x9 x10 (wrap64 (x11 + 1))) else (spec_orBelow.l0 k x1 x5 x9 x10 (wrap64 (x11 + 1))))) else (none)) else (none)) else (some x5)
def spec_orBelow.f (k : Nat) (a0_0 : Int) (l0_1 : List Int) (a1 : Int) : Option (Int) := spec_orBelow.l0 k a1 0 l0_1 (l0_1.length : Int) 0
theorem spec_orBelow.mono_l : ∀ k, (∀ y0 y1 y2 y3 y4, LeO (spec_orBelow.l0 k y0 y1 y2 y3 y4) (spec_orBelow.l0 (k + 1) y0 y1 y2 y3 y4))
 | 0 => fun _ _ _ _ _ r h => by simp [spec_orBelow.l0] at h
 | k + 1 => by
  have ih0 := spec_orBelow.mono_l k
  ·intro y0 y1 y2 y3 y4
   unfold spec_orBelow.l0
   repeat' (with_reducible first|apply ih0|apply LeO.refl|apply LeO.none|apply LeO.ite|apply LeO.bind|intro)
theorem spec_orBelow.mono : ∀ a0 a1 a2 k, LeO (spec_orBelow.f k a0 a1 a2) (spec_orBelow.f (k + 1) a0 a1 a2) := by
 intro a0 a1 a2 k
 have ih0 := spec_orBelow.mono_l k
 unfold spec_orBelow.f
 repeat' (with_reducible first|apply ih0|apply LeO.refl|apply LeO.none|apply LeO.ite|apply LeO.bind|intro)
theorem spec_orBelow.calls (k : Nat) (a0_0 : Int) (A0_1 : Option Addr) (c0_1 : Nat) (l0_1 : List Int) (a1 : Int) (r : Int) (w : World) (hr0_1 : Kd.C (Kd.int .i64) w A0_1 l0_1.length l0_1) (hc0_1 : l0_1.length ≤ c0_1) (h : spec_orBelow.f k a0_0 l0_1 a1 = some r) :
  Calls Tryz.prog 48 #[.agg #[.int .i64 a0_0, .slice A0_1 l0_1.length c0_1], .int .i64 a1] w fun e w' => e = .returned (.int .i64 r) ∧ Below w.heap.size w w' := by
 have hu26 := Tryz.underlying26
 have HR0_1 := mkA hr0_1
 have HC0_1 := mkA hc0_1
 clear hr0_1 hc0_1
 have HB := mkA (Below.refl w.heap.size w)
 have H := h
 clear h
 unfold spec_orBelow.f at H
 have H' := mkA H
 clear H
 go_enter Tryz.func48, Tryz.ntmps48
 go_wp2_with (first | ((with_reducible refine gate_dst (N := 2) rfl ?_); refine boxG HB #[.int .i64 a0_0, .slice A0_1 l0_1.length c0_1] 26 ?_; intro gb593 hg w3 BK593 GE593 hb; replace HB := bst HB hb; clear hb hg; obtain ⟨_, _, _, _⟩ := blk2 BK593))
 go_loopg [5, 11] k (fun kq v5 v11 w' => ∃ (x5_1 : Int) (x11_1 : Int), v5 = .int .i64 x5_1 ∧ v11 = .int .i64 x11_1 ∧ Fc (spec_orBelow.l0 kq a1 x5_1 l0_1 (l0_1.length : Int) x11_1 = some r) ∧ Fc (kq ≤ k) ∧ Fc (w'.heap[gb593]? = some (.cells #[.int .i64 a0_0, (.slice A0_1 l0_1.length c0_1)] 26 (0, 0))) ∧ Fc (Below w.heap.size w w'))
 case atStart => exact ⟨(0), (0), eqS, eqS, H', ⟨Nat.le_refl _⟩, bg BK593, hbg HB⟩
 case round =>
  clear H'
  obtain ⟨x5_1, x11_1, rfl, rfl, HA, HK1, BK593, HB⟩ := hrel
  cases gk with
  | zero => exact absurd HA.out (by simp [spec_orBelow.l0])
  | succ k1 =>
   have H := HA.out
   clear HA
   simp only [spec_orBelow.l0] at H
   rcases iteE H with ⟨c5b0, H⟩ | ⟨c5b0, H⟩
   ·obtain ⟨c6b0, H⟩ := itND H
    obtain ⟨c7b0, H⟩ := itND H
    obtain ⟨t595, A8, H⟩ := obE H
    by_cases c9 : t595 = true
    ·subst c9
     replace H := ifT H
     have c10b0 := eq_true (ofd : 0 ≤ x11_1)
     obtain ⟨ji11, hji11⟩ : ∃ j_ : Int, (shl .i64 1 x11_1) = j_ := ⟨_, rfl⟩
     first | rw [hji11] at H | simp only [hji11] at H
     (try rw [hji11] at A8)
     have hji11_ : (IntKind.i64.wrap (1 * 2 ^ min x11_1.toNat 64)) = ji11 := hji11
     have hji11z : x11_1 ≤ 64 → (IntKind.i64.wrap (1 * 2 ^ x11_1.toNat)) = ji11 := shl_small hji11
     have hji11u : (IntKind.i64.wrap (2 ^ min x11_1.toNat 64)) = ji11 := by have h_ := hji11_; rw [Int.one_mul] at h_; exact h_
     have hji11v : x11_1 ≤ 64 → (IntKind.i64.wrap (2 ^ x11_1.toNat)) = ji11 := fun hle_ => by have h_ := hji11z hle_; rw [Int.one_mul] at h_; exact h_
     have hji11y : (wrap64 (1 * 2 ^ min x11_1.toNat 64)) = ji11 := (i64_w _).symm.trans hji11_
     have hji11x : x11_1 ≤ 64 → (wrap64 (1 * 2 ^ x11_1.toNat)) = ji11 := fun h_ => (i64_w _).symm.trans (hji11z h_)
     have H' := mkA H
     clear H
     obtain ⟨p594, q594, ad594, e594, hx594_0⟩ := atI HR0_1.out x11_1
     cases e594
     replace hx594_0 := (HB.out.cell (World.block_lt_of_cell? w _ hx594_0)).trans hx594_0
     go_wp2_with (first | ((with_reducible refine gate_callee (f := 51) rfl ?_); refine goesQ (some 18) Tryz.func51 #[.int .i64 (rd l0_1 x11_1), .int .i64 a1] ?_; (with_reducible refine (spec_orHas.calls (rd l0_1 x11_1) a1 true _ A8.out).mono ?_); rintro e w' ⟨rfl, ⟨nd, rfl⟩⟩; refine ⟨_, rfl, ?_⟩))
     go_roundg k1
     case measure => have := HK1.out; omega
     case rel => exact ⟨(Go.bits .or .i64 x5_1 (ji11)), (wrap64 (x11_1 + 1)), (by first | rfl | (simp; done) | (simp only [← hji11] <;> (first | rfl | simp)) | (simp [*]; done)), eqS, H', ⟨by have := HK1.out; omega⟩, bg BK593, hbg HB⟩
    ·replace c9 := Bool.eq_false_iff.mpr c9
     subst c9
     replace H := ifF H
     have H' := mkA H
     clear H
     obtain ⟨p594, q594, ad594, e594, hx594_0⟩ := atI HR0_1.out x11_1
     cases e594
     replace hx594_0 := (HB.out.cell (World.block_lt_of_cell? w _ hx594_0)).trans hx594_0
     go_wp2_with (first | ((with_reducible refine gate_callee (f := 51) rfl ?_); refine goesQ (some 18) Tryz.func51 #[.int .i64 (rd l0_1 x11_1), .int .i64 a1] ?_; (with_reducible refine (spec_orHas.calls (rd l0_1 x11_1) a1 false _ A8.out).mono ?_); rintro e w' ⟨rfl, ⟨nd, rfl⟩⟩; refine ⟨_, rfl, ?_⟩))
     go_roundg k1
     case measure => have := HK1.out; omega
     case rel => exact ⟨(x5_1), (wrap64 (x11_1 + 1)), eqS, eqS, H', ⟨by have := HK1.out; omega⟩, bg BK593, hbg HB⟩
   ·obtain rfl := Option.some.inj H
    go_wp2
    go_ret
    exact ⟨eqE, bel_g HB.out⟩
def spec_orFree.f (k : Nat) (a0_0 : Int) (l0_1 : List Int) (a1 : Int) : Option (Int) := if 0 ≤ a0_0 then (if 0 ≤ a1 then (if a1 < (l0_1.length : Int) then ((spec_orBelow.f k a0_0 l0_1 a1).bind fun t598 => (some (Go.bits .andNot .i64 (wrap64 ((shl .i64 1 a0_0) - 1)) (Go.bits .or .i64 (Go.bits .or .i64 (rd l0_1 a1) t598) (shl .i64 1 a1))))) else (none)) else (none)) else (none)
theorem spec_orFree.mono : ∀ a0 a1 a2 k, LeO (spec_orFree.f k a0 a1 a2) (spec_orFree.f (k + 1) a0 a1 a2) := by
 intro a0 a1 a2 k
 unfold spec_orFree.f
 repeat' (with_reducible first|apply spec_orBelow.mono|apply LeO.refl|apply LeO.none|apply LeO.ite|apply LeO.bind|intro)
def spec_orFree.T1 : Bool × List (List Nat × List Nat) := (true, [([], []), ([0], [0]), ([1], [1]), ([2], [2]), ([], []), ([4], [4]), ([], []), ([5, 6], [5, 6]), ([7], [7]), ([], []), ([], []), ([9, 10], [9, 10]), ([8, 11], [8, 11]), ([], []), ([13], [13]), ([12, 14], [12, 14]), ([3, 15], [3, 15]), ([16, 11, 0, 1, 2, 3, 4, 5, 6, 7, 8, 9, 10, 11, 12, 13, 14, 15, 16], [16])])
def spec_orFree.B1 : List Nat := [0, 1, 3, 7, 0, 16, 0, 112, 240, 0, 0, 1536, 4080, 0, 8192, 32752, 65535, 131071]
theorem spec_orFree.tab1 : rtab .any (opsOf Tryz.f29 1) = spec_orFree.T1 := by kernel_rfl
theorem spec_orFree.bits1 : waitsOk spec_orFree.T1.2 spec_orFree.B1 = true := by kernel_rfl
theorem spec_orFree.calls (k : Nat) (a0_0 : Int) (A0_1 : Option Addr) (c0_1 : Nat) (l0_1 : List Int) (a1 : Int) (r : Int) (w : World) (hr0_1 : Kd.C (Kd.int .i64) w A0_1 l0_1.length l0_1) (hc0_1 : l0_1.length ≤ c0_1) (h : spec_orFree.f k a0_0 l0_1 a1 = some r) :
  Calls Tryz.prog 29 #[.agg #[.int .i64 a0_0, .slice A0_1 l0_1.length c0_1], .int .i64 a1] w fun e w' => e = .returned (.int .i64 r) ∧ Below w.heap.size w w' := by
 have hu26 := Tryz.underlying26
 have HR0_1 := mkA hr0_1
 have HC0_1 := mkA hc0_1
 clear hr0_1 hc0_1
 have HB := mkA (Below.refl w.heap.size w)
 have H := h
 clear h
 unfold spec_orFree.f at H
 obtain ⟨c3b0, c3b1, H⟩ := itNQ H
 obtain ⟨ji4, hji4⟩ : ∃ j_ : Int, (shl .i64 1 a0_0) = j_ := ⟨_, rfl⟩
 first | rw [hji4] at H | simp only [hji4] at H
 have hji4_ : (IntKind.i64.wrap (1 * 2 ^ min a0_0.toNat 64)) = ji4 := hji4
 have hji4z : a0_0 ≤ 64 → (IntKind.i64.wrap (1 * 2 ^ a0_0.toNat)) = ji4 := shl_small hji4
 have hji4u : (IntKind.i64.wrap (2 ^ min a0_0.toNat 64)) = ji4 := by have h_ := hji4_; rw [Int.one_mul] at h_; exact h_
 have hji4v : a0_0 ≤ 64 → (IntKind.i64.wrap (2 ^ a0_0.toNat)) = ji4 := fun hle_ => by have h_ := hji4z hle_; rw [Int.one_mul] at h_; exact h_
 have hji4y : (wrap64 (1 * 2 ^ min a0_0.toNat 64)) = ji4 := (i64_w _).symm.trans hji4_
 have hji4x : a0_0 ≤ 64 → (wrap64 (1 * 2 ^ a0_0.toNat)) = ji4 := fun h_ => (i64_w _).symm.trans (hji4z h_)
 obtain ⟨c5b0, H⟩ := itND H
 obtain ⟨c6b0, H⟩ := itND H
 obtain ⟨t598, A7, H⟩ := obE H
 have c8b0 := eq_true (ofd : 0 ≤ a1)
 obtain ⟨ji9, hji9⟩ : ∃ j_ : Int, (shl .i64 1 a1) = j_ := ⟨_, rfl⟩
 first | rw [hji9] at H | simp only [hji9] at H
 (try rw [hji9] at A7)
 have hji9_ : (IntKind.i64.wrap (1 * 2 ^ min a1.toNat 64)) = ji9 := hji9
 have hji9z : a1 ≤ 64 → (IntKind.i64.wrap (1 * 2 ^ a1.toNat)) = ji9 := shl_small hji9
 have hji9u : (IntKind.i64.wrap (2 ^ min a1.toNat 64)) = ji9 := by have h_ := hji9_; rw [Int.one_mul] at h_; exact h_
 have hji9v : a1 ≤ 64 → (IntKind.i64.wrap (2 ^ a1.toNat)) = ji9 := fun hle_ => by have h_ := hji9z hle_; rw [Int.one_mul] at h_; exact h_
 have hji9y : (wrap64 (1 * 2 ^ min a1.toNat 64)) = ji9 := (i64_w _).symm.trans hji9_
 have hji9x : a1 ≤ 64 → (wrap64 (1 * 2 ^ a1.toNat)) = ji9 := fun h_ => (i64_w _).symm.trans (hji9z h_)
 obtain rfl := Option.some.inj H
 go_enter Tryz.func29, Tryz.ntmps29
 try go_wp2_with (first | ((with_reducible refine gate_dst (N := 2) rfl ?_); refine boxG HB #[.int .i64 a0_0, .slice A0_1 l0_1.length c0_1] 26 ?_; intro gb596 hg w10 BK596 GE596 hb; replace HB := bst HB hb; clear hb hg))
 replace BK596 := mkA (blk_drew BK596.out)
 replace HB := mkA (below_drew1 HB.out)
 obtain ⟨p597, q597, ad597, e597, hx597_0⟩ := atI HR0_1.out a1
 have hw597_0 := hx597_0
 cases e597
 replace hx597_0 := (HB.out.cell (World.block_lt_of_cell? w _ hx597_0)).trans hx597_0
 refine start_ (n := 18) (S := fun w' => w'.cell? ⟨gb596, 0, none⟩ = some (.int .i64 a0_0) ∧ w'.cell? ⟨gb596, 1, none⟩ = some (.slice (some ad597) l0_1.length c0_1) ∧ w'.cell? (ad597.add (a1).toNat) = some (.int .i64 (rd l0_1 a1))) (ds := []) (bm 18 0) (by kernel_rfl) rfl (by kernel_rfl) ⟨(blk_cell BK596.out 0).trans rfl, (blk_cell BK596.out 1).trans rfl, ((HB.out.cell (World.block_lt_of_cell? w _ hw597_0)).trans hw597_0)⟩ (fun hHeld => ?_); refine with_tabW spec_orFree.tab1 spec_orFree.bits1 (fun HT_ HW_ => ?_)
 generalize w10.drew = w11 at BK596 HB hx597_0 hHeld ⊢
 refine purW 0 5 18 1 HT_ ?_
 refine purW 4 9 18 17 HT_ ?_
 refine purW 6 11 18 81 HT_ ?_
 refine purW 10 15 18 1105 HT_ ?_
 refine purW 13 18 18 9297 HT_ ?_
 refine purW 14 19 18 25681 HT_ ?_
 refine takeW 1 (some 6) (bm 18 25683) HT_ HW_ hHeld ?_
 refine purW 2 7 18 25687 HT_ ?_
 refine purW 3 8 18 25695 HT_ ?_
 refine takeW 5 (some 10) (bm 18 25727) HT_ HW_ hHeld ?_
 refine purW 7 12 18 25855 HT_ ?_
 refine takeW 8 (some 13) (bm 18 26111) HT_ HW_ hHeld ?_
 refine takeW 9 (some 14) (bm 18 26623) HT_ HW_ hHeld ?_
 refine oneW 11 (some 16) (bm 18 28671) HT_ (fun K hK => ?_)
 refine goesR Tryz.func48 #[.agg #[.int .i64 a0_0, .slice (some ad597) l0_1.length c0_1], .int .i64 a1] ?_
 with_reducible refine (spec_orBelow.calls k a0_0 _ _ l0_1 a1 t598 _ ?s1 ?s2 A7.out).mono ?_
 (case s1 => exact C_g HR0_1 HB)
 (case s2 => exact HC0_1.out)
 rintro e w12 ⟨rfl, hb⟩
 refine ⟨_, rfl, ?_⟩
 replace BK596 := blkB BK596 hb
 replace HB := bst HB hb
 (try clear hb)
 (try clear hb2)
 (try clear hk)
 (try clear hi)
 refine hK.out _ _ ⟨(blk_cell BK596.out 0).trans rfl, (blk_cell BK596.out 1).trans rfl, ((HB.out.cell (World.block_lt_of_cell? w _ hw597_0)).trans hw597_0)⟩ (fun hHeld => ?_)
 clear hK K
 refine normW 16 ?_
 refine purW 12 17 18 32767 HT_ ?_
 refine purW 15 20 18 65535 HT_ ?_
 refine purW 16 21 18 131071 HT_ ?_
 refine purW 17 4 18 262143 HT_ ?_
 refine doneW HT_ ?_
 try go_wp2
 go_ret
 exact ⟨by first | rfl | (simp [errW_none, errW_some] <;> rfl) | (simp only [← hji4, ← hji9]; first | rfl | (simp [errW_none, errW_some] <;> rfl)) | (simp [*, errW_none, errW_some] <;> rfl), bel_g HB.out⟩
end Go.Proofs.YtgbdjchdfcodcaaGreatDoor.Q
