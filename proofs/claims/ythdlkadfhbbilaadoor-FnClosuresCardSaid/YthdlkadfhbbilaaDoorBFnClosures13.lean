import Derived.Test.YthdlkadfhbbilaaDoorBFnClosures12
namespace Go.Proofs.YthdlkadfhbbilaaDoor.Q
open Go.RowKit Go.Proofs.YthdlkadfhbbilaaDoorW.PrintWords Go.Proofs.YthdlkadfhbbilaaDoorW.PrintLast Go.Proofs.YthdlkadfhbbilaaDoorW.PrintMore
attribute [local go_sem] max2_int min2_int max_two min_two max_three min_three max_four min_four neB_f
set_option linter.unusedVariables false
set_option maxHeartbeats 8000000
set_option maxRecDepth 100000
set_option linter.unusedSimpArgs false
mutual
def spec_orGood.l0 : Nat → List Int → Int → Int → Int → List Int → Option (Bool)
 | 0, _, _, _, _, _ => none
 | k + 1, x11, x12, x13, x333000, x333001 => if x13 < x12 then (if 0 ≤ x13 then (if x13 < (x11.length : Int) then ((spec_orHas.f (rd x11 x13) x13).bind fun t335 => (if t335 = true then (some false) else ((spec_orList.f k (rd x11 x13)).bind fun t336 => (spec_orGood.l1 k (rd x11 x13) x11 x12 x13 t336 (t336.length : Int) 0 x333000 x333001)))) else (none)) else (none)) else (some true)
def spec_orGood.l1 : Nat → Int → List Int → Int → Int → List Int → Int → Int → Int → List Int → Option (Bool)
 | 0, _, _, _, _, _, _, _, _, _ => none
 | k + 1, x4, x11, x12, x13, x22, x23, x24, x333000, x333001 => if x24 < x23 then (if 0 ≤ x24 then (if x24 < (x22.length : Int) then (if 0 ≤ (rd x22 x24) then (if (rd x22 x24) < (x333001.length : Int) then (if (Go.bits .andNot .i64 (rd x333001 (rd x22 x24)) x4) = 0 then (spec_orGood.l1 k x4 x11 x12 x13 x22 x23 (wrap64 (x24 + 1)) x333000 x333001) else (some false)) else (none)) else (none)) else (none)) else (none)) else (spec_orGood.l0 k x11 x12 (wrap64 (x13 + 1)) x333000 x333001)
end
def spec_orGood.f (k : Nat) (a0_0 : Int) (l0_1 : List Int) : Option (Bool) := (spec_orRelation.f k a0_0 l0_1).bind fun t333 => (if t333 = true then (spec_orGood.l0 k l0_1 (l0_1.length : Int) 0 a0_0 l0_1) else (some false))
theorem spec_orGood.mono_l : ∀ k, (∀ y0 y1 y2 y3 y4, LeO (spec_orGood.l0 k y0 y1 y2 y3 y4) (spec_orGood.l0 (k + 1) y0 y1 y2 y3 y4)) ∧ (∀ y0 y1 y2 y3 y4 y5 y6 y7 y8, LeO (spec_orGood.l1 k y0 y1 y2 y3 y4 y5 y6 y7 y8) (spec_orGood.l1 (k + 1) y0 y1 y2 y3 y4 y5 y6 y7 y8))
 | 0 => ⟨fun _ _ _ _ _ r h => by simp [spec_orGood.l0] at h, fun _ _ _ _ _ _ _ _ _ r h => by simp [spec_orGood.l1] at h⟩
 | k + 1 => by
  obtain ⟨ih0, ih1⟩ := spec_orGood.mono_l k
  refine ⟨?_, ?_⟩ <;> intros
  unfold spec_orGood.l0
  rotate_left
  unfold spec_orGood.l1
  rotate_left
  all_goals repeat' (with_reducible first|apply ih0|apply ih1|apply spec_orList.mono|apply spec_orRelation.mono|apply LeO.refl|apply LeO.none|apply LeO.ite|apply LeO.bind|intro)
theorem spec_orGood.mono : ∀ a0 a1 k, LeO (spec_orGood.f k a0 a1) (spec_orGood.f (k + 1) a0 a1) := by
 intro a0 a1 k
 obtain ⟨ih0, ih1⟩ := spec_orGood.mono_l k
 unfold spec_orGood.f
 repeat' (with_reducible first|apply ih0|apply ih1|apply spec_orList.mono|apply spec_orRelation.mono|apply LeO.refl|apply LeO.none|apply LeO.ite|apply LeO.bind|intro)
theorem spec_orGood.calls (k : Nat) (a0_0 : Int) (A0_1 : Option Addr) (c0_1 : Nat) (l0_1 : List Int) (r : Bool) (w : World) (hr0_1 : Kd.C (Kd.int .i64) w A0_1 l0_1.length l0_1) (hc0_1 : l0_1.length ≤ c0_1) (h : spec_orGood.f k a0_0 l0_1 = some r) :
  Calls Tryd.prog 26 #[.agg #[.int .i64 a0_0, .slice A0_1 l0_1.length c0_1]] w fun e w' => e = .returned (.bool r) ∧ Below w.heap.size w w' := by
 have hu26 := Tryd.underlying26
 have HR0_1 := mkA hr0_1
 have HC0_1 := mkA hc0_1
 clear hr0_1 hc0_1
 have HB := mkA (Below.refl w.heap.size w)
 have H := h
 clear h
 unfold spec_orGood.f at H
 obtain ⟨t333, A2, H⟩ := obE H
 by_cases c3 : t333 = true
 ·subst c3
  replace H := ifT H
  have H' := mkA H
  clear H
  go_enter Tryd.func26, Tryd.ntmps26
  go_wp2_with (first | ((with_reducible refine gate_dst (N := 1) rfl ?_); refine boxG HB #[.int .i64 a0_0, .slice A0_1 l0_1.length c0_1] 26 ?_; intro gb332 hg w4 BK332 GE332 hb; replace HB := bst HB hb; clear hb hg; obtain ⟨_, _, _, _⟩ := blk2 BK332) | ((with_reducible refine gate_callee (f := 18) rfl ?_); refine goesQ (some 8) Tryd.func18 #[.agg #[.int .i64 a0_0, .slice A0_1 l0_1.length c0_1]] ?_; (with_reducible refine (spec_orRelation.calls k a0_0 _ _ l0_1 true _ ?_ ?_ A2.out).mono ?_); exact C_g HR0_1 HB; exact HC0_1.out; rintro e w6 ⟨rfl, hb⟩; refine ⟨_, rfl, ?_⟩; replace BK332 := blkB BK332 hb; replace HB := bst HB hb; clear hb; obtain ⟨_, _, _, _⟩ := blk2 BK332))
  go_loopg [13] k (fun kq v13 w' => ∃ (x13_1 : Int), v13 = .int .i64 x13_1 ∧ Fc (spec_orGood.l0 kq l0_1 (l0_1.length : Int) x13_1 a0_0 l0_1 = some r) ∧ Fc (kq ≤ k) ∧ Fc (w'.heap[gb332]? = some (.cells #[.int .i64 a0_0, (.slice A0_1 l0_1.length c0_1)] 26 (0, 0))) ∧ Fc (Below w.heap.size w w'))
  case atStart => exact ⟨(0), eqS, H', ⟨Nat.le_refl _⟩, bg BK332, hbg HB⟩
  case round =>
   clear H'
   try clear c3
   obtain ⟨x13_1, rfl, HA, HK1, BK332, HB⟩ := hrel
   cases gk with
   | zero => exact absurd HA.out (by simp [spec_orGood.l0])
   | succ k1 =>
    have H := HA.out
    clear HA
    simp only [spec_orGood.l0] at H
    rcases iteE H with ⟨c8b0, H⟩ | ⟨c8b0, H⟩
    ·obtain ⟨c9b0, H⟩ := itND H
     obtain ⟨c10b0, H⟩ := itND H
     obtain ⟨t335, A11, H⟩ := obE H
     by_cases c12 : t335 = true
     ·subst c12
      replace H := ifT H
      obtain rfl := Option.some.inj H
      obtain ⟨p334, q334, ad334, e334, hx334_0⟩ := atI HR0_1.out x13_1
      cases e334
      replace hx334_0 := (HB.out.cell (World.block_lt_of_cell? w _ hx334_0)).trans hx334_0
      go_wp2_with (first | ((with_reducible refine gate_callee (f := 20) rfl ?_); refine goesQ (some 20) Tryd.func20 #[.int .i64 (rd l0_1 x13_1), .int .i64 x13_1] ?_; (with_reducible refine (spec_orHas.calls (rd l0_1 x13_1) x13_1 true _ A11.out).mono ?_); rintro e w' ⟨rfl, ⟨nd, rfl⟩⟩; refine ⟨_, rfl, ?_⟩))
      go_ret
      exact ⟨eqE, bel_g HB.out⟩
     ·replace c12 := Bool.eq_false_iff.mpr c12
      subst c12
      replace H := ifF H
      obtain ⟨t336, A13, H⟩ := obE H
      have H' := mkA H
      clear H
      obtain ⟨p334, q334, ad334, e334, hx334_0⟩ := atI HR0_1.out x13_1
      cases e334
      replace hx334_0 := (HB.out.cell (World.block_lt_of_cell? w _ hx334_0)).trans hx334_0
      go_wp2_with (first | ((with_reducible refine gate_callee (f := 20) rfl ?_); refine goesQ (some 20) Tryd.func20 #[.int .i64 (rd l0_1 x13_1), .int .i64 x13_1] ?_; (with_reducible refine (spec_orHas.calls (rd l0_1 x13_1) x13_1 false _ A11.out).mono ?_); rintro e w' ⟨rfl, ⟨nd, rfl⟩⟩; refine ⟨_, rfl, ?_⟩) | ((with_reducible refine gate_callee (f := 27) rfl ?_); refine goesQ (some 22) Tryd.func27 #[.int .i64 (rd l0_1 x13_1)] ?_; (with_reducible refine (spec_orList.calls k1 (rd l0_1 x13_1) t336 _ A13.out).mono ?_); rintro e w14 ⟨v337, rfl, ho0, hb⟩; refine ⟨_, rfl, ?_⟩; have HO338 := rLo ho0 HB; replace BK332 := blkB BK332 hb; replace HB := bst HB hb; clear hb ho0; obtain ⟨Ao15, co15, rfl⟩ := Kd.R_slice HO338.out))
      go_loopg [24] k1 (fun kq v24 w' => ∃ (x24_2 : Int), v24 = .int .i64 x24_2 ∧ Fc (spec_orGood.l1 kq (rd l0_1 x13_1) l0_1 (l0_1.length : Int) x13_1 t336 (t336.length : Int) x24_2 a0_0 l0_1 = some r) ∧ Fc (kq ≤ k1) ∧ Fc (Kd.R (Kd.int .i64) 3 w' w.heap.size (fun _ => True) (.slice Ao15 t336.length co15) t336) ∧ Fc (w'.heap[gb332]? = some (.cells #[.int .i64 a0_0, (.slice (some ad334) l0_1.length c0_1)] 26 (0, 0))) ∧ Fc (Below w.heap.size w w'))
      case atStart => exact ⟨(0), eqS, H', ⟨Nat.le_refl _⟩, rg HO338, bg BK332, hbg HB⟩
      case round =>
       clear H'
       try clear c3
       try clear c8b0
       try clear c9
       try clear c9b0
       try clear c10
       try clear c10b0
       try clear c12
       try clear hx334_0
       try clear p334
       try clear q334
       obtain ⟨x24_2, rfl, HA, HK2, HO_22, BK332, HB⟩ := hrel
       cases gk with
       | zero => exact absurd HA.out (by simp [spec_orGood.l1])
       | succ k2 =>
        have H := HA.out
        clear HA
        simp only [spec_orGood.l1] at H
        rcases iteE H with ⟨c16b0, H⟩ | ⟨c16b0, H⟩
        ·obtain ⟨c17b0, H⟩ := itND H
         obtain ⟨c18b0, H⟩ := itND H
         obtain ⟨c19b0, H⟩ := itND H
         obtain ⟨c20b0, H⟩ := itND H
         rcases iteP H with ⟨c21, H⟩ | ⟨c21, H⟩
         ·have c21b0 := beq_iff_eq.mpr c21
          have c21b1 := bne_eq_false_iff_eq.mpr c21
          clear c21
          have H' := mkA H
          clear H
          obtain ⟨p339, q339, ad339, e339, hx339_0⟩ := atI (Kd.R_reads' HO_22.out).2.2 x24_2
          cases e339
          obtain ⟨_, _, _, _⟩ := blk2 BK332
          obtain ⟨p340, q340, ad340, e340, hx340_0⟩ := atI HR0_1.out (rd t336 x24_2)
          obtain rfl : ad334 = ad340 := (by injection e340)
          replace hx340_0 := (HB.out.cell (World.block_lt_of_cell? w _ hx340_0)).trans hx340_0
          go_wp2
          go_roundg k2
          case measure => have := HK1.out; have := HK2.out; omega
          case rel => exact ⟨(wrap64 (x24_2 + 1)), eqS, H', ⟨by have := HK1.out; have := HK2.out; omega⟩, rg HO_22, bg BK332, hbg HB⟩
         ·have c21b0 := beq_eq_false_iff_ne.mpr c21
          have c21b1 := bne_iff_ne.mpr c21
          obtain rfl := Option.some.inj H
          obtain ⟨p339, q339, ad339, e339, hx339_0⟩ := atI (Kd.R_reads' HO_22.out).2.2 x24_2
          cases e339
          obtain ⟨_, _, _, _⟩ := blk2 BK332
          obtain ⟨p340, q340, ad340, e340, hx340_0⟩ := atI HR0_1.out (rd t336 x24_2)
          obtain rfl : ad334 = ad340 := (by injection e340)
          replace hx340_0 := (HB.out.cell (World.block_lt_of_cell? w _ hx340_0)).trans hx340_0
          go_wp2
          go_ret
          exact ⟨eqE, bel_g HB.out⟩
        ·have H' := mkA H
         clear H
         go_wp2
         go_roundg k2
         case measure => have := HK1.out; have := HK2.out; omega
         case rel => exact ⟨(wrap64 (x13_1 + 1)), eqS, H', ⟨by have := HK1.out; have := HK2.out; omega⟩, bg BK332, hbg HB⟩
    ·obtain rfl := Option.some.inj H
     go_wp2
     go_ret
     exact ⟨eqE, bel_g HB.out⟩
 ·replace c3 := Bool.eq_false_iff.mpr c3
  subst c3
  replace H := ifF H
  obtain rfl := Option.some.inj H
  go_enter Tryd.func26, Tryd.ntmps26
  go_wp2_with (first | ((with_reducible refine gate_dst (N := 1) rfl ?_); refine boxG HB #[.int .i64 a0_0, .slice A0_1 l0_1.length c0_1] 26 ?_; intro gb332 hg w24 BK332 GE332 hb; replace HB := bst HB hb; clear hb hg; obtain ⟨_, _, _, _⟩ := blk2 BK332) | ((with_reducible refine gate_callee (f := 18) rfl ?_); refine goesQ (some 8) Tryd.func18 #[.agg #[.int .i64 a0_0, .slice A0_1 l0_1.length c0_1]] ?_; (with_reducible refine (spec_orRelation.calls k a0_0 _ _ l0_1 false _ ?_ ?_ A2.out).mono ?_); exact C_g HR0_1 HB; exact HC0_1.out; rintro e w26 ⟨rfl, hb⟩; refine ⟨_, rfl, ?_⟩; replace BK332 := blkB BK332 hb; replace HB := bst HB hb; clear hb))
  go_ret
  exact ⟨eqE, bel_g HB.out⟩
mutual
def spec_CoversOf.l0 : Nat → List Int → Int → Int → Int → List Int → Int → List Int → Option (Int × List Int × Bool)
 | 0, _, _, _, _, _, _, _ => none
 | k + 1, x18, x19, x20, x342000, x342001, x345000, x345001 => if x20 < x19 then (if 0 ≤ x20 then (if x20 < (x18.length : Int) then ((spec_orList.f k (rd x18 x20)).bind fun t346 => (spec_CoversOf.l1 k (rd x18 x20) 0 x18 x19 x20 t346 (t346.length : Int) 0 x342000 x342001 x345000 x345001)) else (none)) else (none)) else (some (x345000, x345001, true))
def spec_CoversOf.l1 : Nat → Int → Int → List Int → Int → Int → List Int → Int → Int → Int → List Int → Int → List Int → Option (Int × List Int × Bool)
 | 0, _, _, _, _, _, _, _, _, _, _, _, _ => none
 | k + 1, x6, x7, x18, x19, x20, x25, x26, x27, x342000, x342001, x345000, x345001 => if x27 < x26 then (if 0 ≤ x27 then (if x27 < (x25.length : Int) then (if 0 ≤ (rd x25 x27) then (if (rd x25 x27) < (x342001.length : Int) then (spec_CoversOf.l1 k x6 (Go.bits .or .i64 x7 (rd x342001 (rd x25 x27))) x18 x19 x20 x25 x26 (wrap64 (x27 + 1)) x342000 x342001 x345000 x345001) else (none)) else (none)) else (none)) else (none)) else (if x345001.length < 17592186044416 then (spec_CoversOf.l0 k x18 x19 (wrap64 (x20 + 1)) x342000 x342001 x345000 (x345001 ++ [Go.bits .andNot .i64 x6 x7])) else (none))
end
def spec_CoversOf.f (k : Nat) (a0_0 : Int) (l0_1 : List Int) : Option (Int × List Int × Bool) := (spec_orGood.f k a0_0 l0_1).bind fun t343 => (if t343 = true then (spec_CoversOf.l0 k l0_1 (l0_1.length : Int) 0 a0_0 l0_1 a0_0 ([] : List Int)) else (some (0, ([] : List Int), false)))
theorem spec_CoversOf.mono_l : ∀ k, (∀ y0 y1 y2 y3 y4 y5 y6, LeO (spec_CoversOf.l0 k y0 y1 y2 y3 y4 y5 y6) (spec_CoversOf.l0 (k + 1) y0 y1 y2 y3 y4 y5 y6)) ∧ (∀ y0 y1 y2 y3 y4 y5 y6 y7 y8 y9 y10 y11, LeO (spec_CoversOf.l1 k y0 y1 y2 y3 y4 y5 y6 y7 y8 y9 y10 y11) (spec_CoversOf.l1 (k + 1) y0 y1 y2 y3 y4 y5 y6 y7 y8 y9 y10 y11))
 | 0 => ⟨fun _ _ _ _ _ _ _ r h => by simp [spec_CoversOf.l0] at h, fun _ _ _ _ _ _ _ _ _ _ _ _ r h => by simp [spec_CoversOf.l1] at h⟩
 | k + 1 => by
  obtain ⟨ih0, ih1⟩ := spec_CoversOf.mono_l k
  refine ⟨?_, ?_⟩ <;> intros
  unfold spec_CoversOf.l0
  rotate_left
  unfold spec_CoversOf.l1
  rotate_left
  all_goals repeat' (with_reducible first|apply ih0|apply ih1|apply spec_orGood.mono|apply spec_orList.mono|apply LeO.refl|apply LeO.none|apply LeO.ite|apply LeO.bind|intro)
theorem spec_CoversOf.mono : ∀ a0 a1 k, LeO (spec_CoversOf.f k a0 a1) (spec_CoversOf.f (k + 1) a0 a1) := by
 intro a0 a1 k
 obtain ⟨ih0, ih1⟩ := spec_CoversOf.mono_l k
 unfold spec_CoversOf.f
 repeat' (with_reducible first|apply ih0|apply ih1|apply spec_orGood.mono|apply spec_orList.mono|apply LeO.refl|apply LeO.none|apply LeO.ite|apply LeO.bind|intro)
theorem spec_CoversOf.calls (k : Nat) (a0_0 : Int) (A0_1 : Option Addr) (c0_1 : Nat) (l0_1 : List Int) (r1 : Int) (r2 : List Int) (r3 : Bool) (w : World) (hr0_1 : Kd.C (Kd.int .i64) w A0_1 l0_1.length l0_1) (hc0_1 : l0_1.length ≤ c0_1) (h : spec_CoversOf.f k a0_0 l0_1 = some (r1, r2, r3)) :
  Calls Tryd.prog 10 #[.agg #[.int .i64 a0_0, .slice A0_1 l0_1.length c0_1]] w fun e w' => ∃ v1_ : Value, e = .returned (.tuple #[.agg #[.int .i64 r1, v1_], .bool r3]) ∧ Kd.R (Kd.int .i64) 3 w' w.heap.size (fun _ => True) v1_ r2 ∧ Below w.heap.size w w' := by
 have hu26 := Tryd.underlying26
 have HR0_1 := mkA hr0_1
 have HC0_1 := mkA hc0_1
 clear hr0_1 hc0_1
 have HB := mkA (Below.refl w.heap.size w)
 have H := h
 clear h
 unfold spec_CoversOf.f at H
 obtain ⟨t343, A2, H⟩ := obE H
 by_cases c3 : t343 = true
 ·subst c3
  replace H := ifT H
  have H' := mkA H
  clear H
  go_enter Tryd.func10, Tryd.ntmps10
  go_wp2_with (first | ((with_reducible refine gate_dst (N := 1) rfl ?_); refine boxG HB #[.int .i64 a0_0, .slice A0_1 l0_1.length c0_1] 26 ?_; intro gb341 hg w4 BK341 GE341 hb; replace HB := bst HB hb; clear hb hg) | ((with_reducible refine gate_dst (N := 2) rfl ?_); refine boxG HB #[.int .i64 0, .slice none 0 0] 26 ?_; intro gb342 hg w5 BK342 GE342 hb; have NB341_342 := neL7 BK341 hg; have NB342_341 := neR7 BK341 hg; replace BK341 := blkB BK341 hb; replace HB := bst HB hb; clear hb hg; obtain ⟨_, _, _, _⟩ := blk2 BK341) | ((with_reducible refine gate_callee (f := 26) rfl ?_); refine goesQ (some 11) Tryd.func26 #[.agg #[.int .i64 a0_0, .slice A0_1 l0_1.length c0_1]] ?_; (with_reducible refine (spec_orGood.calls k a0_0 _ _ l0_1 true _ ?_ ?_ A2.out).mono ?_); exact C_g HR0_1 HB; exact HC0_1.out; rintro e w8 ⟨rfl, hb⟩; refine ⟨_, rfl, ?_⟩; replace BK341 := blkB BK341 hb; replace BK342 := blkB BK342 hb; replace HB := bst HB hb; clear hb; obtain ⟨_, _, _, _⟩ := blk2 BK341) | ((with_reducible refine gate_dst (N := 4) rfl ?_); refine boxG HB #[.int .i64 0, .slice none 0 0] 26 ?_; intro gb344 hg w10 BK344 GE344 hb; have NB341_344 := neL7 BK341 hg; have NB344_341 := neR7 BK341 hg; replace BK341 := blkB BK341 hb; have NB342_344 := neL7 BK342 hg; have NB344_342 := neR7 BK342 hg; replace BK342 := blkB BK342 hb; replace HB := bst HB hb; clear hb hg; obtain ⟨_, _, _, _⟩ := blk2 BK344; obtain ⟨_, _, _, _⟩ := blk2 BK341))
  go_loopg [20] k (fun kq v20 w' => ∃ (x20_1 : Int) (x345001_1 : List Int) (u345001 : Value), v20 = .int .i64 x20_1 ∧ Fc (spec_CoversOf.l0 kq l0_1 (l0_1.length : Int) x20_1 a0_0 l0_1 a0_0 x345001_1 = some (r1, r2, r3)) ∧ Fc (kq ≤ k) ∧ Fc (Kd.R (Kd.int .i64) 3 w' w.heap.size (fun _ => True) u345001 x345001_1) ∧ Fc (w'.heap[gb341]? = some (.cells #[.int .i64 a0_0, (.slice A0_1 l0_1.length c0_1)] 26 (0, 0))) ∧ Fc (w'.heap[gb342]? = some (.cells #[.int .i64 0, (.slice none 0 0)] 26 (0, 0))) ∧ Fc (w'.heap[gb344]? = some (.cells #[.int .i64 a0_0, u345001] 26 (0, 0))) ∧ Fc (Below w.heap.size w w'))
  case atStart => exact ⟨(0), (([] : List Int)), (.slice none 0 0), eqS, H', ⟨Nat.le_refl _⟩, ⟨nilE⟩, ⟨blkT BK341⟩, ⟨blkT BK342⟩, ⟨blkT BK344⟩, hbg HB⟩
  case round =>
   clear H'
   try clear c3
   obtain ⟨x20_1, x345001_1, u345001, rfl, HA, HK1, HO_345001, BK341, BK342, BK344, HB⟩ := hrel
   cases gk with
   | zero => exact absurd HA.out (by simp [spec_CoversOf.l0])
   | succ k1 =>
    have H := HA.out
    clear HA
    simp only [spec_CoversOf.l0] at H
    rcases iteE H with ⟨c15b0, H⟩ | ⟨c15b0, H⟩
    ·obtain ⟨c16b0, H⟩ := itND H
     obtain ⟨c17b0, H⟩ := itND H
     obtain ⟨t346, A18, H⟩ := obE H
     have H' := mkA H
     clear H
     obtain ⟨p345, q345, ad345, e345, hx345_0⟩ := atI HR0_1.out x20_1
     cases e345
     replace hx345_0 := (HB.out.cell (World.block_lt_of_cell? w _ hx345_0)).trans hx345_0
     go_wp2_with (first | ((with_reducible refine gate_callee (f := 27) rfl ?_); refine goesQ (some 25) Tryd.func27 #[.int .i64 (rd l0_1 x20_1)] ?_; (with_reducible refine (spec_orList.calls k1 (rd l0_1 x20_1) t346 _ A18.out).mono ?_); rintro e w19 ⟨v347, rfl, ho0, hb⟩; refine ⟨_, rfl, ?_⟩; have HO348 := rLo (rN ho0 HO_345001) HB; replace HO_345001 := rE HO_345001 ho0 hb; replace BK341 := blkB BK341 hb; replace BK342 := blkB BK342 hb; replace BK344 := blkB BK344 hb; replace HB := bst HB hb; clear hb ho0; obtain ⟨Ao20, co20, rfl⟩ := Kd.R_slice HO348.out))
     go_loopg [7, 27] k1 (fun kq v7 v27 w' => ∃ (x7_2 : Int) (x27_2 : Int), v7 = .int .i64 x7_2 ∧ v27 = .int .i64 x27_2 ∧ Fc (spec_CoversOf.l1 kq (rd l0_1 x20_1) x7_2 l0_1 (l0_1.length : Int) x20_1 t346 (t346.length : Int) x27_2 a0_0 l0_1 a0_0 x345001_1 = some (r1, r2, r3)) ∧ Fc (kq ≤ k1) ∧ Fc (Kd.R (Kd.int .i64) 3 w' w.heap.size (fun k_ => some k_ ≠ (u345001 : Value).ownBlock) (.slice Ao20 t346.length co20) t346) ∧ Fc (Kd.R (Kd.int .i64) 3 w' w.heap.size (fun k_ => some k_ ≠ ((.slice Ao20 t346.length co20) : Value).ownBlock) u345001 x345001_1) ∧ Fc (w'.heap[gb341]? = some (.cells #[.int .i64 a0_0, (.slice (some ad345) l0_1.length c0_1)] 26 (0, 0))) ∧ Fc (w'.heap[gb342]? = some (.cells #[.int .i64 0, (.slice none 0 0)] 26 (0, 0))) ∧ Fc (w'.heap[gb344]? = some (.cells #[.int .i64 a0_0, u345001] 26 (0, 0))) ∧ Fc (Below w.heap.size w w'))
     case atStart => exact ⟨(0), (0), eqS, eqS, H', ⟨Nat.le_refl _⟩, ⟨Kd.R_g (Kd.R_mono HO348.out (fun _ hk => hk.2))⟩, ⟨Kd.R_g (Kd.R_mono HO_345001.out (fun _ hk => hk.2))⟩, bg BK341, bg BK342, bg BK344, hbg HB⟩
     case round =>
      clear H'
      try clear c3
      try clear c15b0
      try clear c16
      try clear c16b0
      try clear c17
      try clear c17b0
      try clear hx345_0
      try clear p345
      try clear q345
      obtain ⟨x7_2, x27_2, rfl, rfl, HA, HK2, HO_25, HO_345001, BK341, BK342, BK344, HB⟩ := hrel
      cases gk with
      | zero => exact absurd HA.out (by simp [spec_CoversOf.l1])
      | succ k2 =>
       have H := HA.out
       clear HA
       simp only [spec_CoversOf.l1] at H
       rcases iteE H with ⟨c21b0, H⟩ | ⟨c21b0, H⟩
       ·obtain ⟨c22b0, H⟩ := itND H
        obtain ⟨c23b0, H⟩ := itND H
        obtain ⟨c24b0, H⟩ := itND H
        obtain ⟨c25b0, H⟩ := itND H
        have H' := mkA H
        clear H
        obtain ⟨p349, q349, ad349, e349, hx349_0⟩ := atI (Kd.R_reads' HO_25.out).2.2 x27_2
        cases e349
        obtain ⟨_, _, _, _⟩ := blk2 BK341
        obtain ⟨p350, q350, ad350, e350, hx350_0⟩ := atI HR0_1.out (rd t346 x27_2)
        obtain rfl : ad345 = ad350 := (by injection e350)
        replace hx350_0 := (HB.out.cell (World.block_lt_of_cell? w _ hx350_0)).trans hx350_0
        go_wp2
        go_roundg k2
        case measure => have := HK1.out; have := HK2.out; omega
        case rel => exact ⟨(Go.bits .or .i64 x7_2 (rd l0_1 (rd t346 x27_2))), (wrap64 (x27_2 + 1)), eqS, eqS, H', ⟨by have := HK1.out; have := HK2.out; omega⟩, rg HO_25, rg HO_345001, bg BK341, bg BK342, bg BK344, hbg HB⟩
       ·obtain ⟨c29, H⟩ := itNP H
        have LMc29 := mkA c29
        clear c29
        obtain ⟨y351, hy351⟩ : ∃ y_ : List Int, y_ = (x345001_1 ++ [Go.bits .andNot .i64 (rd l0_1 x20_1) x7_2]) := ⟨_, rfl⟩
        rw [← hy351] at H
        have Ny351 := mkA hy351
        clear hy351
        have H' := mkA H
        clear H
        obtain ⟨_, _, _, _⟩ := blk2 BK344
        go_wp2_with (first | ((with_reducible refine gate_builtin (b := .append) (xs := #[.tmp 40, .tmp 44]) rfl ?_); at_builtin; refine Kd.R_append (Kd.int .i64) (w0 := w) w.heap.size rfl (.tmp 40) (.tmp 44) 24 3 (.int .i64 0) 8 rfl Tryd.underlying24 info3 rfl (by decide) (by omega) u345001 x345001_1 (Go.bits .andNot .i64 (rd l0_1 x20_1) x7_2) [.int .i64 (Go.bits .andNot .i64 (rd l0_1 x20_1) x7_2)] (fun k_ => some k_ ≠ (.slice Ao20 t346.length co20 : Value).ownBlock) (fun _ => False) rfl rfl ?aP (fun _ hk => hk.elim) ?aF ?aO ?aB ?aS ?aL ?_; (case aP => exact rfl); (case aB => exact (bel_g HB.out)); (case aF => exact (fun k_ hk => Kd.fresh' (Kd.R_lt (Kd.R_g HO_25.out)) k_ hk)); (case aO => exact (Kd.R_g HO_345001.out)); (case aS => exact (below_size (bel_g HB.out))); (case aL => have := LMc29.out; omega); intro v352 w33 ho hb hg hat; rw [← Ny351.out] at ho; replace HO_25 := mkA (Kd.R_after (ok := (fun _ => True)) (Kd.R_g (Kd.R_mono HO_25.out (fun _ hk => ⟨trivial, hk⟩))) hg hat); replace BK341 := mkA (blk_grown (g := gb341) (o := .cells #[.int .i64 a0_0, .slice (some ad345) l0_1.length c0_1] 26 (0, 0)) (blk_g BK341.out) hg (Kd.R_ne HO_345001.out BK341.out (by decide))); replace BK342 := mkA (blk_grown (g := gb342) (o := .cells #[.int .i64 0, .slice none 0 0] 26 (0, 0)) (blk_g BK342.out) hg (Kd.R_ne HO_345001.out BK342.out (by decide))); replace BK344 := mkA (blk_grown (g := gb344) (o := .cells #[.int .i64 a0_0, u345001] 26 (0, 0)) (blk_g BK344.out) hg (Kd.R_ne HO_345001.out BK344.out (by decide))); have HO353 := mkA (ho); replace HB := mkA (hb); clear HO_345001; clear ho hb hg hat; obtain ⟨Ao34, co34, rfl⟩ := Kd.R_slice HO353.out; obtain ⟨_, _, _, _⟩ := blk2 BK344))
        go_roundg k2
        case measure => have := HK1.out; have := HK2.out; omega
        case rel => exact ⟨(wrap64 (x20_1 + 1)), (y351), (.slice Ao34 y351.length co34), eqS, H', ⟨by have := HK1.out; have := HK2.out; omega⟩, ⟨Kd.R_g (Kd.R_mono (Kd.R_far (p := ⟨gb344, 1, none⟩) (Kd.R_types HO353.out BK344.out (by decide)) (fun _ hk => hk.2) (.slice Ao34 y351.length co34)) (fun _ hk => trivial))⟩, ⟨blkT BK341⟩, ⟨blkT BK342⟩, ⟨blkT BK344⟩, hbg HB⟩
    ·simp only [Option.some.injEq, Prod.mk.injEq] at H
     obtain ⟨rfl, rfl, rfl⟩ := H
     obtain ⟨_, _, _, _⟩ := blk2 BK344
     obtain ⟨_, _, _, _⟩ := blk2 BK342
     obtain ⟨Ao41, co41, rfl⟩ := Kd.R_slice HO_345001.out
     go_wp2
     refine bodyPost_ret (results_ct rfl _ _ gb342 26 #[.int .i64 a0_0, .slice Ao41 x345001_1.length co41] (0, 0) _ rfl (blkT BK342) Tryd.underlying26 rfl (by kernel_rfl)) rfl ?_
     exact ⟨_, eqE, Kd.R_g (Kd.R_mono (rF HO_345001 BK342) (fun _ _ => trivial)), bel_g HB.out⟩
 ·replace c3 := Bool.eq_false_iff.mpr c3
  subst c3
  replace H := ifF H
  simp only [Option.some.injEq, Prod.mk.injEq] at H
  obtain ⟨rfl, rfl, rfl⟩ := H
  go_enter Tryd.func10, Tryd.ntmps10
  go_wp2_with (first | ((with_reducible refine gate_dst (N := 1) rfl ?_); refine boxG HB #[.int .i64 a0_0, .slice A0_1 l0_1.length c0_1] 26 ?_; intro gb341 hg w42 BK341 GE341 hb; replace HB := bst HB hb; clear hb hg) | ((with_reducible refine gate_dst (N := 2) rfl ?_); refine boxG HB #[.int .i64 0, .slice none 0 0] 26 ?_; intro gb342 hg w43 BK342 GE342 hb; have NB341_342 := neL7 BK341 hg; have NB342_341 := neR7 BK341 hg; replace BK341 := blkB BK341 hb; replace HB := bst HB hb; clear hb hg; obtain ⟨_, _, _, _⟩ := blk2 BK341) | ((with_reducible refine gate_callee (f := 26) rfl ?_); refine goesQ (some 11) Tryd.func26 #[.agg #[.int .i64 a0_0, .slice A0_1 l0_1.length c0_1]] ?_; (with_reducible refine (spec_orGood.calls k a0_0 _ _ l0_1 false _ ?_ ?_ A2.out).mono ?_); exact C_g HR0_1 HB; exact HC0_1.out; rintro e w46 ⟨rfl, hb⟩; refine ⟨_, rfl, ?_⟩; replace BK341 := blkB BK341 hb; replace BK342 := blkB BK342 hb; replace HB := bst HB hb; clear hb; obtain ⟨_, _, _, _⟩ := blk2 BK342))
  refine bodyPost_ret (results_ct rfl _ _ gb342 26 #[.int .i64 0, .slice none 0 0] (0, 0) _ rfl (blkT BK342) Tryd.underlying26 rfl (by kernel_rfl)) rfl ?_
  exact ⟨_, eqE, nilE, bel_g HB.out⟩
def laws_pIn.f (a0 : Int) (a1 : Int) : Option (Bool) := if 0 ≤ a1 then (some ((Int.tmod (shr .i64 a0 a1) 2) == 1)) else (none)
theorem laws_pIn.calls (a0 : Int) (a1 : Int) (r : Bool) (w : World) (h : laws_pIn.f a0 a1 = some r) :
  Calls Tryd.prog 12 #[.int .i64 a0, .int .i64 a1] w fun e w' => e = .returned (.bool r) ∧ Drawn0 w w' := by
 have H := h
 clear h
 unfold laws_pIn.f at H
 obtain ⟨c3b0, c3b1, H⟩ := itNQ H
 obtain ⟨ji4, hji4⟩ : ∃ j_ : Int, (shr .i64 a0 a1) = j_ := ⟨_, rfl⟩
 first | rw [hji4] at H | simp only [hji4] at H
 have hji4_ : (a0 / 2 ^ min a1.toNat 64) = ji4 := hji4
 have hji4z : a1 ≤ 64 → (a0 / 2 ^ a1.toNat) = ji4 := shr_small hji4
 obtain rfl := Option.some.inj H
 go_enter Tryd.func12, Tryd.ntmps12
 go_wp2
 go_ret
 exact ⟨by first | rfl | (simp; done) | (simp only [← hji4] <;> (first | rfl | simp)) | (simp [*]; done), by repeat (first | exact Drawn0.refl _ | apply Drawn0.step)⟩
end Go.Proofs.YthdlkadfhbbilaaDoor.Q
