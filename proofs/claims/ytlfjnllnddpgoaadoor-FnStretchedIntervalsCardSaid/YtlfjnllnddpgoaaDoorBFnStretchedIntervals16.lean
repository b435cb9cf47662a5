import Derived.Test.YtlfjnllnddpgoaaDoorBFnStretchedIntervals15
namespace Go.Proofs.YtlfjnllnddpgoaaDoor.Q
open Go.RowKit Go.Proofs.YtlfjnllnddpgoaaDoorW.PrintWords Go.Proofs.YtlfjnllnddpgoaaDoorW.PrintLast Go.Proofs.YtlfjnllnddpgoaaDoorW.PrintMore
attribute [local go_sem] max2_int min2_int max_two min_two max_three min_three max_four min_four neB_f
set_option linter.unusedVariables false
set_option maxHeartbeats 8000000
set_option maxRecDepth 100000
set_option linter.unusedSimpArgs false
mutual
def impl_IsOrder.l0 : Nat → List Int → Int → Int → Int → List Int → Option (Bool)
 | 0, _, _, _, _, _ => none
 | k + 1, x11, x12, x13, x450000, x450001 => if x13 < x12 then (if 0 ≤ x13 then (if x13 < (x11.length : Int) then ((impl_Order_better.f x450000 x450001 x13 x13).bind fun t452 => (if t452 = true then (some false) else ((impl_members.f k (rd x11 x13)).bind fun t453 => (impl_IsOrder.l1 k (rd x11 x13) x11 x12 x13 t453 (t453.length : Int) 0 x450000 x450001)))) else (none)) else (none)) else (some true)
def impl_IsOrder.l1 : Nat → Int → List Int → Int → Int → List Int → Int → Int → Int → List Int → Option (Bool)
 | 0, _, _, _, _, _, _, _, _, _ => none
 | k + 1, x4, x11, x12, x13, x23, x24, x25, x450000, x450001 => if x25 < x24 then (if 0 ≤ x25 then (if x25 < (x23.length : Int) then (if 0 ≤ (rd x23 x25) then (if (rd x23 x25) < (x450001.length : Int) then (if (Go.bits .andNot .i64 (rd x450001 (rd x23 x25)) x4) = 0 then (impl_IsOrder.l1 k x4 x11 x12 x13 x23 x24 (wrap64 (x25 + 1)) x450000 x450001) else (some false)) else (none)) else (none)) else (none)) else (none)) else (impl_IsOrder.l0 k x11 x12 (wrap64 (x13 + 1)) x450000 x450001)
end
def impl_IsOrder.f (k : Nat) (a0_0 : Int) (l0_1 : List Int) : Option (Bool) := (impl_IsRelation.f k a0_0 l0_1).bind fun t450 => (if t450 = true then (impl_IsOrder.l0 k l0_1 (l0_1.length : Int) 0 a0_0 l0_1) else (some false))
theorem impl_IsOrder.mono_l : ∀ k, (∀ y0 y1 y2 y3 y4, LeO (impl_IsOrder.l0 k y0 y1 y2 y3 y4) (impl_IsOrder.l0 (k + 1) y0 y1 y2 y3 y4)) ∧ (∀ y0 y1 y2 y3 y4 y5 y6 y7 y8, LeO (impl_IsOrder.l1 k y0 y1 y2 y3 y4 y5 y6 y7 y8) (impl_IsOrder.l1 (k + 1) y0 y1 y2 y3 y4 y5 y6 y7 y8))
 | 0 => ⟨fun _ _ _ _ _ r h => by simp [impl_IsOrder.l0] at h, fun _ _ _ _ _ _ _ _ _ r h => by simp [impl_IsOrder.l1] at h⟩
 | k + 1 => by
  obtain ⟨ih0, ih1⟩ := impl_IsOrder.mono_l k
  refine ⟨?_, ?_⟩ <;> intros
  unfold impl_IsOrder.l0
  rotate_left
  unfold impl_IsOrder.l1
  rotate_left
  all_goals repeat' (with_reducible first|apply ih0|apply ih1|apply impl_IsRelation.mono|apply impl_members.mono|apply LeO.refl|apply LeO.none|apply LeO.ite|apply LeO.bind|intro)
theorem impl_IsOrder.mono : ∀ a0 a1 k, LeO (impl_IsOrder.f k a0 a1) (impl_IsOrder.f (k + 1) a0 a1) := by
 intro a0 a1 k
 obtain ⟨ih0, ih1⟩ := impl_IsOrder.mono_l k
 unfold impl_IsOrder.f
 repeat' (with_reducible first|apply ih0|apply ih1|apply impl_IsRelation.mono|apply impl_members.mono|apply LeO.refl|apply LeO.none|apply LeO.ite|apply LeO.bind|intro)
theorem impl_IsOrder.calls (k : Nat) (a0_0 : Int) (A0_1 : Option Addr) (c0_1 : Nat) (l0_1 : List Int) (r : Bool) (w : World) (hr0_1 : Kd.C (Kd.int .i64) w A0_1 l0_1.length l0_1) (hc0_1 : l0_1.length ≤ c0_1) (hTAB : Tab w) (h : impl_IsOrder.f k a0_0 l0_1 = some r) :
  Calls Tryd.prog 40 #[.agg #[.int .i64 a0_0, .slice A0_1 l0_1.length c0_1]] w fun e w' => e = .returned (.bool r) ∧ Below w.heap.size w w' := by
 have HTAB := mkA hTAB
 clear hTAB
 have hu32 := Tryd.underlying32
 have HR0_1 := mkA hr0_1
 have HC0_1 := mkA hc0_1
 clear hr0_1 hc0_1
 have HB := mkA (Below.refl w.heap.size w)
 have H := h
 clear h
 unfold impl_IsOrder.f at H
 obtain ⟨t450, A2, H⟩ := obE H
 by_cases c3 : t450 = true
 ·subst c3
  replace H := ifT H
  have H' := mkA H
  clear H
  go_enter Tryd.func40, Tryd.ntmps40
  go_wp2_with (first | ((with_reducible refine gate_dst (N := 1) rfl ?_); refine boxG HB #[.int .i64 a0_0, .slice A0_1 l0_1.length c0_1] 32 ?_; intro gb449 hg w4 BK449 GE449 hb; replace HB := bst HB hb; clear hb hg; obtain ⟨_, _, _, _⟩ := blk2 BK449) | ((with_reducible refine gate_callee (f := 36) rfl ?_); refine goesQ (some 8) Tryd.func36 #[.agg #[.int .i64 a0_0, .slice A0_1 l0_1.length c0_1]] ?_; (with_reducible refine (impl_IsRelation.calls k a0_0 _ _ l0_1 true _ ?_ ?_ A2.out).mono ?_); exact C_g HR0_1 HB; exact HC0_1.out; rintro e w6 ⟨rfl, hb⟩; refine ⟨_, rfl, ?_⟩; replace BK449 := blkB BK449 hb; replace HB := bst HB hb; clear hb; obtain ⟨_, _, _, _⟩ := blk2 BK449))
  go_loopg [13] k (fun kq v13 w' => ∃ (x13_1 : Int), v13 = .int .i64 x13_1 ∧ Fc (impl_IsOrder.l0 kq l0_1 (l0_1.length : Int) x13_1 a0_0 l0_1 = some r) ∧ Fc (kq ≤ k) ∧ Fc (w'.heap[gb449]? = some (.cells #[.int .i64 a0_0, (.slice A0_1 l0_1.length c0_1)] 32 (0, 0))) ∧ Fc (Below w.heap.size w w'))
  case atStart => exact ⟨(0), eqS, H', ⟨Nat.le_refl _⟩, bg BK449, hbg HB⟩
  case round =>
   clear H'
   try clear c3
   obtain ⟨x13_1, rfl, HA, HK1, BK449, HB⟩ := hrel
   cases gk with
   | zero => exact absurd HA.out (by simp [impl_IsOrder.l0])
   | succ k1 =>
    have H := HA.out
    clear HA
    simp only [impl_IsOrder.l0] at H
    rcases iteE H with ⟨c8b0, H⟩ | ⟨c8b0, H⟩
    ·obtain ⟨c9b0, H⟩ := itND H
     obtain ⟨c10b0, H⟩ := itND H
     obtain ⟨t452, A11, H⟩ := obE H
     by_cases c12 : t452 = true
     ·subst c12
      replace H := ifT H
      obtain rfl := Option.some.inj H
      obtain ⟨p451, q451, ad451, e451, hx451_0⟩ := atI HR0_1.out x13_1
      cases e451
      replace hx451_0 := (HB.out.cell (World.block_lt_of_cell? w _ hx451_0)).trans hx451_0
      obtain ⟨_, _, _, _⟩ := blk2 BK449
      go_wp2_with (first | ((with_reducible refine gate_callee (f := 47) rfl ?_); refine goesQ (some 21) Tryd.func47 #[.agg #[.int .i64 a0_0, .slice (some ad451) l0_1.length c0_1], .int .i64 x13_1, .int .i64 x13_1] ?_; (with_reducible refine (impl_Order_better.calls a0_0 _ _ l0_1 x13_1 x13_1 true _ ?_ ?_ A11.out).mono ?_); exact C_g HR0_1 HB; exact HC0_1.out; rintro e w14 ⟨rfl, hb⟩; refine ⟨_, rfl, ?_⟩; replace BK449 := blkB BK449 hb; replace HB := bst HB hb; clear hb))
      go_ret
      exact ⟨eqE, bel_g HB.out⟩
     ·replace c12 := Bool.eq_false_iff.mpr c12
      subst c12
      replace H := ifF H
      obtain ⟨t453, A15, H⟩ := obE H
      have H' := mkA H
      clear H
      obtain ⟨p451, q451, ad451, e451, hx451_0⟩ := atI HR0_1.out x13_1
      cases e451
      replace hx451_0 := (HB.out.cell (World.block_lt_of_cell? w _ hx451_0)).trans hx451_0
      obtain ⟨_, _, _, _⟩ := blk2 BK449
      go_wp2_with (first | ((with_reducible refine gate_callee (f := 47) rfl ?_); refine goesQ (some 21) Tryd.func47 #[.agg #[.int .i64 a0_0, .slice (some ad451) l0_1.length c0_1], .int .i64 x13_1, .int .i64 x13_1] ?_; (with_reducible refine (impl_Order_better.calls a0_0 _ _ l0_1 x13_1 x13_1 false _ ?_ ?_ A11.out).mono ?_); exact C_g HR0_1 HB; exact HC0_1.out; rintro e w17 ⟨rfl, hb⟩; refine ⟨_, rfl, ?_⟩; replace BK449 := blkB BK449 hb; replace HB := bst HB hb; clear hb) | ((with_reducible refine gate_callee (f := 55) rfl ?_); refine goesQ (some 23) Tryd.func55 #[.int .i64 (rd l0_1 x13_1)] ?_; (with_reducible refine (impl_members.calls k1 (rd l0_1 x13_1) t453 _ ?_ A15.out).mono ?_); exact Tab.below HTAB.out (bel_g HB.out); rintro e w18 ⟨v454, rfl, ho0, hb⟩; refine ⟨_, rfl, ?_⟩; have HO455 := rLo ho0 HB; replace BK449 := blkB BK449 hb; replace HB := bst HB hb; clear hb ho0; obtain ⟨Ao19, co19, rfl⟩ := Kd.R_slice HO455.out))
      go_loopg [25] k1 (fun kq v25 w' => ∃ (x25_2 : Int), v25 = .int .i64 x25_2 ∧ Fc (impl_IsOrder.l1 kq (rd l0_1 x13_1) l0_1 (l0_1.length : Int) x13_1 t453 (t453.length : Int) x25_2 a0_0 l0_1 = some r) ∧ Fc (kq ≤ k1) ∧ Fc (Kd.R (Kd.int .i64) 3 w' w.heap.size (fun _ => True) (.slice Ao19 t453.length co19) t453) ∧ Fc (w'.heap[gb449]? = some (.cells #[.int .i64 a0_0, (.slice (some ad451) l0_1.length c0_1)] 32 (0, 0))) ∧ Fc (Below w.heap.size w w'))
      case atStart => exact ⟨(0), eqS, H', ⟨Nat.le_refl _⟩, rg HO455, bg BK449, hbg HB⟩
      case round =>
       clear H'
       try clear c3
       try clear c8b0
       try clear c9
       try clear c9b0
       try clear c10
       try clear c10b0
       try clear c12
       try clear hx451_0
       try clear p451
       try clear q451
       obtain ⟨x25_2, rfl, HA, HK2, HO_23, BK449, HB⟩ := hrel
       cases gk with
       | zero => exact absurd HA.out (by simp [impl_IsOrder.l1])
       | succ k2 =>
        have H := HA.out
        clear HA
        simp only [impl_IsOrder.l1] at H
        rcases iteE H with ⟨c20b0, H⟩ | ⟨c20b0, H⟩
        ·obtain ⟨c21b0, H⟩ := itND H
         obtain ⟨c22b0, H⟩ := itND H
         obtain ⟨c23b0, H⟩ := itND H
         obtain ⟨c24b0, H⟩ := itND H
         rcases iteP H with ⟨c25, H⟩ | ⟨c25, H⟩
         ·have c25b0 := beq_iff_eq.mpr c25
          have c25b1 := bne_eq_false_iff_eq.mpr c25
          clear c25
          have H' := mkA H
          clear H
          obtain ⟨p456, q456, ad456, e456, hx456_0⟩ := atI (Kd.R_reads' HO_23.out).2.2 x25_2
          cases e456
          obtain ⟨_, _, _, _⟩ := blk2 BK449
          obtain ⟨p457, q457, ad457, e457, hx457_0⟩ := atI HR0_1.out (rd t453 x25_2)
          obtain rfl : ad451 = ad457 := (by injection e457)
          replace hx457_0 := (HB.out.cell (World.block_lt_of_cell? w _ hx457_0)).trans hx457_0
          go_wp2
          go_roundg k2
          case measure => have := HK1.out; have := HK2.out; omega
          case rel => exact ⟨(wrap64 (x25_2 + 1)), eqS, H', ⟨by have := HK1.out; have := HK2.out; omega⟩, rg HO_23, bg BK449, hbg HB⟩
         ·have c25b0 := beq_eq_false_iff_ne.mpr c25
          have c25b1 := bne_iff_ne.mpr c25
          obtain rfl := Option.some.inj H
          obtain ⟨p456, q456, ad456, e456, hx456_0⟩ := atI (Kd.R_reads' HO_23.out).2.2 x25_2
          cases e456
          obtain ⟨_, _, _, _⟩ := blk2 BK449
          obtain ⟨p457, q457, ad457, e457, hx457_0⟩ := atI HR0_1.out (rd t453 x25_2)
          obtain rfl : ad451 = ad457 := (by injection e457)
          replace hx457_0 := (HB.out.cell (World.block_lt_of_cell? w _ hx457_0)).trans hx457_0
          go_wp2
          go_ret
          exact ⟨eqE, bel_g HB.out⟩
        ·have H' := mkA H
         clear H
         go_wp2
         go_roundg k2
         case measure => have := HK1.out; have := HK2.out; omega
         case rel => exact ⟨(wrap64 (x13_1 + 1)), eqS, H', ⟨by have := HK1.out; have := HK2.out; omega⟩, bg BK449, hbg HB⟩
    ·obtain rfl := Option.some.inj H
     go_wp2
     go_ret
     exact ⟨eqE, bel_g HB.out⟩
 ·replace c3 := Bool.eq_false_iff.mpr c3
  subst c3
  replace H := ifF H
  obtain rfl := Option.some.inj H
  go_enter Tryd.func40, Tryd.ntmps40
  go_wp2_with (first | ((with_reducible refine gate_dst (N := 1) rfl ?_); refine boxG HB #[.int .i64 a0_0, .slice A0_1 l0_1.length c0_1] 32 ?_; intro gb449 hg w28 BK449 GE449 hb; replace HB := bst HB hb; clear hb hg; obtain ⟨_, _, _, _⟩ := blk2 BK449) | ((with_reducible refine gate_callee (f := 36) rfl ?_); refine goesQ (some 8) Tryd.func36 #[.agg #[.int .i64 a0_0, .slice A0_1 l0_1.length c0_1]] ?_; (with_reducible refine (impl_IsRelation.calls k a0_0 _ _ l0_1 false _ ?_ ?_ A2.out).mono ?_); exact C_g HR0_1 HB; exact HC0_1.out; rintro e w30 ⟨rfl, hb⟩; refine ⟨_, rfl, ?_⟩; replace BK449 := blkB BK449 hb; replace HB := bst HB hb; clear hb))
  go_ret
  exact ⟨eqE, bel_g HB.out⟩
mutual
def impl_Order_twoTwo.l0 : Nat → Int → Int → Int → List Int → Option (List Int)
 | 0, _, _, _, _ => none
 | k + 1, x8, x9, x459000, x459001 => if x9 < x8 then (impl_Order_twoTwo.l1 k x9 x8 x9 x459000 0 x459000 x459001) else (some ([] : List Int))
def impl_Order_twoTwo.l1 : Nat → Int → Int → Int → Int → Int → Int → List Int → Option (List Int)
 | 0, _, _, _, _, _, _, _ => none
 | k + 1, x3, x8, x9, x13, x14, x459000, x459001 => if x14 < x13 then (impl_Order_twoTwo.l2 k x3 x14 x8 x9 x13 x14 x459000 0 x459000 x459001) else (impl_Order_twoTwo.l0 k x8 (wrap64 (x9 + 1)) x459000 x459001)
def impl_Order_twoTwo.l2 : Nat → Int → Int → Int → Int → Int → Int → Int → Int → Int → List Int → Option (List Int)
 | 0, _, _, _, _, _, _, _, _, _, _ => none
 | k + 1, x3, x4, x8, x9, x13, x14, x18, x19, x459000, x459001 => if x19 < x18 then (impl_Order_twoTwo.l3 k x3 x4 x19 x8 x9 x13 x14 x18 x19 x459000 0 x459000 x459001) else (impl_Order_twoTwo.l1 k x3 x8 x9 x13 (wrap64 (x14 + 1)) x459000 x459001)
def impl_Order_twoTwo.l3 : Nat → Int → Int → Int → Int → Int → Int → Int → Int → Int → Int → Int → Int → List Int → Option (List Int)
 | 0, _, _, _, _, _, _, _, _, _, _, _, _, _ => none
 | k + 1, x3, x4, x5, x8, x9, x13, x14, x18, x19, x23, x24, x459000, x459001 => if x24 < x23 then ((impl_Order_better.f x459000 x459001 x3 x4).bind fun t459 => (if t459 = true then ((impl_Order_better.f x459000 x459001 x5 x24).bind fun t460 => (if t460 = true then ((impl_Order_better.f x459000 x459001 x5 x4).bind fun t461 => (if t461 = true then (impl_Order_twoTwo.l3 k x3 x4 x5 x8 x9 x13 x14 x18 x19 x23 (wrap64 (x24 + 1)) x459000 x459001) else ((impl_Order_better.f x459000 x459001 x3 x24).bind fun t462 => (if t462 = true then (impl_Order_twoTwo.l3 k x3 x4 x5 x8 x9 x13 x14 x18 x19 x23 (wrap64 (x24 + 1)) x459000 x459001) else (some (([x3, x4, x5, x24] : List Int))))))) else (impl_Order_twoTwo.l3 k x3 x4 x5 x8 x9 x13 x14 x18 x19 x23 (wrap64 (x24 + 1)) x459000 x459001))) else (impl_Order_twoTwo.l3 k x3 x4 x5 x8 x9 x13 x14 x18 x19 x23 (wrap64 (x24 + 1)) x459000 x459001))) else (impl_Order_twoTwo.l2 k x3 x4 x8 x9 x13 x14 x18 (wrap64 (x19 + 1)) x459000 x459001)
end
def impl_Order_twoTwo.f (k : Nat) (a0_0 : Int) (l0_1 : List Int) : Option (List Int) := impl_Order_twoTwo.l0 k a0_0 0 a0_0 l0_1
theorem impl_Order_twoTwo.mono_l : ∀ k, (∀ y0 y1 y2 y3, LeO (impl_Order_twoTwo.l0 k y0 y1 y2 y3) (impl_Order_twoTwo.l0 (k + 1) y0 y1 y2 y3)) ∧ (∀ y0 y1 y2 y3 y4 y5 y6, LeO (impl_Order_twoTwo.l1 k y0 y1 y2 y3 y4 y5 y6) (impl_Order_twoTwo.l1 (k + 1) y0 y1 y2 y3 y4 y5 y6)) ∧ (∀ y0 y1 y2 y3 y4 y5 y6 y7 y8 y9, LeO (impl_Order_twoTwo.l2 k y0 y1 y2 y3 y4 y5 y6 y7 y8 y9) (impl_Order_twoTwo.l2 (k + 1) y0 y1 y2 y3 y4 y5 y6 y7 y8 y9)) ∧ (∀ y0 y1 y2 y3 y4 y5 y6 y7 y8 y9 y10 y11 y12, LeO (impl_Order_twoTwo.l3 k y0 y1 y2 y3 y4 y5 y6 y7 y8 y9 y10 y11 y12) (impl_Order_twoTwo.l3 (k + 1) y0 y1 y2 y3 y4 y5 y6 y7 y8 y9 y10 y11 y12))
 | 0 => ⟨fun _ _ _ _ r h => by simp [impl_Order_twoTwo.l0] at h, fun _ _ _ _ _ _ _ r h => by simp [impl_Order_twoTwo.l1] at h, fun _ _ _ _ _ _ _ _ _ _ r h => by simp [impl_Order_twoTwo.l2] at h, fun _ _ _ _ _ _ _ _ _ _ _ _ _ r h => by simp [impl_Order_twoTwo.l3] at h⟩
 | k + 1 => by
  obtain ⟨ih0, ih1, ih2, ih3⟩ := impl_Order_twoTwo.mono_l k
  refine ⟨?_, ?_, ?_, ?_⟩ <;> intros
  unfold impl_Order_twoTwo.l0
  rotate_left
  unfold impl_Order_twoTwo.l1
  rotate_left
  unfold impl_Order_twoTwo.l2
  rotate_left
  unfold impl_Order_twoTwo.l3
  rotate_left
  all_goals repeat' (with_reducible first|apply ih0|apply ih1|apply ih2|apply ih3|apply LeO.refl|apply LeO.none|apply LeO.ite|apply LeO.bind|intro)
theorem impl_Order_twoTwo.mono : ∀ a0 a1 k, LeO (impl_Order_twoTwo.f k a0 a1) (impl_Order_twoTwo.f (k + 1) a0 a1) := by
 intro a0 a1 k
 obtain ⟨ih0, ih1, ih2, ih3⟩ := impl_Order_twoTwo.mono_l k
 unfold impl_Order_twoTwo.f
 repeat' (with_reducible first|apply ih0|apply ih1|apply ih2|apply ih3|apply LeO.refl|apply LeO.none|apply LeO.ite|apply LeO.bind|intro)
theorem impl_Order_twoTwo.calls (k : Nat) (a0_0 : Int) (A0_1 : Option Addr) (c0_1 : Nat) (l0_1 : List Int) (r : List Int) (w : World) (hr0_1 : Kd.C (Kd.int .i64) w A0_1 l0_1.length l0_1) (hc0_1 : l0_1.length ≤ c0_1) (h : impl_Order_twoTwo.f k a0_0 l0_1 = some r) :
  Calls Tryd.prog 45 #[.agg #[.int .i64 a0_0, .slice A0_1 l0_1.length c0_1]] w fun e w' => ∃ v0_ : Value, e = .returned (v0_) ∧ Kd.R (Kd.int .i64) 3 w' w.heap.size (fun _ => True) v0_ r ∧ Below w.heap.size w w' ∧ (r = [] → v0_ = .slice none 0 0) := by
 have hu32 := Tryd.underlying32
 have HR0_1 := mkA hr0_1
 have HC0_1 := mkA hc0_1
 clear hr0_1 hc0_1
 have HB := mkA (Below.refl w.heap.size w)
 have H := h
 clear h
 unfold impl_Order_twoTwo.f at H
 have H' := mkA H
 clear H
 go_enter Tryd.func45, Tryd.ntmps45
 go_wp2_with (first | ((with_reducible refine gate_dst (N := 1) rfl ?_); refine boxG HB #[.int .i64 a0_0, .slice A0_1 l0_1.length c0_1] 32 ?_; intro gb458 hg w2 BK458 GE458 hb; replace HB := bst HB hb; clear hb hg; obtain ⟨_, _, _, _⟩ := blk2 BK458))
 go_loopg [9] k (fun kq v9 w' => ∃ (x9_1 : Int), v9 = .int .i64 x9_1 ∧ Fc (impl_Order_twoTwo.l0 kq a0_0 x9_1 a0_0 l0_1 = some r) ∧ Fc (kq ≤ k) ∧ Fc (w'.heap[gb458]? = some (.cells #[.int .i64 a0_0, (.slice A0_1 l0_1.length c0_1)] 32 (0, 0))) ∧ Fc (Below w.heap.size w w'))
 case atStart => exact ⟨(0), eqS, H', ⟨Nat.le_refl _⟩, bg BK458, hbg HB⟩
 case round =>
  clear H'
  obtain ⟨x9_1, rfl, HA, HK1, BK458, HB⟩ := hrel
  cases gk with
  | zero => exact absurd HA.out (by simp [impl_Order_twoTwo.l0])
  | succ k1 =>
   have H := HA.out
   clear HA
   simp only [impl_Order_twoTwo.l0] at H
   rcases iteE H with ⟨c4b0, H⟩ | ⟨c4b0, H⟩
   ·have H' := mkA H
    clear H
    obtain ⟨_, _, _, _⟩ := blk2 BK458
    go_wp2
    go_loopg [14] k1 (fun kq v14 w' => ∃ (x14_2 : Int), v14 = .int .i64 x14_2 ∧ Fc (impl_Order_twoTwo.l1 kq x9_1 a0_0 x9_1 a0_0 x14_2 a0_0 l0_1 = some r) ∧ Fc (kq ≤ k1) ∧ Fc (w'.heap[gb458]? = some (.cells #[.int .i64 a0_0, (.slice A0_1 l0_1.length c0_1)] 32 (0, 0))) ∧ Fc (Below w.heap.size w w'))
    case atStart => exact ⟨(0), eqS, H', ⟨Nat.le_refl _⟩, bg BK458, hbg HB⟩
    case round =>
     clear H'
     try clear c4b0
     obtain ⟨x14_2, rfl, HA, HK2, BK458, HB⟩ := hrel
     cases gk with
     | zero => exact absurd HA.out (by simp [impl_Order_twoTwo.l1])
     | succ k2 =>
      have H := HA.out
      clear HA
      simp only [impl_Order_twoTwo.l1] at H
      rcases iteE H with ⟨c6b0, H⟩ | ⟨c6b0, H⟩
      ·have H' := mkA H
       clear H
       obtain ⟨_, _, _, _⟩ := blk2 BK458
       go_wp2
       go_loopg [19] k2 (fun kq v19 w' => ∃ (x19_3 : Int), v19 = .int .i64 x19_3 ∧ Fc (impl_Order_twoTwo.l2 kq x9_1 x14_2 a0_0 x9_1 a0_0 x14_2 a0_0 x19_3 a0_0 l0_1 = some r) ∧ Fc (kq ≤ k2) ∧ Fc (w'.heap[gb458]? = some (.cells #[.int .i64 a0_0, (.slice A0_1 l0_1.length c0_1)] 32 (0, 0))) ∧ Fc (Below w.heap.size w w'))
       case atStart => exact ⟨(0), eqS, H', ⟨Nat.le_refl _⟩, bg BK458, hbg HB⟩
       case round =>
        clear H'
        try clear c4b0
        try clear c6b0
        obtain ⟨x19_3, rfl, HA, HK3, BK458, HB⟩ := hrel
        cases gk with
        | zero => exact absurd HA.out (by simp [impl_Order_twoTwo.l2])
        | succ k3 =>
         have H := HA.out
         clear HA
         simp only [impl_Order_twoTwo.l2] at H
         rcases iteE H with ⟨c8b0, H⟩ | ⟨c8b0, H⟩
         ·have H' := mkA H
          clear H
          obtain ⟨_, _, _, _⟩ := blk2 BK458
          go_wp2
          go_loopg [24] k3 (fun kq v24 w' => ∃ (x24_4 : Int), v24 = .int .i64 x24_4 ∧ Fc (impl_Order_twoTwo.l3 kq x9_1 x14_2 x19_3 a0_0 x9_1 a0_0 x14_2 a0_0 x19_3 a0_0 x24_4 a0_0 l0_1 = some r) ∧ Fc (kq ≤ k3) ∧ Fc (w'.heap[gb458]? = some (.cells #[.int .i64 a0_0, (.slice A0_1 l0_1.length c0_1)] 32 (0, 0))) ∧ Fc (Below w.heap.size w w'))
          case atStart => exact ⟨(0), eqS, H', ⟨Nat.le_refl _⟩, bg BK458, hbg HB⟩
          case round =>
           clear H'
           try clear c4b0
           try clear c6b0
           try clear c8b0
           obtain ⟨x24_4, rfl, HA, HK4, BK458, HB⟩ := hrel
           cases gk with
           | zero => exact absurd HA.out (by simp [impl_Order_twoTwo.l3])
           | succ k4 =>
            have H := HA.out
            clear HA
            simp only [impl_Order_twoTwo.l3] at H
            rcases iteE H with ⟨c10b0, H⟩ | ⟨c10b0, H⟩
            ·obtain ⟨t459, A11, H⟩ := obE H
             by_cases c12 : t459 = true
             ·subst c12
              replace H := ifT H
              obtain ⟨t460, A13, H⟩ := obE H
              by_cases c14 : t460 = true
              ·subst c14
               replace H := ifT H
               obtain ⟨t461, A15, H⟩ := obE H
               by_cases c16 : t461 = true
               ·subst c16
                replace H := ifT H
                have H' := mkA H
                clear H
                obtain ⟨_, _, _, _⟩ := blk2 BK458
                go_wp2_with (first | ((with_reducible refine gate_callee (f := 47) rfl ?_); refine goesQ (some 30) Tryd.func47 #[.agg #[.int .i64 a0_0, .slice A0_1 l0_1.length c0_1], .int .i64 x9_1, .int .i64 x14_2] ?_; (with_reducible refine (impl_Order_better.calls a0_0 _ _ l0_1 x9_1 x14_2 true _ ?_ ?_ A11.out).mono ?_); exact C_g HR0_1 HB; exact HC0_1.out; rintro e w18 ⟨rfl, hb⟩; refine ⟨_, rfl, ?_⟩; replace BK458 := blkB BK458 hb; replace HB := bst HB hb; clear hb; obtain ⟨_, _, _, _⟩ := blk2 BK458) | (go_at_call 47; (with_reducible refine (impl_Order_better.calls a0_0 _ _ l0_1 x19_3 x24_4 true _ ?_ ?_ A13.out).mono ?_); exact C_g HR0_1 HB; exact HC0_1.out; rintro e w20 ⟨rfl, hb⟩; replace BK458 := blkB BK458 hb; replace HB := bst HB hb; clear hb; obtain ⟨_, _, _, _⟩ := blk2 BK458) | (go_at_call 47; (with_reducible refine (impl_Order_better.calls a0_0 _ _ l0_1 x19_3 x14_2 true _ ?_ ?_ A15.out).mono ?_); exact C_g HR0_1 HB; exact HC0_1.out; rintro e w22 ⟨rfl, hb⟩; replace BK458 := blkB BK458 hb; replace HB := bst HB hb; clear hb))
                go_roundg k4
                case measure => have := HK1.out; have := HK2.out; have := HK3.out; have := HK4.out; omega
                case rel => exact ⟨(wrap64 (x24_4 + 1)), eqS, H', ⟨by have := HK1.out; have := HK2.out; have := HK3.out; have := HK4.out; omega⟩, bg BK458, hbg HB⟩
               ·replace c16 := Bool.eq_false_iff.mpr c16
                subst c16
                replace H := ifF H
                obtain ⟨t462, A23, H⟩ := obE H
                by_cases c24 : t462 = true
                ·subst c24
                 replace H := ifT H
                 have H' := mkA H
                 clear H
                 obtain ⟨_, _, _, _⟩ := blk2 BK458
                 go_wp2_with (first | ((with_reducible refine gate_callee (f := 47) rfl ?_); refine goesQ (some 30) Tryd.func47 #[.agg #[.int .i64 a0_0, .slice A0_1 l0_1.length c0_1], .int .i64 x9_1, .int .i64 x14_2] ?_; (with_reducible refine (impl_Order_better.calls a0_0 _ _ l0_1 x9_1 x14_2 true _ ?_ ?_ A11.out).mono ?_); exact C_g HR0_1 HB; exact HC0_1.out; rintro e w26 ⟨rfl, hb⟩; refine ⟨_, rfl, ?_⟩; replace BK458 := blkB BK458 hb; replace HB := bst HB hb; clear hb; obtain ⟨_, _, _, _⟩ := blk2 BK458) | (go_at_call 47; (with_reducible refine (impl_Order_better.calls a0_0 _ _ l0_1 x19_3 x24_4 true _ ?_ ?_ A13.out).mono ?_); exact C_g HR0_1 HB; exact HC0_1.out; rintro e w28 ⟨rfl, hb⟩; replace BK458 := blkB BK458 hb; replace HB := bst HB hb; clear hb; obtain ⟨_, _, _, _⟩ := blk2 BK458) | (go_at_call 47; (with_reducible refine (impl_Order_better.calls a0_0 _ _ l0_1 x19_3 x14_2 false _ ?_ ?_ A15.out).mono ?_); exact C_g HR0_1 HB; exact HC0_1.out; rintro e w30 ⟨rfl, hb⟩; replace BK458 := blkB BK458 hb; replace HB := bst HB hb; clear hb; obtain ⟨_, _, _, _⟩ := blk2 BK458) | (go_at_call 47; (with_reducible refine (impl_Order_better.calls a0_0 _ _ l0_1 x9_1 x24_4 true _ ?_ ?_ A23.out).mono ?_); exact C_g HR0_1 HB; exact HC0_1.out; rintro e w32 ⟨rfl, hb⟩; replace BK458 := blkB BK458 hb; replace HB := bst HB hb; clear hb))
                 go_roundg k4
                 case measure => have := HK1.out; have := HK2.out; have := HK3.out; have := HK4.out; omega
                 case rel => exact ⟨(wrap64 (x24_4 + 1)), eqS, H', ⟨by have := HK1.out; have := HK2.out; have := HK3.out; have := HK4.out; omega⟩, bg BK458, hbg HB⟩
                ·replace c24 := Bool.eq_false_iff.mpr c24
                 subst c24
                 replace H := ifF H
                 obtain ⟨y463, hy463⟩ : ∃ y_ : List Int, y_ = (([x9_1, x14_2, x19_3, x24_4] : List Int)) := ⟨_, rfl⟩
                 rw [← hy463] at H
                 have Ny463 := mkA hy463
                 clear hy463
                 obtain rfl := Option.some.inj H
                 obtain ⟨_, _, _, _⟩ := blk2 BK458
                 go_wp2_with (first | ((with_reducible refine gate_callee (f := 47) rfl ?_); refine goesQ (some 30) Tryd.func47 #[.agg #[.int .i64 a0_0, .slice A0_1 l0_1.length c0_1], .int .i64 x9_1, .int .i64 x14_2] ?_; (with_reducible refine (impl_Order_better.calls a0_0 _ _ l0_1 x9_1 x14_2 true _ ?_ ?_ A11.out).mono ?_); exact C_g HR0_1 HB; exact HC0_1.out; rintro e w34 ⟨rfl, hb⟩; refine ⟨_, rfl, ?_⟩; replace BK458 := blkB BK458 hb; replace HB := bst HB hb; clear hb; obtain ⟨_, _, _, _⟩ := blk2 BK458) | (go_at_call 47; (with_reducible refine (impl_Order_better.calls a0_0 _ _ l0_1 x19_3 x24_4 true _ ?_ ?_ A13.out).mono ?_); exact C_g HR0_1 HB; exact HC0_1.out; rintro e w36 ⟨rfl, hb⟩; replace BK458 := blkB BK458 hb; replace HB := bst HB hb; clear hb; obtain ⟨_, _, _, _⟩ := blk2 BK458) | (go_at_call 47; (with_reducible refine (impl_Order_better.calls a0_0 _ _ l0_1 x19_3 x14_2 false _ ?_ ?_ A15.out).mono ?_); exact C_g HR0_1 HB; exact HC0_1.out; rintro e w38 ⟨rfl, hb⟩; replace BK458 := blkB BK458 hb; replace HB := bst HB hb; clear hb; obtain ⟨_, _, _, _⟩ := blk2 BK458) | (go_at_call 47; (with_reducible refine (impl_Order_better.calls a0_0 _ _ l0_1 x9_1 x24_4 false _ ?_ ?_ A23.out).mono ?_); exact C_g HR0_1 HB; exact HC0_1.out; rintro e w40 ⟨rfl, hb⟩; replace BK458 := blkB BK458 hb; replace HB := bst HB hb; clear hb) | ((with_reducible refine gate_dst (N := 55) rfl ?_); refine litE (Kd.int .i64) 3 ([x9_1, x14_2, x19_3, x24_4] : List Int) [.int .i64 x9_1, .int .i64 x14_2, .int .i64 x19_3, .int .i64 x24_4] ?hp ?_; (case hp => exact (Reps.one (show Kd.M (Kd.int .i64) _ _ _ x9_1 [.int .i64 x9_1] from rfl) (Reps.one (show Kd.M (Kd.int .i64) _ _ _ x14_2 [.int .i64 x14_2] from rfl) (Reps.one (show Kd.M (Kd.int .i64) _ _ _ x19_3 [.int .i64 x19_3] from rfl) (Reps.one (show Kd.M (Kd.int .i64) _ _ _ x24_4 [.int .i64 x24_4] from rfl) (Reps.none _ _)))))); intro v464 w41 ho42 hb hg_ hnew_; clear hg_ hnew_; (first | rw [← Ny463.out] at ho42 | (simp only [Int.reduceToNat] at ho42; rw [← Ny463.out] at ho42)); have HO465 := rLo ho42 HB; replace BK458 := blkB BK458 hb; replace HB := bst HB hb; clear hb ho42))
                 go_ret
                 exact ⟨_, eqE, Kd.R_g HO465.out, bel_g HB.out, by first | rfl | (intro _; rfl) | (intro h_; simp at h_; done) | (intro h_; rw [Ny463.out] at h_; simp at h_; done)⟩
              ·replace c14 := Bool.eq_false_iff.mpr c14
               subst c14
               replace H := ifF H
               have H' := mkA H
               clear H
               obtain ⟨_, _, _, _⟩ := blk2 BK458
               go_wp2_with (first | ((with_reducible refine gate_callee (f := 47) rfl ?_); refine goesQ (some 30) Tryd.func47 #[.agg #[.int .i64 a0_0, .slice A0_1 l0_1.length c0_1], .int .i64 x9_1, .int .i64 x14_2] ?_; (with_reducible refine (impl_Order_better.calls a0_0 _ _ l0_1 x9_1 x14_2 true _ ?_ ?_ A11.out).mono ?_); exact C_g HR0_1 HB; exact HC0_1.out; rintro e w44 ⟨rfl, hb⟩; refine ⟨_, rfl, ?_⟩; replace BK458 := blkB BK458 hb; replace HB := bst HB hb; clear hb; obtain ⟨_, _, _, _⟩ := blk2 BK458) | (go_at_call 47; (with_reducible refine (impl_Order_better.calls a0_0 _ _ l0_1 x19_3 x24_4 false _ ?_ ?_ A13.out).mono ?_); exact C_g HR0_1 HB; exact HC0_1.out; rintro e w46 ⟨rfl, hb⟩; replace BK458 := blkB BK458 hb; replace HB := bst HB hb; clear hb))
               go_roundg k4
               case measure => have := HK1.out; have := HK2.out; have := HK3.out; have := HK4.out; omega
               case rel => exact ⟨(wrap64 (x24_4 + 1)), eqS, H', ⟨by have := HK1.out; have := HK2.out; have := HK3.out; have := HK4.out; omega⟩, bg BK458, hbg HB⟩
             ·replace c12 := Bool.eq_false_iff.mpr c12
              subst c12
              replace H := ifF H
              have H' := mkA H
              clear H
              obtain ⟨_, _, _, _⟩ := blk2 BK458
              go_wp2_with (first | ((with_reducible refine gate_callee (f := 47) rfl ?_); refine goesQ (some 30) Tryd.func47 #[.agg #[.int .i64 a0_0, .slice A0_1 l0_1.length c0_1], .int .i64 x9_1, .int .i64 x14_2] ?_; (with_reducible refine (impl_Order_better.calls a0_0 _ _ l0_1 x9_1 x14_2 false _ ?_ ?_ A11.out).mono ?_); exact C_g HR0_1 HB; exact HC0_1.out; rintro e w48 ⟨rfl, hb⟩; refine ⟨_, rfl, ?_⟩; replace BK458 := blkB BK458 hb; replace HB := bst HB hb; clear hb))
              go_roundg k4
              case measure => have := HK1.out; have := HK2.out; have := HK3.out; have := HK4.out; omega
              case rel => exact ⟨(wrap64 (x24_4 + 1)), eqS, H', ⟨by have := HK1.out; have := HK2.out; have := HK3.out; have := HK4.out; omega⟩, bg BK458, hbg HB⟩
            ·have H' := mkA H
             clear H
             go_wp2
             go_roundg k4
             case measure => have := HK1.out; have := HK2.out; have := HK3.out; have := HK4.out; omega
             case rel => exact ⟨(wrap64 (x19_3 + 1)), eqS, H', ⟨by have := HK1.out; have := HK2.out; have := HK3.out; have := HK4.out; omega⟩, bg BK458, hbg HB⟩
         ·have H' := mkA H
          clear H
          go_wp2
          go_roundg k3
          case measure => have := HK1.out; have := HK2.out; have := HK3.out; omega
          case rel => exact ⟨(wrap64 (x14_2 + 1)), eqS, H', ⟨by have := HK1.out; have := HK2.out; have := HK3.out; omega⟩, bg BK458, hbg HB⟩
      ·have H' := mkA H
       clear H
       go_wp2
       go_roundg k2
       case measure => have := HK1.out; have := HK2.out; omega
       case rel => exact ⟨(wrap64 (x9_1 + 1)), eqS, H', ⟨by have := HK1.out; have := HK2.out; omega⟩, bg BK458, hbg HB⟩
   ·obtain rfl := Option.some.inj H
    go_wp2
    go_ret
    exact ⟨_, eqE, nilE, bel_g HB.out, by first | rfl | (intro _; rfl) | (intro h_; simp at h_; done)⟩
end Go.Proofs.YtlfjnllnddpgoaaDoor.Q
