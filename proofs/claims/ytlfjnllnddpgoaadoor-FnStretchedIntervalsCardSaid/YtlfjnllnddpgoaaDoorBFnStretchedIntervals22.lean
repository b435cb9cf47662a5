import Derived.Test.YtlfjnllnddpgoaaDoorBFnStretchedIntervals21
namespace Go.Proofs.YtlfjnllnddpgoaaDoor.Q
open Go.RowKit Go.Proofs.YtlfjnllnddpgoaaDoorW.PrintWords Go.Proofs.YtlfjnllnddpgoaaDoorW.PrintLast Go.Proofs.YtlfjnllnddpgoaaDoorW.PrintMore
attribute [local go_sem] max2_int min2_int max_two min_two max_three min_three max_four min_four neB_f
set_option linter.unusedVariables false
set_option maxHeartbeats 8000000
set_option maxRecDepth 100000
set_option linter.unusedSimpArgs false
mutual
def spec_ivTwoTwo.l0 : Nat → Int → Int → List Int → Option (List Int × Bool)
 | 0, _, _, _ => none
 | k + 1, x4, x691000, x691001 => if x4 < x691000 then (spec_ivTwoTwo.l1 k x4 0 x691000 x691001) else (some (([] : List Int), false))
def spec_ivTwoTwo.l1 : Nat → Int → Int → Int → List Int → Option (List Int × Bool)
 | 0, _, _, _, _ => none
 | k + 1, x4, x5, x691000, x691001 => if x5 < x691000 then (spec_ivTwoTwo.l2 k x4 x5 0 x691000 x691001) else (spec_ivTwoTwo.l0 k (wrap64 (x4 + 1)) x691000 x691001)
def spec_ivTwoTwo.l2 : Nat → Int → Int → Int → Int → List Int → Option (List Int × Bool)
 | 0, _, _, _, _, _ => none
 | k + 1, x4, x5, x6, x691000, x691001 => if x6 < x691000 then (spec_ivTwoTwo.l3 k x4 x5 x6 0 x691000 x691001) else (spec_ivTwoTwo.l1 k x4 (wrap64 (x5 + 1)) x691000 x691001)
def spec_ivTwoTwo.l3 : Nat → Int → Int → Int → Int → Int → List Int → Option (List Int × Bool)
 | 0, _, _, _, _, _, _ => none
 | k + 1, x4, x5, x6, x7, x691000, x691001 => if x7 < x691000 then ((spec_ivRefuses.f x691000 x691001 x4 x5 x6 x7).bind fun t691 => (if t691 = true then (some ((([x4, x5, x6, x7] : List Int)), true)) else (spec_ivTwoTwo.l3 k x4 x5 x6 (wrap64 (x7 + 1)) x691000 x691001))) else (spec_ivTwoTwo.l2 k x4 x5 (wrap64 (x6 + 1)) x691000 x691001)
end
def spec_ivTwoTwo.f (k : Nat) (a0_0 : Int) (l0_1 : List Int) : Option (List Int × Bool) := spec_ivTwoTwo.l0 k 0 a0_0 l0_1
theorem spec_ivTwoTwo.mono_l : ∀ k, (∀ y0 y1 y2, LeO (spec_ivTwoTwo.l0 k y0 y1 y2) (spec_ivTwoTwo.l0 (k + 1) y0 y1 y2)) ∧ (∀ y0 y1 y2 y3, LeO (spec_ivTwoTwo.l1 k y0 y1 y2 y3) (spec_ivTwoTwo.l1 (k + 1) y0 y1 y2 y3)) ∧ (∀ y0 y1 y2 y3 y4, LeO (spec_ivTwoTwo.l2 k y0 y1 y2 y3 y4) (spec_ivTwoTwo.l2 (k + 1) y0 y1 y2 y3 y4)) ∧ (∀ y0 y1 y2 y3 y4 y5, LeO (spec_ivTwoTwo.l3 k y0 y1 y2 y3 y4 y5) (spec_ivTwoTwo.l3 (k + 1) y0 y1 y2 y3 y4 y5))
 | 0 => ⟨fun _ _ _ r h => by simp [spec_ivTwoTwo.l0] at h, fun _ _ _ _ r h => by simp [spec_ivTwoTwo.l1] at h, fun _ _ _ _ _ r h => by simp [spec_ivTwoTwo.l2] at h, fun _ _ _ _ _ _ r h => by simp [spec_ivTwoTwo.l3] at h⟩
 | k + 1 => by
  obtain ⟨ih0, ih1, ih2, ih3⟩ := spec_ivTwoTwo.mono_l k
  refine ⟨?_, ?_, ?_, ?_⟩ <;> intros
  unfold spec_ivTwoTwo.l0
  rotate_left
  unfold spec_ivTwoTwo.l1
  rotate_left
  unfold spec_ivTwoTwo.l2
  rotate_left
  unfold spec_ivTwoTwo.l3
  rotate_left
  all_goals repeat' (with_reducible first|apply ih0|apply ih1|apply ih2|apply ih3|apply LeO.refl|apply LeO.none|apply LeO.ite|apply LeO.bind|intro)
theorem spec_ivTwoTwo.mono : ∀ a0 a1 k, LeO (spec_ivTwoTwo.f k a0 a1) (spec_ivTwoTwo.f (k + 1) a0 a1) := by
 intro a0 a1 k
 obtain ⟨ih0, ih1, ih2, ih3⟩ := spec_ivTwoTwo.mono_l k
 unfold spec_ivTwoTwo.f
 repeat' (with_reducible first|apply ih0|apply ih1|apply ih2|apply ih3|apply LeO.refl|apply LeO.none|apply LeO.ite|apply LeO.bind|intro)
theorem spec_ivTwoTwo.calls (k : Nat) (a0_0 : Int) (A0_1 : Option Addr) (c0_1 : Nat) (l0_1 : List Int) (r1 : List Int) (r2 : Bool) (w : World) (hr0_1 : Kd.C (Kd.int .i64) w A0_1 l0_1.length l0_1) (hc0_1 : l0_1.length ≤ c0_1) (h : spec_ivTwoTwo.f k a0_0 l0_1 = some (r1, r2)) :
  Calls Tryd.prog 62 #[.agg #[.int .i64 a0_0, .slice A0_1 l0_1.length c0_1]] w fun e w' => ∃ v0_ : Value, e = .returned (.tuple #[v0_, .bool r2]) ∧ Kd.R (Kd.int .i64) 3 w' w.heap.size (fun _ => True) v0_ r1 ∧ Below w.heap.size w w' := by
 have hu32 := Tryd.underlying32
 have HR0_1 := mkA hr0_1
 have HC0_1 := mkA hc0_1
 clear hr0_1 hc0_1
 have HB := mkA (Below.refl w.heap.size w)
 have H := h
 clear h
 unfold spec_ivTwoTwo.f at H
 have H' := mkA H
 clear H
 go_enter Tryd.func62, Tryd.ntmps62
 go_wp2_with (first | ((with_reducible refine gate_dst (N := 1) rfl ?_); refine boxG HB #[.int .i64 a0_0, .slice A0_1 l0_1.length c0_1] 32 ?_; intro gb690 hg w2 BK690 GE690 hb; replace HB := bst HB hb; clear hb hg))
 go_loopg [4] k (fun kq v4 w' => ∃ (x4_1 : Int), v4 = .int .i64 x4_1 ∧ Fc (spec_ivTwoTwo.l0 kq x4_1 a0_0 l0_1 = some (r1, r2)) ∧ Fc (kq ≤ k) ∧ Fc (w'.heap[gb690]? = some (.cells #[.int .i64 a0_0, (.slice A0_1 l0_1.length c0_1)] 32 (0, 0))) ∧ Fc (Below w.heap.size w w'))
 case atStart => exact ⟨(0), eqS, H', ⟨Nat.le_refl _⟩, bg BK690, hbg HB⟩
 case round =>
  clear H'
  obtain ⟨x4_1, rfl, HA, HK1, BK690, HB⟩ := hrel
  cases gk with
  | zero => exact absurd HA.out (by simp [spec_ivTwoTwo.l0])
  | succ k1 =>
   have H := HA.out
   clear HA
   simp only [spec_ivTwoTwo.l0] at H
   rcases iteE H with ⟨c3b0, H⟩ | ⟨c3b0, H⟩
   ·have H' := mkA H
    clear H
    obtain ⟨_, _, _, _⟩ := blk2 BK690
    go_wp2
    go_loopg [5] k1 (fun kq v5 w' => ∃ (x5_2 : Int), v5 = .int .i64 x5_2 ∧ Fc (spec_ivTwoTwo.l1 kq x4_1 x5_2 a0_0 l0_1 = some (r1, r2)) ∧ Fc (kq ≤ k1) ∧ Fc (w'.heap[gb690]? = some (.cells #[.int .i64 a0_0, (.slice A0_1 l0_1.length c0_1)] 32 (0, 0))) ∧ Fc (Below w.heap.size w w'))
    case atStart => exact ⟨(0), eqS, H', ⟨Nat.le_refl _⟩, bg BK690, hbg HB⟩
    case round =>
     clear H'
     try clear c3b0
     obtain ⟨x5_2, rfl, HA, HK2, BK690, HB⟩ := hrel
     cases gk with
     | zero => exact absurd HA.out (by simp [spec_ivTwoTwo.l1])
     | succ k2 =>
      have H := HA.out
      clear HA
      simp only [spec_ivTwoTwo.l1] at H
      rcases iteE H with ⟨c5b0, H⟩ | ⟨c5b0, H⟩
      ·have H' := mkA H
       clear H
       obtain ⟨_, _, _, _⟩ := blk2 BK690
       go_wp2
       go_loopg [6] k2 (fun kq v6 w' => ∃ (x6_3 : Int), v6 = .int .i64 x6_3 ∧ Fc (spec_ivTwoTwo.l2 kq x4_1 x5_2 x6_3 a0_0 l0_1 = some (r1, r2)) ∧ Fc (kq ≤ k2) ∧ Fc (w'.heap[gb690]? = some (.cells #[.int .i64 a0_0, (.slice A0_1 l0_1.length c0_1)] 32 (0, 0))) ∧ Fc (Below w.heap.size w w'))
       case atStart => exact ⟨(0), eqS, H', ⟨Nat.le_refl _⟩, bg BK690, hbg HB⟩
       case round =>
        clear H'
        try clear c3b0
        try clear c5b0
        obtain ⟨x6_3, rfl, HA, HK3, BK690, HB⟩ := hrel
        cases gk with
        | zero => exact absurd HA.out (by simp [spec_ivTwoTwo.l2])
        | succ k3 =>
         have H := HA.out
         clear HA
         simp only [spec_ivTwoTwo.l2] at H
         rcases iteE H with ⟨c7b0, H⟩ | ⟨c7b0, H⟩
         ·have H' := mkA H
          clear H
          obtain ⟨_, _, _, _⟩ := blk2 BK690
          go_wp2
          go_loopg [7] k3 (fun kq v7 w' => ∃ (x7_4 : Int), v7 = .int .i64 x7_4 ∧ Fc (spec_ivTwoTwo.l3 kq x4_1 x5_2 x6_3 x7_4 a0_0 l0_1 = some (r1, r2)) ∧ Fc (kq ≤ k3) ∧ Fc (w'.heap[gb690]? = some (.cells #[.int .i64 a0_0, (.slice A0_1 l0_1.length c0_1)] 32 (0, 0))) ∧ Fc (Below w.heap.size w w'))
          case atStart => exact ⟨(0), eqS, H', ⟨Nat.le_refl _⟩, bg BK690, hbg HB⟩
          case round =>
           clear H'
           try clear c3b0
           try clear c5b0
           try clear c7b0
           obtain ⟨x7_4, rfl, HA, HK4, BK690, HB⟩ := hrel
           cases gk with
           | zero => exact absurd HA.out (by simp [spec_ivTwoTwo.l3])
           | succ k4 =>
            have H := HA.out
            clear HA
            simp only [spec_ivTwoTwo.l3] at H
            rcases iteE H with ⟨c9b0, H⟩ | ⟨c9b0, H⟩
            ·obtain ⟨t691, A10, H⟩ := obE H
             by_cases c11 : t691 = true
             ·subst c11
              replace H := ifT H
              obtain ⟨y692, hy692⟩ : ∃ y_ : List Int, y_ = (([x4_1, x5_2, x6_3, x7_4] : List Int)) := ⟨_, rfl⟩
              rw [← hy692] at H
              have Ny692 := mkA hy692
              clear hy692
              simp only [Option.some.injEq, Prod.mk.injEq] at H
              obtain ⟨rfl, rfl⟩ := H
              obtain ⟨_, _, _, _⟩ := blk2 BK690
              go_wp2_with (first | ((with_reducible refine gate_callee (f := 72) rfl ?_); refine goesQ (some 37) Tryd.func72 #[.agg #[.int .i64 a0_0, .slice A0_1 l0_1.length c0_1], .int .i64 x4_1, .int .i64 x5_2, .int .i64 x6_3, .int .i64 x7_4] ?_; (with_reducible refine (spec_ivRefuses.calls a0_0 _ _ l0_1 x4_1 x5_2 x6_3 x7_4 true _ ?_ ?_ A10.out).mono ?_); exact C_g HR0_1 HB; exact HC0_1.out; rintro e w13 ⟨rfl, hb⟩; refine ⟨_, rfl, ?_⟩; replace BK690 := blkB BK690 hb; replace HB := bst HB hb; clear hb) | ((with_reducible refine gate_dst (N := 42) rfl ?_); refine litE (Kd.int .i64) 3 ([x4_1, x5_2, x6_3, x7_4] : List Int) [.int .i64 x4_1, .int .i64 x5_2, .int .i64 x6_3, .int .i64 x7_4] ?hp ?_; (case hp => exact (Reps.one (show Kd.M (Kd.int .i64) _ _ _ x4_1 [.int .i64 x4_1] from rfl) (Reps.one (show Kd.M (Kd.int .i64) _ _ _ x5_2 [.int .i64 x5_2] from rfl) (Reps.one (show Kd.M (Kd.int .i64) _ _ _ x6_3 [.int .i64 x6_3] from rfl) (Reps.one (show Kd.M (Kd.int .i64) _ _ _ x7_4 [.int .i64 x7_4] from rfl) (Reps.none _ _)))))); intro v693 w14 ho15 hb hg_ hnew_; clear hg_ hnew_; (first | rw [← Ny692.out] at ho15 | (simp only [Int.reduceToNat] at ho15; rw [← Ny692.out] at ho15)); have HO694 := rLo ho15 HB; replace BK690 := blkB BK690 hb; replace HB := bst HB hb; clear hb ho15))
              go_ret2
              exact ⟨_, eqE, Kd.R_g HO694.out, bel_g HB.out⟩
             ·replace c11 := Bool.eq_false_iff.mpr c11
              subst c11
              replace H := ifF H
              have H' := mkA H
              clear H
              obtain ⟨_, _, _, _⟩ := blk2 BK690
              go_wp2_with (first | ((with_reducible refine gate_callee (f := 72) rfl ?_); refine goesQ (some 37) Tryd.func72 #[.agg #[.int .i64 a0_0, .slice A0_1 l0_1.length c0_1], .int .i64 x4_1, .int .i64 x5_2, .int .i64 x6_3, .int .i64 x7_4] ?_; (with_reducible refine (spec_ivRefuses.calls a0_0 _ _ l0_1 x4_1 x5_2 x6_3 x7_4 false _ ?_ ?_ A10.out).mono ?_); exact C_g HR0_1 HB; exact HC0_1.out; rintro e w17 ⟨rfl, hb⟩; refine ⟨_, rfl, ?_⟩; replace BK690 := blkB BK690 hb; replace HB := bst HB hb; clear hb))
              go_roundg k4
              case measure => have := HK1.out; have := HK2.out; have := HK3.out; have := HK4.out; omega
              case rel => exact ⟨(wrap64 (x7_4 + 1)), eqS, H', ⟨by have := HK1.out; have := HK2.out; have := HK3.out; have := HK4.out; omega⟩, bg BK690, hbg HB⟩
            ·have H' := mkA H
             clear H
             obtain ⟨_, _, _, _⟩ := blk2 BK690
             go_wp2
             go_roundg k4
             case measure => have := HK1.out; have := HK2.out; have := HK3.out; have := HK4.out; omega
             case rel => exact ⟨(wrap64 (x6_3 + 1)), eqS, H', ⟨by have := HK1.out; have := HK2.out; have := HK3.out; have := HK4.out; omega⟩, bg BK690, hbg HB⟩
         ·have H' := mkA H
          clear H
          obtain ⟨_, _, _, _⟩ := blk2 BK690
          go_wp2
          go_roundg k3
          case measure => have := HK1.out; have := HK2.out; have := HK3.out; omega
          case rel => exact ⟨(wrap64 (x5_2 + 1)), eqS, H', ⟨by have := HK1.out; have := HK2.out; have := HK3.out; omega⟩, bg BK690, hbg HB⟩
      ·have H' := mkA H
       clear H
       obtain ⟨_, _, _, _⟩ := blk2 BK690
       go_wp2
       go_roundg k2
       case measure => have := HK1.out; have := HK2.out; omega
       case rel => exact ⟨(wrap64 (x4_1 + 1)), eqS, H', ⟨by have := HK1.out; have := HK2.out; omega⟩, bg BK690, hbg HB⟩
   ·simp only [Option.some.injEq, Prod.mk.injEq] at H
    obtain ⟨rfl, rfl⟩ := H
    obtain ⟨_, _, _, _⟩ := blk2 BK690
    go_wp2
    go_ret2
    exact ⟨_, eqE, nilE, bel_g HB.out⟩
def spec_ivIs.f (k : Nat) (a0_0 : Int) (l0_1 : List Int) : Option (Bool) := (spec_ivTwoTwo.f k a0_0 l0_1).bind fun bt696 => (some (!bt696.2))
theorem spec_ivIs.mono : ∀ a0 a1 k, LeO (spec_ivIs.f k a0 a1) (spec_ivIs.f (k + 1) a0 a1) := by
 intro a0 a1 k
 unfold spec_ivIs.f
 repeat' (with_reducible first|apply spec_ivTwoTwo.mono|apply LeO.refl|apply LeO.none|apply LeO.ite|apply LeO.bind|intro)
theorem spec_ivIs.calls (k : Nat) (a0_0 : Int) (A0_1 : Option Addr) (c0_1 : Nat) (l0_1 : List Int) (r : Bool) (w : World) (hr0_1 : Kd.C (Kd.int .i64) w A0_1 l0_1.length l0_1) (hc0_1 : l0_1.length ≤ c0_1) (h : spec_ivIs.f k a0_0 l0_1 = some r) :
  Calls Tryd.prog 49 #[.agg #[.int .i64 a0_0, .slice A0_1 l0_1.length c0_1]] w fun e w' => e = .returned (.bool r) ∧ Below w.heap.size w w' := by
 have hu32 := Tryd.underlying32
 have HR0_1 := mkA hr0_1
 have HC0_1 := mkA hc0_1
 clear hr0_1 hc0_1
 have HB := mkA (Below.refl w.heap.size w)
 have H := h
 clear h
 unfold spec_ivIs.f at H
 obtain ⟨⟨t696, t699⟩, A2, H⟩ := obE H
 dsimp only at H
 obtain rfl := Option.some.inj H
 go_enter Tryd.func49, Tryd.ntmps49
 go_wp2_with (first | ((with_reducible refine gate_dst (N := 1) rfl ?_); refine boxG HB #[.int .i64 a0_0, .slice A0_1 l0_1.length c0_1] 32 ?_; intro gb695 hg w3 BK695 GE695 hb; replace HB := bst HB hb; clear hb hg; obtain ⟨_, _, _, _⟩ := blk2 BK695) | ((with_reducible refine gate_callee (f := 62) rfl ?_); refine goesQ (some 7) Tryd.func62 #[.agg #[.int .i64 a0_0, .slice A0_1 l0_1.length c0_1]] ?_; (with_reducible refine (spec_ivTwoTwo.calls k a0_0 _ _ l0_1 t696 t699 _ ?_ ?_ A2.out).mono ?_); exact C_g HR0_1 HB; exact HC0_1.out; rintro e w5 ⟨v697, rfl, ho0, hb⟩; refine ⟨_, rfl, ?_⟩; have HO698 := rLo ho0 HB; replace BK695 := blkB BK695 hb; replace HB := bst HB hb; clear hb ho0))
 go_ret
 exact ⟨eqE, bel_g HB.out⟩
def spec_ivGoodOrder.f (k : Nat) (a0_0 : Int) (l0_1 : List Int) : Option (Bool) := (spec_orGood.f k a0_0 l0_1).bind fun t701 => (if t701 = true then ((spec_ivIs.f k a0_0 l0_1).bind fun t702 => (some t702)) else (some false))
theorem spec_ivGoodOrder.mono : ∀ a0 a1 k, LeO (spec_ivGoodOrder.f k a0 a1) (spec_ivGoodOrder.f (k + 1) a0 a1) := by
 intro a0 a1 k
 unfold spec_ivGoodOrder.f
 repeat' (with_reducible first|apply spec_ivIs.mono|apply spec_orGood.mono|apply LeO.refl|apply LeO.none|apply LeO.ite|apply LeO.bind|intro)
theorem spec_ivGoodOrder.calls (k : Nat) (a0_0 : Int) (A0_1 : Option Addr) (c0_1 : Nat) (l0_1 : List Int) (r : Bool) (w : World) (hr0_1 : Kd.C (Kd.int .i64) w A0_1 l0_1.length l0_1) (hc0_1 : l0_1.length ≤ c0_1) (h : spec_ivGoodOrder.f k a0_0 l0_1 = some r) :
  Calls Tryd.prog 33 #[.agg #[.int .i64 a0_0, .slice A0_1 l0_1.length c0_1]] w fun e w' => e = .returned (.bool r) ∧ Below w.heap.size w w' := by
 have hu32 := Tryd.underlying32
 have HR0_1 := mkA hr0_1
 have HC0_1 := mkA hc0_1
 clear hr0_1 hc0_1
 have HB := mkA (Below.refl w.heap.size w)
 have H := h
 clear h
 unfold spec_ivGoodOrder.f at H
 obtain ⟨t701, A2, H⟩ := obE H
 by_cases c3 : t701 = true
 ·subst c3
  replace H := ifT H
  obtain ⟨t702, A4, H⟩ := obE H
  obtain rfl := Option.some.inj H
  go_enter Tryd.func33, Tryd.ntmps33
  go_wp2_with (first | ((with_reducible refine gate_dst (N := 1) rfl ?_); refine boxG HB #[.int .i64 a0_0, .slice A0_1 l0_1.length c0_1] 32 ?_; intro gb700 hg w5 BK700 GE700 hb; replace HB := bst HB hb; clear hb hg; obtain ⟨_, _, _, _⟩ := blk2 BK700) | ((with_reducible refine gate_callee (f := 48) rfl ?_); refine goesQ (some 4) Tryd.func48 #[.agg #[.int .i64 a0_0, .slice A0_1 l0_1.length c0_1]] ?_; (with_reducible refine (spec_orGood.calls k a0_0 _ _ l0_1 true _ ?_ ?_ A2.out).mono ?_); exact C_g HR0_1 HB; exact HC0_1.out; rintro e w7 ⟨rfl, hb⟩; refine ⟨_, rfl, ?_⟩; replace BK700 := blkB BK700 hb; replace HB := bst HB hb; clear hb; obtain ⟨_, _, _, _⟩ := blk2 BK700) | (go_at_call 49; (with_reducible refine (spec_ivIs.calls k a0_0 _ _ l0_1 t702 _ ?_ ?_ A4.out).mono ?_); exact C_g HR0_1 HB; exact HC0_1.out; rintro e w9 ⟨rfl, hb⟩; replace BK700 := blkB BK700 hb; replace HB := bst HB hb; clear hb))
  go_ret
  exact ⟨eqE, bel_g HB.out⟩
 ·replace c3 := Bool.eq_false_iff.mpr c3
  subst c3
  replace H := ifF H
  obtain rfl := Option.some.inj H
  go_enter Tryd.func33, Tryd.ntmps33
  go_wp2_with (first | ((with_reducible refine gate_dst (N := 1) rfl ?_); refine boxG HB #[.int .i64 a0_0, .slice A0_1 l0_1.length c0_1] 32 ?_; intro gb700 hg w10 BK700 GE700 hb; replace HB := bst HB hb; clear hb hg; obtain ⟨_, _, _, _⟩ := blk2 BK700) | ((with_reducible refine gate_callee (f := 48) rfl ?_); refine goesQ (some 4) Tryd.func48 #[.agg #[.int .i64 a0_0, .slice A0_1 l0_1.length c0_1]] ?_; (with_reducible refine (spec_orGood.calls k a0_0 _ _ l0_1 false _ ?_ ?_ A2.out).mono ?_); exact C_g HR0_1 HB; exact HC0_1.out; rintro e w12 ⟨rfl, hb⟩; refine ⟨_, rfl, ?_⟩; replace BK700 := blkB BK700 hb; replace HB := bst HB hb; clear hb))
  go_ret
  exact ⟨eqE, bel_g HB.out⟩
end Go.Proofs.YtlfjnllnddpgoaaDoor.Q
