import Derived.Test.YtokeomcijelbmaaDoorBFnFourRefuse9
import Derived.Test.YtokeomcijelbmaaDoorBFnFourRefuse10
namespace Go.Proofs.YtokeomcijelbmaaDoor.Q
open Go.RowKit Go.Proofs.YtokeomcijelbmaaDoorW.PrintWords Go.Proofs.YtokeomcijelbmaaDoorW.PrintLast Go.Proofs.YtokeomcijelbmaaDoorW.PrintMore
attribute [local go_sem] max2_int min2_int max_two min_two max_three min_three max_four min_four neB_f
set_option linter.unusedVariables false
set_option maxHeartbeats 8000000
set_option maxRecDepth 100000
set_option linter.unusedSimpArgs false
mutual
def spec_ivTwoTwo.l0 : Nat → Int → Int → List Int → Option (List Int × Bool)
 | 0, _, _, _ => none
 | k + 1, x4, x302000, x302001 => if x4 < x302000 then (spec_ivTwoTwo.l1 k x4 0 x302000 x302001) else (some (([] : List Int), false))
def spec_ivTwoTwo.l1 : Nat → Int → Int → Int → List Int → Option (List Int × Bool)
 | 0, _, _, _, _ => none
 | k + 1, x4, x5, x302000, x302001 => if x5 < x302000 then (spec_ivTwoTwo.l2 k x4 x5 0 x302000 x302001) else (spec_ivTwoTwo.l0 k (wrap64 (x4 + 1)) x302000 x302001)
def spec_ivTwoTwo.l2 : Nat → Int → Int → Int → Int → List Int → Option (List Int × Bool)
 | 0, _, _, _, _, _ => none
 | k + 1, x4, x5, x6, x302000, x302001 => if x6 < x302000 then (spec_ivTwoTwo.l3 k x4 x5 x6 0 x302000 x302001) else (spec_ivTwoTwo.l1 k x4 (wrap64 (x5 + 1)) x302000 x302001)
def spec_ivTwoTwo.l3 : Nat → Int → Int → Int → Int → Int → List Int → Option (List Int × Bool)
 | 0, _, _, _, _, _, _ => none
 | k + 1, x4, x5, x6, x7, x302000, x302001 => if x7 < x302000 then ((spec_ivRefuses.f x302000 x302001 x4 x5 x6 x7).bind fun t302 => (if t302 = true then (some ((([x4, x5, x6, x7] : List Int)), true)) else (spec_ivTwoTwo.l3 k x4 x5 x6 (wrap64 (x7 + 1)) x302000 x302001))) else (spec_ivTwoTwo.l2 k x4 x5 (wrap64 (x6 + 1)) x302000 x302001)
end
def spec_ivTwoTwo.f (k : Nat) (a0_0 : Int) (l0_1 : List Int) : Option (List Int × Bool) := spec_ivTwoTwo.l0 k 0 a0_0 l0_1
theorem spec_ivTwoTwo.mono_l : ∀ k, (∀ y0 y1 y2, LeO (spec_ivTwoTwo.l0 k y0 y1 y2) (spec_ivTwoTwo.l0 (k + 1) y0 y1 y2)) ∧ (∀ y0 y1 y2 y3, LeO (spec_ivTwoTwo.l1 k y0 y1 y2 y3) (spec_ivTwoTwo.l1 (k + 1) y0 y1 y2 y3)) ∧ (∀ y0 y1 y2 y3 y4, LeO (spec_ivTwoTwo.l2 k y0 y1 y2 y3 y4) (spec_ivTwoTwo.l2 (k + 1) y0 y1 y2 y3 y4)) ∧ (∀ y0 y1 y2 y3 y4 y5, LeO (spec_ivTwoTwo.l3 k y0 y1 y2 y3 y4 y5) (spec_ivTwoTwo.l3 (k + 1) y0 y1 y2 y3 y4 y5))
 | 0 => ⟨fun _ _ _ r h => by simp [spec_ivTwoTwo.l0] at h, fun _ _ _ _ r h => by simp [spec_ivTwoTwo.l1] at h, fun _ _ _ _ _ r h => by simp [spec_ivTwoTwo.l2] at h, fun _ _ _ _ _ _ r h => by simp [spec_ivTwoTwo.l3] at h⟩
 | k + 1 => by
  obtain ⟨ih0, ih1, ih2, ih3⟩ := spec_ivTwoTwo.mono_l k
  refine ⟨?_, ?_, ?_, ?_⟩ <;> intros
  unfold spec_ivTwoTwo.l0
  rotate_left
  unfold spec_ivTwoTwo.l1
  rotate_left
  unfold spec_ivTwoTwo.l2
  rotate_left
  unfold spec_ivTwoTwo.l3
  rotate_left
  all_goals repeat' (with_reducible first|apply ih0|apply ih1|apply ih2|apply ih3|apply LeO.refl|apply LeO.none|apply LeO.ite|apply LeO.bind|intro)
theorem spec_ivTwoTwo.mono : ∀ a0 a1 k, LeO (spec_ivTwoTwo.f k a0 a1) (spec_ivTwoTwo.f (k + 1) a0 a1) := by
 intro a0 a1 k
 obtain ⟨ih0, ih1, ih2, ih3⟩ := spec_ivTwoTwo.mono_l k
 unfold spec_ivTwoTwo.f
 repeat' (with_reducible first|apply ih0|apply ih1|apply ih2|apply ih3|apply LeO.refl|apply LeO.none|apply LeO.ite|apply LeO.bind|intro)
theorem spec_ivTwoTwo.calls (k : Nat) (a0_0 : Int) (A0_1 : Option Addr) (c0_1 : Nat) (l0_1 : List Int) (r1 : List Int) (r2 : Bool) (w : World) (hr0_1 : Kd.C (Kd.int .i64) w A0_1 l0_1.length l0_1) (hc0_1 : l0_1.length ≤ c0_1) (h : spec_ivTwoTwo.f k a0_0 l0_1 = some (r1, r2)) :
  Calls Tryd.prog 20 #[.agg #[.int .i64 a0_0, .slice A0_1 l0_1.length c0_1]] w fun e w' => ∃ v0_ : Value, e = .returned (.tuple #[v0_, .bool r2]) ∧ Kd.R (Kd.int .i64) 3 w' w.heap.size (fun _ => True) v0_ r1 ∧ Below w.heap.size w w' := by
 have hu26 := Tryd.underlying26
 have HR0_1 := mkA hr0_1
 have HC0_1 := mkA hc0_1
 clear hr0_1 hc0_1
 have HB := mkA (Below.refl w.heap.size w)
 have H := h
 clear h
 unfold spec_ivTwoTwo.f at H
 have H' := mkA H
 clear H
 go_enter Tryd.func20, Tryd.ntmps20
 go_wp2_with (first | ((with_reducible refine gate_dst (N := 1) rfl ?_); refine boxG HB #[.int .i64 a0_0, .slice A0_1 l0_1.length c0_1] 26 ?_; intro gb301 hg w2 BK301 GE301 hb; replace HB := bst HB hb; clear hb hg))
 go_loopg [4] k (fun kq v4 w' => ∃ (x4_1 : Int), v4 = .int .i64 x4_1 ∧ Fc (spec_ivTwoTwo.l0 kq x4_1 a0_0 l0_1 = some (r1, r2)) ∧ Fc (kq ≤ k) ∧ Fc (w'.heap[gb301]? = some (.cells #[.int .i64 a0_0, (.slice A0_1 l0_1.length c0_1)] 26 (0, 0))) ∧ Fc (Below w.heap.size w w'))
 case atStart => exact ⟨(0), eqS, H', ⟨Nat.le_refl _⟩, bg BK301, hbg HB⟩
 case round =>
  clear H'
  obtain ⟨x4_1, rfl, HA, HK1, BK301, HB⟩ := hrel
  cases gk with
  | zero => exact absurd HA.out (by simp [spec_ivTwoTwo.l0])
  | succ k1 =>
   have H := HA.out
   clear HA
   simp only [spec_ivTwoTwo.l0] at H
   rcases iteE H with ⟨c3b0, H⟩ | ⟨c3b0, H⟩
   ·have H' := mkA H
    clear H
    obtain ⟨_, _, _, _⟩ := blk2 BK301
    go_wp2
    go_loopg [5] k1 (fun kq v5 w' => ∃ (x5_2 : Int), v5 = .int .i64 x5_2 ∧ Fc (spec_ivTwoTwo.l1 kq x4_1 x5_2 a0_0 l0_1 = some (r1, r2)) ∧ Fc (kq ≤ k1) ∧ Fc (w'.heap[gb301]? = some (.cells #[.int .i64 a0_0, (.slice A0_1 l0_1.length c0_1)] 26 (0, 0))) ∧ Fc (Below w.heap.size w w'))
    case atStart => exact ⟨(0), eqS, H', ⟨Nat.le_refl _⟩, bg BK301, hbg HB⟩
    case round =>
     clear H'
     try clear c3b0
     obtain ⟨x5_2, rfl, HA, HK2, BK301, HB⟩ := hrel
     cases gk with
     | zero => exact absurd HA.out (by simp [spec_ivTwoTwo.l1])
     | succ k2 =>
      have H := HA.out
      clear HA
      simp only [spec_ivTwoTwo.l1] at H
      rcases iteE H with ⟨c5b0, H⟩ | ⟨c5b0, H⟩
      ·have H' := mkA H
       clear H
       obtain ⟨_, _, _, _⟩ := blk2 BK301
       go_wp2
       go_loopg [6] k2 (fun kq v6 w' => ∃ (x6_3 : Int), v6 = .int .i64 x6_3 ∧ Fc (spec_ivTwoTwo.l2 kq x4_1 x5_2 x6_3 a0_0 l0_1 = some (r1, r2)) ∧ Fc (kq ≤ k2) ∧ Fc (w'.heap[gb301]? = some (.cells #[.int .i64 a0_0, (.slice A0_1 l0_1.length c0_1)] 26 (0, 0))) ∧ Fc (Below w.heap.size w w'))
       case atStart => exact ⟨(0), eqS, H', ⟨Nat.le_refl _⟩, bg BK301, hbg HB⟩
       case round =>
        clear H'
        try clear c3b0
        try clear c5b0
        obtain ⟨x6_3, rfl, HA, HK3, BK301, HB⟩ := hrel
        cases gk with
        | zero => exact absurd HA.out (by simp [spec_ivTwoTwo.l2])
        | succ k3 =>
         have H := HA.out
         clear HA
         simp only [spec_ivTwoTwo.l2] at H
         rcases iteE H with ⟨c7b0, H⟩ | ⟨c7b0, H⟩
         ·have H' := mkA H
          clear H
          obtain ⟨_, _, _, _⟩ := blk2 BK301
          go_wp2
          go_loopg [7] k3 (fun kq v7 w' => ∃ (x7_4 : Int), v7 = .int .i64 x7_4 ∧ Fc (spec_ivTwoTwo.l3 kq x4_1 x5_2 x6_3 x7_4 a0_0 l0_1 = some (r1, r2)) ∧ Fc (kq ≤ k3) ∧ Fc (w'.heap[gb301]? = some (.cells #[.int .i64 a0_0, (.slice A0_1 l0_1.length c0_1)] 26 (0, 0))) ∧ Fc (Below w.heap.size w w'))
          case atStart => exact ⟨(0), eqS, H', ⟨Nat.le_refl _⟩, bg BK301, hbg HB⟩
          case round =>
           clear H'
           try clear c3b0
           try clear c5b0
           try clear c7b0
           obtain ⟨x7_4, rfl, HA, HK4, BK301, HB⟩ := hrel
           cases gk with
           | zero => exact absurd HA.out (by simp [spec_ivTwoTwo.l3])
           | succ k4 =>
            have H := HA.out
            clear HA
            simp only [spec_ivTwoTwo.l3] at H
            rcases iteE H with ⟨c9b0, H⟩ | ⟨c9b0, H⟩
            ·obtain ⟨t302, A10, H⟩ := obE H
             by_cases c11 : t302 = true
             ·subst c11
              replace H := ifT H
              obtain ⟨y303, hy303⟩ : ∃ y_ : List Int, y_ = (([x4_1, x5_2, x6_3, x7_4] : List Int)) := ⟨_, rfl⟩
              rw [← hy303] at H
              have Ny303 := mkA hy303
              clear hy303
              simp only [Option.some.injEq, Prod.mk.injEq] at H
              obtain ⟨rfl, rfl⟩ := H
              obtain ⟨_, _, _, _⟩ := blk2 BK301
              go_wp2_with (first | ((with_reducible refine gate_callee (f := 37) rfl ?_); refine goesQ (some 37) Tryd.func37 #[.agg #[.int .i64 a0_0, .slice A0_1 l0_1.length c0_1], .int .i64 x4_1, .int .i64 x5_2, .int .i64 x6_3, .int .i64 x7_4] ?_; (with_reducible refine (spec_ivRefuses.calls a0_0 _ _ l0_1 x4_1 x5_2 x6_3 x7_4 true _ ?_ ?_ A10.out).mono ?_); exact C_g HR0_1 HB; exact HC0_1.out; rintro e w13 ⟨rfl, hb⟩; refine ⟨_, rfl, ?_⟩; replace BK301 := blkB BK301 hb; replace HB := bst HB hb; clear hb) | ((with_reducible refine gate_dst (N := 42) rfl ?_); refine litE (Kd.int .i64) 3 ([x4_1, x5_2, x6_3, x7_4] : List Int) [.int .i64 x4_1, .int .i64 x5_2, .int .i64 x6_3, .int .i64 x7_4] ?hp ?_; (case hp => exact (Reps.one (show Kd.M (Kd.int .i64) _ _ _ x4_1 [.int .i64 x4_1] from rfl) (Reps.one (show Kd.M (Kd.int .i64) _ _ _ x5_2 [.int .i64 x5_2] from rfl) (Reps.one (show Kd.M (Kd.int .i64) _ _ _ x6_3 [.int .i64 x6_3] from rfl) (Reps.one (show Kd.M (Kd.int .i64) _ _ _ x7_4 [.int .i64 x7_4] from rfl) (Reps.none _ _)))))); intro v304 w14 ho15 hb hg_ hnew_; clear hg_ hnew_; (first | rw [← Ny303.out] at ho15 | (simp only [Int.reduceToNat] at ho15; rw [← Ny303.out] at ho15)); have HO305 := rLo ho15 HB; replace BK301 := blkB BK301 hb; replace HB := bst HB hb; clear hb ho15))
              go_ret2
              exact ⟨_, eqE, Kd.R_g HO305.out, bel_g HB.out⟩
             ·replace c11 := Bool.eq_false_iff.mpr c11
              subst c11
              replace H := ifF H
              have H' := mkA H
              clear H
              obtain ⟨_, _, _, _⟩ := blk2 BK301
              go_wp2_with (first | ((with_reducible refine gate_callee (f := 37) rfl ?_); refine goesQ (some 37) Tryd.func37 #[.agg #[.int .i64 a0_0, .slice A0_1 l0_1.length c0_1], .int .i64 x4_1, .int .i64 x5_2, .int .i64 x6_3, .int .i64 x7_4] ?_; (with_reducible refine (spec_ivRefuses.calls a0_0 _ _ l0_1 x4_1 x5_2 x6_3 x7_4 false _ ?_ ?_ A10.out).mono ?_); exact C_g HR0_1 HB; exact HC0_1.out; rintro e w17 ⟨rfl, hb⟩; refine ⟨_, rfl, ?_⟩; replace BK301 := blkB BK301 hb; replace HB := bst HB hb; clear hb))
              go_roundg k4
              case measure => have := HK1.out; have := HK2.out; have := HK3.out; have := HK4.out; omega
              case rel => exact ⟨(wrap64 (x7_4 + 1)), eqS, H', ⟨by have := HK1.out; have := HK2.out; have := HK3.out; have := HK4.out; omega⟩, bg BK301, hbg HB⟩
            ·have H' := mkA H
             clear H
             obtain ⟨_, _, _, _⟩ := blk2 BK301
             go_wp2
             go_roundg k4
             case measure => have := HK1.out; have := HK2.out; have := HK3.out; have := HK4.out; omega
             case rel => exact ⟨(wrap64 (x6_3 + 1)), eqS, H', ⟨by have := HK1.out; have := HK2.out; have := HK3.out; have := HK4.out; omega⟩, bg BK301, hbg HB⟩
         ·have H' := mkA H
          clear H
          obtain ⟨_, _, _, _⟩ := blk2 BK301
          go_wp2
          go_roundg k3
          case measure => have := HK1.out; have := HK2.out; have := HK3.out; omega
          case rel => exact ⟨(wrap64 (x5_2 + 1)), eqS, H', ⟨by have := HK1.out; have := HK2.out; have := HK3.out; omega⟩, bg BK301, hbg HB⟩
      ·have H' := mkA H
       clear H
       obtain ⟨_, _, _, _⟩ := blk2 BK301
       go_wp2
       go_roundg k2
       case measure => have := HK1.out; have := HK2.out; omega
       case rel => exact ⟨(wrap64 (x4_1 + 1)), eqS, H', ⟨by have := HK1.out; have := HK2.out; omega⟩, bg BK301, hbg HB⟩
   ·simp only [Option.some.injEq, Prod.mk.injEq] at H
    obtain ⟨rfl, rfl⟩ := H
    obtain ⟨_, _, _, _⟩ := blk2 BK301
    go_wp2
    go_ret2
    exact ⟨_, eqE, nilE, bel_g HB.out⟩
def spec_TwoTwoOf.f (k : Nat) (a0_0 : Int) (l0_1 : List Int) : Option (List Int × Bool) := (spec_orGood.f k a0_0 l0_1).bind fun t307 => (if t307 = true then ((spec_ivTwoTwo.f k a0_0 l0_1).bind fun bt308 => (some (bt308.1, bt308.2))) else (some (([] : List Int), false)))
theorem spec_TwoTwoOf.mono : ∀ a0 a1 k, LeO (spec_TwoTwoOf.f k a0 a1) (spec_TwoTwoOf.f (k + 1) a0 a1) := by
 intro a0 a1 k
 unfold spec_TwoTwoOf.f
 repeat' (with_reducible first|apply spec_ivTwoTwo.mono|apply spec_orGood.mono|apply LeO.refl|apply LeO.none|apply LeO.ite|apply LeO.bind|intro)
theorem spec_TwoTwoOf.calls (k : Nat) (a0_0 : Int) (A0_1 : Option Addr) (c0_1 : Nat) (l0_1 : List Int) (r1 : List Int) (r2 : Bool) (w : World) (hr0_1 : Kd.C (Kd.int .i64) w A0_1 l0_1.length l0_1) (hc0_1 : l0_1.length ≤ c0_1) (h : spec_TwoTwoOf.f k a0_0 l0_1 = some (r1, r2)) :
  Calls Tryd.prog 7 #[.agg #[.int .i64 a0_0, .slice A0_1 l0_1.length c0_1]] w fun e w' => ∃ v0_ : Value, e = .returned (.tuple #[v0_, .bool r2]) ∧ Kd.R (Kd.int .i64) 3 w' w.heap.size (fun _ => True) v0_ r1 ∧ Below w.heap.size w w' := by
 have hu26 := Tryd.underlying26
 have HR0_1 := mkA hr0_1
 have HC0_1 := mkA hc0_1
 clear hr0_1 hc0_1
 have HB := mkA (Below.refl w.heap.size w)
 have H := h
 clear h
 unfold spec_TwoTwoOf.f at H
 obtain ⟨t307, A2, H⟩ := obE H
 by_cases c3 : t307 = true
 ·subst c3
  replace H := ifT H
  obtain ⟨⟨t308, t311⟩, A4, H⟩ := obE H
  dsimp only at H
  simp only [Option.some.injEq, Prod.mk.injEq] at H
  obtain ⟨rfl, rfl⟩ := H
  go_enter Tryd.func7, Tryd.ntmps7
  go_wp2_with (first | ((with_reducible refine gate_dst (N := 1) rfl ?_); refine boxG HB #[.int .i64 a0_0, .slice A0_1 l0_1.length c0_1] 26 ?_; intro gb306 hg w5 BK306 GE306 hb; replace HB := bst HB hb; clear hb hg; obtain ⟨_, _, _, _⟩ := blk2 BK306) | ((with_reducible refine gate_callee (f := 19) rfl ?_); refine goesQ (some 5) Tryd.func19 #[.agg #[.int .i64 a0_0, .slice A0_1 l0_1.length c0_1]] ?_; (with_reducible refine (spec_orGood.calls k a0_0 _ _ l0_1 true _ ?_ ?_ A2.out).mono ?_); exact C_g HR0_1 HB; exact HC0_1.out; rintro e w7 ⟨rfl, hb⟩; refine ⟨_, rfl, ?_⟩; replace BK306 := blkB BK306 hb; replace HB := bst HB hb; clear hb; obtain ⟨_, _, _, _⟩ := blk2 BK306) | ((with_reducible refine gate_callee (f := 20) rfl ?_); refine goesQ (some 8) Tryd.func20 #[.agg #[.int .i64 a0_0, .slice A0_1 l0_1.length c0_1]] ?_; (with_reducible refine (spec_ivTwoTwo.calls k a0_0 _ _ l0_1 t308 t311 _ ?_ ?_ A4.out).mono ?_); exact C_g HR0_1 HB; exact HC0_1.out; rintro e w9 ⟨v309, rfl, ho0, hb⟩; refine ⟨_, rfl, ?_⟩; have HO310 := rLo ho0 HB; replace BK306 := blkB BK306 hb; replace HB := bst HB hb; clear hb ho0))
  go_ret2
  exact ⟨_, eqE, Kd.R_g HO310.out, bel_g HB.out⟩
 ·replace c3 := Bool.eq_false_iff.mpr c3
  subst c3
  replace H := ifF H
  simp only [Option.some.injEq, Prod.mk.injEq] at H
  obtain ⟨rfl, rfl⟩ := H
  go_enter Tryd.func7, Tryd.ntmps7
  go_wp2_with (first | ((with_reducible refine gate_dst (N := 1) rfl ?_); refine boxG HB #[.int .i64 a0_0, .slice A0_1 l0_1.length c0_1] 26 ?_; intro gb306 hg w10 BK306 GE306 hb; replace HB := bst HB hb; clear hb hg; obtain ⟨_, _, _, _⟩ := blk2 BK306) | ((with_reducible refine gate_callee (f := 19) rfl ?_); refine goesQ (some 5) Tryd.func19 #[.agg #[.int .i64 a0_0, .slice A0_1 l0_1.length c0_1]] ?_; (with_reducible refine (spec_orGood.calls k a0_0 _ _ l0_1 false _ ?_ ?_ A2.out).mono ?_); exact C_g HR0_1 HB; exact HC0_1.out; rintro e w12 ⟨rfl, hb⟩; refine ⟨_, rfl, ?_⟩; replace BK306 := blkB BK306 hb; replace HB := bst HB hb; clear hb))
  go_ret2
  exact ⟨_, eqE, nilE, bel_g HB.out⟩
def laws_pSame.l0 : Nat → List Int → List Int → Int → Int → Option (Bool)
 | 0, _, _, _, _ => none
 | k + 1, x0, x1, x12, x13 => if x13 < x12 then (if 0 ≤ x13 then (if x13 < (x0.length : Int) then (if x13 < (x1.length : Int) then (if (rd x0 x13) = (rd x1 x13) then (laws_pSame.l0 k x0 x1 x12 (wrap64 (x13 + 1))) else (some false)) else (none)) else (none)) else (none)) else (some true)
def laws_pSame.f (k : Nat) (l0 : List Int) (l1 : List Int) : Option (Bool) := if (l0.length : Int) = (l1.length : Int) then (laws_pSame.l0 k l0 l1 (l0.length : Int) 0) else (some false)
theorem laws_pSame.mono_l : ∀ k, (∀ y0 y1 y2 y3, LeO (laws_pSame.l0 k y0 y1 y2 y3) (laws_pSame.l0 (k + 1) y0 y1 y2 y3))
 | 0 => fun _ _ _ _ r h => by simp [laws_pSame.l0] at h
 | k + 1 => by
  have ih0 := laws_pSame.mono_l k
  ·intro y0 y1 y2 y3
   unfold laws_pSame.l0
   repeat' (with_reducible first|apply ih0|apply LeO.refl|apply LeO.none|apply LeO.ite|apply LeO.bind|intro)
theorem laws_pSame.mono : ∀ a0 a1 k, LeO (laws_pSame.f k a0 a1) (laws_pSame.f (k + 1) a0 a1) := by
 intro a0 a1 k
 have ih0 := laws_pSame.mono_l k
 unfold laws_pSame.f
 repeat' (with_reducible first|apply ih0|apply LeO.refl|apply LeO.none|apply LeO.ite|apply LeO.bind|intro)
theorem laws_pSame.calls (k : Nat) (A0 : Option Addr) (c0 : Nat) (l0 : List Int) (A1 : Option Addr) (c1 : Nat) (l1 : List Int) (r : Bool) (w : World) (hr0 : Kd.C (Kd.int .i64) w A0 l0.length l0) (hc0 : l0.length ≤ c0) (hr1 : Kd.C (Kd.int .i64) w A1 l1.length l1) (hc1 : l1.length ≤ c1) (h : laws_pSame.f k l0 l1 = some r) :
  Calls Tryd.prog 8 #[.slice A0 l0.length c0, .slice A1 l1.length c1] w fun e w' => e = .returned (.bool r) ∧ Drawn0 w w' := by
 have HR0 := mkA hr0
 have HC0 := mkA hc0
 clear hr0 hc0
 have HR1 := mkA hr1
 have HC1 := mkA hc1
 clear hr1 hc1
 have H := h
 clear h
 unfold laws_pSame.f at H
 rcases iteP H with ⟨c3, H⟩ | ⟨c3, H⟩
 ·have c3b0 := beq_iff_eq.mpr c3
  have c3b1 := bne_eq_false_iff_eq.mpr c3
  have c3b2 : (l0.length == l1.length) = true := by first | simpa using c3 | (simp at c3 ⊢; omega)
  clear c3
  have H' := mkA H
  clear H
  go_enter Tryd.func8, Tryd.ntmps8
  go_wp2
  repeat (go_quiet (fail); try go_wp2)
  go_loopg [13] k (fun kq v13 w' => ∃ (x13_1 : Int), v13 = .int .i64 x13_1 ∧ Fc (laws_pSame.l0 kq l0 l1 (l0.length : Int) x13_1 = some r) ∧ Fc (kq ≤ k) ∧ Drawn0 w w')
  case atStart => exact ⟨(0), eqS, H', ⟨Nat.le_refl _⟩, by repeat (first | exact Drawn0.refl _ | apply Drawn0.step)⟩
  case round =>
   clear H'
   try clear c1
   try clear c3
   try clear c3b0
   try clear c3b1
   try clear c3b2
   obtain ⟨x13_1, rfl, HA, HK1, ⟨m1, rfl⟩⟩ := hrel
   cases gk with
   | zero => exact absurd HA.out (by simp [laws_pSame.l0])
   | succ k1 =>
    have H := HA.out
    clear HA
    simp only [laws_pSame.l0] at H
    rcases iteE H with ⟨c4b0, H⟩ | ⟨c4b0, H⟩
    ·obtain ⟨c5b0, H⟩ := itND H
     obtain ⟨c6b0, H⟩ := itND H
     obtain ⟨c7b0, H⟩ := itND H
     rcases iteP H with ⟨c8, H⟩ | ⟨c8, H⟩
     ·have c8b0 := beq_iff_eq.mpr c8
      have c8b1 := bne_eq_false_iff_eq.mpr c8
      clear c8
      have H' := mkA H
      clear H
      obtain ⟨p312, q312, ad312, e312, hx312_0⟩ := atI HR0.out x13_1
      cases e312
      obtain ⟨p313, q313, ad313, e313, hx313_0⟩ := atI HR1.out x13_1
      cases e313
      go_wp2
      repeat (go_quiet (fail); try go_wp2)
      go_roundg k1
      case measure => have := HK1.out; omega
      case rel => exact ⟨(wrap64 (x13_1 + 1)), eqS, H', ⟨by have := HK1.out; omega⟩, by repeat (first | exact Drawn0.refl _ | apply Drawn0.step)⟩
     ·have c8b0 := beq_eq_false_iff_ne.mpr c8
      have c8b1 := bne_iff_ne.mpr c8
      obtain rfl := Option.some.inj H
      obtain ⟨p312, q312, ad312, e312, hx312_0⟩ := atI HR0.out x13_1
      cases e312
      obtain ⟨p313, q313, ad313, e313, hx313_0⟩ := atI HR1.out x13_1
      cases e313
      go_wp2
      repeat (go_quiet (fail); try go_wp2)
      go_ret
      exact ⟨eqS, drE⟩
    ·obtain rfl := Option.some.inj H
     go_wp2
     repeat (go_quiet (fail); try go_wp2)
     go_ret
     exact ⟨eqS, drE⟩
 ·have c3b0 := beq_eq_false_iff_ne.mpr c3
  have c3b1 := bne_iff_ne.mpr c3
  have c3b2 : (l0.length == l1.length) = false := by first | simpa using c3 | (simp at c3 ⊢; omega)
  obtain rfl := Option.some.inj H
  go_enter Tryd.func8, Tryd.ntmps8
  go_wp2
  repeat (go_quiet (fail); try go_wp2)
  go_ret
  exact ⟨eqS, drE⟩
theorem impl_isInterval.nilEql_ {P : Program} (W : World) {t e : TypeId} {A : Option Addr} {n c : Nat} {xs : List Int} {Z : Nat → Nat → Prop} (hu : P.underlying t = some (.slice e)) (h : xs = [] → Value.slice A n c = .slice none 0 0) (h2 : 0 < xs.length → ∃ g c', Value.slice A n c = .slice (some ⟨g, 0, none⟩) xs.length c' ∧ Z g c') :
  (binOp .eql t (.slice A n c) (.slice none 0 0)).run P W = .ok (.bool (xs == ([] : List Int))) W := by
 rw [Lib.run_eql_slice_nil W t e A n c 0 0 hu]
 cases xs with
 | nil => injection h rfl with h1 _ _; subst h1; rfl
 | cons x l => obtain ⟨g, c', h1, _⟩ := h2 (by simp); injection h1 with h1 _ _; subst h1; rfl
theorem impl_isInterval.nilNeq_ {P : Program} (W : World) {t e : TypeId} {A : Option Addr} {n c : Nat} {xs : List Int} {Z : Nat → Nat → Prop} (hu : P.underlying t = some (.slice e)) (h : xs = [] → Value.slice A n c = .slice none 0 0) (h2 : 0 < xs.length → ∃ g c', Value.slice A n c = .slice (some ⟨g, 0, none⟩) xs.length c' ∧ Z g c') :
  (binOp .neq t (.slice A n c) (.slice none 0 0)).run P W = .ok (.bool (xs != ([] : List Int))) W := by
 rw [run_neq_slice_nil_any W t e A n c 0 0 hu]
 cases xs with
 | nil => injection h rfl with h1 _ _; subst h1; rfl
 | cons x l => obtain ⟨g, c', h1, _⟩ := h2 (by simp); injection h1 with h1 _ _; subst h1; rfl
def impl_isInterval.f (k : Nat) (a0_0 : Int) (l0_1 : List Int) : Option (Bool) := (impl_IsOrder.f k a0_0 l0_1).bind fun t315 => (if t315 = true then ((impl_Order_twoTwo.f k a0_0 l0_1).bind fun t316 => (some (t316 == ([] : List Int)))) else (some false))
theorem impl_isInterval.mono : ∀ a0 a1 k, LeO (impl_isInterval.f k a0 a1) (impl_isInterval.f (k + 1) a0 a1) := by
 intro a0 a1 k
 unfold impl_isInterval.f
 repeat' (with_reducible first|apply impl_IsOrder.mono|apply impl_Order_twoTwo.mono|apply LeO.refl|apply LeO.none|apply LeO.ite|apply LeO.bind|intro)
theorem impl_isInterval.calls (k : Nat) (a0_0 : Int) (A0_1 : Option Addr) (c0_1 : Nat) (l0_1 : List Int) (r : Bool) (w : World) (hr0_1 : Kd.C (Kd.int .i64) w A0_1 l0_1.length l0_1) (hc0_1 : l0_1.length ≤ c0_1) (hTAB : Tab w) (h : impl_isInterval.f k a0_0 l0_1 = some r) :
  Calls Tryd.prog 21 #[.agg #[.int .i64 a0_0, .slice A0_1 l0_1.length c0_1]] w fun e w' => e = .returned (.bool r) ∧ Below w.heap.size w w' := by
 have HTAB := mkA hTAB
 clear hTAB
 have hu26 := Tryd.underlying26
 have HR0_1 := mkA hr0_1
 have HC0_1 := mkA hc0_1
 clear hr0_1 hc0_1
 have HB := mkA (Below.refl w.heap.size w)
 have H := h
 clear h
 unfold impl_isInterval.f at H
 obtain ⟨t315, A2, H⟩ := obE H
 by_cases c3 : t315 = true
 ·subst c3
  replace H := ifT H
  obtain ⟨t316, A4, H⟩ := obE H
  obtain rfl := Option.some.inj H
  go_enter Tryd.func21, Tryd.ntmps21
  go_wp2_with (first | ((with_reducible refine gate_dst (N := 1) rfl ?_); refine boxG HB #[.int .i64 a0_0, .slice A0_1 l0_1.length c0_1] 26 ?_; intro gb314 hg w5 BK314 GE314 hb; replace HB := bst HB hb; clear hb hg; obtain ⟨_, _, _, _⟩ := blk2 BK314) | ((with_reducible refine gate_callee (f := 14) rfl ?_); refine goesQ (some 4) Tryd.func14 #[.agg #[.int .i64 a0_0, .slice A0_1 l0_1.length c0_1]] ?_; (with_reducible refine (impl_IsOrder.calls k a0_0 _ _ l0_1 true _ ?_ ?_ ?_ A2.out).mono ?_); exact C_g HR0_1 HB; exact HC0_1.out; exact Tab.below HTAB.out (bel_g HB.out); rintro e w7 ⟨rfl, hb⟩; refine ⟨_, rfl, ?_⟩; replace BK314 := blkB BK314 hb; replace HB := bst HB hb; clear hb; obtain ⟨_, _, _, _⟩ := blk2 BK314) | (go_at_call 18; (with_reducible refine (impl_Order_twoTwo.calls k a0_0 _ _ l0_1 t316 _ ?_ ?_ A4.out).mono ?_); exact C_g HR0_1 HB; exact HC0_1.out; rintro e w9 ⟨v317, rfl, ho0, hb, hnl0⟩; have HO318 := rLo ho0 HB; replace BK314 := blkB BK314 hb; replace HB := bst HB hb; clear hb ho0; have NL_HO318 := mkA hnl0; clear hnl0; obtain ⟨Ao10, co10, rfl⟩ := Kd.R_slice HO318.out; have nq11 := fun (W_ : World) => impl_isInterval.nilEql_ (P := Tryd.prog) W_ (t := 24) (e := 3) (c := co10) Tryd.underlying24 NL_HO318.out (fun h_ => Kd.R_form HO318.out h_)))
  go_ret
  exact ⟨eqE, bel_g HB.out⟩
 ·replace c3 := Bool.eq_false_iff.mpr c3
  subst c3
  replace H := ifF H
  obtain rfl := Option.some.inj H
  go_enter Tryd.func21, Tryd.ntmps21
  go_wp2_with (first | ((with_reducible refine gate_dst (N := 1) rfl ?_); refine boxG HB #[.int .i64 a0_0, .slice A0_1 l0_1.length c0_1] 26 ?_; intro gb314 hg w12 BK314 GE314 hb; replace HB := bst HB hb; clear hb hg; obtain ⟨_, _, _, _⟩ := blk2 BK314) | ((with_reducible refine gate_callee (f := 14) rfl ?_); refine goesQ (some 4) Tryd.func14 #[.agg #[.int .i64 a0_0, .slice A0_1 l0_1.length c0_1]] ?_; (with_reducible refine (impl_IsOrder.calls k a0_0 _ _ l0_1 false _ ?_ ?_ ?_ A2.out).mono ?_); exact C_g HR0_1 HB; exact HC0_1.out; exact Tab.below HTAB.out (bel_g HB.out); rintro e w14 ⟨rfl, hb⟩; refine ⟨_, rfl, ?_⟩; replace BK314 := blkB BK314 hb; replace HB := bst HB hb; clear hb))
  go_ret
  exact ⟨eqE, bel_g HB.out⟩
end Go.Proofs.YtokeomcijelbmaaDoor.Q
