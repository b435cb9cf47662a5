import Derived.WalkSpells
import Derived.Test.YtcalgdljcphjaaaDoorBFnStairs7
namespace Go.Proofs.YtcalgdljcphjaaaDoor.Q
open Go.RowKit Go.Proofs.YtcalgdljcphjaaaDoorW.PrintWords Go.Proofs.YtcalgdljcphjaaaDoorW.PrintLast Go.Proofs.YtcalgdljcphjaaaDoorW.PrintMore
attribute [local go_sem] max2_int min2_int max_two min_two max_three min_three max_four min_four neB_f
set_option linter.unusedVariables false
set_option maxHeartbeats 8000000
set_option maxRecDepth 100000
set_option linter.unusedSimpArgs false
mutual
def impl_Order_twoTwo.l0 : Nat → Int → Int → Int → List Int → Option (List Int)
 | 0, _, _, _, _ => none
 | k + 1, x8, x9, x224000, x224001 => if x9 < x8 then (impl_Order_twoTwo.l1 k x9 x8 x9 x224000 0 x224000 x224001) else (some ([] : List Int))
def impl_Order_twoTwo.l1 : Nat → Int → Int → Int → Int → Int → Int → List Int → Option (List Int)
 | 0, _, _, _, _, _, _, _ => none
 | k + 1, x3, x8, x9, x13, x14, x224000, x224001 => if x14 < x13 then (impl_Order_twoTwo.l2 k x3 x14 x8 x9 x13 x14 x224000 0 x224000 x224001) else (impl_Order_twoTwo.l0 k x8 (wrap64 (x9 + 1)) x224000 x224001)
def impl_Order_twoTwo.l2 : Nat → Int → Int → Int → Int → Int → Int → Int → Int → Int → List Int → Option (List Int)
 | 0, _, _, _, _, _, _, _, _, _, _ => none
 | k + 1, x3, x4, x8, x9, x13, x14, x18, x19, x224000, x224001 => if x19 < x18 then (impl_Order_twoTwo.l3 k x3 x4 x19 x8 x9 x13 x14 x18 x19 x224000 0 x224000 x224001) else (impl_Order_twoTwo.l1 k x3 x8 x9 x13 (wrap64 (x14 + 1)) x224000 x224001)
def impl_Order_twoTwo.l3 : Nat → Int → Int → Int → Int → Int → Int → Int → Int → Int → Int → Int → Int → List Int → Option (List Int)
 | 0, _, _, _, _, _, _, _, _, _, _, _, _, _ => none
 | k + 1, x3, x4, x5, x8, x9, x13, x14, x18, x19, x23, x24, x224000, x224001 => if x24 < x23 then ((impl_Order_better.f x224000 x224001 x3 x4).bind fun t224 => (if t224 = true then ((impl_Order_better.f x224000 x224001 x5 x24).bind fun t225 => (if t225 = true then ((impl_Order_better.f x224000 x224001 x5 x4).bind fun t226 => (if t226 = true then (impl_Order_twoTwo.l3 k x3 x4 x5 x8 x9 x13 x14 x18 x19 x23 (wrap64 (x24 + 1)) x224000 x224001) else ((impl_Order_better.f x224000 x224001 x3 x24).bind fun t227 => (if t227 = true then (impl_Order_twoTwo.l3 k x3 x4 x5 x8 x9 x13 x14 x18 x19 x23 (wrap64 (x24 + 1)) x224000 x224001) else (some (([x3, x4, x5, x24] : List Int))))))) else (impl_Order_twoTwo.l3 k x3 x4 x5 x8 x9 x13 x14 x18 x19 x23 (wrap64 (x24 + 1)) x224000 x224001))) else (impl_Order_twoTwo.l3 k x3 x4 x5 x8 x9 x13 x14 x18 x19 x23 (wrap64 (x24 + 1)) x224000 x224001))) else (impl_Order_twoTwo.l2 k x3 x4 x8 x9 x13 x14 x18 (wrap64 (x19 + 1)) x224000 x224001)
end
def impl_Order_twoTwo.f (k : Nat) (a0_0 : Int) (l0_1 : List Int) : Option (List Int) := impl_Order_twoTwo.l0 k a0_0 0 a0_0 l0_1
theorem impl_Order_twoTwo.mono_l : ∀ k, (∀ y0 y1 y2 y3, LeO (impl_Order_twoTwo.l0 k y0 y1 y2 y3) (impl_Order_twoTwo.l0 (k + 1) y0 y1 y2 y3)) ∧ (∀ y0 y1 y2 y3 y4 y5 y6, LeO (impl_Order_twoTwo.l1 k y0 y1 y2 y3 y4 y5 y6) (impl_Order_twoTwo.l1 (k + 1) y0 y1 y2 y3 y4 y5 y6)) ∧ (∀ y0 y1 y2 y3 y4 y5 y6 y7 y8 y9, LeO (impl_Order_twoTwo.l2 k y0 y1 y2 y3 y4 y5 y6 y7 y8 y9) (impl_Order_twoTwo.l2 (k + 1) y0 y1 y2 y3 y4 y5 y6 y7 y8 y9)) ∧ (∀ y0 y1 y2 y3 y4 y5 y6 y7 y8 y9 y10 y11 y12, LeO (impl_Order_twoTwo.l3 k y0 y1 y2 y3 y4 y5 y6 y7 y8 y9 y10 y11 y12) (impl_Order_twoTwo.l3 (k + 1) y0 y1 y2 y3 y4 y5 y6 y7 y8 y9 y10 y11 y12))
 | 0 => ⟨fun _ _ _ _ r h => by simp [impl_Order_twoTwo.l0] at h, fun _ _ _ _ _ _ _ r h => by simp [impl_Order_twoTwo.l1] at h, fun _ _ _ _ _ _ _ _ _ _ r h => by simp [impl_Order_twoTwo.l2] at h, fun _ _ _ _ _ _ _ _ _ _ _ _ _ r h => by simp [impl_Order_twoTwo.l3] at h⟩
 | k + 1 => by
  obtain ⟨ih0, ih1, ih2, ih3⟩ := impl_Order_twoTwo.mono_l k
  refine ⟨?_, ?_, ?_, ?_⟩ <;> intros
  unfold impl_Order_twoTwo.l0
  rotate_left
  unfold impl_Order_twoTwo.l1
  rotate_left
  unfold impl_Order_twoTwo.l2
  rotate_left
  unfold impl_Order_twoTwo.l3
  rotate_left
  all_goals repeat' (with_reducible first|apply ih0|apply ih1|apply ih2|apply ih3|apply LeO.refl|apply LeO.none|apply LeO.ite|apply LeO.bind|intro)
theorem impl_Order_twoTwo.mono : ∀ a0 a1 k, LeO (impl_Order_twoTwo.f k a0 a1) (impl_Order_twoTwo.f (k + 1) a0 a1) := by
 intro a0 a1 k
 obtain ⟨ih0, ih1, ih2, ih3⟩ := impl_Order_twoTwo.mono_l k
 unfold impl_Order_twoTwo.f
 repeat' (with_reducible first|apply ih0|apply ih1|apply ih2|apply ih3|apply LeO.refl|apply LeO.none|apply LeO.ite|apply LeO.bind|intro)
theorem impl_Order_twoTwo.calls (k : Nat) (a0_0 : Int) (A0_1 : Option Addr) (c0_1 : Nat) (l0_1 : List Int) (r : List Int) (w : World) (hr0_1 : Kd.C (Kd.int .i64) w A0_1 l0_1.length l0_1) (hc0_1 : l0_1.length ≤ c0_1) (h : impl_Order_twoTwo.f k a0_0 l0_1 = some r) :
  Calls Tryd.prog 55 #[.agg #[.int .i64 a0_0, .slice A0_1 l0_1.length c0_1]] w fun e w' => ∃ v0_ : Value, e = .returned (v0_) ∧ Kd.R (Kd.int .i64) 3 w' w.heap.size (fun _ => True) v0_ r ∧ Below w.heap.size w w' ∧ (r = [] → v0_ = .slice none 0 0) := by
 have hu27 := Tryd.underlying27
 have HR0_1 := mkA hr0_1
 have HC0_1 := mkA hc0_1
 clear hr0_1 hc0_1
 have HB := mkA (Below.refl w.heap.size w)
 have H := h
 clear h
 unfold impl_Order_twoTwo.f at H
 have H' := mkA H
 clear H
 go_enter Tryd.func55, Tryd.ntmps55
 go_wp2_with (first | ((with_reducible refine gate_dst (N := 1) rfl ?_); refine boxG HB #[.int .i64 a0_0, .slice A0_1 l0_1.length c0_1] 27 ?_; intro gb223 hg w2 BK223 GE223 hb; replace HB := bst HB hb; clear hb hg; obtain ⟨_, _, _, _⟩ := blk2 BK223))
 go_loopg [9] k (fun kq v9 w' => ∃ (x9_1 : Int), v9 = .int .i64 x9_1 ∧ Fc (impl_Order_twoTwo.l0 kq a0_0 x9_1 a0_0 l0_1 = some r) ∧ Fc (kq ≤ k) ∧ Fc (w'.heap[gb223]? = some (.cells #[.int .i64 a0_0, (.slice A0_1 l0_1.length c0_1)] 27 (0, 0))) ∧ Fc (Below w.heap.size w w'))
 case atStart => exact ⟨(0), eqS, H', ⟨Nat.le_refl _⟩, bg BK223, hbg HB⟩
 case round =>
  clear H'
  obtain ⟨x9_1, rfl, HA, HK1, BK223, HB⟩ := hrel
  cases gk with
  | zero => exact absurd HA.out (by simp [impl_Order_twoTwo.l0])
  | succ k1 =>
   have H := HA.out
   clear HA
   simp only [impl_Order_twoTwo.l0] at H
   rcases iteE H with ⟨c4b0, H⟩ | ⟨c4b0, H⟩
   ·have H' := mkA H
    clear H
    obtain ⟨_, _, _, _⟩ := blk2 BK223
    go_wp2
    go_loopg [14] k1 (fun kq v14 w' => ∃ (x14_2 : Int), v14 = .int .i64 x14_2 ∧ Fc (impl_Order_twoTwo.l1 kq x9_1 a0_0 x9_1 a0_0 x14_2 a0_0 l0_1 = some r) ∧ Fc (kq ≤ k1) ∧ Fc (w'.heap[gb223]? = some (.cells #[.int .i64 a0_0, (.slice A0_1 l0_1.length c0_1)] 27 (0, 0))) ∧ Fc (Below w.heap.size w w'))
    case atStart => exact ⟨(0), eqS, H', ⟨Nat.le_refl _⟩, bg BK223, hbg HB⟩
    case round =>
     clear H'
     try clear c4b0
     obtain ⟨x14_2, rfl, HA, HK2, BK223, HB⟩ := hrel
     cases gk with
     | zero => exact absurd HA.out (by simp [impl_Order_twoTwo.l1])
     | succ k2 =>
      have H := HA.out
      clear HA
      simp only [impl_Order_twoTwo.l1] at H
      rcases iteE H with ⟨c6b0, H⟩ | ⟨c6b0, H⟩
      ·have H' := mkA H
       clear H
       obtain ⟨_, _, _, _⟩ := blk2 BK223
       go_wp2
       go_loopg [19] k2 (fun kq v19 w' => ∃ (x19_3 : Int), v19 = .int .i64 x19_3 ∧ Fc (impl_Order_twoTwo.l2 kq x9_1 x14_2 a0_0 x9_1 a0_0 x14_2 a0_0 x19_3 a0_0 l0_1 = some r) ∧ Fc (kq ≤ k2) ∧ Fc (w'.heap[gb223]? = some (.cells #[.int .i64 a0_0, (.slice A0_1 l0_1.length c0_1)] 27 (0, 0))) ∧ Fc (Below w.heap.size w w'))
       case atStart => exact ⟨(0), eqS, H', ⟨Nat.le_refl _⟩, bg BK223, hbg HB⟩
       case round =>
        clear H'
        try clear c4b0
        try clear c6b0
        obtain ⟨x19_3, rfl, HA, HK3, BK223, HB⟩ := hrel
        cases gk with
        | zero => exact absurd HA.out (by simp [impl_Order_twoTwo.l2])
        | succ k3 =>
         have H := HA.out
         clear HA
         simp only [impl_Order_twoTwo.l2] at H
         rcases iteE H with ⟨c8b0, H⟩ | ⟨c8b0, H⟩
         ·have H' := mkA H
          clear H
          obtain ⟨_, _, _, _⟩ := blk2 BK223
          go_wp2
          go_loopg [24] k3 (fun kq v24 w' => ∃ (x24_4 : Int), v24 = .int .i64 x24_4 ∧ Fc (impl_Order_twoTwo.l3 kq x9_1 x14_2 x19_3 a0_0 x9_1 a0_0 x14_2 a0_0 x19_3 a0_0 x24_4 a0_0 l0_1 = some r) ∧ Fc (kq ≤ k3) ∧ Fc (w'.heap[gb223]? = some (.cells #[.int .i64 a0_0, (.slice A0_1 l0_1.length c0_1)] 27 (0, 0))) ∧ Fc (Below w.heap.size w w'))
          case atStart => exact ⟨(0), eqS, H', ⟨Nat.le_refl _⟩, bg BK223, hbg HB⟩
          case round =>
           clear H'
           try clear c4b0
           try clear c6b0
           try clear c8b0
           obtain ⟨x24_4, rfl, HA, HK4, BK223, HB⟩ := hrel
           cases gk with
           | zero => exact absurd HA.out (by simp [impl_Order_twoTwo.l3])
           | succ k4 =>
            have H := HA.out
            clear HA
            simp only [impl_Order_twoTwo.l3] at H
            rcases iteE H with ⟨c10b0, H⟩ | ⟨c10b0, H⟩
            ·obtain ⟨t224, A11, H⟩ := obE H
             by_cases c12 : t224 = true
             ·subst c12
              replace H := ifT H
              obtain ⟨t225, A13, H⟩ := obE H
              by_cases c14 : t225 = true
              ·subst c14
               replace H := ifT H
               obtain ⟨t226, A15, H⟩ := obE H
               by_cases c16 : t226 = true
               ·subst c16
                replace H := ifT H
                have H' := mkA H
                clear H
                obtain ⟨_, _, _, _⟩ := blk2 BK223
                go_wp2_with (first | ((with_reducible refine gate_callee (f := 43) rfl ?_); refine goesQ (some 30) Tryd.func43 #[.agg #[.int .i64 a0_0, .slice A0_1 l0_1.length c0_1], .int .i64 x9_1, .int .i64 x14_2] ?_; (with_reducible refine (impl_Order_better.calls a0_0 _ _ l0_1 x9_1 x14_2 true _ ?_ ?_ A11.out).mono ?_); exact C_g HR0_1 HB; exact HC0_1.out; rintro e w18 ⟨rfl, hb⟩; refine ⟨_, rfl, ?_⟩; replace BK223 := blkB BK223 hb; replace HB := bst HB hb; clear hb; obtain ⟨_, _, _, _⟩ := blk2 BK223) | (go_at_call 43; (with_reducible refine (impl_Order_better.calls a0_0 _ _ l0_1 x19_3 x24_4 true _ ?_ ?_ A13.out).mono ?_); exact C_g HR0_1 HB; exact HC0_1.out; rintro e w20 ⟨rfl, hb⟩; replace BK223 := blkB BK223 hb; replace HB := bst HB hb; clear hb; obtain ⟨_, _, _, _⟩ := blk2 BK223) | (go_at_call 43; (with_reducible refine (impl_Order_better.calls a0_0 _ _ l0_1 x19_3 x14_2 true _ ?_ ?_ A15.out).mono ?_); exact C_g HR0_1 HB; exact HC0_1.out; rintro e w22 ⟨rfl, hb⟩; replace BK223 := blkB BK223 hb; replace HB := bst HB hb; clear hb))
                go_roundg k4
                case measure => have := HK1.out; have := HK2.out; have := HK3.out; have := HK4.out; omega
                case rel => exact ⟨(wrap64 (x24_4 + 1)), eqS, H', ⟨by have := HK1.out; have := HK2.out; have := HK3.out; have := HK4.out; omega⟩, bg BK223, hbg HB⟩
               ·replace c16 := Bool.eq_false_iff.mpr c16
                subst c16
                replace H := ifF H
                obtain ⟨t227, A23, H⟩ := obE H
                by_cases c24 : t227 = true
                ·subst c24
                 replace H := ifT H
                 have H' := mkA H
                 clear H
                 obtain ⟨_, _, _, _⟩ := blk2 BK223
                 go_wp2_with (first | ((with_reducible refine gate_callee (f := 43) rfl ?_); refine goesQ (some 30) Tryd.func43 #[.agg #[.int .i64 a0_0, .slice A0_1 l0_1.length c0_1], .int .i64 x9_1, .int .i64 x14_2] ?_; (with_reducible refine (impl_Order_better.calls a0_0 _ _ l0_1 x9_1 x14_2 true _ ?_ ?_ A11.out).mono ?_); exact C_g HR0_1 HB; exact HC0_1.out; rintro e w26 ⟨rfl, hb⟩; refine ⟨_, rfl, ?_⟩; replace BK223 := blkB BK223 hb; replace HB := bst HB hb; clear hb; obtain ⟨_, _, _, _⟩ := blk2 BK223) | (go_at_call 43; (with_reducible refine (impl_Order_better.calls a0_0 _ _ l0_1 x19_3 x24_4 true _ ?_ ?_ A13.out).mono ?_); exact C_g HR0_1 HB; exact HC0_1.out; rintro e w28 ⟨rfl, hb⟩; replace BK223 := blkB BK223 hb; replace HB := bst HB hb; clear hb; obtain ⟨_, _, _, _⟩ := blk2 BK223) | (go_at_call 43; (with_reducible refine (impl_Order_better.calls a0_0 _ _ l0_1 x19_3 x14_2 false _ ?_ ?_ A15.out).mono ?_); exact C_g HR0_1 HB; exact HC0_1.out; rintro e w30 ⟨rfl, hb⟩; replace BK223 := blkB BK223 hb; replace HB := bst HB hb; clear hb; obtain ⟨_, _, _, _⟩ := blk2 BK223) | (go_at_call 43; (with_reducible refine (impl_Order_better.calls a0_0 _ _ l0_1 x9_1 x24_4 true _ ?_ ?_ A23.out).mono ?_); exact C_g HR0_1 HB; exact HC0_1.out; rintro e w32 ⟨rfl, hb⟩; replace BK223 := blkB BK223 hb; replace HB := bst HB hb; clear hb))
                 go_roundg k4
                 case measure => have := HK1.out; have := HK2.out; have := HK3.out; have := HK4.out; omega
                 case rel => exact ⟨(wrap64 (x24_4 + 1)), eqS, H', ⟨by have := HK1.out; have := HK2.out; have := HK3.out; have := HK4.out; omega⟩, bg BK223, hbg HB⟩
                ·replace c24 := Bool.eq_false_iff.mpr c24
                 subst c24
                 replace H := ifF H
                 obtain ⟨y228, hy228⟩ : ∃ y_ : List Int, y_ = (([x9_1, x14_2, x19_3, x24_4] : List Int)) := ⟨_, rfl⟩
                 rw [← hy228] at H
                 have Ny228 := mkA hy228
                 clear hy228
                 obtain rfl := Option.some.inj H
                 obtain ⟨_, _, _, _⟩ := blk2 BK223
                 go_wp2_with (first | ((with_reducible refine gate_callee (f := 43) rfl ?_); refine goesQ (some 30) Tryd.func43 #[.agg #[.int .i64 a0_0, .slice A0_1 l0_1.length c0_1], .int .i64 x9_1, .int .i64 x14_2] ?_; (with_reducible refine (impl_Order_better.calls a0_0 _ _ l0_1 x9_1 x14_2 true _ ?_ ?_ A11.out).mono ?_); exact C_g HR0_1 HB; exact HC0_1.out; rintro e w34 ⟨rfl, hb⟩; refine ⟨_, rfl, ?_⟩; replace BK223 := blkB BK223 hb; replace HB := bst HB hb; clear hb; obtain ⟨_, _, _, _⟩ := blk2 BK223) | (go_at_call 43; (with_reducible refine (impl_Order_better.calls a0_0 _ _ l0_1 x19_3 x24_4 true _ ?_ ?_ A13.out).mono ?_); exact C_g HR0_1 HB; exact HC0_1.out; rintro e w36 ⟨rfl, hb⟩; replace BK223 := blkB BK223 hb; replace HB := bst HB hb; clear hb; obtain ⟨_, _, _, _⟩ := blk2 BK223) | (go_at_call 43; (with_reducible refine (impl_Order_better.calls a0_0 _ _ l0_1 x19_3 x14_2 false _ ?_ ?_ A15.out).mono ?_); exact C_g HR0_1 HB; exact HC0_1.out; rintro e w38 ⟨rfl, hb⟩; replace BK223 := blkB BK223 hb; replace HB := bst HB hb; clear hb; obtain ⟨_, _, _, _⟩ := blk2 BK223) | (go_at_call 43; (with_reducible refine (impl_Order_better.calls a0_0 _ _ l0_1 x9_1 x24_4 false _ ?_ ?_ A23.out).mono ?_); exact C_g HR0_1 HB; exact HC0_1.out; rintro e w40 ⟨rfl, hb⟩; replace BK223 := blkB BK223 hb; replace HB := bst HB hb; clear hb) | ((with_reducible refine gate_dst (N := 55) rfl ?_); refine litE (Kd.int .i64) 3 ([x9_1, x14_2, x19_3, x24_4] : List Int) [.int .i64 x9_1, .int .i64 x14_2, .int .i64 x19_3, .int .i64 x24_4] ?hp ?_; (case hp => exact (Reps.one (show Kd.M (Kd.int .i64) _ _ _ x9_1 [.int .i64 x9_1] from rfl) (Reps.one (show Kd.M (Kd.int .i64) _ _ _ x14_2 [.int .i64 x14_2] from rfl) (Reps.one (show Kd.M (Kd.int .i64) _ _ _ x19_3 [.int .i64 x19_3] from rfl) (Reps.one (show Kd.M (Kd.int .i64) _ _ _ x24_4 [.int .i64 x24_4] from rfl) (Reps.none _ _)))))); intro v229 w41 ho42 hb hg_ hnew_; clear hg_ hnew_; (first | rw [← Ny228.out] at ho42 | (simp only [Int.reduceToNat] at ho42; rw [← Ny228.out] at ho42)); have HO230 := rLo ho42 HB; replace BK223 := blkB BK223 hb; replace HB := bst HB hb; clear hb ho42))
                 go_ret
                 exact ⟨_, eqE, Kd.R_g HO230.out, bel_g HB.out, by first | rfl | (intro _; rfl) | (intro h_; simp at h_; done) | (intro h_; rw [Ny228.out] at h_; simp at h_; done)⟩
              ·replace c14 := Bool.eq_false_iff.mpr c14
               subst c14
               replace H := ifF H
               have H' := mkA H
               clear H
               obtain ⟨_, _, _, _⟩ := blk2 BK223
               go_wp2_with (first | ((with_reducible refine gate_callee (f := 43) rfl ?_); refine goesQ (some 30) Tryd.func43 #[.agg #[.int .i64 a0_0, .slice A0_1 l0_1.length c0_1], .int .i64 x9_1, .int .i64 x14_2] ?_; (with_reducible refine (impl_Order_better.calls a0_0 _ _ l0_1 x9_1 x14_2 true _ ?_ ?_ A11.out).mono ?_); exact C_g HR0_1 HB; exact HC0_1.out; rintro e w44 ⟨rfl, hb⟩; refine ⟨_, rfl, ?_⟩; replace BK223 := blkB BK223 hb; replace HB := bst HB hb; clear hb; obtain ⟨_, _, _, _⟩ := blk2 BK223) | (go_at_call 43; (with_reducible refine (impl_Order_better.calls a0_0 _ _ l0_1 x19_3 x24_4 false _ ?_ ?_ A13.out).mono ?_); exact C_g HR0_1 HB; exact HC0_1.out; rintro e w46 ⟨rfl, hb⟩; replace BK223 := blkB BK223 hb; replace HB := bst HB hb; clear hb))
               go_roundg k4
               case measure => have := HK1.out; have := HK2.out; have := HK3.out; have := HK4.out; omega
               case rel => exact ⟨(wrap64 (x24_4 + 1)), eqS, H', ⟨by have := HK1.out; have := HK2.out; have := HK3.out; have := HK4.out; omega⟩, bg BK223, hbg HB⟩
             ·replace c12 := Bool.eq_false_iff.mpr c12
              subst c12
              replace H := ifF H
              have H' := mkA H
              clear H
              obtain ⟨_, _, _, _⟩ := blk2 BK223
              go_wp2_with (first | ((with_reducible refine gate_callee (f := 43) rfl ?_); refine goesQ (some 30) Tryd.func43 #[.agg #[.int .i64 a0_0, .slice A0_1 l0_1.length c0_1], .int .i64 x9_1, .int .i64 x14_2] ?_; (with_reducible refine (impl_Order_better.calls a0_0 _ _ l0_1 x9_1 x14_2 false _ ?_ ?_ A11.out).mono ?_); exact C_g HR0_1 HB; exact HC0_1.out; rintro e w48 ⟨rfl, hb⟩; refine ⟨_, rfl, ?_⟩; replace BK223 := blkB BK223 hb; replace HB := bst HB hb; clear hb))
              go_roundg k4
              case measure => have := HK1.out; have := HK2.out; have := HK3.out; have := HK4.out; omega
              case rel => exact ⟨(wrap64 (x24_4 + 1)), eqS, H', ⟨by have := HK1.out; have := HK2.out; have := HK3.out; have := HK4.out; omega⟩, bg BK223, hbg HB⟩
            ·have H' := mkA H
             clear H
             go_wp2
             go_roundg k4
             case measure => have := HK1.out; have := HK2.out; have := HK3.out; have := HK4.out; omega
             case rel => exact ⟨(wrap64 (x19_3 + 1)), eqS, H', ⟨by have := HK1.out; have := HK2.out; have := HK3.out; have := HK4.out; omega⟩, bg BK223, hbg HB⟩
         ·have H' := mkA H
          clear H
          go_wp2
          go_roundg k3
          case measure => have := HK1.out; have := HK2.out; have := HK3.out; omega
          case rel => exact ⟨(wrap64 (x14_2 + 1)), eqS, H', ⟨by have := HK1.out; have := HK2.out; have := HK3.out; omega⟩, bg BK223, hbg HB⟩
      ·have H' := mkA H
       clear H
       go_wp2
       go_roundg k2
       case measure => have := HK1.out; have := HK2.out; omega
       case rel => exact ⟨(wrap64 (x9_1 + 1)), eqS, H', ⟨by have := HK1.out; have := HK2.out; omega⟩, bg BK223, hbg HB⟩
   ·obtain rfl := Option.some.inj H
    go_wp2
    go_ret
    exact ⟨_, eqE, nilE, bel_g HB.out, by first | rfl | (intro _; rfl) | (intro h_; simp at h_; done)⟩
theorem impl_isInterval.nilEql_ {P : Program} (W : World) {t e : TypeId} {A : Option Addr} {n c : Nat} {xs : List Int} {Z : Nat → Nat → Prop} (hu : P.underlying t = some (.slice e)) (h : xs = [] → Value.slice A n c = .slice none 0 0) (h2 : 0 < xs.length → ∃ g c', Value.slice A n c = .slice (some ⟨g, 0, none⟩) xs.length c' ∧ Z g c') :
  (binOp .eql t (.slice A n c) (.slice none 0 0)).run P W = .ok (.bool (xs == ([] : List Int))) W := by
 rw [Lib.run_eql_slice_nil W t e A n c 0 0 hu]
 cases xs with
 | nil => injection h rfl with h1 _ _; subst h1; rfl
 | cons x l => obtain ⟨g, c', h1, _⟩ := h2 (by simp); injection h1 with h1 _ _; subst h1; rfl
theorem impl_isInterval.nilNeq_ {P : Program} (W : World) {t e : TypeId} {A : Option Addr} {n c : Nat} {xs : List Int} {Z : Nat → Nat → Prop} (hu : P.underlying t = some (.slice e)) (h : xs = [] → Value.slice A n c = .slice none 0 0) (h2 : 0 < xs.length → ∃ g c', Value.slice A n c = .slice (some ⟨g, 0, none⟩) xs.length c' ∧ Z g c') :
  (binOp .neq t (.slice A n c) (.slice none 0 0)).run P W = .ok (.bool (xs != ([] : List Int))) W := by
 rw [run_neq_slice_nil_any W t e A n c 0 0 hu]
 cases xs with
 | nil => injection h rfl with h1 _ _; subst h1; rfl
 | cons x l => obtain ⟨g, c', h1, _⟩ := h2 (by simp); injection h1 with h1 _ _; subst h1; rfl
def impl_isInterval.f (k : Nat) (a0_0 : Int) (l0_1 : List Int) : Option (Bool) := (impl_IsOrder.f k a0_0 l0_1).bind fun t232 => (if t232 = true then ((impl_Order_twoTwo.f k a0_0 l0_1).bind fun t233 => (some (t233 == ([] : List Int)))) else (some false))
theorem impl_isInterval.mono : ∀ a0 a1 k, LeO (impl_isInterval.f k a0 a1) (impl_isInterval.f (k + 1) a0 a1) := by
 intro a0 a1 k
 unfold impl_isInterval.f
 repeat' (with_reducible first|apply impl_IsOrder.mono|apply impl_Order_twoTwo.mono|apply LeO.refl|apply LeO.none|apply LeO.ite|apply LeO.bind|intro)
theorem impl_isInterval.calls (k : Nat) (a0_0 : Int) (A0_1 : Option Addr) (c0_1 : Nat) (l0_1 : List Int) (r : Bool) (w : World) (hr0_1 : Kd.C (Kd.int .i64) w A0_1 l0_1.length l0_1) (hc0_1 : l0_1.length ≤ c0_1) (hTAB : Tab w) (h : impl_isInterval.f k a0_0 l0_1 = some r) :
  Calls Tryd.prog 44 #[.agg #[.int .i64 a0_0, .slice A0_1 l0_1.length c0_1]] w fun e w' => e = .returned (.bool r) ∧ Below w.heap.size w w' := by
 have HTAB := mkA hTAB
 clear hTAB
 have hu27 := Tryd.underlying27
 have HR0_1 := mkA hr0_1
 have HC0_1 := mkA hc0_1
 clear hr0_1 hc0_1
 have HB := mkA (Below.refl w.heap.size w)
 have H := h
 clear h
 unfold impl_isInterval.f at H
 obtain ⟨t232, A2, H⟩ := obE H
 by_cases c3 : t232 = true
 ·subst c3
  replace H := ifT H
  obtain ⟨t233, A4, H⟩ := obE H
  obtain rfl := Option.some.inj H
  go_enter Tryd.func44, Tryd.ntmps44
  go_wp2_with (first | ((with_reducible refine gate_dst (N := 1) rfl ?_); refine boxG HB #[.int .i64 a0_0, .slice A0_1 l0_1.length c0_1] 27 ?_; intro gb231 hg w5 BK231 GE231 hb; replace HB := bst HB hb; clear hb hg; obtain ⟨_, _, _, _⟩ := blk2 BK231) | ((with_reducible refine gate_callee (f := 28) rfl ?_); refine goesQ (some 4) Tryd.func28 #[.agg #[.int .i64 a0_0, .slice A0_1 l0_1.length c0_1]] ?_; (with_reducible refine (impl_IsOrder.calls k a0_0 _ _ l0_1 true _ ?_ ?_ ?_ A2.out).mono ?_); exact C_g HR0_1 HB; exact HC0_1.out; exact Tab.below HTAB.out (bel_g HB.out); rintro e w7 ⟨rfl, hb⟩; refine ⟨_, rfl, ?_⟩; replace BK231 := blkB BK231 hb; replace HB := bst HB hb; clear hb; obtain ⟨_, _, _, _⟩ := blk2 BK231) | (go_at_call 55; (with_reducible refine (impl_Order_twoTwo.calls k a0_0 _ _ l0_1 t233 _ ?_ ?_ A4.out).mono ?_); exact C_g HR0_1 HB; exact HC0_1.out; rintro e w9 ⟨v234, rfl, ho0, hb, hnl0⟩; have HO235 := rLo ho0 HB; replace BK231 := blkB BK231 hb; replace HB := bst HB hb; clear hb ho0; have NL_HO235 := mkA hnl0; clear hnl0; obtain ⟨Ao10, co10, rfl⟩ := Kd.R_slice HO235.out; have nq11 := fun (W_ : World) => impl_isInterval.nilEql_ (P := Tryd.prog) W_ (t := 24) (e := 3) (c := co10) Tryd.underlying24 NL_HO235.out (fun h_ => Kd.R_form HO235.out h_)))
  go_ret
  exact ⟨eqE, bel_g HB.out⟩
 ·replace c3 := Bool.eq_false_iff.mpr c3
  subst c3
  replace H := ifF H
  obtain rfl := Option.some.inj H
  go_enter Tryd.func44, Tryd.ntmps44
  go_wp2_with (first | ((with_reducible refine gate_dst (N := 1) rfl ?_); refine boxG HB #[.int .i64 a0_0, .slice A0_1 l0_1.length c0_1] 27 ?_; intro gb231 hg w12 BK231 GE231 hb; replace HB := bst HB hb; clear hb hg; obtain ⟨_, _, _, _⟩ := blk2 BK231) | ((with_reducible refine gate_callee (f := 28) rfl ?_); refine goesQ (some 4) Tryd.func28 #[.agg #[.int .i64 a0_0, .slice A0_1 l0_1.length c0_1]] ?_; (with_reducible refine (impl_IsOrder.calls k a0_0 _ _ l0_1 false _ ?_ ?_ ?_ A2.out).mono ?_); exact C_g HR0_1 HB; exact HC0_1.out; exact Tab.below HTAB.out (bel_g HB.out); rintro e w14 ⟨rfl, hb⟩; refine ⟨_, rfl, ?_⟩; replace BK231 := blkB BK231 hb; replace HB := bst HB hb; clear hb))
  go_ret
  exact ⟨eqE, bel_g HB.out⟩
def impl_Order_mirror_1.f (a0 : Int) (a1 : Int) (a2_0 : Int) (l2_1 : List Int) : Option (Bool) := (impl_Order_better.f a2_0 l2_1 a1 a0).bind fun t237 => (some t237)
theorem impl_Order_mirror_1.calls (a0 : Int) (a1 : Int) (gB2 : Nat) (a2_0 : Int) (A2_1 : Option Addr) (c2_1 : Nat) (l2_1 : List Int) (r : Bool) (w : World) (hb2 : w.heap[gB2]? = some (.cells #[.int .i64 a2_0, .slice A2_1 l2_1.length c2_1] 27 (0, 0))) (hr2_1 : Kd.C (Kd.int .i64) w A2_1 l2_1.length l2_1) (hc2_1 : l2_1.length ≤ c2_1) (h : impl_Order_mirror_1.f a0 a1 a2_0 l2_1 = some r) :
  Calls Tryd.prog 48 #[.int .i64 a0, .int .i64 a1, .pointer (some ⟨gB2, 0, none⟩)] w fun e w' => e = .returned (.bool r) ∧ Below w.heap.size w w' := by
 have hu27 := Tryd.underlying27
 have BK236 := mkA hb2
 clear hb2
 have HR2_1 := mkA hr2_1
 have HC2_1 := mkA hc2_1
 clear hr2_1 hc2_1
 have HB := mkA (Below.refl w.heap.size w)
 have H := h
 clear h
 unfold impl_Order_mirror_1.f at H
 obtain ⟨t237, A4, H⟩ := obE H
 obtain rfl := Option.some.inj H
 obtain ⟨_, _, _, _⟩ := blk2 BK236
 go_enter Tryd.func48, Tryd.ntmps48
 go_wp2_with (first | ((with_reducible refine gate_callee (f := 43) rfl ?_); refine goesQ (some 9) Tryd.func43 #[.agg #[.int .i64 a2_0, .slice A2_1 l2_1.length c2_1], .int .i64 a1, .int .i64 a0] ?_; (with_reducible refine (impl_Order_better.calls a2_0 _ _ l2_1 a1 a0 t237 _ ?s1 ?s2 A4.out).mono ?_); (case s1 => repeat (first | exact HR2_1.out | (with_reducible refine Kd.C_alloc ?_ _) | (with_reducible refine Kd.C_drewN ?_ _) | (with_reducible refine Kd.C_drew ?_))); (case s2 => exact HC2_1.out); rintro e w6 ⟨rfl, hb⟩; refine ⟨_, rfl, ?_⟩; replace BK236 := blkB BK236 hb; replace HB := bst HB hb; clear hb))
 go_ret
 exact ⟨eqE, bel_g HB.out⟩
end Go.Proofs.YtcalgdljcphjaaaDoor.Q
