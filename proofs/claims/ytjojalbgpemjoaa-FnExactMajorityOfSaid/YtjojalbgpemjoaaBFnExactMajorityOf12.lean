import Derived.Test.YtjojalbgpemjoaaBFnExactMajorityOf0
-- printed by this project's own program (wip/mp/mp.py) over the kit's print, for this seat; Lean checks it
namespace Go.Proofs.Ytjojalbgpemjoaa.Q
open Go.RowKit Go.Proofs.YtjojalbgpemjoaaW.PrintWords Go.Proofs.YtjojalbgpemjoaaW.PrintLast Go.Proofs.YtjojalbgpemjoaaW.PrintMore
attribute [local go_sem] max2_int min2_int max_two min_two max_three min_three max_four min_four   -- for this text's walks alone
set_option linter.unusedVariables false
set_option linter.unusedSimpArgs false

/-! ### impl_majority: function 76 -/
def impl_majority.l0 : Nat → Int → Int → Int → List (List Int) → Int → Int → Option (Int)
  | 0, _, _, _, _, _, _ => none
  | k + 1, x1, x2, x7, x10, x11, x12 => if x12 < x11 then (if 0 ≤ x12 then (if x12 < (x10.length : Int) then (if 0 ≤ x2 then (if x2 < ((rd_L1 x10 x12).length : Int) then (if 0 ≤ x1 then (if x1 < ((rd_L1 x10 x12).length : Int) then (if (rd (rd_L1 x10 x12) x2) > (rd (rd_L1 x10 x12) x1) then (impl_majority.l0 k x1 x2 (wrap64 (x7 + 1)) x10 x11 (wrap64 (x12 + 1))) else (if (rd (rd_L1 x10 x12) x2) < (rd (rd_L1 x10 x12) x1) then (impl_majority.l0 k x1 x2 (wrap64 (x7 - 1)) x10 x11 (wrap64 (x12 + 1))) else (impl_majority.l0 k x1 x2 x7 x10 x11 (wrap64 (x12 + 1))))) else (none)) else (none)) else (none)) else (none)) else (none)) else (none)) else (some x7)
def impl_majority.f (k : Nat) (l0 : List (List Int)) (a1 : Int) (a2 : Int) : Option (Int) := impl_majority.l0 k a1 a2 0 l0 (l0.length : Int) 0
theorem impl_majority.mono_l : ∀ k, (∀ y0 y1 y2 y3 y4 y5, LeO (impl_majority.l0 k y0 y1 y2 y3 y4 y5) (impl_majority.l0 (k + 1) y0 y1 y2 y3 y4 y5))
  | 0 => fun _ _ _ _ _ _ r h => by simp [impl_majority.l0] at h
  | k + 1 => by
    have ih0 := impl_majority.mono_l k
    · intro y0 y1 y2 y3 y4 y5
      unfold impl_majority.l0
      repeat' first
      | (with_reducible exact ih0 _ _ _ _ _ _)
      | (with_reducible exact LeO.refl _)
      | (with_reducible exact LeO.none _)
      | (with_reducible refine LeO.ite ?_ ?_)
      | (with_reducible refine LeO.bind ?_ (fun _ => ?_))
      | exact ih0 _ _ _ _ _ _
      | exact LeO.none _
      | refine LeO.ite ?_ ?_
      | refine LeO.bind ?_ (fun _ => ?_)
theorem impl_majority.mono : ∀ a0 a1 a2 k, LeO (impl_majority.f k a0 a1 a2) (impl_majority.f (k + 1) a0 a1 a2) := by
  intro a0 a1 a2 k
  have ih0 := impl_majority.mono_l k
  unfold impl_majority.f
  repeat' first
      | (with_reducible exact ih0 _ _ _ _ _ _)
      | (with_reducible exact LeO.refl _)
      | (with_reducible exact LeO.none _)
      | (with_reducible refine LeO.ite ?_ ?_)
      | (with_reducible refine LeO.bind ?_ (fun _ => ?_))
      | exact ih0 _ _ _ _ _ _
      | exact LeO.none _
      | refine LeO.ite ?_ ?_
      | refine LeO.bind ?_ (fun _ => ?_)
set_option maxHeartbeats 8000000 in
set_option maxRecDepth 100000 in
theorem impl_majority.calls (k : Nat) (A0 : Option Addr) (c0 : Nat) (l0 : List (List Int)) (a1 : Int) (a2 : Int) (r : Int) (w : World) (hr0 : Kd.C (Kd.slice 3 (Kd.int .i64)) w A0 l0.length l0) (hc0 : l0.length ≤ c0) (h : impl_majority.f k l0 a1 a2 = some r) :
    Calls Try.prog 76 #[.slice A0 l0.length c0, .int .i64 a1, .int .i64 a2] w fun e w' => e = .returned (.int .i64 r) ∧ Drawn0 w w' := by
  have HR0 := Aside0.mk hr0
  have HC0 := Aside0.mk hc0
  clear hr0 hc0
  have H : (impl_majority.l0 k a1 a2 0 l0 (l0.length : Int) 0) = some r := h
  clear h
  have H' := Aside0.mk H
  clear H
  go_enter Try.func76, Try.ntmps76
  go_wp2
  repeat (go_quiet (fail); try go_wp2)
  go_loopg [7, 12] k (fun kq v7 v12 w' => ∃ (x7_1 : Int) (x12_1 : Int), v7 = .int .i64 x7_1 ∧ v12 = .int .i64 x12_1 ∧ Aside0 (impl_majority.l0 kq a1 a2 x7_1 l0 (l0.length : Int) x12_1 = some r) ∧ Aside0 (kq ≤ k) ∧ Drawn0 w w')
  case atStart => exact ⟨(0), (0), (by first | rfl | (simp; done) | (simp [*]; done)), (by first | rfl | (simp; done) | (simp [*]; done)), H', ⟨Nat.le_refl _⟩, by repeat (first | exact Drawn0.refl _ | apply Drawn0.step)⟩
  case round =>
    clear H'
    try clear p2
    obtain ⟨x7_1, x12_1, rfl, rfl, HA, HK1, ⟨m1, rfl⟩⟩ := hrel
    cases gk with
    | zero => exact absurd HA.out (by simp [impl_majority.l0])
    | succ k1 =>
      have H := HA.out
      clear HA
      simp only [impl_majority.l0] at H
      by_cases c4 : x12_1 < (l0.length : Int)
      · rw [if_pos c4] at H
        have c4b0 : decide (x12_1 < (l0.length : Int)) = true := decide_eq_true c4
        clear c4
        by_cases c5 : 0 ≤ x12_1
        · rw [if_pos c5] at H
          have c5b0 : decide (0 ≤ x12_1) = true := decide_eq_true c5
          clear c5
          by_cases c6 : x12_1 < (l0.length : Int)
          · rw [if_pos c6] at H
            have c6b0 : decide (x12_1 < (l0.length : Int)) = true := decide_eq_true c6
            clear c6
            by_cases c7 : 0 ≤ a2
            · rw [if_pos c7] at H
              have c7b0 : decide (0 ≤ a2) = true := decide_eq_true c7
              clear c7
              by_cases c8 : a2 < ((rd_L1 l0 x12_1).length : Int)
              · rw [if_pos c8] at H
                have c8b0 : decide (a2 < ((rd_L1 l0 x12_1).length : Int)) = true := decide_eq_true c8
                clear c8
                by_cases c9 : 0 ≤ a1
                · rw [if_pos c9] at H
                  have c9b0 : decide (0 ≤ a1) = true := decide_eq_true c9
                  clear c9
                  by_cases c10 : a1 < ((rd_L1 l0 x12_1).length : Int)
                  · rw [if_pos c10] at H
                    have c10b0 : decide (a1 < ((rd_L1 l0 x12_1).length : Int)) = true := decide_eq_true c10
                    clear c10
                    by_cases c11 : (rd (rd_L1 l0 x12_1) a2) > (rd (rd_L1 l0 x12_1) a1)
                    · rw [if_pos c11] at H
                      have c11b0 : decide ((rd (rd_L1 l0 x12_1) a1) < (rd (rd_L1 l0 x12_1) a2)) = true := decide_eq_true c11
                      clear c11
                      have H' := Aside0.mk H
                      clear H
                      have p829 : 0 ≤ (x12_1 : Int) := of_decide_eq_true (by first | (with_reducible assumption) | assumption)
                      have q829 : x12_1 < (l0.length : Int) := of_decide_eq_true (by first | (with_reducible assumption) | assumption)
                      obtain ⟨ad829, A829_0, c829_0, e829, hx829_0, hl829_0, hi829_0⟩ := at_L1 HR0.out x12_1 p829 q829
                      cases e829
                      have HR829_0 := Aside0.mk hi829_0
                      have HC829_0 := Aside0.mk hl829_0
                      clear hi829_0 hl829_0
                      replace p829 := eq_true p829
                      replace q829 := eq_true q829
                      have p830 : 0 ≤ (a2 : Int) := of_decide_eq_true (by first | (with_reducible assumption) | assumption)
                      have q830 : a2 < ((rd_L1 l0 x12_1).length : Int) := of_decide_eq_true (by first | (with_reducible assumption) | assumption)
                      obtain ⟨ad830, e830, hx830_0⟩ := Kd.at_int HR829_0.out a2 p830 q830
                      cases e830
                      replace p830 := eq_true p830
                      replace q830 := eq_true q830
                      have p831 : 0 ≤ (a1 : Int) := of_decide_eq_true (by first | (with_reducible assumption) | assumption)
                      have q831 : a1 < ((rd_L1 l0 x12_1).length : Int) := of_decide_eq_true (by first | (with_reducible assumption) | assumption)
                      obtain ⟨ad831, e831, hx831_0⟩ := Kd.at_int HR829_0.out a1 p831 q831
                      obtain rfl : ad830 = ad831 := (by injection e831)
                      replace p831 := eq_true p831
                      replace q831 := eq_true q831
                      go_wp2
                      repeat (go_quiet (fail); try go_wp2)
                      go_roundg k1
                      case measure => have := HK1.out; omega
                      case rel => exact ⟨(wrap64 (x7_1 + 1)), (wrap64 (x12_1 + 1)), (by first | rfl | (simp; done) | (simp [*]; done)), (by first | rfl | (simp; done) | (simp [*]; done)), H', ⟨by have := HK1.out; omega⟩, by repeat (first | exact Drawn0.refl _ | apply Drawn0.step)⟩
                    · rw [if_neg c11] at H
                      have c11b0 : decide ((rd (rd_L1 l0 x12_1) a1) < (rd (rd_L1 l0 x12_1) a2)) = false := decide_eq_false c11
                      clear c11
                      by_cases c12 : (rd (rd_L1 l0 x12_1) a2) < (rd (rd_L1 l0 x12_1) a1)
                      · rw [if_pos c12] at H
                        have c12b0 : decide ((rd (rd_L1 l0 x12_1) a2) < (rd (rd_L1 l0 x12_1) a1)) = true := decide_eq_true c12
                        clear c12
                        have H' := Aside0.mk H
                        clear H
                        have p829 : 0 ≤ (x12_1 : Int) := of_decide_eq_true (by first | (with_reducible assumption) | assumption)
                        have q829 : x12_1 < (l0.length : Int) := of_decide_eq_true (by first | (with_reducible assumption) | assumption)
                        obtain ⟨ad829, A829_0, c829_0, e829, hx829_0, hl829_0, hi829_0⟩ := at_L1 HR0.out x12_1 p829 q829
                        cases e829
                        have HR829_0 := Aside0.mk hi829_0
                        have HC829_0 := Aside0.mk hl829_0
                        clear hi829_0 hl829_0
                        replace p829 := eq_true p829
                        replace q829 := eq_true q829
                        have p830 : 0 ≤ (a2 : Int) := of_decide_eq_true (by first | (with_reducible assumption) | assumption)
                        have q830 : a2 < ((rd_L1 l0 x12_1).length : Int) := of_decide_eq_true (by first | (with_reducible assumption) | assumption)
                        obtain ⟨ad830, e830, hx830_0⟩ := Kd.at_int HR829_0.out a2 p830 q830
                        cases e830
                        replace p830 := eq_true p830
                        replace q830 := eq_true q830
                        have p831 : 0 ≤ (a1 : Int) := of_decide_eq_true (by first | (with_reducible assumption) | assumption)
                        have q831 : a1 < ((rd_L1 l0 x12_1).length : Int) := of_decide_eq_true (by first | (with_reducible assumption) | assumption)
                        obtain ⟨ad831, e831, hx831_0⟩ := Kd.at_int HR829_0.out a1 p831 q831
                        obtain rfl : ad830 = ad831 := (by injection e831)
                        replace p831 := eq_true p831
                        replace q831 := eq_true q831
                        have p832 : 0 ≤ (a2 : Int) := of_decide_eq_true (by first | (with_reducible assumption) | assumption)
                        have q832 : a2 < ((rd_L1 l0 x12_1).length : Int) := of_decide_eq_true (by first | (with_reducible assumption) | assumption)
                        obtain ⟨ad832, e832, hx832_0⟩ := Kd.at_int HR829_0.out a2 p832 q832
                        obtain rfl : ad830 = ad832 := (by injection e832)
                        replace p832 := eq_true p832
                        replace q832 := eq_true q832
                        have p833 : 0 ≤ (a1 : Int) := of_decide_eq_true (by first | (with_reducible assumption) | assumption)
                        have q833 : a1 < ((rd_L1 l0 x12_1).length : Int) := of_decide_eq_true (by first | (with_reducible assumption) | assumption)
                        obtain ⟨ad833, e833, hx833_0⟩ := Kd.at_int HR829_0.out a1 p833 q833
                        obtain rfl : ad830 = ad833 := (by injection e833)
                        replace p833 := eq_true p833
                        replace q833 := eq_true q833
                        go_wp2
                        repeat (go_quiet (fail); try go_wp2)
                        go_roundg k1
                        case measure => have := HK1.out; omega
                        case rel => exact ⟨(wrap64 (x7_1 - 1)), (wrap64 (x12_1 + 1)), (by first | rfl | (simp; done) | (simp [*]; done)), (by first | rfl | (simp; done) | (simp [*]; done)), H', ⟨by have := HK1.out; omega⟩, by repeat (first | exact Drawn0.refl _ | apply Drawn0.step)⟩
                      · rw [if_neg c12] at H
                        have c12b0 : decide ((rd (rd_L1 l0 x12_1) a2) < (rd (rd_L1 l0 x12_1) a1)) = false := decide_eq_false c12
                        clear c12
                        have H' := Aside0.mk H
                        clear H
                        have p829 : 0 ≤ (x12_1 : Int) := of_decide_eq_true (by first | (with_reducible assumption) | assumption)
                        have q829 : x12_1 < (l0.length : Int) := of_decide_eq_true (by first | (with_reducible assumption) | assumption)
                        obtain ⟨ad829, A829_0, c829_0, e829, hx829_0, hl829_0, hi829_0⟩ := at_L1 HR0.out x12_1 p829 q829
                        cases e829
                        have HR829_0 := Aside0.mk hi829_0
                        have HC829_0 := Aside0.mk hl829_0
                        clear hi829_0 hl829_0
                        replace p829 := eq_true p829
                        replace q829 := eq_true q829
                        have p830 : 0 ≤ (a2 : Int) := of_decide_eq_true (by first | (with_reducible assumption) | assumption)
                        have q830 : a2 < ((rd_L1 l0 x12_1).length : Int) := of_decide_eq_true (by first | (with_reducible assumption) | assumption)
                        obtain ⟨ad830, e830, hx830_0⟩ := Kd.at_int HR829_0.out a2 p830 q830
                        cases e830
                        replace p830 := eq_true p830
                        replace q830 := eq_true q830
                        have p831 : 0 ≤ (a1 : Int) := of_decide_eq_true (by first | (with_reducible assumption) | assumption)
                        have q831 : a1 < ((rd_L1 l0 x12_1).length : Int) := of_decide_eq_true (by first | (with_reducible assumption) | assumption)
                        obtain ⟨ad831, e831, hx831_0⟩ := Kd.at_int HR829_0.out a1 p831 q831
                        obtain rfl : ad830 = ad831 := (by injection e831)
                        replace p831 := eq_true p831
                        replace q831 := eq_true q831
                        have p832 : 0 ≤ (a2 : Int) := of_decide_eq_true (by first | (with_reducible assumption) | assumption)
                        have q832 : a2 < ((rd_L1 l0 x12_1).length : Int) := of_decide_eq_true (by first | (with_reducible assumption) | assumption)
                        obtain ⟨ad832, e832, hx832_0⟩ := Kd.at_int HR829_0.out a2 p832 q832
                        obtain rfl : ad830 = ad832 := (by injection e832)
                        replace p832 := eq_true p832
                        replace q832 := eq_true q832
                        have p833 : 0 ≤ (a1 : Int) := of_decide_eq_true (by first | (with_reducible assumption) | assumption)
                        have q833 : a1 < ((rd_L1 l0 x12_1).length : Int) := of_decide_eq_true (by first | (with_reducible assumption) | assumption)
                        obtain ⟨ad833, e833, hx833_0⟩ := Kd.at_int HR829_0.out a1 p833 q833
                        obtain rfl : ad830 = ad833 := (by injection e833)
                        replace p833 := eq_true p833
                        replace q833 := eq_true q833
                        go_wp2
                        repeat (go_quiet (fail); try go_wp2)
                        go_roundg k1
                        case measure => have := HK1.out; omega
                        case rel => exact ⟨(x7_1), (wrap64 (x12_1 + 1)), (by first | rfl | (simp; done) | (simp [*]; done)), (by first | rfl | (simp; done) | (simp [*]; done)), H', ⟨by have := HK1.out; omega⟩, by repeat (first | exact Drawn0.refl _ | apply Drawn0.step)⟩
                  · rw [if_neg c10] at H
                    exact absurd H (by simp)
                · rw [if_neg c9] at H
                  exact absurd H (by simp)
              · rw [if_neg c8] at H
                exact absurd H (by simp)
            · rw [if_neg c7] at H
              exact absurd H (by simp)
          · rw [if_neg c6] at H
            exact absurd H (by simp)
        · rw [if_neg c5] at H
          exact absurd H (by simp)
      · rw [if_neg c4] at H
        have c4b0 : decide (x12_1 < (l0.length : Int)) = false := decide_eq_false c4
        clear c4
        obtain rfl := Option.some.inj H
        go_wp2
        repeat (go_quiet (fail); try go_wp2)
        go_ret
        exact ⟨by first | rfl | (simp; done) | (simp [*]; done), by repeat (first | exact Drawn0.refl _ | apply Drawn0.step)⟩

end Go.Proofs.Ytjojalbgpemjoaa.Q

-- printed by this project's own program (wip/mp/mp.py) over the kit's print, for this seat; Lean checks it
namespace Go.Proofs.Ytjojalbgpemjoaa.Q
open Go.RowKit Go.Proofs.YtjojalbgpemjoaaW.PrintWords Go.Proofs.YtjojalbgpemjoaaW.PrintLast Go.Proofs.YtjojalbgpemjoaaW.PrintMore
attribute [local go_sem] max2_int min2_int max_two min_two max_three min_three max_four min_four   -- for this text's walks alone
set_option linter.unusedVariables false
set_option linter.unusedSimpArgs false

/-! ### impl_MajorityOf_1: function 75 -/
def impl_MajorityOf_1.f (k : Nat) (a0 : Int) (a1 : Int) (l2_0 : List (List Int)) : Option (Bool) := (impl_majority.f k l2_0 a0 a1).bind fun t835 => (some (decide (t835 > 0)))
theorem impl_MajorityOf_1.mono : ∀ a0 a1 a2 k, LeO (impl_MajorityOf_1.f k a0 a1 a2) (impl_MajorityOf_1.f (k + 1) a0 a1 a2) := by
  intro a0 a1 a2 k
  unfold impl_MajorityOf_1.f
  repeat' first
      | (with_reducible exact impl_majority.mono _ _ _ _)
      | (with_reducible exact LeO.refl _)
      | (with_reducible exact LeO.none _)
      | (with_reducible refine LeO.ite ?_ ?_)
      | (with_reducible refine LeO.bind ?_ (fun _ => ?_))
      | exact impl_majority.mono _ _ _ _
      | exact LeO.none _
      | refine LeO.ite ?_ ?_
      | refine LeO.bind ?_ (fun _ => ?_)
set_option maxHeartbeats 8000000 in
set_option maxRecDepth 100000 in
theorem impl_MajorityOf_1.calls (k : Nat) (a0 : Int) (a1 : Int) (gB2 : Nat) (A2_0 : Option Addr) (c2_0 : Nat) (l2_0 : List (List Int)) (r : Bool) (w : World) (hb2 : w.heap[gB2]? = some (.cells #[.slice A2_0 l2_0.length c2_0] 45 (0, 0))) (hr2_0 : Kd.C (Kd.slice 3 (Kd.int .i64)) w A2_0 l2_0.length l2_0) (hc2_0 : l2_0.length ≤ c2_0) (h : impl_MajorityOf_1.f k a0 a1 l2_0 = some r) :
    Calls Try.prog 75 #[.int .i64 a0, .int .i64 a1, .pointer (some ⟨gB2, 0, none⟩)] w fun e w' => e = .returned (.bool r) ∧ Drawn0 w w' := by
  have BK834 := Aside0.mk hb2
  clear hb2
  have HR2_0 := Aside0.mk hr2_0
  have HC2_0 := Aside0.mk hc2_0
  clear hr2_0 hc2_0
  have H : ((impl_majority.f k l2_0 a0 a1).bind fun t835 => (some (decide (t835 > 0)))) = some r := h
  clear h
  replace H := Option.bind_eq_some_iff.mp H
  obtain ⟨t835, A40, H⟩ := H
  replace H : (some (decide (t835 > 0))) = some r := H
  have A4 := Aside0.mk A40
  clear A40
  obtain rfl := Option.some.inj H
  have hcz5_0 : w.cell? ⟨gB2, 0, none⟩ = some (.slice A2_0 l2_0.length c2_0) := (blk_cell BK834.out 0).trans rfl
  have hfz5_0 := blk_frozen BK834.out 0
  go_enter Try.func75, Try.ntmps75
  go_wp2_with (first | ((with_reducible refine gate_callee (f := 76) rfl ?_); refine goesL_ (some 9) rfl rfl Try.func76 (by kernel_rfl) rfl #[.slice A2_0 l2_0.length c2_0, .int .i64 a0, .int .i64 a1] rfl (by (try simp only [List.map_toArray, List.map_cons, List.map_nil]); first | done | rfl | (simp only [List.length_drop, List.length_take]; rfl)) ?_; (with_reducible refine (impl_majority.calls k _ _ l2_0 a0 a1 t835 _ ?side1 ?side2 A4.out).mono ?_); (case side1 => repeat (first | exact HR2_0.out | (with_reducible refine Kd.C_alloc ?_ _) | (with_reducible refine Kd.C_drewN ?_ _) | (with_reducible refine Kd.C_drew ?_))); (case side2 => exact HC2_0.out); rintro e w' ⟨rfl, ⟨nd, rfl⟩⟩; refine ⟨_, rfl, ?_⟩))
  go_ret
  exact ⟨by first | rfl | (simp; done) | (simp [*]; done), by repeat (first | exact Drawn0.refl _ | apply Drawn0.step)⟩

end Go.Proofs.Ytjojalbgpemjoaa.Q
