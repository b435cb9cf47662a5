import Derived.Test.YtmdnbjhboppkdaaDoorBFnMajorities9
namespace Go.Proofs.YtmdnbjhboppkdaaDoor.Q
open Go.RowKit Go.Proofs.YtmdnbjhboppkdaaDoorW.PrintWords Go.Proofs.YtmdnbjhboppkdaaDoorW.PrintLast Go.Proofs.YtmdnbjhboppkdaaDoorW.PrintMore
attribute [local go_sem] max2_int min2_int max_two min_two max_three min_three max_four min_four neB_f
set_option linter.unusedVariables false
set_option maxHeartbeats 8000000
set_option maxRecDepth 100000
set_option linter.unusedSimpArgs false
def spec_weVoters.l0 : Nat → List (List Int) → List (List Int) → Int → Int → Option (Bool)
 | 0, _, _, _, _ => none
 | k + 1, x0, x5, x6, x7 => if x7 < x6 then (if 0 ≤ x7 then (if x7 < (x5.length : Int) then ((spec_weLevels.f k (rd_L2 x5 x7)).bind fun t421 => (if t421 = true then (if 0 < (x0.length : Int) then (if ((rd_L2 x5 x7).length : Int) = ((rd_L2 x0 0).length : Int) then (spec_weVoters.l0 k x0 x5 x6 (wrap64 (x7 + 1))) else (some false)) else (none)) else (some false))) else (none)) else (none)) else ((spec_l1In.f (x0.length : Int) 1 15).bind fun t423 => (some t423))
def spec_weVoters.f (k : Nat) (l0 : List (List Int)) : Option (Bool) := spec_weVoters.l0 k l0 l0 (l0.length : Int) 0
theorem spec_weVoters.mono_l : ∀ k, (∀ y0 y1 y2 y3, LeO (spec_weVoters.l0 k y0 y1 y2 y3) (spec_weVoters.l0 (k + 1) y0 y1 y2 y3))
 | 0 => fun _ _ _ _ r h => by simp [spec_weVoters.l0] at h
 | k + 1 => by
  have ih0 := spec_weVoters.mono_l k
  ·intro y0 y1 y2 y3
   unfold spec_weVoters.l0
   repeat' (with_reducible first|apply ih0|apply spec_weLevels.mono|apply LeO.refl|apply LeO.none|apply LeO.ite|apply LeO.bind|intro)
theorem spec_weVoters.mono : ∀ a0 k, LeO (spec_weVoters.f k a0) (spec_weVoters.f (k + 1) a0) := by
 intro a0 k
 have ih0 := spec_weVoters.mono_l k
 unfold spec_weVoters.f
 repeat' (with_reducible first|apply ih0|apply spec_weLevels.mono|apply LeO.refl|apply LeO.none|apply LeO.ite|apply LeO.bind|intro)
theorem spec_weVoters.calls (k : Nat) (A0 : Option Addr) (c0 : Nat) (l0 : List (List Int)) (r : Bool) (w : World) (hr0 : Kd.C (Kd.slice 3 (Kd.int .i64)) w A0 l0.length l0) (hc0 : l0.length ≤ c0) (h : spec_weVoters.f k l0 = some r) :
  Calls Tryd.prog 23 #[.slice A0 l0.length c0] w fun e w' => e = .returned (.bool r) ∧ Drawn0 w w' := by
 have HR0 := mkA hr0
 have HC0 := mkA hc0
 clear hr0 hc0
 have H := h
 clear h
 unfold spec_weVoters.f at H
 have H' := mkA H
 clear H
 go_enter Tryd.func23, Tryd.ntmps23
 go_wp2
 go_loopg [7] k (fun kq v7 w' => ∃ (x7_1 : Int), v7 = .int .i64 x7_1 ∧ Fc (spec_weVoters.l0 kq l0 l0 (l0.length : Int) x7_1 = some r) ∧ Fc (kq ≤ k) ∧ Drawn0 w w')
 case atStart => exact ⟨(0), eqS, H', ⟨Nat.le_refl _⟩, by repeat (first | exact Drawn0.refl _ | apply Drawn0.step)⟩
 case round =>
  clear H'
  obtain ⟨x7_1, rfl, HA, HK1, ⟨m1, rfl⟩⟩ := hrel
  cases gk with
  | zero => exact absurd HA.out (by simp [spec_weVoters.l0])
  | succ k1 =>
   have H := HA.out
   clear HA
   simp only [spec_weVoters.l0] at H
   rcases iteE H with ⟨c2b0, H⟩ | ⟨c2b0, H⟩
   ·obtain ⟨c3b0, H⟩ := itND H
    obtain ⟨c4b0, H⟩ := itND H
    obtain ⟨t421, A5, H⟩ := obE H
    by_cases c6 : t421 = true
    ·subst c6
     replace H := ifT H
     obtain ⟨c7, H⟩ := itNP H
     have c7b0 := decide_eq_true c7
     have c7b1 : decide (0 < l0.length) = true := decide_eq_true (by omega)
     clear c7
     rcases iteP H with ⟨c8, H⟩ | ⟨c8, H⟩
     ·have c8b0 := beq_iff_eq.mpr c8
      have c8b1 := bne_eq_false_iff_eq.mpr c8
      have c8b2 : ((rd_L2 l0 x7_1).length == (rd_L2 l0 0).length) = true := by first | simpa using c8 | (simp at c8 ⊢; omega)
      clear c8
      have H' := mkA H
      clear H
      have p420 : 0 ≤ (x7_1 : Int) := ofd
      have q420 : x7_1 < (l0.length : Int) := ofd
      obtain ⟨ad420, A420_0, c420_0, e420, hx420_0, hl420_0, hi420_0⟩ := at_L2 HR0.out x7_1 p420 q420
      cases e420
      have HR420_0 := mkA hi420_0
      have HC420_0 := mkA hl420_0
      clear hi420_0 hl420_0
      replace p420 := eq_true p420
      replace q420 := eq_true q420
      go_wp2_with (first | ((with_reducible refine gate_callee (f := 44) rfl ?_); refine goesQ (some 12) Tryd.func44 #[.slice A420_0 (rd_L2 l0 x7_1).length c420_0] ?_; (with_reducible refine (spec_weLevels.calls k1 _ _ (rd_L2 l0 x7_1) true _ ?s1 ?s2 A5.out).mono ?_); (case s1 => repeat (first | exact HR420_0.out | (with_reducible refine Kd.C_alloc ?_ _) | (with_reducible refine Kd.C_drewN ?_ _) | (with_reducible refine Kd.C_drew ?_))); (case s2 => exact HC420_0.out); rintro e w' ⟨rfl, ⟨nd, rfl⟩⟩; refine ⟨_, rfl, ?_⟩; have p422 : 0 ≤ (0 : Int) := (by omega); have q422 : 0 < (l0.length : Int) := ofd; obtain ⟨ad422, A422_0, c422_0, e422, hx422_0, hl422_0, hi422_0⟩ := at_L2 HR0.out 0 p422 q422; obtain rfl : ad420 = ad422 := (by injection e422); have qi422 : (0 < l0.length) = True := eq_true (by omega); (try rw [show ((0 : Int)).toNat = 0 from rfl] at hx422_0); (try rw [Addr.add_zero'] at hx422_0); have HR422_0 := mkA hi422_0; have HC422_0 := mkA hl422_0; clear hi422_0 hl422_0; replace p422 := eq_true p422; replace q422 := eq_true q422))
      go_roundg k1
      case measure => have := HK1.out; omega
      case rel => exact ⟨(wrap64 (x7_1 + 1)), eqS, H', ⟨by have := HK1.out; omega⟩, by repeat (first | exact Drawn0.refl _ | apply Drawn0.step)⟩
     ·have c8b0 := beq_eq_false_iff_ne.mpr c8
      have c8b1 := bne_iff_ne.mpr c8
      have c8b2 : ((rd_L2 l0 x7_1).length == (rd_L2 l0 0).length) = false := by first | simpa using c8 | (simp at c8 ⊢; omega)
      obtain rfl := Option.some.inj H
      have p420 : 0 ≤ (x7_1 : Int) := ofd
      have q420 : x7_1 < (l0.length : Int) := ofd
      obtain ⟨ad420, A420_0, c420_0, e420, hx420_0, hl420_0, hi420_0⟩ := at_L2 HR0.out x7_1 p420 q420
      cases e420
      have HR420_0 := mkA hi420_0
      have HC420_0 := mkA hl420_0
      clear hi420_0 hl420_0
      replace p420 := eq_true p420
      replace q420 := eq_true q420
      go_wp2_with (first | ((with_reducible refine gate_callee (f := 44) rfl ?_); refine goesQ (some 12) Tryd.func44 #[.slice A420_0 (rd_L2 l0 x7_1).length c420_0] ?_; (with_reducible refine (spec_weLevels.calls k1 _ _ (rd_L2 l0 x7_1) true _ ?s1 ?s2 A5.out).mono ?_); (case s1 => repeat (first | exact HR420_0.out | (with_reducible refine Kd.C_alloc ?_ _) | (with_reducible refine Kd.C_drewN ?_ _) | (with_reducible refine Kd.C_drew ?_))); (case s2 => exact HC420_0.out); rintro e w' ⟨rfl, ⟨nd, rfl⟩⟩; refine ⟨_, rfl, ?_⟩; have p422 : 0 ≤ (0 : Int) := (by omega); have q422 : 0 < (l0.length : Int) := ofd; obtain ⟨ad422, A422_0, c422_0, e422, hx422_0, hl422_0, hi422_0⟩ := at_L2 HR0.out 0 p422 q422; obtain rfl : ad420 = ad422 := (by injection e422); have qi422 : (0 < l0.length) = True := eq_true (by omega); (try rw [show ((0 : Int)).toNat = 0 from rfl] at hx422_0); (try rw [Addr.add_zero'] at hx422_0); have HR422_0 := mkA hi422_0; have HC422_0 := mkA hl422_0; clear hi422_0 hl422_0; replace p422 := eq_true p422; replace q422 := eq_true q422))
      go_ret
      exact ⟨eqS, drE⟩
    ·replace c6 := Bool.eq_false_iff.mpr c6
     subst c6
     replace H := ifF H
     obtain rfl := Option.some.inj H
     have p420 : 0 ≤ (x7_1 : Int) := ofd
     have q420 : x7_1 < (l0.length : Int) := ofd
     obtain ⟨ad420, A420_0, c420_0, e420, hx420_0, hl420_0, hi420_0⟩ := at_L2 HR0.out x7_1 p420 q420
     cases e420
     have HR420_0 := mkA hi420_0
     have HC420_0 := mkA hl420_0
     clear hi420_0 hl420_0
     replace p420 := eq_true p420
     replace q420 := eq_true q420
     go_wp2_with (first | ((with_reducible refine gate_callee (f := 44) rfl ?_); refine goesQ (some 12) Tryd.func44 #[.slice A420_0 (rd_L2 l0 x7_1).length c420_0] ?_; (with_reducible refine (spec_weLevels.calls k1 _ _ (rd_L2 l0 x7_1) false _ ?s1 ?s2 A5.out).mono ?_); (case s1 => repeat (first | exact HR420_0.out | (with_reducible refine Kd.C_alloc ?_ _) | (with_reducible refine Kd.C_drewN ?_ _) | (with_reducible refine Kd.C_drew ?_))); (case s2 => exact HC420_0.out); rintro e w' ⟨rfl, ⟨nd, rfl⟩⟩; refine ⟨_, rfl, ?_⟩))
     go_ret
     exact ⟨eqS, drE⟩
   ·obtain ⟨t423, A9, H⟩ := obE H
    obtain rfl := Option.some.inj H
    go_wp2_with (first | ((with_reducible refine gate_callee (f := 45) rfl ?_); refine goesQ (some 26) Tryd.func45 #[.int .i64 (l0.length : Int), .int .i64 1, .int .i64 15] ?_; (with_reducible refine (spec_l1In.calls (l0.length : Int) 1 15 t423 _ A9.out).mono ?_); rintro e w' ⟨rfl, ⟨nd, rfl⟩⟩; refine ⟨_, rfl, ?_⟩))
    go_ret
    exact ⟨eqS, drE⟩
def spec_l1Sign.f (a0 : Int) : Option (Int) := if a0 > 0 then (some 1) else (if a0 < 0 then (some (-1)) else (some 0))
theorem spec_l1Sign.calls (a0 : Int) (r : Int) (w : World) (h : spec_l1Sign.f a0 = some r) :
  Calls Tryd.prog 24 #[.int .i64 a0] w fun e w' => e = .returned (.int .i64 r) ∧ Drawn0 w w' := by
 have H := h
 clear h
 unfold spec_l1Sign.f at H
 rcases iteP H with ⟨c2, H⟩ | ⟨c2, H⟩
 ·have c2b0 := decide_eq_true c2
  clear c2
  obtain rfl := Option.some.inj H
  go_enter Tryd.func24, Tryd.ntmps24
  go_wp2
  go_ret
  exact ⟨eqS, drE⟩
 ·have c2b0 := decide_eq_false c2
  clear c2
  rcases iteE H with ⟨c3b0, H⟩ | ⟨c3b0, H⟩
  ·obtain rfl := Option.some.inj H
   go_enter Tryd.func24, Tryd.ntmps24
   go_wp2
   go_ret
   exact ⟨eqS, drE⟩
  ·obtain rfl := Option.some.inj H
   go_enter Tryd.func24, Tryd.ntmps24
   go_wp2
   go_ret
   exact ⟨eqS, drE⟩
end Go.Proofs.YtmdnbjhboppkdaaDoor.Q
