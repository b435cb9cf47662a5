import Derived.Test.YtcalgdljcphjaaaDoorBFnStairs5
import Derived.Test.YtcalgdljcphjaaaDoorBFnStairs15
import Derived.Test.YtcalgdljcphjaaaDoorBFnStairs16
namespace Go.Proofs.YtcalgdljcphjaaaDoor.Q
open Go.RowKit Go.Proofs.YtcalgdljcphjaaaDoorW.PrintWords Go.Proofs.YtcalgdljcphjaaaDoorW.PrintLast Go.Proofs.YtcalgdljcphjaaaDoorW.PrintMore
attribute [local go_sem] max2_int min2_int max_two min_two max_three min_three max_four min_four neB_f
set_option linter.unusedVariables false
set_option maxHeartbeats 8000000
set_option maxRecDepth 100000
set_option linter.unusedSimpArgs false
def spec_StairsOf.f (k : Nat) (a0 : Int) : Option ((List (List Int)) × Bool) := (spec_l1In.f a0 0 6).bind fun t503 => (if t503 = true then ((spec_seStairs.f k ([] : List Int) a0).bind fun t504 => (some (t504, true))) else (some (([] : List (List Int)), false)))
theorem spec_StairsOf.mono : ∀ a0 k, LeO (spec_StairsOf.f k a0) (spec_StairsOf.f (k + 1) a0) := by
 intro a0 k
 unfold spec_StairsOf.f
 repeat' (with_reducible first|apply spec_seStairs.mono|apply LeO.refl|apply LeO.none|apply LeO.ite|apply LeO.bind|intro)
theorem spec_StairsOf.calls (k : Nat) (a0 : Int) (r1 : List (List Int)) (r2 : Bool) (w : World) (h : spec_StairsOf.f k a0 = some (r1, r2)) :
  Calls Tryd.prog 18 #[.int .i64 a0] w fun e w' => ∃ v0_ : Value, e = .returned (.tuple #[v0_, .bool r2]) ∧ Kd.N (Kd.slice 3 (Kd.int .i64)) 24 w' w.heap.size (fun k_ => (w.heap.size ≤ k_)) v0_ r1 ∧ Below w.heap.size w w' := by
 have HB := mkA (Below.refl w.heap.size w)
 have H := h
 clear h
 unfold spec_StairsOf.f at H
 obtain ⟨t503, A2, H⟩ := obE H
 by_cases c3 : t503 = true
 ·subst c3
  replace H := ifT H
  obtain ⟨t504, A4, H⟩ := obE H
  simp only [Option.some.injEq, Prod.mk.injEq] at H
  obtain ⟨rfl, rfl⟩ := H
  go_enter Tryd.func18, Tryd.ntmps18
  go_wp2_with (first | ((with_reducible refine gate_callee (f := 37) rfl ?_); refine goesQ (some 5) Tryd.func37 #[.int .i64 a0, .int .i64 0, .int .i64 6] ?_; (with_reducible refine (spec_l1In.calls a0 0 6 true _ A2.out).mono ?_); rintro e w' ⟨rfl, ⟨nd, rfl⟩⟩; refine ⟨_, rfl, ?_⟩) | ((with_reducible refine gate_callee (f := 38) rfl ?_); refine goesQ (some 8) Tryd.func38 #[.slice none 0 0, .int .i64 a0] ?_; (refine (spec_seStairs.calls k _ _ ([] : List Int) a0 t504 _ ?_ ?_ A4.out).mono ?_); exact Kd.C_nil _ _; exact Nat.le_refl _; rintro e w5 ⟨v505, rfl, ho0, hb⟩; refine ⟨_, rfl, ?_⟩; have HO506 := mkA (Kd.N_lower (Kd.N_mono (ok' := fun k_ => (w.heap.size ≤ k_)) ho0 (fun k_ hk_ => (Nat.le_trans (below_size (bel_g HB.out)) hk_))) (below_size (bel_g HB.out))); replace HB := bst HB hb; clear hb ho0))
  go_ret2
  exact ⟨_, eqE, by (with_reducible repeat (first | apply Kd.N_alloc | apply Kd.N_drewN | apply Kd.N_drew)); exact HO506.out, bel_g HB.out⟩
 ·replace c3 := Bool.eq_false_iff.mpr c3
  subst c3
  replace H := ifF H
  simp only [Option.some.injEq, Prod.mk.injEq] at H
  obtain ⟨rfl, rfl⟩ := H
  go_enter Tryd.func18, Tryd.ntmps18
  go_wp2_with (first | ((with_reducible refine gate_callee (f := 37) rfl ?_); refine goesQ (some 5) Tryd.func37 #[.int .i64 a0, .int .i64 0, .int .i64 6] ?_; (with_reducible refine (spec_l1In.calls a0 0 6 false _ A2.out).mono ?_); rintro e w' ⟨rfl, ⟨nd, rfl⟩⟩; refine ⟨_, rfl, ?_⟩))
  go_ret2
  exact ⟨_, eqE, by first | exact Kd.S_nil _ _ _ _ _ | exact Kd.N_nil _ _ _ _ _ | exact Kd.V_nil _ _ _ _ _ | exact Kd.Q_nil _ _ _ _ _ | exact Kd.R_nil _ _ _ _ _, bel_g HB.out⟩
def laws_vLists.l0 : Nat → List (List Int) → List (List Int) → Int → Int → Option (Bool)
 | 0, _, _, _, _ => none
 | k + 1, x0, x1, x12, x13 => if x13 < x12 then (if 0 ≤ x13 then (if x13 < (x0.length : Int) then (if x13 < (x1.length : Int) then ((laws_vSame.f k (rd_L2 x0 x13) (rd_L2 x1 x13)).bind fun t509 => (if t509 = true then (laws_vLists.l0 k x0 x1 x12 (wrap64 (x13 + 1))) else (some false))) else (none)) else (none)) else (none)) else (some true)
def laws_vLists.f (k : Nat) (l0 : List (List Int)) (l1 : List (List Int)) : Option (Bool) := if (l0.length : Int) = (l1.length : Int) then (laws_vLists.l0 k l0 l1 (l0.length : Int) 0) else (some false)
theorem laws_vLists.mono_l : ∀ k, (∀ y0 y1 y2 y3, LeO (laws_vLists.l0 k y0 y1 y2 y3) (laws_vLists.l0 (k + 1) y0 y1 y2 y3))
 | 0 => fun _ _ _ _ r h => by simp [laws_vLists.l0] at h
 | k + 1 => by
  have ih0 := laws_vLists.mono_l k
  ·intro y0 y1 y2 y3
   unfold laws_vLists.l0
   repeat' (with_reducible first|apply ih0|apply laws_vSame.mono|apply LeO.refl|apply LeO.none|apply LeO.ite|apply LeO.bind|intro)
theorem laws_vLists.mono : ∀ a0 a1 k, LeO (laws_vLists.f k a0 a1) (laws_vLists.f (k + 1) a0 a1) := by
 intro a0 a1 k
 have ih0 := laws_vLists.mono_l k
 unfold laws_vLists.f
 repeat' (with_reducible first|apply ih0|apply laws_vSame.mono|apply LeO.refl|apply LeO.none|apply LeO.ite|apply LeO.bind|intro)
theorem laws_vLists.calls (k : Nat) (A0 : Option Addr) (c0 : Nat) (l0 : List (List Int)) (A1 : Option Addr) (c1 : Nat) (l1 : List (List Int)) (r : Bool) (w : World) (hr0 : Kd.C (Kd.slice 3 (Kd.int .i64)) w A0 l0.length l0) (hc0 : l0.length ≤ c0) (hr1 : Kd.C (Kd.slice 3 (Kd.int .i64)) w A1 l1.length l1) (hc1 : l1.length ≤ c1) (h : laws_vLists.f k l0 l1 = some r) :
  Calls Tryd.prog 19 #[.slice A0 l0.length c0, .slice A1 l1.length c1] w fun e w' => e = .returned (.bool r) ∧ Drawn0 w w' := by
 have HR0 := mkA hr0
 have HC0 := mkA hc0
 clear hr0 hc0
 have HR1 := mkA hr1
 have HC1 := mkA hc1
 clear hr1 hc1
 have H := h
 clear h
 unfold laws_vLists.f at H
 rcases iteP H with ⟨c3, H⟩ | ⟨c3, H⟩
 ·have c3b0 := beq_iff_eq.mpr c3
  have c3b1 := bne_eq_false_iff_eq.mpr c3
  have c3b2 : (l0.length == l1.length) = true := by first | simpa using c3 | (simp at c3 ⊢; omega)
  clear c3
  have H' := mkA H
  clear H
  go_enter Tryd.func19, Tryd.ntmps19
  go_wp2
  repeat (go_quiet (fail); try go_wp2)
  go_loopg [13] k (fun kq v13 w' => ∃ (x13_1 : Int), v13 = .int .i64 x13_1 ∧ Fc (laws_vLists.l0 kq l0 l1 (l0.length : Int) x13_1 = some r) ∧ Fc (kq ≤ k) ∧ Drawn0 w w')
  case atStart => exact ⟨(0), eqS, H', ⟨Nat.le_refl _⟩, by repeat (first | exact Drawn0.refl _ | apply Drawn0.step)⟩
  case round =>
   clear H'
   try clear c1
   try clear c3
   try clear c3b0
   try clear c3b1
   try clear c3b2
   obtain ⟨x13_1, rfl, HA, HK1, ⟨m1, rfl⟩⟩ := hrel
   cases gk with
   | zero => exact absurd HA.out (by simp [laws_vLists.l0])
   | succ k1 =>
    have H := HA.out
    clear HA
    simp only [laws_vLists.l0] at H
    rcases iteE H with ⟨c4b0, H⟩ | ⟨c4b0, H⟩
    ·obtain ⟨c5b0, H⟩ := itND H
     obtain ⟨c6b0, H⟩ := itND H
     obtain ⟨c7b0, H⟩ := itND H
     obtain ⟨t509, A8, H⟩ := obE H
     by_cases c9 : t509 = true
     ·subst c9
      replace H := ifT H
      have H' := mkA H
      clear H
      have p507 : 0 ≤ (x13_1 : Int) := ofd
      have q507 : x13_1 < (l0.length : Int) := ofd
      obtain ⟨ad507, A507_0, c507_0, e507, hx507_0, hl507_0, hi507_0⟩ := at_L2 HR0.out x13_1 p507 q507
      cases e507
      have HR507_0 := mkA hi507_0
      have HC507_0 := mkA hl507_0
      clear hi507_0 hl507_0
      replace p507 := eq_true p507
      replace q507 := eq_true q507
      have p508 : 0 ≤ (x13_1 : Int) := ofd
      have q508 : x13_1 < (l1.length : Int) := ofd
      obtain ⟨ad508, A508_0, c508_0, e508, hx508_0, hl508_0, hi508_0⟩ := at_L2 HR1.out x13_1 p508 q508
      cases e508
      have HR508_0 := mkA hi508_0
      have HC508_0 := mkA hl508_0
      clear hi508_0 hl508_0
      replace p508 := eq_true p508
      replace q508 := eq_true q508
      go_wp2_with (first | (go_at_call 13; (with_reducible refine (laws_vSame.calls k1 _ _ (rd_L2 l0 x13_1) _ _ (rd_L2 l1 x13_1) true _ ?s1 ?s2 ?s3 ?s4 A8.out).mono ?_); (case s1 => repeat (first | exact HR507_0.out | (with_reducible refine Kd.C_alloc ?_ _) | (with_reducible refine Kd.C_drewN ?_ _) | (with_reducible refine Kd.C_drew ?_))); (case s2 => exact HC507_0.out); (case s3 => repeat (first | exact HR508_0.out | (with_reducible refine Kd.C_alloc ?_ _) | (with_reducible refine Kd.C_drewN ?_ _) | (with_reducible refine Kd.C_drew ?_))); (case s4 => exact HC508_0.out); rintro e w' ⟨rfl, ⟨nd, rfl⟩⟩; (try first | exact ⟨rfl, _, World.drewN_drewN _ _ _⟩ | exact ⟨rfl, _, Eq.trans (World.drewN_drewN _ _ _) (congrArg (World.drewN _) (Nat.add_assoc _ _ _))⟩)))
      repeat (go_quiet (first | (go_at_call 13; (with_reducible refine (laws_vSame.calls k1 _ _ (rd_L2 l0 x13_1) _ _ (rd_L2 l1 x13_1) true _ ?s1 ?s2 ?s3 ?s4 A8.out).mono ?_); (case s1 => repeat (first | exact HR507_0.out | (with_reducible refine Kd.C_alloc ?_ _) | (with_reducible refine Kd.C_drewN ?_ _) | (with_reducible refine Kd.C_drew ?_))); (case s2 => exact HC507_0.out); (case s3 => repeat (first | exact HR508_0.out | (with_reducible refine Kd.C_alloc ?_ _) | (with_reducible refine Kd.C_drewN ?_ _) | (with_reducible refine Kd.C_drew ?_))); (case s4 => exact HC508_0.out); rintro e w' ⟨rfl, ⟨nd, rfl⟩⟩; (try first | exact ⟨rfl, _, World.drewN_drewN _ _ _⟩ | exact ⟨rfl, _, Eq.trans (World.drewN_drewN _ _ _) (congrArg (World.drewN _) (Nat.add_assoc _ _ _))⟩))); try go_wp2_with (first | (go_at_call 13; (with_reducible refine (laws_vSame.calls k1 _ _ (rd_L2 l0 x13_1) _ _ (rd_L2 l1 x13_1) true _ ?s1 ?s2 ?s3 ?s4 A8.out).mono ?_); (case s1 => repeat (first | exact HR507_0.out | (with_reducible refine Kd.C_alloc ?_ _) | (with_reducible refine Kd.C_drewN ?_ _) | (with_reducible refine Kd.C_drew ?_))); (case s2 => exact HC507_0.out); (case s3 => repeat (first | exact HR508_0.out | (with_reducible refine Kd.C_alloc ?_ _) | (with_reducible refine Kd.C_drewN ?_ _) | (with_reducible refine Kd.C_drew ?_))); (case s4 => exact HC508_0.out); rintro e w' ⟨rfl, ⟨nd, rfl⟩⟩; (try first | exact ⟨rfl, _, World.drewN_drewN _ _ _⟩ | exact ⟨rfl, _, Eq.trans (World.drewN_drewN _ _ _) (congrArg (World.drewN _) (Nat.add_assoc _ _ _))⟩))))
      go_roundg k1
      case measure => have := HK1.out; omega
      case rel => exact ⟨(wrap64 (x13_1 + 1)), eqS, H', ⟨by have := HK1.out; omega⟩, by repeat (first | exact Drawn0.refl _ | apply Drawn0.step)⟩
     ·replace c9 := Bool.eq_false_iff.mpr c9
      subst c9
      replace H := ifF H
      obtain rfl := Option.some.inj H
      have p507 : 0 ≤ (x13_1 : Int) := ofd
      have q507 : x13_1 < (l0.length : Int) := ofd
      obtain ⟨ad507, A507_0, c507_0, e507, hx507_0, hl507_0, hi507_0⟩ := at_L2 HR0.out x13_1 p507 q507
      cases e507
      have HR507_0 := mkA hi507_0
      have HC507_0 := mkA hl507_0
      clear hi507_0 hl507_0
      replace p507 := eq_true p507
      replace q507 := eq_true q507
      have p508 : 0 ≤ (x13_1 : Int) := ofd
      have q508 : x13_1 < (l1.length : Int) := ofd
      obtain ⟨ad508, A508_0, c508_0, e508, hx508_0, hl508_0, hi508_0⟩ := at_L2 HR1.out x13_1 p508 q508
      cases e508
      have HR508_0 := mkA hi508_0
      have HC508_0 := mkA hl508_0
      clear hi508_0 hl508_0
      replace p508 := eq_true p508
      replace q508 := eq_true q508
      go_wp2_with (first | (go_at_call 13; (with_reducible refine (laws_vSame.calls k1 _ _ (rd_L2 l0 x13_1) _ _ (rd_L2 l1 x13_1) false _ ?s1 ?s2 ?s3 ?s4 A8.out).mono ?_); (case s1 => repeat (first | exact HR507_0.out | (with_reducible refine Kd.C_alloc ?_ _) | (with_reducible refine Kd.C_drewN ?_ _) | (with_reducible refine Kd.C_drew ?_))); (case s2 => exact HC507_0.out); (case s3 => repeat (first | exact HR508_0.out | (with_reducible refine Kd.C_alloc ?_ _) | (with_reducible refine Kd.C_drewN ?_ _) | (with_reducible refine Kd.C_drew ?_))); (case s4 => exact HC508_0.out); rintro e w' ⟨rfl, ⟨nd, rfl⟩⟩; (try first | exact ⟨rfl, _, World.drewN_drewN _ _ _⟩ | exact ⟨rfl, _, Eq.trans (World.drewN_drewN _ _ _) (congrArg (World.drewN _) (Nat.add_assoc _ _ _))⟩)))
      repeat (go_quiet (first | (go_at_call 13; (with_reducible refine (laws_vSame.calls k1 _ _ (rd_L2 l0 x13_1) _ _ (rd_L2 l1 x13_1) false _ ?s1 ?s2 ?s3 ?s4 A8.out).mono ?_); (case s1 => repeat (first | exact HR507_0.out | (with_reducible refine Kd.C_alloc ?_ _) | (with_reducible refine Kd.C_drewN ?_ _) | (with_reducible refine Kd.C_drew ?_))); (case s2 => exact HC507_0.out); (case s3 => repeat (first | exact HR508_0.out | (with_reducible refine Kd.C_alloc ?_ _) | (with_reducible refine Kd.C_drewN ?_ _) | (with_reducible refine Kd.C_drew ?_))); (case s4 => exact HC508_0.out); rintro e w' ⟨rfl, ⟨nd, rfl⟩⟩; (try first | exact ⟨rfl, _, World.drewN_drewN _ _ _⟩ | exact ⟨rfl, _, Eq.trans (World.drewN_drewN _ _ _) (congrArg (World.drewN _) (Nat.add_assoc _ _ _))⟩))); try go_wp2_with (first | (go_at_call 13; (with_reducible refine (laws_vSame.calls k1 _ _ (rd_L2 l0 x13_1) _ _ (rd_L2 l1 x13_1) false _ ?s1 ?s2 ?s3 ?s4 A8.out).mono ?_); (case s1 => repeat (first | exact HR507_0.out | (with_reducible refine Kd.C_alloc ?_ _) | (with_reducible refine Kd.C_drewN ?_ _) | (with_reducible refine Kd.C_drew ?_))); (case s2 => exact HC507_0.out); (case s3 => repeat (first | exact HR508_0.out | (with_reducible refine Kd.C_alloc ?_ _) | (with_reducible refine Kd.C_drewN ?_ _) | (with_reducible refine Kd.C_drew ?_))); (case s4 => exact HC508_0.out); rintro e w' ⟨rfl, ⟨nd, rfl⟩⟩; (try first | exact ⟨rfl, _, World.drewN_drewN _ _ _⟩ | exact ⟨rfl, _, Eq.trans (World.drewN_drewN _ _ _) (congrArg (World.drewN _) (Nat.add_assoc _ _ _))⟩))))
      go_ret
      exact ⟨eqS, drE⟩
    ·obtain rfl := Option.some.inj H
     go_wp2
     repeat (go_quiet (fail); try go_wp2)
     go_ret
     exact ⟨eqS, drE⟩
 ·have c3b0 := beq_eq_false_iff_ne.mpr c3
  have c3b1 := bne_iff_ne.mpr c3
  have c3b2 : (l0.length == l1.length) = false := by first | simpa using c3 | (simp at c3 ⊢; omega)
  obtain rfl := Option.some.inj H
  go_enter Tryd.func19, Tryd.ntmps19
  go_wp2
  repeat (go_quiet (fail); try go_wp2)
  go_ret
  exact ⟨eqS, drE⟩
def impl_CountStairs.f (a0 : Int) : Option (Int × Bool) := (impl_within.f a0 0 10).bind fun t510 => (if t510 = true then ((impl_stairs.f a0).bind fun t511 => (some ((t511.length : Int), true))) else (some (0, false)))
theorem impl_CountStairs.calls (a0 : Int) (r1 : Int) (r2 : Bool) (w : World) (h : impl_CountStairs.f a0 = some (r1, r2)) :
  Calls Tryd.prog 20 #[.int .i64 a0] w fun e w' => e = .returned (.tuple #[.int .i64 r1, .bool r2]) ∧ Below w.heap.size w w' := by
 have HB := mkA (Below.refl w.heap.size w)
 have H := h
 clear h
 unfold impl_CountStairs.f at H
 obtain ⟨t510, A2, H⟩ := obE H
 by_cases c3 : t510 = true
 ·subst c3
  replace H := ifT H
  obtain ⟨t511, A4, H⟩ := obE H
  simp only [Option.some.injEq, Prod.mk.injEq] at H
  obtain ⟨rfl, rfl⟩ := H
  go_enter Tryd.func20, Tryd.ntmps20
  go_wp2_with (first | ((with_reducible refine gate_callee (f := 27) rfl ?_); refine goesQ (some 5) Tryd.func27 #[.int .i64 a0, .int .i64 0, .int .i64 10] ?_; (with_reducible refine (impl_within.calls a0 0 10 true _ A2.out).mono ?_); rintro e w' ⟨rfl, ⟨nd, rfl⟩⟩; refine ⟨_, rfl, ?_⟩) | ((with_reducible refine gate_callee (f := 36) rfl ?_); refine goesQ (some 8) Tryd.func36 #[.int .i64 a0] ?_; (with_reducible refine (impl_stairs.calls a0 t511 _ A4.out).mono ?_); rintro e w5 ⟨v512, rfl, ho0, hb⟩; refine ⟨_, rfl, ?_⟩; have HO513 := mkA (Kd.S_lower ho0 (below_size (bel_g HB.out))); replace HB := bst HB hb; clear hb ho0; obtain ⟨Ao6, co6, rfl⟩ := Kd.S_slice HO513.out))
  go_ret2
  exact ⟨eqE, bel_g HB.out⟩
 ·replace c3 := Bool.eq_false_iff.mpr c3
  subst c3
  replace H := ifF H
  simp only [Option.some.injEq, Prod.mk.injEq] at H
  obtain ⟨rfl, rfl⟩ := H
  go_enter Tryd.func20, Tryd.ntmps20
  go_wp2_with (first | ((with_reducible refine gate_callee (f := 27) rfl ?_); refine goesQ (some 5) Tryd.func27 #[.int .i64 a0, .int .i64 0, .int .i64 10] ?_; (with_reducible refine (impl_within.calls a0 0 10 false _ A2.out).mono ?_); rintro e w' ⟨rfl, ⟨nd, rfl⟩⟩; refine ⟨_, rfl, ?_⟩))
  go_ret2
  exact ⟨eqE, bel_g HB.out⟩
def spec_DrawCountStairs.f (l0 : List Int) : Option (Int) := (spec_l1Cur_among.f l0 0 0 (([0, 1, 2, 3, 5, 10, 11, (-1)] : List Int))).bind fun bt518 => (some bt518.1)
theorem spec_DrawCountStairs.calls (A0 : Option Addr) (c0 : Nat) (l0 : List Int) (r : Int) (w : World) (hr0 : Kd.C (Kd.int .u8) w A0 l0.length l0) (hc0 : l0.length ≤ c0) (h : spec_DrawCountStairs.f l0 = some r) :
  Calls Tryd.prog 21 #[.slice A0 l0.length c0] w fun e w' => e = .returned (.int .i64 r) ∧ Below w.heap.size w w' := by
 have hu56 := Tryd.underlying56
 have HR0 := mkA hr0
 have HC0 := mkA hc0
 clear hr0 hc0
 have HB := mkA (Below.refl w.heap.size w)
 have H := h
 clear h
 unfold spec_DrawCountStairs.f at H
 obtain ⟨y515, hy515⟩ : ∃ y_ : List Int, y_ = (([0, 1, 2, 3, 5, 10, 11, (-1)] : List Int)) := ⟨_, rfl⟩
 rw [← hy515] at H
 have Ny515 := mkA hy515
 clear hy515
 obtain ⟨⟨t518, t519, t520⟩, A2, H⟩ := obE H
 dsimp only at H
 obtain rfl := Option.some.inj H
 go_enter Tryd.func21, Tryd.ntmps21
 go_wp2_with (first | ((with_reducible refine gate_dst (N := 6) rfl ?_); refine boxE (N := 6) (cs := #[.slice A0 l0.length c0, .int .i64 0, .int .u64 0]) (t := 56) ?_; intro gb514 hg w3 hbox hb; have HI514 := mkA ((⟨_, _, hbox, (by rw [hg]; exact (below_size (bel_g HB.out))), HR0.out⟩ : IsS56 w w3 gb514 l0 0 0)); have GE514 := geB HB hg; replace HB := bst HB hb; clear hb hbox hg) | ((with_reducible refine gate_dst (N := 8) rfl ?_); refine litE (Kd.int .i64) 3 ([0, 1, 2, 3, 5, 10, 11, (-1)] : List Int) [.int .i64 0, .int .i64 1, .int .i64 2, .int .i64 3, .int .i64 5, .int .i64 10, .int .i64 11, .int .i64 (-1)] ?hp ?_; (case hp => exact (Reps.one (show Kd.M (Kd.int .i64) _ _ _ 0 [.int .i64 0] from rfl) (Reps.one (show Kd.M (Kd.int .i64) _ _ _ 1 [.int .i64 1] from rfl) (Reps.one (show Kd.M (Kd.int .i64) _ _ _ 2 [.int .i64 2] from rfl) (Reps.one (show Kd.M (Kd.int .i64) _ _ _ 3 [.int .i64 3] from rfl) (Reps.one (show Kd.M (Kd.int .i64) _ _ _ 5 [.int .i64 5] from rfl) (Reps.one (show Kd.M (Kd.int .i64) _ _ _ 10 [.int .i64 10] from rfl) (Reps.one (show Kd.M (Kd.int .i64) _ _ _ 11 [.int .i64 11] from rfl) (Reps.one (show Kd.M (Kd.int .i64) _ _ _ (-1) [.int .i64 (-1)] from rfl) (Reps.none _ _)))))))))); intro v516 w4 ho5 hb hg_ hnew_; clear hg_ hnew_; (first | rw [← Ny515.out] at ho5 | (simp only [Int.reduceToNat] at ho5; rw [← Ny515.out] at ho5)); have HO517 := mkA (Kd.R_lower ho5 (below_size (by exact bl56_0 HB.out HI514.out))); replace HB := mkA (below_step (by exact bl56_0 HB.out HI514.out) hb); replace HI514 := mkA (IsS56.below (by exact st56_0 HI514.out) hb); clear hb ho5; obtain ⟨Ao6, co6, rfl⟩ := Kd.R_slice HO517.out) | ((with_reducible refine gate_callee (f := 35) rfl ?_); refine goesQ (some 9) Tryd.func35 #[.pointer (some ⟨gb514, 0, none⟩), .slice Ao6 y515.length co6] ?_; (with_reducible refine (spec_l1Cur_among.calls gb514 l0 0 0 _ _ y515 t518 t519 t520 w _ ?_ ?_ ?_ ?_ ?_ A2.out).mono ?_); exact st56_0 HI514.out; exact bl56_0 HB.out HI514.out; exact rC HO517; exact rL HO517; exact far_slice (IsS56.own_ne HI514.out HO517.out (by decide)); rintro e w7 ⟨rfl, hi, hb, hk⟩; refine ⟨_, rfl, ?_⟩; replace HO517 := rK (IsS56.apart (show IsS56 w _ gb514 l0 0 0 from by exact st56_0 HI514.out) (Kd.R_g HO517.out) (by decide)) hk; replace HI514 := mkA (hi); replace HB := mkA (hb); clear hb hk hi))
 go_ret
 exact ⟨eqE, by exact bl56_0 HB.out HI514.out⟩
mutual
def spec_seCatalan.l0 : Nat → Int → Int → Int → Option (Int)
 | 0, _, _, _ => none
 | k + 1, x0, x3, x4 => if x4 < x0 then ((spec_seCatalan.f k x4).bind fun t521 => ((spec_seCatalan.f k (wrap64 ((wrap64 (x0 - 1)) - x4))).bind fun t522 => (spec_seCatalan.l0 k x0 (wrap64 (x3 + (wrap64 (t521 * t522)))) (wrap64 (x4 + 1))))) else (some x3)
def spec_seCatalan.f : Nat → Int → Option (Int)
 | 0, _ => none
 | k + 1, a0 => if a0 = 0 then (some 1) else (spec_seCatalan.l0 k a0 0 0)
end
theorem spec_seCatalan.mono_l : ∀ k, (∀ y0, LeO (spec_seCatalan.f k y0) (spec_seCatalan.f (k + 1) y0)) ∧ (∀ y0 y1 y2, LeO (spec_seCatalan.l0 k y0 y1 y2) (spec_seCatalan.l0 (k + 1) y0 y1 y2))
 | 0 => ⟨fun _ r h => by simp [spec_seCatalan.f] at h, fun _ _ _ r h => by simp [spec_seCatalan.l0] at h⟩
 | k + 1 => by
  obtain ⟨ih0, ih1⟩ := spec_seCatalan.mono_l k
  refine ⟨?_, ?_⟩ <;> intros
  unfold spec_seCatalan.f
  rotate_left
  unfold spec_seCatalan.l0
  rotate_left
  all_goals repeat' (with_reducible first|apply ih0|apply ih1|apply LeO.refl|apply LeO.none|apply LeO.ite|apply LeO.bind|intro)
theorem spec_seCatalan.mono : ∀ a0 k, LeO (spec_seCatalan.f k a0) (spec_seCatalan.f (k + 1) a0) := by
 intro a0 k
 obtain ⟨ih0, ih1⟩ := spec_seCatalan.mono_l k
 exact ih0 a0
theorem spec_seCatalan.calls (k : Nat) : ∀ (a0 : Int) (r : Int) (w : World) (h : spec_seCatalan.f k a0 = some r),
  Calls Tryd.prog 39 #[.int .i64 a0] w fun e w' => e = .returned (.int .i64 r) ∧ Drawn0 w w' := by
 induction k using Nat.strongRecOn with
 | _ k ih =>
 intro a0 r w h
 cases k with
 | zero => exact absurd h (by simp [spec_seCatalan.f])
 | succ k =>
 simp only [spec_seCatalan.f] at h
 have H := h
 clear h
 unfold spec_seCatalan.f at H
 rcases iteP H with ⟨c2, H⟩ | ⟨c2, H⟩
 ·have c2b0 := beq_iff_eq.mpr c2
  have c2b1 := bne_eq_false_iff_eq.mpr c2
  clear c2
  obtain rfl := Option.some.inj H
  go_enter Tryd.func39, Tryd.ntmps39
  go_wp2
  go_ret
  exact ⟨eqS, drE⟩
 ·have c2b0 := beq_eq_false_iff_ne.mpr c2
  have c2b1 := bne_iff_ne.mpr c2
  have H' := mkA H
  clear H
  go_enter Tryd.func39, Tryd.ntmps39
  go_wp2
  go_loopg [3, 4] k (fun kq v3 v4 w' => ∃ (x3_1 : Int) (x4_1 : Int), v3 = .int .i64 x3_1 ∧ v4 = .int .i64 x4_1 ∧ Fc (spec_seCatalan.l0 kq a0 x3_1 x4_1 = some r) ∧ Fc (kq ≤ k) ∧ Drawn0 w w')
  case atStart => exact ⟨(0), (0), eqS, eqS, H', ⟨Nat.le_refl _⟩, by repeat (first | exact Drawn0.refl _ | apply Drawn0.step)⟩
  case round =>
   clear H'
   try clear c2
   try clear c2b0
   try clear c2b1
   obtain ⟨x3_1, x4_1, rfl, rfl, HA, HK1, ⟨m1, rfl⟩⟩ := hrel
   cases gk with
   | zero => exact absurd HA.out (by simp [spec_seCatalan.l0])
   | succ k1 =>
    have H := HA.out
    clear HA
    simp only [spec_seCatalan.l0] at H
    rcases iteE H with ⟨c3b0, H⟩ | ⟨c3b0, H⟩
    ·obtain ⟨t521, A4, H⟩ := obE H
     obtain ⟨t522, A5, H⟩ := obE H
     have H' := mkA H
     clear H
     go_wp2_with (first | ((with_reducible refine gate_callee (f := 39) rfl ?_); refine goesQ (some 14) Tryd.func39 #[.int .i64 x4_1] ?_; (with_reducible refine (ih k1 (by have := HK1.out; omega) x4_1 t521 _ A4.out).mono ?_); rintro e w' ⟨rfl, ⟨nd, rfl⟩⟩; refine ⟨_, rfl, ?_⟩) | ((with_reducible refine gate_callee (f := 39) rfl ?_); refine goesQ (some 19) Tryd.func39 #[.int .i64 (wrap64 ((wrap64 (a0 - 1)) - x4_1))] ?_; (with_reducible refine (ih k1 (by have := HK1.out; omega) (wrap64 ((wrap64 (a0 - 1)) - x4_1)) t522 _ A5.out).mono ?_); rintro e w' ⟨rfl, ⟨nd, rfl⟩⟩; refine ⟨_, rfl, ?_⟩))
     go_roundg k1
     case measure => have := HK1.out; omega
     case rel => exact ⟨(wrap64 (x3_1 + (wrap64 (t521 * t522)))), (wrap64 (x4_1 + 1)), eqS, eqS, H', ⟨by have := HK1.out; omega⟩, by repeat (first | exact Drawn0.refl _ | apply Drawn0.step)⟩
    ·obtain rfl := Option.some.inj H
     go_wp2
     go_ret
     exact ⟨eqS, drE⟩
def spec_CountStairs.f (k : Nat) (a0 : Int) : Option (Int × Bool) := (spec_l1In.f a0 0 10).bind fun t523 => (if t523 = true then ((spec_seCatalan.f k a0).bind fun t524 => (some (t524, true))) else (some (0, false)))
theorem spec_CountStairs.mono : ∀ a0 k, LeO (spec_CountStairs.f k a0) (spec_CountStairs.f (k + 1) a0) := by
 intro a0 k
 unfold spec_CountStairs.f
 repeat' (with_reducible first|apply spec_seCatalan.mono|apply LeO.refl|apply LeO.none|apply LeO.ite|apply LeO.bind|intro)
theorem spec_CountStairs.calls (k : Nat) (a0 : Int) (r1 : Int) (r2 : Bool) (w : World) (h : spec_CountStairs.f k a0 = some (r1, r2)) :
  Calls Tryd.prog 22 #[.int .i64 a0] w fun e w' => e = .returned (.tuple #[.int .i64 r1, .bool r2]) ∧ Drawn0 w w' := by
 have H := h
 clear h
 unfold spec_CountStairs.f at H
 obtain ⟨t523, A2, H⟩ := obE H
 by_cases c3 : t523 = true
 ·subst c3
  replace H := ifT H
  obtain ⟨t524, A4, H⟩ := obE H
  simp only [Option.some.injEq, Prod.mk.injEq] at H
  obtain ⟨rfl, rfl⟩ := H
  go_enter Tryd.func22, Tryd.ntmps22
  go_wp2_with (first | ((with_reducible refine gate_callee (f := 37) rfl ?_); refine goesQ (some 5) Tryd.func37 #[.int .i64 a0, .int .i64 0, .int .i64 10] ?_; (with_reducible refine (spec_l1In.calls a0 0 10 true _ A2.out).mono ?_); rintro e w' ⟨rfl, ⟨nd, rfl⟩⟩; refine ⟨_, rfl, ?_⟩) | ((with_reducible refine gate_callee (f := 39) rfl ?_); refine goesQ (some 8) Tryd.func39 #[.int .i64 a0] ?_; (with_reducible refine (spec_seCatalan.calls k a0 t524 _ A4.out).mono ?_); rintro e w' ⟨rfl, ⟨nd, rfl⟩⟩; refine ⟨_, rfl, ?_⟩))
  go_ret2
  exact ⟨eqS, drE⟩
 ·replace c3 := Bool.eq_false_iff.mpr c3
  subst c3
  replace H := ifF H
  simp only [Option.some.injEq, Prod.mk.injEq] at H
  obtain ⟨rfl, rfl⟩ := H
  go_enter Tryd.func22, Tryd.ntmps22
  go_wp2_with (first | ((with_reducible refine gate_callee (f := 37) rfl ?_); refine goesQ (some 5) Tryd.func37 #[.int .i64 a0, .int .i64 0, .int .i64 10] ?_; (with_reducible refine (spec_l1In.calls a0 0 10 false _ A2.out).mono ?_); rintro e w' ⟨rfl, ⟨nd, rfl⟩⟩; refine ⟨_, rfl, ?_⟩))
  go_ret2
  exact ⟨eqS, drE⟩
end Go.Proofs.YtcalgdljcphjaaaDoor.Q
