import Derived.Test.YtfpicdkanmgdoaaDoorBFnLevelRanks4
namespace Go.Proofs.YtfpicdkanmgdoaaDoor.Q
open Go.RowKit Go.Proofs.YtfpicdkanmgdoaaDoorW.PrintWords Go.Proofs.YtfpicdkanmgdoaaDoorW.PrintLast Go.Proofs.YtfpicdkanmgdoaaDoorW.PrintMore
attribute [local go_sem] max2_int min2_int max_two min_two max_three min_three max_four min_four neB_f
set_option linter.unusedVariables false
set_option maxHeartbeats 8000000
set_option maxRecDepth 100000
set_option linter.unusedSimpArgs false
def impl_LevelsWith.f (k : Nat) (a0 : Int) (a1 : Int) : Option (List Int × Bool) := (impl_within.f a0 0 6).bind fun t287 => (if t287 = true then ((impl_allLevels.f k a0).bind fun t288 => ((impl_within.f a1 0 (wrap64 ((t288.length : Int) - 1))).bind fun t291 => (if t291 = true then (if 0 ≤ a1 then (if a1 < (t288.length : Int) then (some (rd_L2 t288 a1, true)) else (none)) else (none)) else (some (([] : List Int), false))))) else (some (([] : List Int), false)))
theorem impl_LevelsWith.mono : ∀ a0 a1 k, LeO (impl_LevelsWith.f k a0 a1) (impl_LevelsWith.f (k + 1) a0 a1) := by
 intro a0 a1 k
 unfold impl_LevelsWith.f
 repeat' (with_reducible first|apply impl_allLevels.mono|apply LeO.refl|apply LeO.none|apply LeO.ite|apply LeO.bind|intro)
theorem impl_LevelsWith.calls (k : Nat) (a0 : Int) (a1 : Int) (r1 : List Int) (r2 : Bool) (w : World) (h : impl_LevelsWith.f k a0 a1 = some (r1, r2)) :
  Calls Tryd.prog 6 #[.int .i64 a0, .int .i64 a1] w fun e w' => ∃ v0_ : Value, e = .returned (.tuple #[v0_, .bool r2]) ∧ Kd.R (Kd.int .i64) 3 w' w.heap.size (fun _ => True) v0_ r1 ∧ Below w.heap.size w w' := by
 have HB := mkA (Below.refl w.heap.size w)
 have H := h
 clear h
 unfold impl_LevelsWith.f at H
 obtain ⟨t287, A3, H⟩ := obE H
 by_cases c4 : t287 = true
 ·subst c4
  replace H := ifT H
  obtain ⟨t288, A5, H⟩ := obE H
  obtain ⟨t291, A6, H⟩ := obE H
  by_cases c7 : t291 = true
  ·subst c7
   replace H := ifT H
   obtain ⟨c8b0, H⟩ := itND H
   obtain ⟨c9b0, H⟩ := itND H
   simp only [Option.some.injEq, Prod.mk.injEq] at H
   obtain ⟨rfl, rfl⟩ := H
   go_enter Tryd.func6, Tryd.ntmps6
   go_wp2_with (first | ((with_reducible refine gate_callee (f := 25) rfl ?_); refine goesQ (some 8) Tryd.func25 #[.int .i64 a0, .int .i64 0, .int .i64 6] ?_; (with_reducible refine (impl_within.calls a0 0 6 true _ A3.out).mono ?_); rintro e w' ⟨rfl, ⟨nd, rfl⟩⟩; refine ⟨_, rfl, ?_⟩) | ((with_reducible refine gate_callee (f := 26) rfl ?_); refine goesQ (some 11) Tryd.func26 #[.int .i64 a0] ?_; (with_reducible refine (impl_allLevels.calls k a0 t288 _ A5.out).mono ?_); rintro e w10 ⟨v289, rfl, ho0, hb⟩; refine ⟨_, rfl, ?_⟩; have HO290 := mkA (Kd.S_lower ho0 (below_size (bel_g HB.out))); replace HB := bst HB hb; clear hb ho0; obtain ⟨Ao11, co11, rfl⟩ := Kd.S_slice HO290.out) | ((with_reducible refine gate_callee (f := 25) rfl ?_); refine goesQ (some 16) Tryd.func25 #[.int .i64 a1, .int .i64 0, .int .i64 (wrap64 ((t288.length : Int) - 1))] ?_; (with_reducible refine (impl_within.calls a1 0 (wrap64 ((t288.length : Int) - 1)) true _ A6.out).mono ?_); rintro e w' ⟨rfl, ⟨nd, rfl⟩⟩; refine ⟨_, rfl, ?_⟩; have p292 : 0 ≤ (a1 : Int) := ofd; have q292 : a1 < (t288.length : Int) := ofd; obtain ⟨ad292, A292_0, c292_0, e292, hx292_0, hl292_0, hi292_0⟩ := at_L2 (Kd.S_reads' HO290.out).2.2 a1 p292 q292; cases e292; obtain ⟨ce292, hce292, hMe292, hcc292⟩ := Kd.S_get HO290.out [] a1 p292 (by first | exact q292 | exact ofd | (have e_ := (Kd.S_reads' HO290.out).1; omega)); obtain ⟨ve292_0, rfl, ge292_0⟩ := hMe292; have hv292_0 := hcc292 0 _ rfl; rw [Nat.add_zero, show ((Kd.slice 3 (Kd.int .i64))).sz = 1 from rfl, Nat.mul_one] at hv292_0; replace hv292_0 := Option.some.inj (hv292_0.symm.trans hx292_0); rw [hv292_0] at ge292_0; have HL292_0 := mkA (show Kd.R (Kd.int .i64) 3 _ _ _ _ (rd_L2 t288 a1) from ge292_0); clear hv292_0 ge292_0; clear hcc292 hce292; have HR292_0 := mkA hi292_0; have HC292_0 := mkA hl292_0; clear hi292_0 hl292_0; replace p292 := eq_true p292; replace q292 := eq_true q292))
   go_ret2
   exact ⟨_, eqE, Kd.R_g (Kd.R_mono HL292_0.out (fun _ hk => trivial)), bel_g HB.out⟩
  ·replace c7 := Bool.eq_false_iff.mpr c7
   subst c7
   replace H := ifF H
   simp only [Option.some.injEq, Prod.mk.injEq] at H
   obtain ⟨rfl, rfl⟩ := H
   go_enter Tryd.func6, Tryd.ntmps6
   go_wp2_with (first | ((with_reducible refine gate_callee (f := 25) rfl ?_); refine goesQ (some 8) Tryd.func25 #[.int .i64 a0, .int .i64 0, .int .i64 6] ?_; (with_reducible refine (impl_within.calls a0 0 6 true _ A3.out).mono ?_); rintro e w' ⟨rfl, ⟨nd, rfl⟩⟩; refine ⟨_, rfl, ?_⟩) | ((with_reducible refine gate_callee (f := 26) rfl ?_); refine goesQ (some 11) Tryd.func26 #[.int .i64 a0] ?_; (with_reducible refine (impl_allLevels.calls k a0 t288 _ A5.out).mono ?_); rintro e w12 ⟨v289, rfl, ho0, hb⟩; refine ⟨_, rfl, ?_⟩; have HO290 := mkA (Kd.S_lower ho0 (below_size (bel_g HB.out))); replace HB := bst HB hb; clear hb ho0; obtain ⟨Ao13, co13, rfl⟩ := Kd.S_slice HO290.out) | ((with_reducible refine gate_callee (f := 25) rfl ?_); refine goesQ (some 16) Tryd.func25 #[.int .i64 a1, .int .i64 0, .int .i64 (wrap64 ((t288.length : Int) - 1))] ?_; (with_reducible refine (impl_within.calls a1 0 (wrap64 ((t288.length : Int) - 1)) false _ A6.out).mono ?_); rintro e w' ⟨rfl, ⟨nd, rfl⟩⟩; refine ⟨_, rfl, ?_⟩))
   go_ret2
   exact ⟨_, eqE, nilE, bel_g HB.out⟩
 ·replace c4 := Bool.eq_false_iff.mpr c4
  subst c4
  replace H := ifF H
  simp only [Option.some.injEq, Prod.mk.injEq] at H
  obtain ⟨rfl, rfl⟩ := H
  go_enter Tryd.func6, Tryd.ntmps6
  go_wp2_with (first | ((with_reducible refine gate_callee (f := 25) rfl ?_); refine goesQ (some 8) Tryd.func25 #[.int .i64 a0, .int .i64 0, .int .i64 6] ?_; (with_reducible refine (impl_within.calls a0 0 6 false _ A3.out).mono ?_); rintro e w' ⟨rfl, ⟨nd, rfl⟩⟩; refine ⟨_, rfl, ?_⟩))
  go_ret2
  exact ⟨_, eqE, nilE, bel_g HB.out⟩
def spec_l1In.f (a0 : Int) (a1 : Int) (a2 : Int) : Option (Bool) := if a0 ≥ a1 then (some (decide (a0 ≤ a2))) else (some false)
theorem spec_l1In.calls (a0 : Int) (a1 : Int) (a2 : Int) (r : Bool) (w : World) (h : spec_l1In.f a0 a1 a2 = some r) :
  Calls Tryd.prog 27 #[.int .i64 a0, .int .i64 a1, .int .i64 a2] w fun e w' => e = .returned (.bool r) ∧ Drawn0 w w' := by
 have H := h
 clear h
 unfold spec_l1In.f at H
 rcases iteP H with ⟨c4, H⟩ | ⟨c4, H⟩
 ·have c4b0 := decide_eq_true c4
  clear c4
  obtain rfl := Option.some.inj H
  go_enter Tryd.func27, Tryd.ntmps27
  go_wp2
  go_ret
  exact ⟨eqS, drE⟩
 ·have c4b0 := decide_eq_false c4
  clear c4
  obtain rfl := Option.some.inj H
  go_enter Tryd.func27, Tryd.ntmps27
  go_wp2
  go_ret
  exact ⟨eqS, drE⟩
def spec_l1All.l0 : Nat → Int → Int → List Int → Int → Int → Option (Bool)
 | 0, _, _, _, _, _ => none
 | k + 1, x1, x2, x9, x10, x11 => if x11 < x10 then (if 0 ≤ x11 then (if x11 < (x9.length : Int) then ((spec_l1In.f (rd x9 x11) x1 x2).bind fun t294 => (if t294 = true then (spec_l1All.l0 k x1 x2 x9 x10 (wrap64 (x11 + 1))) else (some false))) else (none)) else (none)) else (some true)
def spec_l1All.f (k : Nat) (l0 : List Int) (a1 : Int) (a2 : Int) : Option (Bool) := spec_l1All.l0 k a1 a2 l0 (l0.length : Int) 0
theorem spec_l1All.mono_l : ∀ k, (∀ y0 y1 y2 y3 y4, LeO (spec_l1All.l0 k y0 y1 y2 y3 y4) (spec_l1All.l0 (k + 1) y0 y1 y2 y3 y4))
 | 0 => fun _ _ _ _ _ r h => by simp [spec_l1All.l0] at h
 | k + 1 => by
  have ih0 := spec_l1All.mono_l k
  ·intro y0 y1 y2 y3 y4
   unfold spec_l1All.l0
   repeat' (with_reducible first|apply ih0|apply LeO.refl|apply LeO.none|apply LeO.ite|apply LeO.bind|intro)
theorem spec_l1All.mono : ∀ a0 a1 a2 k, LeO (spec_l1All.f k a0 a1 a2) (spec_l1All.f (k + 1) a0 a1 a2) := by
 intro a0 a1 a2 k
 have ih0 := spec_l1All.mono_l k
 unfold spec_l1All.f
 repeat' (with_reducible first|apply ih0|apply LeO.refl|apply LeO.none|apply LeO.ite|apply LeO.bind|intro)
theorem spec_l1All.calls (k : Nat) (A0 : Option Addr) (c0 : Nat) (l0 : List Int) (a1 : Int) (a2 : Int) (r : Bool) (w : World) (hr0 : Kd.C (Kd.int .i64) w A0 l0.length l0) (hc0 : l0.length ≤ c0) (h : spec_l1All.f k l0 a1 a2 = some r) :
  Calls Tryd.prog 48 #[.slice A0 l0.length c0, .int .i64 a1, .int .i64 a2] w fun e w' => e = .returned (.bool r) ∧ Drawn0 w w' := by
 have HR0 := mkA hr0
 have HC0 := mkA hc0
 clear hr0 hc0
 have H := h
 clear h
 unfold spec_l1All.f at H
 have H' := mkA H
 clear H
 go_enter Tryd.func48, Tryd.ntmps48
 go_wp2
 go_loopg [11] k (fun kq v11 w' => ∃ (x11_1 : Int), v11 = .int .i64 x11_1 ∧ Fc (spec_l1All.l0 kq a1 a2 l0 (l0.length : Int) x11_1 = some r) ∧ Fc (kq ≤ k) ∧ Drawn0 w w')
 case atStart => exact ⟨(0), eqS, H', ⟨Nat.le_refl _⟩, by repeat (first | exact Drawn0.refl _ | apply Drawn0.step)⟩
 case round =>
  clear H'
  obtain ⟨x11_1, rfl, HA, HK1, ⟨m1, rfl⟩⟩ := hrel
  cases gk with
  | zero => exact absurd HA.out (by simp [spec_l1All.l0])
  | succ k1 =>
   have H := HA.out
   clear HA
   simp only [spec_l1All.l0] at H
   rcases iteE H with ⟨c4b0, H⟩ | ⟨c4b0, H⟩
   ·obtain ⟨c5b0, H⟩ := itND H
    obtain ⟨c6b0, H⟩ := itND H
    obtain ⟨t294, A7, H⟩ := obE H
    by_cases c8 : t294 = true
    ·subst c8
     replace H := ifT H
     have H' := mkA H
     clear H
     obtain ⟨p293, q293, ad293, e293, hx293_0⟩ := atI HR0.out x11_1
     cases e293
     go_wp2_with (first | ((with_reducible refine gate_callee (f := 27) rfl ?_); refine goesQ (some 18) Tryd.func27 #[.int .i64 (rd l0 x11_1), .int .i64 a1, .int .i64 a2] ?_; (with_reducible refine (spec_l1In.calls (rd l0 x11_1) a1 a2 true _ A7.out).mono ?_); rintro e w' ⟨rfl, ⟨nd, rfl⟩⟩; refine ⟨_, rfl, ?_⟩))
     go_roundg k1
     case measure => have := HK1.out; omega
     case rel => exact ⟨(wrap64 (x11_1 + 1)), eqS, H', ⟨by have := HK1.out; omega⟩, by repeat (first | exact Drawn0.refl _ | apply Drawn0.step)⟩
    ·replace c8 := Bool.eq_false_iff.mpr c8
     subst c8
     replace H := ifF H
     obtain rfl := Option.some.inj H
     obtain ⟨p293, q293, ad293, e293, hx293_0⟩ := atI HR0.out x11_1
     cases e293
     go_wp2_with (first | ((with_reducible refine gate_callee (f := 27) rfl ?_); refine goesQ (some 18) Tryd.func27 #[.int .i64 (rd l0 x11_1), .int .i64 a1, .int .i64 a2] ?_; (with_reducible refine (spec_l1In.calls (rd l0 x11_1) a1 a2 false _ A7.out).mono ?_); rintro e w' ⟨rfl, ⟨nd, rfl⟩⟩; refine ⟨_, rfl, ?_⟩))
     go_ret
     exact ⟨eqS, drE⟩
   ·obtain rfl := Option.some.inj H
    go_wp2
    go_ret
    exact ⟨eqS, drE⟩
def spec_l1Has.l0 : Nat → Int → List Int → Int → Int → Option (Bool)
 | 0, _, _, _, _ => none
 | k + 1, x1, x7, x8, x9 => if x9 < x8 then (if 0 ≤ x9 then (if x9 < (x7.length : Int) then (if (rd x7 x9) = x1 then (some true) else (spec_l1Has.l0 k x1 x7 x8 (wrap64 (x9 + 1)))) else (none)) else (none)) else (some false)
def spec_l1Has.f (k : Nat) (l0 : List Int) (a1 : Int) : Option (Bool) := spec_l1Has.l0 k a1 l0 (l0.length : Int) 0
theorem spec_l1Has.mono_l : ∀ k, (∀ y0 y1 y2 y3, LeO (spec_l1Has.l0 k y0 y1 y2 y3) (spec_l1Has.l0 (k + 1) y0 y1 y2 y3))
 | 0 => fun _ _ _ _ r h => by simp [spec_l1Has.l0] at h
 | k + 1 => by
  have ih0 := spec_l1Has.mono_l k
  ·intro y0 y1 y2 y3
   unfold spec_l1Has.l0
   repeat' (with_reducible first|apply ih0|apply LeO.refl|apply LeO.none|apply LeO.ite|apply LeO.bind|intro)
theorem spec_l1Has.mono : ∀ a0 a1 k, LeO (spec_l1Has.f k a0 a1) (spec_l1Has.f (k + 1) a0 a1) := by
 intro a0 a1 k
 have ih0 := spec_l1Has.mono_l k
 unfold spec_l1Has.f
 repeat' (with_reducible first|apply ih0|apply LeO.refl|apply LeO.none|apply LeO.ite|apply LeO.bind|intro)
theorem spec_l1Has.calls (k : Nat) (A0 : Option Addr) (c0 : Nat) (l0 : List Int) (a1 : Int) (r : Bool) (w : World) (hr0 : Kd.C (Kd.int .i64) w A0 l0.length l0) (hc0 : l0.length ≤ c0) (h : spec_l1Has.f k l0 a1 = some r) :
  Calls Tryd.prog 49 #[.slice A0 l0.length c0, .int .i64 a1] w fun e w' => e = .returned (.bool r) ∧ Drawn0 w w' := by
 have HR0 := mkA hr0
 have HC0 := mkA hc0
 clear hr0 hc0
 have H := h
 clear h
 unfold spec_l1Has.f at H
 have H' := mkA H
 clear H
 go_enter Tryd.func49, Tryd.ntmps49
 go_wp2
 go_loopg [9] k (fun kq v9 w' => ∃ (x9_1 : Int), v9 = .int .i64 x9_1 ∧ Fc (spec_l1Has.l0 kq a1 l0 (l0.length : Int) x9_1 = some r) ∧ Fc (kq ≤ k) ∧ Drawn0 w w')
 case atStart => exact ⟨(0), eqS, H', ⟨Nat.le_refl _⟩, by repeat (first | exact Drawn0.refl _ | apply Drawn0.step)⟩
 case round =>
  clear H'
  obtain ⟨x9_1, rfl, HA, HK1, ⟨m1, rfl⟩⟩ := hrel
  cases gk with
  | zero => exact absurd HA.out (by simp [spec_l1Has.l0])
  | succ k1 =>
   have H := HA.out
   clear HA
   simp only [spec_l1Has.l0] at H
   rcases iteE H with ⟨c3b0, H⟩ | ⟨c3b0, H⟩
   ·obtain ⟨c4b0, H⟩ := itND H
    obtain ⟨c5b0, H⟩ := itND H
    rcases iteP H with ⟨c6, H⟩ | ⟨c6, H⟩
    ·have c6b0 := beq_iff_eq.mpr c6
     have c6b1 := bne_eq_false_iff_eq.mpr c6
     clear c6
     obtain rfl := Option.some.inj H
     obtain ⟨p295, q295, ad295, e295, hx295_0⟩ := atI HR0.out x9_1
     cases e295
     go_wp2
     go_ret
     exact ⟨eqS, drE⟩
    ·have c6b0 := beq_eq_false_iff_ne.mpr c6
     have c6b1 := bne_iff_ne.mpr c6
     have H' := mkA H
     clear H
     obtain ⟨p295, q295, ad295, e295, hx295_0⟩ := atI HR0.out x9_1
     cases e295
     go_wp2
     go_roundg k1
     case measure => have := HK1.out; omega
     case rel => exact ⟨(wrap64 (x9_1 + 1)), eqS, H', ⟨by have := HK1.out; omega⟩, by repeat (first | exact Drawn0.refl _ | apply Drawn0.step)⟩
   ·obtain rfl := Option.some.inj H
    go_wp2
    go_ret
    exact ⟨eqS, drE⟩
mutual
def spec_weLevels.j0 : Nat → List Int → Bool → Option (Bool)
 | 0, _, _ => none
 | k + 1, x0, x12 => if x12 = true then (some false) else (spec_weLevels.l0 k x0 x0 (x0.length : Int) 0)
def spec_weLevels.l0 : Nat → List Int → List Int → Int → Int → Option (Bool)
 | 0, _, _, _, _ => none
 | k + 1, x0, x13, x14, x15 => if x15 < x14 then (if 0 ≤ x15 then (if x15 < (x13.length : Int) then (if (rd x13 x15) > 0 then ((spec_l1Has.f k x0 (wrap64 ((rd x13 x15) - 1))).bind fun t298 => (if t298 = true then (spec_weLevels.l0 k x0 x13 x14 (wrap64 (x15 + 1))) else (some false))) else (spec_weLevels.l0 k x0 x13 x14 (wrap64 (x15 + 1)))) else (none)) else (none)) else (some true)
end
def spec_weLevels.f (k : Nat) (l0 : List Int) : Option (Bool) := if (l0.length : Int) > 10 then (spec_weLevels.j0 k l0 true) else ((spec_l1All.f k l0 0 10).bind fun t296 => (spec_weLevels.j0 k l0 (!t296)))
theorem spec_weLevels.mono_l : ∀ k, (∀ y0 y1, LeO (spec_weLevels.j0 k y0 y1) (spec_weLevels.j0 (k + 1) y0 y1)) ∧ (∀ y0 y1 y2 y3, LeO (spec_weLevels.l0 k y0 y1 y2 y3) (spec_weLevels.l0 (k + 1) y0 y1 y2 y3))
 | 0 => ⟨fun _ _ r h => by simp [spec_weLevels.j0] at h, fun _ _ _ _ r h => by simp [spec_weLevels.l0] at h⟩
 | k + 1 => by
  obtain ⟨ih0, ih1⟩ := spec_weLevels.mono_l k
  refine ⟨?_, ?_⟩ <;> intros
  unfold spec_weLevels.j0
  rotate_left
  unfold spec_weLevels.l0
  rotate_left
  all_goals repeat' (with_reducible first|apply ih0|apply ih1|apply spec_l1All.mono|apply spec_l1Has.mono|apply LeO.refl|apply LeO.none|apply LeO.ite|apply LeO.bind|intro)
theorem spec_weLevels.mono : ∀ a0 k, LeO (spec_weLevels.f k a0) (spec_weLevels.f (k + 1) a0) := by
 intro a0 k
 obtain ⟨ih0, ih1⟩ := spec_weLevels.mono_l k
 unfold spec_weLevels.f
 repeat' (with_reducible first|apply ih0|apply ih1|apply spec_l1All.mono|apply spec_l1Has.mono|apply LeO.refl|apply LeO.none|apply LeO.ite|apply LeO.bind|intro)
theorem spec_weLevels.calls (k : Nat) (A0 : Option Addr) (c0 : Nat) (l0 : List Int) (r : Bool) (w : World) (hr0 : Kd.C (Kd.int .i64) w A0 l0.length l0) (hc0 : l0.length ≤ c0) (h : spec_weLevels.f k l0 = some r) :
  Calls Tryd.prog 34 #[.slice A0 l0.length c0] w fun e w' => e = .returned (.bool r) ∧ Drawn0 w w' := by
 have HR0 := mkA hr0
 have HC0 := mkA hc0
 clear hr0 hc0
 have H := h
 clear h
 unfold spec_weLevels.f at H
 have HC2 := mkA H
 clear H
 go_enter Tryd.func34, Tryd.ntmps34
 go_upto_region 1 with (fail)
 go_cut [12] (fun v12 wc => ∃ (kq : Nat) (x12_1 : Bool), v12 = .bool x12_1 ∧ Fc (spec_weLevels.j0 kq l0 x12_1 = some r) ∧ Fc (kq ≤ k) ∧ Drawn0 w wc)
 case first =>
  have H := HC2.out
  clear HC2
  rcases iteP H with ⟨c3, H⟩ | ⟨c3, H⟩
  ·have c3b0 := decide_eq_true c3
   have c3b1 : decide (10 < l0.length) = true := decide_eq_true (by omega)
   clear c3
   (first | rw [c3b0] | (simp only [i64_w, i32_w]; rw [c3b0]) | skip)
   have H' := mkA H
   clear H
   go_wp2
   go_meet
   case rel => exact ⟨_, (true), eqS, H', ⟨by first | omega | exact Nat.le_refl _⟩, by repeat (first | exact Drawn0.refl _ | apply Drawn0.step)⟩
  ·have c3b0 := decide_eq_false c3
   have c3b1 : decide (10 < l0.length) = false := decide_eq_false (by omega)
   clear c3
   (first | rw [c3b0] | (simp only [i64_w, i32_w]; rw [c3b0]) | skip)
   obtain ⟨t296, A4, H⟩ := obE H
   have H' := mkA H
   clear H
   go_wp2_with (first | (go_at_call 48; (with_reducible refine (spec_l1All.calls k _ _ l0 0 10 t296 _ ?s1 ?s2 A4.out).mono ?_); (case s1 => repeat (first | exact HR0.out | (with_reducible refine Kd.C_alloc ?_ _) | (with_reducible refine Kd.C_drewN ?_ _) | (with_reducible refine Kd.C_drew ?_))); (case s2 => exact HC0.out); rintro e w' ⟨rfl, ⟨nd, rfl⟩⟩))
   go_meet
   case rel => exact ⟨_, (!t296), eqS, H', ⟨by first | omega | exact Nat.le_refl _⟩, by repeat (first | exact Drawn0.refl _ | apply Drawn0.step)⟩
 case rest =>
  clear HC2
  try clear c3
  try clear c3b0
  try clear c3b1
  obtain ⟨kq, x12_1, rfl, HA, HJ1, ⟨mc1, rfl⟩⟩ := hcut
  cases kq with
  | zero => exact absurd HA.out (by simp [spec_weLevels.j0])
  | succ kj1 =>
   have H := HA.out
   clear HA
   simp only [spec_weLevels.j0] at H
   by_cases c5 : x12_1 = true
   ·subst c5
    replace H := ifT H
    obtain rfl := Option.some.inj H
    go_wp2
    go_ret
    exact ⟨eqS, drE⟩
   ·replace c5 := Bool.eq_false_iff.mpr c5
    subst c5
    replace H := ifF H
    have H' := mkA H
    clear H
    go_wp2
    go_loopg [15] kj1 (fun kq v15 w' => ∃ (x15_2 : Int), v15 = .int .i64 x15_2 ∧ Fc (spec_weLevels.l0 kq l0 l0 (l0.length : Int) x15_2 = some r) ∧ Fc (kq ≤ kj1) ∧ Drawn0 w w')
    case atStart => exact ⟨(0), eqS, H', ⟨Nat.le_refl _⟩, by repeat (first | exact Drawn0.refl _ | apply Drawn0.step)⟩
    case round =>
     clear H'
     try clear c3
     try clear c3b0
     try clear c3b1
     try clear c5
     obtain ⟨x15_2, rfl, HA, HK2, ⟨m2, rfl⟩⟩ := hrel
     cases gk with
     | zero => exact absurd HA.out (by simp [spec_weLevels.l0])
     | succ k2 =>
      have H := HA.out
      clear HA
      simp only [spec_weLevels.l0] at H
      rcases iteE H with ⟨c6b0, H⟩ | ⟨c6b0, H⟩
      ·obtain ⟨c7b0, H⟩ := itND H
       obtain ⟨c8b0, H⟩ := itND H
       rcases iteP H with ⟨c9, H⟩ | ⟨c9, H⟩
       ·have c9b0 := decide_eq_true c9
        clear c9
        obtain ⟨t298, A10, H⟩ := obE H
        by_cases c11 : t298 = true
        ·subst c11
         replace H := ifT H
         have H' := mkA H
         clear H
         obtain ⟨p297, q297, ad297, e297, hx297_0⟩ := atI HR0.out x15_2
         cases e297
         go_wp2_with (first | (go_at_call 49; (with_reducible refine (spec_l1Has.calls k2 _ _ l0 (wrap64 ((rd l0 x15_2) - 1)) true _ ?s1 ?s2 A10.out).mono ?_); (case s1 => repeat (first | exact HR0.out | (with_reducible refine Kd.C_alloc ?_ _) | (with_reducible refine Kd.C_drewN ?_ _) | (with_reducible refine Kd.C_drew ?_))); (case s2 => exact HC0.out); rintro e w' ⟨rfl, ⟨nd, rfl⟩⟩))
         go_roundg k2
         case measure => have := HJ1.out; have := HK2.out; omega
         case rel => exact ⟨(wrap64 (x15_2 + 1)), eqS, H', ⟨by have := HJ1.out; have := HK2.out; omega⟩, by repeat (first | exact Drawn0.refl _ | apply Drawn0.step)⟩
        ·replace c11 := Bool.eq_false_iff.mpr c11
         subst c11
         replace H := ifF H
         obtain rfl := Option.some.inj H
         obtain ⟨p297, q297, ad297, e297, hx297_0⟩ := atI HR0.out x15_2
         cases e297
         go_wp2_with (first | (go_at_call 49; (with_reducible refine (spec_l1Has.calls k2 _ _ l0 (wrap64 ((rd l0 x15_2) - 1)) false _ ?s1 ?s2 A10.out).mono ?_); (case s1 => repeat (first | exact HR0.out | (with_reducible refine Kd.C_alloc ?_ _) | (with_reducible refine Kd.C_drewN ?_ _) | (with_reducible refine Kd.C_drew ?_))); (case s2 => exact HC0.out); rintro e w' ⟨rfl, ⟨nd, rfl⟩⟩))
         go_ret
         exact ⟨eqS, drE⟩
       ·have c9b0 := decide_eq_false c9
        clear c9
        have H' := mkA H
        clear H
        obtain ⟨p297, q297, ad297, e297, hx297_0⟩ := atI HR0.out x15_2
        cases e297
        go_wp2
        go_roundg k2
        case measure => have := HJ1.out; have := HK2.out; omega
        case rel => exact ⟨(wrap64 (x15_2 + 1)), eqS, H', ⟨by have := HJ1.out; have := HK2.out; omega⟩, by repeat (first | exact Drawn0.refl _ | apply Drawn0.step)⟩
      ·obtain rfl := Option.some.inj H
       go_wp2
       go_ret
       exact ⟨eqS, drE⟩
def spec_l1Own.f (l0 : List Int) : Option (List Int) := (some (([] : List Int) : List Int)).bind fun y299 => (if y299.length + l0.length < 17592186044416 then (some (y299 ++ l0)) else (none))
theorem spec_l1Own.calls (A0 : Option Addr) (c0 : Nat) (l0 : List Int) (r : List Int) (w : World) (hr0 : Kd.C (Kd.int .i64) w A0 l0.length l0) (hc0 : l0.length ≤ c0) (h : spec_l1Own.f l0 = some r) :
  Calls Tryd.prog 45 #[.slice A0 l0.length c0] w fun e w' => ∃ v0_ : Value, e = .returned (v0_) ∧ Kd.R (Kd.int .i64) 3 w' w.heap.size (fun _ => True) v0_ r ∧ Below w.heap.size w w' := by
 have HR0 := mkA hr0
 have HC0 := mkA hc0
 clear hr0 hc0
 have HB := mkA (Below.refl w.heap.size w)
 have H := h
 clear h
 unfold spec_l1Own.f at H
 obtain ⟨y299, Ny299, H⟩ := nmE H
 obtain ⟨c2, H⟩ := itNP H
 have LMc2 := mkA c2
 clear c2
 obtain ⟨y302, hy302⟩ : ∃ y_ : List Int, y_ = (y299 ++ l0) := ⟨_, rfl⟩
 rw [← hy302] at H
 have Ny302 := mkA hy302
 clear hy302
 obtain rfl := Option.some.inj H
 go_enter Tryd.func45, Tryd.ntmps45
 go_wp2_with (first | ((with_reducible refine gate_dst (N := 3) rfl ?_); refine litE (Kd.int .i64) 3 ([] : List Int) [] ?hp ?_; (case hp => exact (Reps.none _ _)); intro v300 w3 ho4 hb hg_ hnew_; clear hg_ hnew_; (first | rw [← Ny299.out] at ho4 | (simp only [Int.reduceToNat] at ho4; rw [← Ny299.out] at ho4)); have HO301 := rLo ho4 HB; replace HB := bst HB hb; clear hb ho4) | ((with_reducible refine gate_builtin (b := .append) (xs := #[.tmp 3, .tmp 4]) rfl ?_); at_builtin; refine Kd.R_append_rows (Kd.int .i64) (w0 := w) w.heap.size rfl (.tmp 3) (.tmp 4) 26 3 (.int .i64 0) 8 rfl Tryd.underlying26 info3 rfl (by decide) (by omega) v300 y299 l0 _ _ _ (fun _ => True) (fun _ => False) rfl rfl ?aO ?aR (fun _ _ h => h) (fun _ h => h.elim) ?aF ?aB ?aS ?aL ?_; (case aR => exact C_g HR0 HB); (case aB => exact (bel_g HB.out)); (case aF => exact (fun _ _ => trivial)); (case aO => exact (Kd.R_g HO301.out)); (case aS => exact (below_size (bel_g HB.out))); (case aL => have := LMc2.out; omega); intro v303 w5 ho hb hg hat; rw [← Ny302.out] at ho; have HO304 := mkA (ho); replace HB := mkA (hb); clear HO301; clear ho hb hg hat))
 go_ret
 exact ⟨_, eqE, Kd.R_g HO304.out, bel_g HB.out⟩
end Go.Proofs.YtfpicdkanmgdoaaDoor.Q
