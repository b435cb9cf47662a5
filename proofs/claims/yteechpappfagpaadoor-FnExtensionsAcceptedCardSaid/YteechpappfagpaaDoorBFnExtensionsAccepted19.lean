import Derived.Test.YteechpappfagpaaDoorBFnExtensionsAccepted0
-- printed by this project's own program (wip/mp/mp.py) over the kit's print, for this seat; Lean checks it
namespace Go.Proofs.YteechpappfagpaaDoor.Q
open Go.RowKit Go.Proofs.YteechpappfagpaaDoorW.PrintWords Go.Proofs.YteechpappfagpaaDoorW.PrintLast Go.Proofs.YteechpappfagpaaDoorW.PrintMore
attribute [local go_sem] max2_int min2_int max_two min_two max_three min_three max_four min_four   -- for this text's walks alone
set_option linter.unusedVariables false
set_option maxHeartbeats 8000000
set_option maxRecDepth 100000
set_option linter.unusedSimpArgs false

/-! ### laws_pLess: function 66 -/
mutual
def laws_pLess.l0 : Nat → List Int → List Int → Int → Option (Bool)
 | 0, _, _, _ => none
 | k + 1, x0, x1, x5 => if x5 < (x0.length : Int) then (laws_pLess.j1 k x0 x1 x5 (decide (x5 < (x1.length : Int)))) else (laws_pLess.j1 k x0 x1 x5 false)
def laws_pLess.j1 : Nat → List Int → List Int → Int → Bool → Option (Bool)
 | 0, _, _, _, _ => none
 | k + 1, x0, x1, x5, x15 => if x15 = true then (if 0 ≤ x5 then (if x5 < (x0.length : Int) then (if x5 < (x1.length : Int) then (if (rd x0 x5) = (rd x1 x5) then (laws_pLess.l0 k x0 x1 (wrap64 (x5 + 1))) else (some (decide ((rd x0 x5) < (rd x1 x5))))) else (none)) else (none)) else (none)) else (some (decide ((x0.length : Int) < (x1.length : Int))))
end
def laws_pLess.f (k : Nat) (l0 : List Int) (l1 : List Int) : Option (Bool) := laws_pLess.l0 k l0 l1 0
theorem laws_pLess.mono_l : ∀ k, (∀ y0 y1 y2, LeO (laws_pLess.l0 k y0 y1 y2) (laws_pLess.l0 (k + 1) y0 y1 y2)) ∧ (∀ y0 y1 y2 y3, LeO (laws_pLess.j1 k y0 y1 y2 y3) (laws_pLess.j1 (k + 1) y0 y1 y2 y3))
 | 0 => ⟨fun _ _ _ r h => by simp [laws_pLess.l0] at h, fun _ _ _ _ r h => by simp [laws_pLess.j1] at h⟩
 | k + 1 => by
  obtain ⟨ih0, ih1⟩ := laws_pLess.mono_l k
  refine ⟨?_, ?_⟩
  ·intro y0 y1 y2
   unfold laws_pLess.l0
   repeat' (with_reducible first|exact ih0 _ _ _|exact ih1 _ _ _ _|exact LeO.refl _|exact LeO.none _|refine LeO.ite ?_ ?_|refine LeO.bind ?_ (fun _ => ?_))
  ·intro y0 y1 y2 y3
   unfold laws_pLess.j1
   repeat' (with_reducible first|exact ih0 _ _ _|exact ih1 _ _ _ _|exact LeO.refl _|exact LeO.none _|refine LeO.ite ?_ ?_|refine LeO.bind ?_ (fun _ => ?_))
theorem laws_pLess.mono : ∀ a0 a1 k, LeO (laws_pLess.f k a0 a1) (laws_pLess.f (k + 1) a0 a1) := by
 intro a0 a1 k
 obtain ⟨ih0, ih1⟩ := laws_pLess.mono_l k
 unfold laws_pLess.f
 repeat' (with_reducible first|exact ih0 _ _ _|exact ih1 _ _ _ _|exact LeO.refl _|exact LeO.none _|refine LeO.ite ?_ ?_|refine LeO.bind ?_ (fun _ => ?_))
theorem laws_pLess.calls (k : Nat) (A0 : Option Addr) (c0 : Nat) (l0 : List Int) (A1 : Option Addr) (c1 : Nat) (l1 : List Int) (r : Bool) (w : World) (hr0 : Kd.C (Kd.int .i64) w A0 l0.length l0) (hc0 : l0.length ≤ c0) (hr1 : Kd.C (Kd.int .i64) w A1 l1.length l1) (hc1 : l1.length ≤ c1) (h : laws_pLess.f k l0 l1 = some r) :
  Calls Tryd.prog 66 #[.slice A0 l0.length c0, .slice A1 l1.length c1] w fun e w' => e = .returned (.bool r) ∧ Drawn0 w w' := by
 have HR0 := Aside0.mk hr0
 have HC0 := Aside0.mk hc0
 clear hr0 hc0
 have HR1 := Aside0.mk hr1
 have HC1 := Aside0.mk hc1
 clear hr1 hc1
 have H : (laws_pLess.l0 k l0 l1 0) = some r := h
 clear h
 have H' := Aside0.mk H
 clear H
 go_enter Tryd.func66, Tryd.ntmps66
 go_wp2
 repeat (go_quiet (fail); try go_wp2)
 go_loopg [5] k (fun kq v5 w' => ∃ (x5_1 : Int), v5 = .int .i64 x5_1 ∧ Aside0 (laws_pLess.l0 kq l0 l1 x5_1 = some r) ∧ Aside0 (kq ≤ k) ∧ Drawn0 w w')
 case atStart => exact ⟨(0), eqS, H', ⟨Nat.le_refl _⟩, by repeat (first | exact Drawn0.refl _ | apply Drawn0.step)⟩
 case round =>
  clear H'
  try clear c1
  obtain ⟨x5_1, rfl, HA, HK1, ⟨m1, rfl⟩⟩ := hrel
  cases gk with
  | zero => exact absurd HA.out (by simp [laws_pLess.l0])
  | succ k1 =>
   have H := HA.out
   clear HA
   simp only [laws_pLess.l0] at H
   have HC3 := Aside0.mk H
   clear H
   go_upto_region 2 with (fail)
   repeat (go_quiet (fail); go_upto_region 2 with (fail))
   go_cut [15] (fun v15 wc => ∃ (kq : Nat) (x15_2 : Bool), v15 = .bool x15_2 ∧ Aside0 (laws_pLess.j1 kq l0 l1 x5_1 x15_2 = some r) ∧ Aside0 (kq ≤ k1) ∧ Drawn0 w wc)
   case first =>
    have H := HC3.out
    clear HC3
    rcases iteE H with ⟨c4b0, H⟩ | ⟨c4b0, H⟩
    ·(first | rw [c4b0] | (simp only [i64_w, i32_w]; rw [c4b0]) | skip)
     have H' := Aside0.mk H
     clear H
     go_wp2
     repeat (go_quiet (fail); try go_wp2)
     go_meet
     case rel => exact ⟨_, (decide (x5_1 < (l1.length : Int))), eqS, H', ⟨by have := HK1.out; first | omega | exact Nat.le_refl _⟩, by repeat (first | exact Drawn0.refl _ | apply Drawn0.step)⟩
    ·(first | rw [c4b0] | (simp only [i64_w, i32_w]; rw [c4b0]) | skip)
     have H' := Aside0.mk H
     clear H
     go_wp2
     repeat (go_quiet (fail); try go_wp2)
     go_meet
     case rel => exact ⟨_, (false), eqS, H', ⟨by have := HK1.out; first | omega | exact Nat.le_refl _⟩, by repeat (first | exact Drawn0.refl _ | apply Drawn0.step)⟩
   case rest =>
    clear HC3
    try clear c1
    try clear c4b0
    obtain ⟨kq, x15_2, rfl, HA, HJ2, ⟨mc2, rfl⟩⟩ := hcut
    cases kq with
    | zero => exact absurd HA.out (by simp [laws_pLess.j1])
    | succ kj2 =>
     have H := HA.out
     clear HA
     simp only [laws_pLess.j1] at H
     by_cases c5 : x15_2 = true
     ·subst c5
      replace H := ifT H
      rcases iteP H with ⟨c6, H⟩ | ⟨c6, H⟩
      ·have c6b0 : decide (0 ≤ x5_1) = true := decide_eq_true c6
       clear c6
       rcases iteP H with ⟨c7, H⟩ | ⟨c7, H⟩
       ·have c7b0 : decide (x5_1 < (l0.length : Int)) = true := decide_eq_true c7
        clear c7
        rcases iteP H with ⟨c8, H⟩ | ⟨c8, H⟩
        ·have c8b0 : decide (x5_1 < (l1.length : Int)) = true := decide_eq_true c8
         clear c8
         rcases iteP H with ⟨c9, H⟩ | ⟨c9, H⟩
         ·have c9b0 : ((rd l0 x5_1) == (rd l1 x5_1)) = true := beq_iff_eq.mpr c9
          have c9b1 : ((rd l0 x5_1) != (rd l1 x5_1)) = false := bne_eq_false_iff_eq.mpr c9
          clear c9
          have H' := Aside0.mk H
          clear H
          have p1332 : 0 ≤ (x5_1 : Int) := ofd
          have q1332 : x5_1 < (l0.length : Int) := ofd
          obtain ⟨ad1332, e1332, hx1332_0⟩ := Kd.at_int HR0.out x5_1 p1332 q1332
          cases e1332
          replace p1332 := eq_true p1332
          replace q1332 := eq_true q1332
          have p1333 : 0 ≤ (x5_1 : Int) := ofd
          have q1333 : x5_1 < (l1.length : Int) := ofd
          obtain ⟨ad1333, e1333, hx1333_0⟩ := Kd.at_int HR1.out x5_1 p1333 q1333
          cases e1333
          replace p1333 := eq_true p1333
          replace q1333 := eq_true q1333
          go_wp2
          repeat (go_quiet (fail); try go_wp2)
          go_roundg kj2
          case measure => have := HK1.out; have := HJ2.out; omega
          case rel => exact ⟨(wrap64 (x5_1 + 1)), eqS, H', ⟨by have := HK1.out; have := HJ2.out; omega⟩, by repeat (first | exact Drawn0.refl _ | apply Drawn0.step)⟩
         ·have c9b0 : ((rd l0 x5_1) == (rd l1 x5_1)) = false := beq_eq_false_iff_ne.mpr c9
          have c9b1 : ((rd l0 x5_1) != (rd l1 x5_1)) = true := bne_iff_ne.mpr c9
          obtain rfl := Option.some.inj H
          have p1332 : 0 ≤ (x5_1 : Int) := ofd
          have q1332 : x5_1 < (l0.length : Int) := ofd
          obtain ⟨ad1332, e1332, hx1332_0⟩ := Kd.at_int HR0.out x5_1 p1332 q1332
          cases e1332
          replace p1332 := eq_true p1332
          replace q1332 := eq_true q1332
          have p1333 : 0 ≤ (x5_1 : Int) := ofd
          have q1333 : x5_1 < (l1.length : Int) := ofd
          obtain ⟨ad1333, e1333, hx1333_0⟩ := Kd.at_int HR1.out x5_1 p1333 q1333
          cases e1333
          replace p1333 := eq_true p1333
          replace q1333 := eq_true q1333
          have p1334 : 0 ≤ (x5_1 : Int) := ofd
          have q1334 : x5_1 < (l0.length : Int) := ofd
          obtain ⟨ad1334, e1334, hx1334_0⟩ := Kd.at_int HR0.out x5_1 p1334 q1334
          obtain rfl : ad1332 = ad1334 := (by injection e1334)
          replace p1334 := eq_true p1334
          replace q1334 := eq_true q1334
          have p1335 : 0 ≤ (x5_1 : Int) := ofd
          have q1335 : x5_1 < (l1.length : Int) := ofd
          obtain ⟨ad1335, e1335, hx1335_0⟩ := Kd.at_int HR1.out x5_1 p1335 q1335
          obtain rfl : ad1333 = ad1335 := (by injection e1335)
          replace p1335 := eq_true p1335
          replace q1335 := eq_true q1335
          go_wp2
          repeat (go_quiet (fail); try go_wp2)
          go_ret
          exact ⟨by first | rfl | (simp; done) | (simp [*]; done), by repeat (first | exact Drawn0.refl _ | apply Drawn0.step)⟩
        ·exact absurd H (by simp)
       ·exact absurd H (by simp)
      ·exact absurd H (by simp)
     ·replace c5 := Bool.eq_false_iff.mpr c5
      subst c5
      replace H := ifF H
      obtain rfl := Option.some.inj H
      go_wp2
      repeat (go_quiet (fail); try go_wp2)
      go_ret
      exact ⟨by first | rfl | (simp; done) | (simp [*]; done), by repeat (first | exact Drawn0.refl _ | apply Drawn0.step)⟩

end Go.Proofs.YteechpappfagpaaDoor.Q
