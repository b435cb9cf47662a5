import Derived.Test.YteechpappfagpaaDoorBFnExtensionsAccepted0
import Derived.Test.YteechpappfagpaaDoorBFnExtensionsAccepted7
import Derived.Test.YteechpappfagpaaDoorBFnExtensionsAccepted8
import Derived.Test.YteechpappfagpaaDoorBFnExtensionsAccepted14
-- printed by this project's own program (wip/mp/mp.py) over the kit's print, for this seat; Lean checks it
namespace Go.Proofs.YteechpappfagpaaDoor.Q
open Go.RowKit Go.Proofs.YteechpappfagpaaDoorW.PrintWords Go.Proofs.YteechpappfagpaaDoorW.PrintLast Go.Proofs.YteechpappfagpaaDoorW.PrintMore
attribute [local go_sem] max2_int min2_int max_two min_two max_three min_three max_four min_four   -- for this text's walks alone
set_option linter.unusedVariables false
set_option maxHeartbeats 8000000
set_option maxRecDepth 100000
set_option linter.unusedSimpArgs false

/-! ### spec_orNames: function 131 -/
def spec_orNames.f (k : Nat) (a0 : Int) (l1 : List Int) : Option (Bool) := if (l1.length : Int) = a0 then ((spec_l1All.f k l1 0 (wrap64 (a0 - 1))).bind fun t1321 => (if t1321 = true then ((spec_orSet.f k l1).bind fun t1322 => (if 0 ≤ a0 then (some (t1322 == (wrap64 ((shl .i64 1 a0) - 1)))) else (none))) else (some false))) else (some false)
theorem spec_orNames.mono : ∀ a0 a1 k, LeO (spec_orNames.f k a0 a1) (spec_orNames.f (k + 1) a0 a1) := by
 intro a0 a1 k
 unfold spec_orNames.f
 repeat' (with_reducible first|exact spec_l1All.mono _ _ _ _|exact spec_orSet.mono _ _|exact LeO.refl _|exact LeO.none _|refine LeO.ite ?_ ?_|refine LeO.bind ?_ (fun _ => ?_))
theorem spec_orNames.calls (k : Nat) (a0 : Int) (A1 : Option Addr) (c1 : Nat) (l1 : List Int) (r : Bool) (w : World) (hr1 : Kd.C (Kd.int .i64) w A1 l1.length l1) (hc1 : l1.length ≤ c1) (h : spec_orNames.f k a0 l1 = some r) :
  Calls Tryd.prog 131 #[.int .i64 a0, .slice A1 l1.length c1] w fun e w' => e = .returned (.bool r) ∧ Drawn0 w w' := by
 have HR1 := Aside0.mk hr1
 have HC1 := Aside0.mk hc1
 clear hr1 hc1
 have H : (if (l1.length : Int) = a0 then ((spec_l1All.f k l1 0 (wrap64 (a0 - 1))).bind fun t1321 => (if t1321 = true then ((spec_orSet.f k l1).bind fun t1322 => (if 0 ≤ a0 then (some (t1322 == (wrap64 ((shl .i64 1 a0) - 1)))) else (none))) else (some false))) else (some false)) = some r := h
 clear h
 rcases iteP H with ⟨c3, H⟩ | ⟨c3, H⟩
 ·have c3b0 : ((l1.length : Int) == a0) = true := beq_iff_eq.mpr c3
  have c3b1 : ((l1.length : Int) != a0) = false := bne_eq_false_iff_eq.mpr c3
  clear c3
  obtain ⟨t1321, A4, H⟩ := obE H
  by_cases c5 : t1321 = true
  ·subst c5
   replace H := ifT H
   obtain ⟨t1322, A6, H⟩ := obE H
   rcases iteP H with ⟨c7, H⟩ | ⟨c7, H⟩
   ·have c7b0 := eq_true c7
    have c7b1 : decide (0 ≤ a0) = true := decide_eq_true c7
    clear c7
    obtain ⟨ji8, hji8⟩ : ∃ j_ : Int, (shl .i64 1 a0) = j_ := ⟨_, rfl⟩
    replace H : (some (t1322 == (wrap64 ((ji8) - 1)))) = some r := by first | (rw [hji8] at H; exact H) | (simp only [hji8] at H ⊢; exact H)
    (try rw [hji8] at A4)
    (try rw [hji8] at A6)
    have hji8_ : (IntKind.i64.wrap (1 * 2 ^ min a0.toNat 64)) = ji8 := hji8
    have hji8z : a0 ≤ 64 → (IntKind.i64.wrap (1 * 2 ^ a0.toNat)) = ji8 := shl_small hji8
    have hji8u : (IntKind.i64.wrap (2 ^ min a0.toNat 64)) = ji8 := by have h_ := hji8_; rw [Int.one_mul] at h_; exact h_
    have hji8v : a0 ≤ 64 → (IntKind.i64.wrap (2 ^ a0.toNat)) = ji8 := fun hle_ => by have h_ := hji8z hle_; rw [Int.one_mul] at h_; exact h_
    have hji8y : (wrap64 (1 * 2 ^ min a0.toNat 64)) = ji8 := (i64_w _).symm.trans hji8_
    have hji8x : a0 ≤ 64 → (wrap64 (1 * 2 ^ a0.toNat)) = ji8 := fun h_ => (i64_w _).symm.trans (hji8z h_)
    obtain rfl := Option.some.inj H
    go_enter Tryd.func131, Tryd.ntmps131
    go_wp2_with (first | (go_at_call 103; (with_reducible refine (spec_l1All.calls k _ _ l1 0 (wrap64 (a0 - 1)) true _ ?side1 ?side2 A4.out).mono ?_); (case side1 => repeat (first | exact HR1.out | (with_reducible refine Kd.C_alloc ?_ _) | (with_reducible refine Kd.C_drewN ?_ _) | (with_reducible refine Kd.C_drew ?_))); (case side2 => exact HC1.out); rintro e w' ⟨rfl, ⟨nd, rfl⟩⟩; (try first | exact ⟨rfl, _, World.drewN_drewN _ _ _⟩ | exact ⟨rfl, _, Eq.trans (World.drewN_drewN _ _ _) (congrArg (World.drewN _) (Nat.add_assoc _ _ _))⟩)) | (go_at_call 159; (with_reducible refine (spec_orSet.calls k _ _ l1 t1322 _ ?side1 ?side2 A6.out).mono ?_); (case side1 => repeat (first | exact HR1.out | (with_reducible refine Kd.C_alloc ?_ _) | (with_reducible refine Kd.C_drewN ?_ _) | (with_reducible refine Kd.C_drew ?_))); (case side2 => exact HC1.out); rintro e w' ⟨rfl, ⟨nd, rfl⟩⟩; (try first | exact ⟨rfl, _, World.drewN_drewN _ _ _⟩ | exact ⟨rfl, _, Eq.trans (World.drewN_drewN _ _ _) (congrArg (World.drewN _) (Nat.add_assoc _ _ _))⟩)))
    repeat (go_quiet (first | (go_at_call 103; (with_reducible refine (spec_l1All.calls k _ _ l1 0 (wrap64 (a0 - 1)) true _ ?side1 ?side2 A4.out).mono ?_); (case side1 => repeat (first | exact HR1.out | (with_reducible refine Kd.C_alloc ?_ _) | (with_reducible refine Kd.C_drewN ?_ _) | (with_reducible refine Kd.C_drew ?_))); (case side2 => exact HC1.out); rintro e w' ⟨rfl, ⟨nd, rfl⟩⟩; (try first | exact ⟨rfl, _, World.drewN_drewN _ _ _⟩ | exact ⟨rfl, _, Eq.trans (World.drewN_drewN _ _ _) (congrArg (World.drewN _) (Nat.add_assoc _ _ _))⟩)) | (go_at_call 159; (with_reducible refine (spec_orSet.calls k _ _ l1 t1322 _ ?side1 ?side2 A6.out).mono ?_); (case side1 => repeat (first | exact HR1.out | (with_reducible refine Kd.C_alloc ?_ _) | (with_reducible refine Kd.C_drewN ?_ _) | (with_reducible refine Kd.C_drew ?_))); (case side2 => exact HC1.out); rintro e w' ⟨rfl, ⟨nd, rfl⟩⟩; (try first | exact ⟨rfl, _, World.drewN_drewN _ _ _⟩ | exact ⟨rfl, _, Eq.trans (World.drewN_drewN _ _ _) (congrArg (World.drewN _) (Nat.add_assoc _ _ _))⟩))); try go_wp2_with (first | (go_at_call 103; (with_reducible refine (spec_l1All.calls k _ _ l1 0 (wrap64 (a0 - 1)) true _ ?side1 ?side2 A4.out).mono ?_); (case side1 => repeat (first | exact HR1.out | (with_reducible refine Kd.C_alloc ?_ _) | (with_reducible refine Kd.C_drewN ?_ _) | (with_reducible refine Kd.C_drew ?_))); (case side2 => exact HC1.out); rintro e w' ⟨rfl, ⟨nd, rfl⟩⟩; (try first | exact ⟨rfl, _, World.drewN_drewN _ _ _⟩ | exact ⟨rfl, _, Eq.trans (World.drewN_drewN _ _ _) (congrArg (World.drewN _) (Nat.add_assoc _ _ _))⟩)) | (go_at_call 159; (with_reducible refine (spec_orSet.calls k _ _ l1 t1322 _ ?side1 ?side2 A6.out).mono ?_); (case side1 => repeat (first | exact HR1.out | (with_reducible refine Kd.C_alloc ?_ _) | (with_reducible refine Kd.C_drewN ?_ _) | (with_reducible refine Kd.C_drew ?_))); (case side2 => exact HC1.out); rintro e w' ⟨rfl, ⟨nd, rfl⟩⟩; (try first | exact ⟨rfl, _, World.drewN_drewN _ _ _⟩ | exact ⟨rfl, _, Eq.trans (World.drewN_drewN _ _ _) (congrArg (World.drewN _) (Nat.add_assoc _ _ _))⟩))))
    go_ret
    exact ⟨by first | rfl | (simp; done) | (simp only [← hji8] <;> (first | rfl | simp)) | (simp [*]; done), by repeat (first | exact Drawn0.refl _ | apply Drawn0.step)⟩
   ·exact absurd H (by simp)
  ·replace c5 := Bool.eq_false_iff.mpr c5
   subst c5
   replace H := ifF H
   obtain rfl := Option.some.inj H
   go_enter Tryd.func131, Tryd.ntmps131
   go_wp2_with (first | (go_at_call 103; (with_reducible refine (spec_l1All.calls k _ _ l1 0 (wrap64 (a0 - 1)) false _ ?side1 ?side2 A4.out).mono ?_); (case side1 => repeat (first | exact HR1.out | (with_reducible refine Kd.C_alloc ?_ _) | (with_reducible refine Kd.C_drewN ?_ _) | (with_reducible refine Kd.C_drew ?_))); (case side2 => exact HC1.out); rintro e w' ⟨rfl, ⟨nd, rfl⟩⟩; (try first | exact ⟨rfl, _, World.drewN_drewN _ _ _⟩ | exact ⟨rfl, _, Eq.trans (World.drewN_drewN _ _ _) (congrArg (World.drewN _) (Nat.add_assoc _ _ _))⟩)))
   repeat (go_quiet (first | (go_at_call 103; (with_reducible refine (spec_l1All.calls k _ _ l1 0 (wrap64 (a0 - 1)) false _ ?side1 ?side2 A4.out).mono ?_); (case side1 => repeat (first | exact HR1.out | (with_reducible refine Kd.C_alloc ?_ _) | (with_reducible refine Kd.C_drewN ?_ _) | (with_reducible refine Kd.C_drew ?_))); (case side2 => exact HC1.out); rintro e w' ⟨rfl, ⟨nd, rfl⟩⟩; (try first | exact ⟨rfl, _, World.drewN_drewN _ _ _⟩ | exact ⟨rfl, _, Eq.trans (World.drewN_drewN _ _ _) (congrArg (World.drewN _) (Nat.add_assoc _ _ _))⟩))); try go_wp2_with (first | (go_at_call 103; (with_reducible refine (spec_l1All.calls k _ _ l1 0 (wrap64 (a0 - 1)) false _ ?side1 ?side2 A4.out).mono ?_); (case side1 => repeat (first | exact HR1.out | (with_reducible refine Kd.C_alloc ?_ _) | (with_reducible refine Kd.C_drewN ?_ _) | (with_reducible refine Kd.C_drew ?_))); (case side2 => exact HC1.out); rintro e w' ⟨rfl, ⟨nd, rfl⟩⟩; (try first | exact ⟨rfl, _, World.drewN_drewN _ _ _⟩ | exact ⟨rfl, _, Eq.trans (World.drewN_drewN _ _ _) (congrArg (World.drewN _) (Nat.add_assoc _ _ _))⟩))))
   go_ret
   exact ⟨by first | rfl | (simp; done) | (simp [*]; done), by repeat (first | exact Drawn0.refl _ | apply Drawn0.step)⟩
 ·have c3b0 : ((l1.length : Int) == a0) = false := beq_eq_false_iff_ne.mpr c3
  have c3b1 : ((l1.length : Int) != a0) = true := bne_iff_ne.mpr c3
  obtain rfl := Option.some.inj H
  go_enter Tryd.func131, Tryd.ntmps131
  go_wp2
  repeat (go_quiet (fail); try go_wp2)
  go_ret
  exact ⟨by first | rfl | (simp; done) | (simp [*]; done), by repeat (first | exact Drawn0.refl _ | apply Drawn0.step)⟩

end Go.Proofs.YteechpappfagpaaDoor.Q

-- printed by this project's own program (wip/mp/mp.py) over the kit's print, for this seat; Lean checks it
namespace Go.Proofs.YteechpappfagpaaDoor.Q
open Go.RowKit Go.Proofs.YteechpappfagpaaDoorW.PrintWords Go.Proofs.YteechpappfagpaaDoorW.PrintLast Go.Proofs.YteechpappfagpaaDoorW.PrintMore
attribute [local go_sem] max2_int min2_int max_two min_two max_three min_three max_four min_four   -- for this text's walks alone
set_option linter.unusedVariables false
set_option maxHeartbeats 8000000
set_option maxRecDepth 100000
set_option linter.unusedSimpArgs false

/-! ### spec_orExtends: function 130 -/
def spec_orExtends.l0 : Nat → List Int → List Int → Int → Int → Int → List Int → Option (Bool)
 | 0, _, _, _, _, _, _ => none
 | k + 1, x1, x12, x13, x14, x1324000, x1324001 => if x14 < x13 then (if 0 ≤ x14 then (if x14 < (x12.length : Int) then ((spec_orBelow.f k x1324000 x1324001 (rd x12 x14)).bind fun t1326 => (if x14 ≤ (x1.length : Int) then ((spec_orSet.f k (x1.take (x14 : Int).toNat)).bind fun t1328 => (if (Go.bits .andNot .i64 t1326 t1328) = 0 then (spec_orExtends.l0 k x1 x12 x13 (wrap64 (x14 + 1)) x1324000 x1324001) else (some false))) else (none))) else (none)) else (none)) else (some true)
def spec_orExtends.f (k : Nat) (a0_0 : Int) (l0_1 : List Int) (l1 : List Int) : Option (Bool) := (spec_orNames.f k a0_0 l1).bind fun t1324 => (if t1324 = true then (spec_orExtends.l0 k l1 l1 (l1.length : Int) 0 a0_0 l0_1) else (some false))
theorem spec_orExtends.mono_l : ∀ k, (∀ y0 y1 y2 y3 y4 y5, LeO (spec_orExtends.l0 k y0 y1 y2 y3 y4 y5) (spec_orExtends.l0 (k + 1) y0 y1 y2 y3 y4 y5))
 | 0 => fun _ _ _ _ _ _ r h => by simp [spec_orExtends.l0] at h
 | k + 1 => by
  have ih0 := spec_orExtends.mono_l k
  ·intro y0 y1 y2 y3 y4 y5
   unfold spec_orExtends.l0
   repeat' (with_reducible first|exact ih0 _ _ _ _ _ _|exact spec_orBelow.mono _ _ _ _|exact spec_orNames.mono _ _ _|exact spec_orSet.mono _ _|exact LeO.refl _|exact LeO.none _|refine LeO.ite ?_ ?_|refine LeO.bind ?_ (fun _ => ?_))
theorem spec_orExtends.mono : ∀ a0 a1 a2 k, LeO (spec_orExtends.f k a0 a1 a2) (spec_orExtends.f (k + 1) a0 a1 a2) := by
 intro a0 a1 a2 k
 have ih0 := spec_orExtends.mono_l k
 unfold spec_orExtends.f
 repeat' (with_reducible first|exact ih0 _ _ _ _ _ _|exact spec_orBelow.mono _ _ _ _|exact spec_orNames.mono _ _ _|exact spec_orSet.mono _ _|exact LeO.refl _|exact LeO.none _|refine LeO.ite ?_ ?_|refine LeO.bind ?_ (fun _ => ?_))
def spec_orExtends.T6 : Bool × List (List Nat × List Nat) := (true, [([], []), ([], []), ([0, 1], [0, 1]), ([], []), ([], []), ([3, 4], [3, 4]), ([5, 2], [5]), ([2, 6], [2, 6]), ([7], [7])])
def spec_orExtends.B6 : List Nat := [0, 0, 3, 0, 0, 24, 63, 127, 255]
theorem spec_orExtends.tab6 : rtab .any (opsOf Tryd.f130 6) = spec_orExtends.T6 := by kernel_rfl
theorem spec_orExtends.bits6 : waitsOk spec_orExtends.T6.2 spec_orExtends.B6 = true := by kernel_rfl
theorem spec_orExtends.calls (k : Nat) (a0_0 : Int) (A0_1 : Option Addr) (c0_1 : Nat) (l0_1 : List Int) (A1 : Option Addr) (c1 : Nat) (l1 : List Int) (r : Bool) (w : World) (hr0_1 : Kd.C (Kd.int .i64) w A0_1 l0_1.length l0_1) (hc0_1 : l0_1.length ≤ c0_1) (hr1 : Kd.C (Kd.int .i64) w A1 l1.length l1) (hc1 : l1.length ≤ c1) (h : spec_orExtends.f k a0_0 l0_1 l1 = some r) :
  Calls Tryd.prog 130 #[.agg #[.int .i64 a0_0, .slice A0_1 l0_1.length c0_1], .slice A1 l1.length c1] w fun e w' => e = .returned (.bool r) ∧ Below w.heap.size w w' := by
 have hu28 := Tryd.underlying28
 have HR0_1 := Aside0.mk hr0_1
 have HC0_1 := Aside0.mk hc0_1
 clear hr0_1 hc0_1
 have HR1 := Aside0.mk hr1
 have HC1 := Aside0.mk hc1
 clear hr1 hc1
 have HB := Aside0.mk (Below.refl w.heap.size w)
 have H : ((spec_orNames.f k a0_0 l1).bind fun t1324 => (if t1324 = true then (spec_orExtends.l0 k l1 l1 (l1.length : Int) 0 a0_0 l0_1) else (some false))) = some r := h
 clear h
 obtain ⟨t1324, A3, H⟩ := obE H
 by_cases c4 : t1324 = true
 ·subst c4
  replace H := ifT H
  have H' := Aside0.mk H
  clear H
  go_enter Tryd.func130, Tryd.ntmps130
  go_wp2_with (first | ((with_reducible refine gate_dst (N := 2) rfl ?_); refine boxE (N := 2) (cs := #[.int .i64 a0_0, .slice A0_1 l0_1.length c0_1]) (t := 28) ?_; intro gb1323 hg w5 hbox hb; have BK1323 := Aside0.mk (hbox); have GE1323 := geB HB hg; replace HB := bst HB hb; clear hb hbox hg; obtain ⟨hcz6_0, hcz6_1, hfz6_0, hfz6_1⟩ := blk2 BK1323) | ((with_reducible refine gate_callee (f := 131) rfl ?_); refine goesQ (some 10) Tryd.func131 #[.int .i64 a0_0, .slice A1 l1.length c1] ?_; (with_reducible refine (spec_orNames.calls k a0_0 _ _ l1 true _ ?side1 ?side2 A3.out).mono ?_); (case side1 => exact C_g HR1 HB); (case side2 => exact HC1.out); rintro e w' ⟨rfl, ⟨nd, rfl⟩⟩; refine ⟨_, rfl, ?_⟩))
  go_loopg [14] k (fun kq v14 w' => ∃ (x14_1 : Int), v14 = .int .i64 x14_1 ∧ Aside0 (spec_orExtends.l0 kq l1 l1 (l1.length : Int) x14_1 a0_0 l0_1 = some r) ∧ Aside0 (kq ≤ k) ∧ Aside0 (w'.heap[gb1323]? = some (.cells #[.int .i64 a0_0, (.slice A0_1 l0_1.length c0_1)] 28 (0, 0))) ∧ Aside0 (Below w.heap.size w w'))
  case atStart => exact ⟨(0), eqS, H', ⟨Nat.le_refl _⟩, ⟨blk_g BK1323.out⟩, ⟨bel_g HB.out⟩⟩
  case round =>
   clear H'
   try clear c1
   try clear c4
   try clear hcz6_0
   try clear hcz6_1
   try clear hfz6_0
   try clear hfz6_1
   obtain ⟨x14_1, rfl, HA, HK1, BK1323, HB⟩ := hrel
   cases gk with
   | zero => exact absurd HA.out (by simp [spec_orExtends.l0])
   | succ k1 =>
    have H := HA.out
    clear HA
    simp only [spec_orExtends.l0] at H
    rcases iteE H with ⟨c7b0, H⟩ | ⟨c7b0, H⟩
    ·rcases iteP H with ⟨c8, H⟩ | ⟨c8, H⟩
     ·have c8b0 : decide (0 ≤ x14_1) = true := decide_eq_true c8
      clear c8
      rcases iteP H with ⟨c9, H⟩ | ⟨c9, H⟩
      ·have c9b0 : decide (x14_1 < (l1.length : Int)) = true := decide_eq_true c9
       clear c9
       obtain ⟨t1326, A10, H⟩ := obE H
       have c11b0 := eq_true (ofd : 0 ≤ x14_1)
       rcases iteP H with ⟨c12, H⟩ | ⟨c12, H⟩
       ·have c12b0 := eq_true c12
        have c12b1 : decide (x14_1 ≤ (l1.length : Int)) = true := decide_eq_true c12
        clear c12
        obtain ⟨t1328, A13, H⟩ := obE H
        rcases iteP H with ⟨c14, H⟩ | ⟨c14, H⟩
        ·have c14b0 : ((Go.bits .andNot .i64 t1326 t1328) == 0) = true := beq_iff_eq.mpr c14
         have c14b1 : ((Go.bits .andNot .i64 t1326 t1328) != 0) = false := bne_eq_false_iff_eq.mpr c14
         clear c14
         have H' := Aside0.mk H
         clear H
         have p1325 : 0 ≤ (x14_1 : Int) := ofd
         have q1325 : x14_1 < (l1.length : Int) := ofd
         obtain ⟨ad1325, e1325, hx1325_0⟩ := Kd.at_int HR1.out x14_1 p1325 q1325
         cases e1325
         replace hx1325_0 := (HB.out.cell (World.block_lt_of_cell? w _ hx1325_0)).trans hx1325_0
         replace p1325 := eq_true p1325
         replace q1325 := eq_true q1325
         try go_wp2
         replace BK1323 := Aside0.mk (blk_drew BK1323.out)
         replace HB := Aside0.mk (below_drew1 HB.out)
         obtain ⟨i016, hi016, _, hsz16, _⟩ := info_parts info3
         obtain ⟨hcut16, hA16, hC16⟩ := print_take_of (P := Tryd.prog) (Value.int .i64) 0 22 3 .i64 Tryd.underlying22 hi016 hsz16 (some ad1325) c1 l1 x14_1 (ofd) (ofd) HC1.out
         have HR1327 := Aside0.mk (Kd.C_of_reads (h1 := fun _ => rfl) (hA16 _ (Kd.reads_of_C HR1.out)))
         have HC1327 := Aside0.mk hC16
         clear hA16 hC16 hi016 hsz16
         refine start_ (n := 9) (S := fun w' => w'.cell? ⟨gb1323, 0, none⟩ = some (.int .i64 a0_0) ∧ w'.cell? ⟨gb1323, 1, none⟩ = some (.slice A0_1 l0_1.length c0_1)) (ds := []) (bm 9 0) (by kernel_rfl) rfl (by kernel_rfl) ⟨(blk_cell BK1323.out 0).trans rfl, (blk_cell BK1323.out 1).trans rfl⟩ (fun hHeld => ?_); refine with_tabW spec_orExtends.tab6 spec_orExtends.bits6 (fun HT_ HW_ => ?_)
         generalize wr.drew = w15 at BK1323 HB HR1327 hHeld ⊢
         refine pureW 1 (some 20) (bm 9 2) HT_ ?_
         refine pureW 3 (some 22) (bm 9 10) HT_ ?_
         refine pureW 4 (some 23) (bm 9 26) HT_ ?_
         refine pureW 5 (some 24) (bm 9 58) HT_ ?_
         refine takeW 0 (some 19) (bm 9 59) HT_ HW_ hHeld ?_
         refine oneW 2 (some 21) (bm 9 63) HT_ (fun K hK => ?_)
         refine goesR Tryd.func147 #[.agg #[.int .i64 a0_0, .slice A0_1 l0_1.length c0_1], .int .i64 (rd l1 x14_1)] ?_
         with_reducible refine (spec_orBelow.calls k1 a0_0 _ _ l0_1 (rd l1 x14_1) t1326 _ ?side1 ?side2 A10.out).mono ?_
         (case side1 => exact C_g HR0_1 HB)
         (case side2 => exact HC0_1.out)
         rintro e w17 ⟨rfl, hb⟩
         refine ⟨_, rfl, ?_⟩
         replace BK1323 := blkB BK1323 hb
         replace HB := bst HB hb
         (try clear hb)
         (try clear hb2)
         (try clear hk)
         (try clear hi)
         refine hK.out _ _ ⟨(blk_cell BK1323.out 0).trans rfl, (blk_cell BK1323.out 1).trans rfl⟩ (fun hHeld => ?_)
         clear hK K
         refine normW 21 ?_
         refine oneW 6 (some 25) (bm 9 127) HT_ (fun K hK => ?_)
         refine goes_ Tryd.func159 (by kernel_rfl) rfl #[.slice (some ad1325) (l1.take (x14_1 : Int).toNat).length c1] (by rfl) rfl rfl (by (try simp only [List.map_toArray, List.map_cons, List.map_nil]); first | done | (rw [show (l1.take (x14_1 : Int).toNat).length = x14_1.toNat from (by rw [List.length_take]; have h_ : (x14_1 : Int) ≤ (l1.length : Int) := ofd; omega)] <;> rfl) | rfl | (simp only [List.length_drop, List.length_take]; rfl)) ?_
         with_reducible refine (spec_orSet.calls k1 _ _ (l1.take (x14_1 : Int).toNat) t1328 _ ?side1 ?side2 A13.out).mono ?_
         (case side1 => exact C_g HR1327 HB)
         (case side2 => exact HC1327.out)
         rintro e w' ⟨rfl, ⟨nd, rfl⟩⟩
         refine ⟨_, rfl, ?_⟩
         refine hK.out _ _ ⟨(blk_cell BK1323.out 0).trans rfl, (blk_cell BK1323.out 1).trans rfl⟩ (fun hHeld => ?_)
         clear hK K
         refine normW 25 ?_
         refine pureW 7 (some 26) (bm 9 255) HT_ ?_
         refine pureW 8 (some 27) (bm 9 511) HT_ ?_
         refine doneW HT_ ?_
         try go_wp2
         go_roundg k1
         case measure => have := HK1.out; omega
         case rel => exact ⟨(wrap64 (x14_1 + 1)), eqS, H', ⟨by have := HK1.out; omega⟩, ⟨blk_g BK1323.out⟩, ⟨bel_g HB.out⟩⟩
        ·have c14b0 : ((Go.bits .andNot .i64 t1326 t1328) == 0) = false := beq_eq_false_iff_ne.mpr c14
         have c14b1 : ((Go.bits .andNot .i64 t1326 t1328) != 0) = true := bne_iff_ne.mpr c14
         obtain rfl := Option.some.inj H
         have p1325 : 0 ≤ (x14_1 : Int) := ofd
         have q1325 : x14_1 < (l1.length : Int) := ofd
         obtain ⟨ad1325, e1325, hx1325_0⟩ := Kd.at_int HR1.out x14_1 p1325 q1325
         cases e1325
         replace hx1325_0 := (HB.out.cell (World.block_lt_of_cell? w _ hx1325_0)).trans hx1325_0
         replace p1325 := eq_true p1325
         replace q1325 := eq_true q1325
         try go_wp2
         replace BK1323 := Aside0.mk (blk_drew BK1323.out)
         replace HB := Aside0.mk (below_drew1 HB.out)
         obtain ⟨i019, hi019, _, hsz19, _⟩ := info_parts info3
         obtain ⟨hcut19, hA19, hC19⟩ := print_take_of (P := Tryd.prog) (Value.int .i64) 0 22 3 .i64 Tryd.underlying22 hi019 hsz19 (some ad1325) c1 l1 x14_1 (ofd) (ofd) HC1.out
         have HR1327 := Aside0.mk (Kd.C_of_reads (h1 := fun _ => rfl) (hA19 _ (Kd.reads_of_C HR1.out)))
         have HC1327 := Aside0.mk hC19
         clear hA19 hC19 hi019 hsz19
         refine start_ (n := 9) (S := fun w' => w'.cell? ⟨gb1323, 0, none⟩ = some (.int .i64 a0_0) ∧ w'.cell? ⟨gb1323, 1, none⟩ = some (.slice A0_1 l0_1.length c0_1)) (ds := []) (bm 9 0) (by kernel_rfl) rfl (by kernel_rfl) ⟨(blk_cell BK1323.out 0).trans rfl, (blk_cell BK1323.out 1).trans rfl⟩ (fun hHeld => ?_); refine with_tabW spec_orExtends.tab6 spec_orExtends.bits6 (fun HT_ HW_ => ?_)
         generalize wr.drew = w18 at BK1323 HB HR1327 hHeld ⊢
         refine pureW 1 (some 20) (bm 9 2) HT_ ?_
         refine pureW 3 (some 22) (bm 9 10) HT_ ?_
         refine pureW 4 (some 23) (bm 9 26) HT_ ?_
         refine pureW 5 (some 24) (bm 9 58) HT_ ?_
         refine takeW 0 (some 19) (bm 9 59) HT_ HW_ hHeld ?_
         refine oneW 2 (some 21) (bm 9 63) HT_ (fun K hK => ?_)
         refine goesR Tryd.func147 #[.agg #[.int .i64 a0_0, .slice A0_1 l0_1.length c0_1], .int .i64 (rd l1 x14_1)] ?_
         with_reducible refine (spec_orBelow.calls k1 a0_0 _ _ l0_1 (rd l1 x14_1) t1326 _ ?side1 ?side2 A10.out).mono ?_
         (case side1 => exact C_g HR0_1 HB)
         (case side2 => exact HC0_1.out)
         rintro e w20 ⟨rfl, hb⟩
         refine ⟨_, rfl, ?_⟩
         replace BK1323 := blkB BK1323 hb
         replace HB := bst HB hb
         (try clear hb)
         (try clear hb2)
         (try clear hk)
         (try clear hi)
         refine hK.out _ _ ⟨(blk_cell BK1323.out 0).trans rfl, (blk_cell BK1323.out 1).trans rfl⟩ (fun hHeld => ?_)
         clear hK K
         refine normW 21 ?_
         refine oneW 6 (some 25) (bm 9 127) HT_ (fun K hK => ?_)
         refine goes_ Tryd.func159 (by kernel_rfl) rfl #[.slice (some ad1325) (l1.take (x14_1 : Int).toNat).length c1] (by rfl) rfl rfl (by (try simp only [List.map_toArray, List.map_cons, List.map_nil]); first | done | (rw [show (l1.take (x14_1 : Int).toNat).length = x14_1.toNat from (by rw [List.length_take]; have h_ : (x14_1 : Int) ≤ (l1.length : Int) := ofd; omega)] <;> rfl) | rfl | (simp only [List.length_drop, List.length_take]; rfl)) ?_
         with_reducible refine (spec_orSet.calls k1 _ _ (l1.take (x14_1 : Int).toNat) t1328 _ ?side1 ?side2 A13.out).mono ?_
         (case side1 => exact C_g HR1327 HB)
         (case side2 => exact HC1327.out)
         rintro e w' ⟨rfl, ⟨nd, rfl⟩⟩
         refine ⟨_, rfl, ?_⟩
         refine hK.out _ _ ⟨(blk_cell BK1323.out 0).trans rfl, (blk_cell BK1323.out 1).trans rfl⟩ (fun hHeld => ?_)
         clear hK K
         refine normW 25 ?_
         refine pureW 7 (some 26) (bm 9 255) HT_ ?_
         refine pureW 8 (some 27) (bm 9 511) HT_ ?_
         refine doneW HT_ ?_
         try go_wp2
         go_ret
         exact ⟨eqE, bel_g HB.out⟩
       ·exact absurd H (by simp)
      ·exact absurd H (by simp)
     ·exact absurd H (by simp)
    ·obtain rfl := Option.some.inj H
     go_wp2
     go_ret
     exact ⟨eqE, bel_g HB.out⟩
 ·replace c4 := Bool.eq_false_iff.mpr c4
  subst c4
  replace H := ifF H
  obtain rfl := Option.some.inj H
  go_enter Tryd.func130, Tryd.ntmps130
  go_wp2_with (first | ((with_reducible refine gate_dst (N := 2) rfl ?_); refine boxE (N := 2) (cs := #[.int .i64 a0_0, .slice A0_1 l0_1.length c0_1]) (t := 28) ?_; intro gb1323 hg w21 hbox hb; have BK1323 := Aside0.mk (hbox); have GE1323 := geB HB hg; replace HB := bst HB hb; clear hb hbox hg; obtain ⟨hcz22_0, hcz22_1, hfz22_0, hfz22_1⟩ := blk2 BK1323) | ((with_reducible refine gate_callee (f := 131) rfl ?_); refine goesQ (some 10) Tryd.func131 #[.int .i64 a0_0, .slice A1 l1.length c1] ?_; (with_reducible refine (spec_orNames.calls k a0_0 _ _ l1 false _ ?side1 ?side2 A3.out).mono ?_); (case side1 => exact C_g HR1 HB); (case side2 => exact HC1.out); rintro e w' ⟨rfl, ⟨nd, rfl⟩⟩; refine ⟨_, rfl, ?_⟩))
  go_ret
  exact ⟨eqE, bel_g HB.out⟩

end Go.Proofs.YteechpappfagpaaDoor.Q

-- printed by this project's own program (wip/mp/mp.py) over the kit's print, for this seat; Lean checks it
namespace Go.Proofs.YteechpappfagpaaDoor.Q
open Go.RowKit Go.Proofs.YteechpappfagpaaDoorW.PrintWords Go.Proofs.YteechpappfagpaaDoorW.PrintLast Go.Proofs.YteechpappfagpaaDoorW.PrintMore
attribute [local go_sem] max2_int min2_int max_two min_two max_three min_three max_four min_four   -- for this text's walks alone
set_option linter.unusedVariables false
set_option maxHeartbeats 8000000
set_option maxRecDepth 100000
set_option linter.unusedSimpArgs false

/-! ### spec_IsExtension: function 65 -/
def spec_IsExtension.f (k : Nat) (a0_0 : Int) (l0_1 : List Int) (l1 : List Int) : Option (Bool × Bool) := (spec_orGood.f k a0_0 l0_1).bind fun t1330 => (if t1330 = true then ((spec_orExtends.f k a0_0 l0_1 l1).bind fun t1331 => (some (t1331, true))) else (some (false, false)))
theorem spec_IsExtension.mono : ∀ a0 a1 a2 k, LeO (spec_IsExtension.f k a0 a1 a2) (spec_IsExtension.f (k + 1) a0 a1 a2) := by
 intro a0 a1 a2 k
 unfold spec_IsExtension.f
 repeat' (with_reducible first|exact spec_orExtends.mono _ _ _ _|exact spec_orGood.mono _ _ _|exact LeO.refl _|exact LeO.none _|refine LeO.ite ?_ ?_|refine LeO.bind ?_ (fun _ => ?_))
theorem spec_IsExtension.calls (k : Nat) (a0_0 : Int) (A0_1 : Option Addr) (c0_1 : Nat) (l0_1 : List Int) (A1 : Option Addr) (c1 : Nat) (l1 : List Int) (r1 : Bool) (r2 : Bool) (w : World) (hr0_1 : Kd.C (Kd.int .i64) w A0_1 l0_1.length l0_1) (hc0_1 : l0_1.length ≤ c0_1) (hr1 : Kd.C (Kd.int .i64) w A1 l1.length l1) (hc1 : l1.length ≤ c1) (h : spec_IsExtension.f k a0_0 l0_1 l1 = some (r1, r2)) :
  Calls Tryd.prog 65 #[.agg #[.int .i64 a0_0, .slice A0_1 l0_1.length c0_1], .slice A1 l1.length c1] w fun e w' => e = .returned (.tuple #[.bool r1, .bool r2]) ∧ Below w.heap.size w w' := by
 have hu28 := Tryd.underlying28
 have HR0_1 := Aside0.mk hr0_1
 have HC0_1 := Aside0.mk hc0_1
 clear hr0_1 hc0_1
 have HR1 := Aside0.mk hr1
 have HC1 := Aside0.mk hc1
 clear hr1 hc1
 have HB := Aside0.mk (Below.refl w.heap.size w)
 have H : ((spec_orGood.f k a0_0 l0_1).bind fun t1330 => (if t1330 = true then ((spec_orExtends.f k a0_0 l0_1 l1).bind fun t1331 => (some (t1331, true))) else (some (false, false)))) = some (r1, r2) := h
 clear h
 obtain ⟨t1330, A3, H⟩ := obE H
 by_cases c4 : t1330 = true
 ·subst c4
  replace H := ifT H
  obtain ⟨t1331, A5, H⟩ := obE H
  simp only [Option.some.injEq, Prod.mk.injEq] at H
  obtain ⟨rfl, rfl⟩ := H
  go_enter Tryd.func65, Tryd.ntmps65
  go_wp2_with (first | ((with_reducible refine gate_dst (N := 2) rfl ?_); refine boxE (N := 2) (cs := #[.int .i64 a0_0, .slice A0_1 l0_1.length c0_1]) (t := 28) ?_; intro gb1329 hg w6 hbox hb; have BK1329 := Aside0.mk (hbox); have GE1329 := geB HB hg; replace HB := bst HB hb; clear hb hbox hg; obtain ⟨hcz7_0, hcz7_1, hfz7_0, hfz7_1⟩ := blk2 BK1329) | ((with_reducible refine gate_callee (f := 84) rfl ?_); refine goesQ (some 7) Tryd.func84 #[.agg #[.int .i64 a0_0, .slice A0_1 l0_1.length c0_1]] ?_; (with_reducible refine (spec_orGood.calls k a0_0 _ _ l0_1 true _ ?side1 ?side2 A3.out).mono ?_); (case side1 => exact C_g HR0_1 HB); (case side2 => exact HC0_1.out); rintro e w8 ⟨rfl, hb⟩; refine ⟨_, rfl, ?_⟩; replace BK1329 := blkB BK1329 hb; replace HB := bst HB hb; (try clear hb); obtain ⟨hcz9_0, hcz9_1, hfz9_0, hfz9_1⟩ := blk2 BK1329) | ((with_reducible refine gate_callee (f := 130) rfl ?_); refine goesQ (some 11) Tryd.func130 #[.agg #[.int .i64 a0_0, .slice A0_1 l0_1.length c0_1], .slice A1 l1.length c1] ?_; (with_reducible refine (spec_orExtends.calls k a0_0 _ _ l0_1 _ _ l1 t1331 _ ?side1 ?side2 ?side3 ?side4 A5.out).mono ?_); (case side1 => exact C_g HR0_1 HB); (case side2 => exact HC0_1.out); (case side3 => exact C_g HR1 HB); (case side4 => exact HC1.out); rintro e w10 ⟨rfl, hb⟩; refine ⟨_, rfl, ?_⟩; replace BK1329 := blkB BK1329 hb; replace HB := bst HB hb; (try clear hb)))
  go_ret2
  exact ⟨eqE, bel_g HB.out⟩
 ·replace c4 := Bool.eq_false_iff.mpr c4
  subst c4
  replace H := ifF H
  simp only [Option.some.injEq, Prod.mk.injEq] at H
  obtain ⟨rfl, rfl⟩ := H
  go_enter Tryd.func65, Tryd.ntmps65
  go_wp2_with (first | ((with_reducible refine gate_dst (N := 2) rfl ?_); refine boxE (N := 2) (cs := #[.int .i64 a0_0, .slice A0_1 l0_1.length c0_1]) (t := 28) ?_; intro gb1329 hg w11 hbox hb; have BK1329 := Aside0.mk (hbox); have GE1329 := geB HB hg; replace HB := bst HB hb; clear hb hbox hg; obtain ⟨hcz12_0, hcz12_1, hfz12_0, hfz12_1⟩ := blk2 BK1329) | ((with_reducible refine gate_callee (f := 84) rfl ?_); refine goesQ (some 7) Tryd.func84 #[.agg #[.int .i64 a0_0, .slice A0_1 l0_1.length c0_1]] ?_; (with_reducible refine (spec_orGood.calls k a0_0 _ _ l0_1 false _ ?side1 ?side2 A3.out).mono ?_); (case side1 => exact C_g HR0_1 HB); (case side2 => exact HC0_1.out); rintro e w13 ⟨rfl, hb⟩; refine ⟨_, rfl, ?_⟩; replace BK1329 := blkB BK1329 hb; replace HB := bst HB hb; (try clear hb)))
  go_ret2
  exact ⟨eqE, bel_g HB.out⟩

end Go.Proofs.YteechpappfagpaaDoor.Q
