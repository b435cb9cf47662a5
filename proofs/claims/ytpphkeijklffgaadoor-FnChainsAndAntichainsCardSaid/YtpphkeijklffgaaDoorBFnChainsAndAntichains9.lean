import Derived.Test.YtpphkeijklffgaaDoorBFnChainsAndAntichains2
namespace Go.Proofs.YtpphkeijklffgaaDoor.Q
open Go.RowKit Go.Proofs.YtpphkeijklffgaaDoorW.PrintWords Go.Proofs.YtpphkeijklffgaaDoorW.PrintLast Go.Proofs.YtpphkeijklffgaaDoorW.PrintMore
attribute [local go_sem] max2_int min2_int max_two min_two max_three min_three max_four min_four neB_f
set_option linter.unusedVariables false
set_option maxHeartbeats 8000000
set_option maxRecDepth 100000
set_option linter.unusedSimpArgs false
def spec_orSet.l0 : Nat → Int → List Int → Int → Int → Option (Int)
 | 0, _, _, _, _ => none
 | k + 1, x3, x6, x7, x8 => if x8 < x7 then (if 0 ≤ x8 then (if x8 < (x6.length : Int) then (if 0 ≤ (rd x6 x8) then (spec_orSet.l0 k (Go.bits .or .i64 x3 (shl .i64 1 (rd x6 x8))) x6 x7 (wrap64 (x8 + 1))) else (none)) else (none)) else (none)) else (some x3)
def spec_orSet.f (k : Nat) (l0 : List Int) : Option (Int) := spec_orSet.l0 k 0 l0 (l0.length : Int) 0
theorem spec_orSet.mono_l : ∀ k, (∀ y0 y1 y2 y3, LeO (spec_orSet.l0 k y0 y1 y2 y3) (spec_orSet.l0 (k + 1) y0 y1 y2 y3))
 | 0 => fun _ _ _ _ r h => by simp [spec_orSet.l0] at h
 | k + 1 => by
  have ih0 := spec_orSet.mono_l k
  ·intro y0 y1 y2 y3
   unfold spec_orSet.l0
   repeat' (with_reducible first|apply ih0|apply LeO.refl|apply LeO.none|apply LeO.ite|apply LeO.bind|intro)
theorem spec_orSet.mono : ∀ a0 k, LeO (spec_orSet.f k a0) (spec_orSet.f (k + 1) a0) := by
 intro a0 k
 have ih0 := spec_orSet.mono_l k
 unfold spec_orSet.f
 repeat' (with_reducible first|apply ih0|apply LeO.refl|apply LeO.none|apply LeO.ite|apply LeO.bind|intro)
theorem spec_orSet.calls (k : Nat) (A0 : Option Addr) (c0 : Nat) (l0 : List Int) (r : Int) (w : World) (hr0 : Kd.C (Kd.int .i64) w A0 l0.length l0) (hc0 : l0.length ≤ c0) (h : spec_orSet.f k l0 = some r) :
  Calls Tryd.prog 41 #[.slice A0 l0.length c0] w fun e w' => e = .returned (.int .i64 r) ∧ Drawn0 w w' := by
 have HR0 := mkA hr0
 have HC0 := mkA hc0
 clear hr0 hc0
 have H := h
 clear h
 unfold spec_orSet.f at H
 have H' := mkA H
 clear H
 go_enter Tryd.func41, Tryd.ntmps41
 go_wp2
 go_loopg [3, 8] k (fun kq v3 v8 w' => ∃ (x3_1 : Int) (x8_1 : Int), v3 = .int .i64 x3_1 ∧ v8 = .int .i64 x8_1 ∧ Fc (spec_orSet.l0 kq x3_1 l0 (l0.length : Int) x8_1 = some r) ∧ Fc (kq ≤ k) ∧ Drawn0 w w')
 case atStart => exact ⟨(0), (0), eqS, eqS, H', ⟨Nat.le_refl _⟩, by repeat (first | exact Drawn0.refl _ | apply Drawn0.step)⟩
 case round =>
  clear H'
  obtain ⟨x3_1, x8_1, rfl, rfl, HA, HK1, ⟨m1, rfl⟩⟩ := hrel
  cases gk with
  | zero => exact absurd HA.out (by simp [spec_orSet.l0])
  | succ k1 =>
   have H := HA.out
   clear HA
   simp only [spec_orSet.l0] at H
   rcases iteE H with ⟨c2b0, H⟩ | ⟨c2b0, H⟩
   ·obtain ⟨c3b0, H⟩ := itND H
    obtain ⟨c4b0, H⟩ := itND H
    obtain ⟨c5b0, c5b1, H⟩ := itNQ H
    obtain ⟨ji6, hji6⟩ : ∃ j_ : Int, (shl .i64 1 (rd l0 x8_1)) = j_ := ⟨_, rfl⟩
    first | rw [hji6] at H | simp only [hji6] at H
    have hji6_ : (IntKind.i64.wrap (1 * 2 ^ min (rd l0 x8_1).toNat 64)) = ji6 := hji6
    have hji6z : (rd l0 x8_1) ≤ 64 → (IntKind.i64.wrap (1 * 2 ^ (rd l0 x8_1).toNat)) = ji6 := shl_small hji6
    have hji6u : (IntKind.i64.wrap (2 ^ min (rd l0 x8_1).toNat 64)) = ji6 := by have h_ := hji6_; rw [Int.one_mul] at h_; exact h_
    have hji6v : (rd l0 x8_1) ≤ 64 → (IntKind.i64.wrap (2 ^ (rd l0 x8_1).toNat)) = ji6 := fun hle_ => by have h_ := hji6z hle_; rw [Int.one_mul] at h_; exact h_
    have hji6y : (wrap64 (1 * 2 ^ min (rd l0 x8_1).toNat 64)) = ji6 := (i64_w _).symm.trans hji6_
    have hji6x : (rd l0 x8_1) ≤ 64 → (wrap64 (1 * 2 ^ (rd l0 x8_1).toNat)) = ji6 := fun h_ => (i64_w _).symm.trans (hji6z h_)
    have H' := mkA H
    clear H
    obtain ⟨p270, q270, ad270, e270, hx270_0⟩ := atI HR0.out x8_1
    cases e270
    go_wp2
    go_roundg k1
    case measure => have := HK1.out; omega
    case rel => exact ⟨(Go.bits .or .i64 x3_1 (ji6)), (wrap64 (x8_1 + 1)), (by first | rfl | (simp; done) | (simp only [← hji6] <;> (first | rfl | simp)) | (simp [*]; done)), eqS, H', ⟨by have := HK1.out; omega⟩, by repeat (first | exact Drawn0.refl _ | apply Drawn0.step)⟩
   ·obtain rfl := Option.some.inj H
    go_wp2
    go_ret
    exact ⟨eqS, drE⟩
def spec_orNames.f (k : Nat) (a0 : Int) (l1 : List Int) : Option (Bool) := if (l1.length : Int) = a0 then ((spec_l1All.f k l1 0 (wrap64 (a0 - 1))).bind fun t271 => (if t271 = true then ((spec_orSet.f k l1).bind fun t272 => (if 0 ≤ a0 then (some (t272 == (wrap64 ((shl .i64 1 a0) - 1)))) else (none))) else (some false))) else (some false)
theorem spec_orNames.mono : ∀ a0 a1 k, LeO (spec_orNames.f k a0 a1) (spec_orNames.f (k + 1) a0 a1) := by
 intro a0 a1 k
 unfold spec_orNames.f
 repeat' (with_reducible first|apply spec_l1All.mono|apply spec_orSet.mono|apply LeO.refl|apply LeO.none|apply LeO.ite|apply LeO.bind|intro)
theorem spec_orNames.calls (k : Nat) (a0 : Int) (A1 : Option Addr) (c1 : Nat) (l1 : List Int) (r : Bool) (w : World) (hr1 : Kd.C (Kd.int .i64) w A1 l1.length l1) (hc1 : l1.length ≤ c1) (h : spec_orNames.f k a0 l1 = some r) :
  Calls Tryd.prog 18 #[.int .i64 a0, .slice A1 l1.length c1] w fun e w' => e = .returned (.bool r) ∧ Drawn0 w w' := by
 have HR1 := mkA hr1
 have HC1 := mkA hc1
 clear hr1 hc1
 have H := h
 clear h
 unfold spec_orNames.f at H
 rcases iteP H with ⟨c3, H⟩ | ⟨c3, H⟩
 ·have c3b0 := beq_iff_eq.mpr c3
  have c3b1 := bne_eq_false_iff_eq.mpr c3
  clear c3
  obtain ⟨t271, A4, H⟩ := obE H
  by_cases c5 : t271 = true
  ·subst c5
   replace H := ifT H
   obtain ⟨t272, A6, H⟩ := obE H
   obtain ⟨c7b0, c7b1, H⟩ := itNQ H
   obtain ⟨ji8, hji8⟩ : ∃ j_ : Int, (shl .i64 1 a0) = j_ := ⟨_, rfl⟩
   first | rw [hji8] at H | simp only [hji8] at H
   (try rw [hji8] at A4)
   (try rw [hji8] at A6)
   have hji8_ : (IntKind.i64.wrap (1 * 2 ^ min a0.toNat 64)) = ji8 := hji8
   have hji8z : a0 ≤ 64 → (IntKind.i64.wrap (1 * 2 ^ a0.toNat)) = ji8 := shl_small hji8
   have hji8u : (IntKind.i64.wrap (2 ^ min a0.toNat 64)) = ji8 := by have h_ := hji8_; rw [Int.one_mul] at h_; exact h_
   have hji8v : a0 ≤ 64 → (IntKind.i64.wrap (2 ^ a0.toNat)) = ji8 := fun hle_ => by have h_ := hji8z hle_; rw [Int.one_mul] at h_; exact h_
   have hji8y : (wrap64 (1 * 2 ^ min a0.toNat 64)) = ji8 := (i64_w _).symm.trans hji8_
   have hji8x : a0 ≤ 64 → (wrap64 (1 * 2 ^ a0.toNat)) = ji8 := fun h_ => (i64_w _).symm.trans (hji8z h_)
   obtain rfl := Option.some.inj H
   go_enter Tryd.func18, Tryd.ntmps18
   go_wp2_with (first | (go_at_call 40; (with_reducible refine (spec_l1All.calls k _ _ l1 0 (wrap64 (a0 - 1)) true _ ?s1 ?s2 A4.out).mono ?_); (case s1 => repeat (first | exact HR1.out | (with_reducible refine Kd.C_alloc ?_ _) | (with_reducible refine Kd.C_drewN ?_ _) | (with_reducible refine Kd.C_drew ?_))); (case s2 => exact HC1.out); rintro e w' ⟨rfl, ⟨nd, rfl⟩⟩; (try first | exact ⟨rfl, _, World.drewN_drewN _ _ _⟩ | exact ⟨rfl, _, Eq.trans (World.drewN_drewN _ _ _) (congrArg (World.drewN _) (Nat.add_assoc _ _ _))⟩)) | (go_at_call 41; (with_reducible refine (spec_orSet.calls k _ _ l1 t272 _ ?s1 ?s2 A6.out).mono ?_); (case s1 => repeat (first | exact HR1.out | (with_reducible refine Kd.C_alloc ?_ _) | (with_reducible refine Kd.C_drewN ?_ _) | (with_reducible refine Kd.C_drew ?_))); (case s2 => exact HC1.out); rintro e w' ⟨rfl, ⟨nd, rfl⟩⟩; (try first | exact ⟨rfl, _, World.drewN_drewN _ _ _⟩ | exact ⟨rfl, _, Eq.trans (World.drewN_drewN _ _ _) (congrArg (World.drewN _) (Nat.add_assoc _ _ _))⟩)))
   repeat (go_quiet (first | (go_at_call 40; (with_reducible refine (spec_l1All.calls k _ _ l1 0 (wrap64 (a0 - 1)) true _ ?s1 ?s2 A4.out).mono ?_); (case s1 => repeat (first | exact HR1.out | (with_reducible refine Kd.C_alloc ?_ _) | (with_reducible refine Kd.C_drewN ?_ _) | (with_reducible refine Kd.C_drew ?_))); (case s2 => exact HC1.out); rintro e w' ⟨rfl, ⟨nd, rfl⟩⟩; (try first | exact ⟨rfl, _, World.drewN_drewN _ _ _⟩ | exact ⟨rfl, _, Eq.trans (World.drewN_drewN _ _ _) (congrArg (World.drewN _) (Nat.add_assoc _ _ _))⟩)) | (go_at_call 41; (with_reducible refine (spec_orSet.calls k _ _ l1 t272 _ ?s1 ?s2 A6.out).mono ?_); (case s1 => repeat (first | exact HR1.out | (with_reducible refine Kd.C_alloc ?_ _) | (with_reducible refine Kd.C_drewN ?_ _) | (with_reducible refine Kd.C_drew ?_))); (case s2 => exact HC1.out); rintro e w' ⟨rfl, ⟨nd, rfl⟩⟩; (try first | exact ⟨rfl, _, World.drewN_drewN _ _ _⟩ | exact ⟨rfl, _, Eq.trans (World.drewN_drewN _ _ _) (congrArg (World.drewN _) (Nat.add_assoc _ _ _))⟩))); try go_wp2_with (first | (go_at_call 40; (with_reducible refine (spec_l1All.calls k _ _ l1 0 (wrap64 (a0 - 1)) true _ ?s1 ?s2 A4.out).mono ?_); (case s1 => repeat (first | exact HR1.out | (with_reducible refine Kd.C_alloc ?_ _) | (with_reducible refine Kd.C_drewN ?_ _) | (with_reducible refine Kd.C_drew ?_))); (case s2 => exact HC1.out); rintro e w' ⟨rfl, ⟨nd, rfl⟩⟩; (try first | exact ⟨rfl, _, World.drewN_drewN _ _ _⟩ | exact ⟨rfl, _, Eq.trans (World.drewN_drewN _ _ _) (congrArg (World.drewN _) (Nat.add_assoc _ _ _))⟩)) | (go_at_call 41; (with_reducible refine (spec_orSet.calls k _ _ l1 t272 _ ?s1 ?s2 A6.out).mono ?_); (case s1 => repeat (first | exact HR1.out | (with_reducible refine Kd.C_alloc ?_ _) | (with_reducible refine Kd.C_drewN ?_ _) | (with_reducible refine Kd.C_drew ?_))); (case s2 => exact HC1.out); rintro e w' ⟨rfl, ⟨nd, rfl⟩⟩; (try first | exact ⟨rfl, _, World.drewN_drewN _ _ _⟩ | exact ⟨rfl, _, Eq.trans (World.drewN_drewN _ _ _) (congrArg (World.drewN _) (Nat.add_assoc _ _ _))⟩))))
   go_ret
   exact ⟨by first | rfl | (simp; done) | (simp only [← hji8] <;> (first | rfl | simp)) | (simp [*]; done), by repeat (first | exact Drawn0.refl _ | apply Drawn0.step)⟩
  ·replace c5 := Bool.eq_false_iff.mpr c5
   subst c5
   replace H := ifF H
   obtain rfl := Option.some.inj H
   go_enter Tryd.func18, Tryd.ntmps18
   go_wp2_with (first | (go_at_call 40; (with_reducible refine (spec_l1All.calls k _ _ l1 0 (wrap64 (a0 - 1)) false _ ?s1 ?s2 A4.out).mono ?_); (case s1 => repeat (first | exact HR1.out | (with_reducible refine Kd.C_alloc ?_ _) | (with_reducible refine Kd.C_drewN ?_ _) | (with_reducible refine Kd.C_drew ?_))); (case s2 => exact HC1.out); rintro e w' ⟨rfl, ⟨nd, rfl⟩⟩; (try first | exact ⟨rfl, _, World.drewN_drewN _ _ _⟩ | exact ⟨rfl, _, Eq.trans (World.drewN_drewN _ _ _) (congrArg (World.drewN _) (Nat.add_assoc _ _ _))⟩)))
   repeat (go_quiet (first | (go_at_call 40; (with_reducible refine (spec_l1All.calls k _ _ l1 0 (wrap64 (a0 - 1)) false _ ?s1 ?s2 A4.out).mono ?_); (case s1 => repeat (first | exact HR1.out | (with_reducible refine Kd.C_alloc ?_ _) | (with_reducible refine Kd.C_drewN ?_ _) | (with_reducible refine Kd.C_drew ?_))); (case s2 => exact HC1.out); rintro e w' ⟨rfl, ⟨nd, rfl⟩⟩; (try first | exact ⟨rfl, _, World.drewN_drewN _ _ _⟩ | exact ⟨rfl, _, Eq.trans (World.drewN_drewN _ _ _) (congrArg (World.drewN _) (Nat.add_assoc _ _ _))⟩))); try go_wp2_with (first | (go_at_call 40; (with_reducible refine (spec_l1All.calls k _ _ l1 0 (wrap64 (a0 - 1)) false _ ?s1 ?s2 A4.out).mono ?_); (case s1 => repeat (first | exact HR1.out | (with_reducible refine Kd.C_alloc ?_ _) | (with_reducible refine Kd.C_drewN ?_ _) | (with_reducible refine Kd.C_drew ?_))); (case s2 => exact HC1.out); rintro e w' ⟨rfl, ⟨nd, rfl⟩⟩; (try first | exact ⟨rfl, _, World.drewN_drewN _ _ _⟩ | exact ⟨rfl, _, Eq.trans (World.drewN_drewN _ _ _) (congrArg (World.drewN _) (Nat.add_assoc _ _ _))⟩))))
   go_ret
   exact ⟨eqS, drE⟩
 ·have c3b0 := beq_eq_false_iff_ne.mpr c3
  have c3b1 := bne_iff_ne.mpr c3
  obtain rfl := Option.some.inj H
  go_enter Tryd.func18, Tryd.ntmps18
  go_wp2
  repeat (go_quiet (fail); try go_wp2)
  go_ret
  exact ⟨eqS, drE⟩
mutual
def spec_orPart.l0 : Nat → List Int → List Int → Int → Int → Int → List Int → Int → List Int → Option (Int × List Int)
 | 0, _, _, _, _, _, _, _, _ => none
 | k + 1, x1, x14, x15, x16, x274000, x274001, x276000, x276001 => if x16 < x15 then (if 0 ≤ x16 then (if x16 < (x14.length : Int) then (spec_orPart.l1 k x1 (rd x14 x16) 0 x14 x15 x16 x1 (x1.length : Int) 0 x274000 x274001 x276000 x276001) else (none)) else (none)) else (some (x276000, x276001))
def spec_orPart.l1 : Nat → List Int → Int → Int → List Int → Int → Int → List Int → Int → Int → Int → List Int → Int → List Int → Option (Int × List Int)
 | 0, _, _, _, _, _, _, _, _, _, _, _, _, _ => none
 | k + 1, x1, x7, x8, x14, x15, x16, x20, x21, x22, x274000, x274001, x276000, x276001 => if x22 < x21 then (if 0 ≤ x22 then (if x22 < (x20.length : Int) then (if 0 ≤ x7 then (if x7 < (x274001.length : Int) then ((spec_orHas.f (rd x274001 x7) (rd x20 x22)).bind fun t279 => (if t279 = true then (spec_orPart.l1 k x1 x7 (Go.bits .or .i64 x8 (shl .i64 1 x22)) x14 x15 x16 x20 x21 (wrap64 (x22 + 1)) x274000 x274001 x276000 x276001) else (spec_orPart.l1 k x1 x7 x8 x14 x15 x16 x20 x21 (wrap64 (x22 + 1)) x274000 x274001 x276000 x276001))) else (none)) else (none)) else (none)) else (none)) else (if x276001.length < 17592186044416 then (spec_orPart.l0 k x1 x14 x15 (wrap64 (x16 + 1)) x274000 x274001 x276000 (x276001 ++ [x8])) else (none))
end
def spec_orPart.f (k : Nat) (a0_0 : Int) (l0_1 : List Int) (l1 : List Int) : Option (Int × List Int) := spec_orPart.l0 k l1 l1 (l1.length : Int) 0 a0_0 l0_1 (l1.length : Int) ([] : List Int)
theorem spec_orPart.mono_l : ∀ k, (∀ y0 y1 y2 y3 y4 y5 y6 y7, LeO (spec_orPart.l0 k y0 y1 y2 y3 y4 y5 y6 y7) (spec_orPart.l0 (k + 1) y0 y1 y2 y3 y4 y5 y6 y7)) ∧ (∀ y0 y1 y2 y3 y4 y5 y6 y7 y8 y9 y10 y11 y12, LeO (spec_orPart.l1 k y0 y1 y2 y3 y4 y5 y6 y7 y8 y9 y10 y11 y12) (spec_orPart.l1 (k + 1) y0 y1 y2 y3 y4 y5 y6 y7 y8 y9 y10 y11 y12))
 | 0 => ⟨fun _ _ _ _ _ _ _ _ r h => by simp [spec_orPart.l0] at h, fun _ _ _ _ _ _ _ _ _ _ _ _ _ r h => by simp [spec_orPart.l1] at h⟩
 | k + 1 => by
  obtain ⟨ih0, ih1⟩ := spec_orPart.mono_l k
  refine ⟨?_, ?_⟩ <;> intros
  unfold spec_orPart.l0
  rotate_left
  unfold spec_orPart.l1
  rotate_left
  all_goals repeat' (with_reducible first|apply ih0|apply ih1|apply LeO.refl|apply LeO.none|apply LeO.ite|apply LeO.bind|intro)
theorem spec_orPart.mono : ∀ a0 a1 a2 k, LeO (spec_orPart.f k a0 a1 a2) (spec_orPart.f (k + 1) a0 a1 a2) := by
 intro a0 a1 a2 k
 obtain ⟨ih0, ih1⟩ := spec_orPart.mono_l k
 unfold spec_orPart.f
 repeat' (with_reducible first|apply ih0|apply ih1|apply LeO.refl|apply LeO.none|apply LeO.ite|apply LeO.bind|intro)
theorem spec_orPart.calls (k : Nat) (a0_0 : Int) (A0_1 : Option Addr) (c0_1 : Nat) (l0_1 : List Int) (A1 : Option Addr) (c1 : Nat) (l1 : List Int) (r1 : Int) (r2 : List Int) (w : World) (hr0_1 : Kd.C (Kd.int .i64) w A0_1 l0_1.length l0_1) (hc0_1 : l0_1.length ≤ c0_1) (hr1 : Kd.C (Kd.int .i64) w A1 l1.length l1) (hc1 : l1.length ≤ c1) (h : spec_orPart.f k a0_0 l0_1 l1 = some (r1, r2)) :
  Calls Tryd.prog 19 #[.agg #[.int .i64 a0_0, .slice A0_1 l0_1.length c0_1], .slice A1 l1.length c1] w fun e w' => ∃ v1_ : Value, e = .returned (.agg #[.int .i64 r1, v1_]) ∧ Kd.R (Kd.int .i64) 3 w' w.heap.size (fun _ => True) v1_ r2 ∧ Below w.heap.size w w' := by
 have hu26 := Tryd.underlying26
 have HR0_1 := mkA hr0_1
 have HC0_1 := mkA hc0_1
 clear hr0_1 hc0_1
 have HR1 := mkA hr1
 have HC1 := mkA hc1
 clear hr1 hc1
 have HB := mkA (Below.refl w.heap.size w)
 have H := h
 clear h
 unfold spec_orPart.f at H
 have H' := mkA H
 clear H
 go_enter Tryd.func19, Tryd.ntmps19
 go_wp2_with (first | ((with_reducible refine gate_dst (N := 2) rfl ?_); refine boxG HB #[.int .i64 a0_0, .slice A0_1 l0_1.length c0_1] 26 ?_; intro gb273 hg w3 BK273 GE273 hb; replace HB := bst HB hb; clear hb hg) | ((with_reducible refine gate_dst (N := 4) rfl ?_); refine boxG HB #[.int .i64 0, .slice none 0 0] 26 ?_; intro gb274 hg w4 BK274 GE274 hb; have NB273_274 := neL7 BK273 hg; have NB274_273 := neR7 BK273 hg; replace BK273 := blkB BK273 hb; replace HB := bst HB hb; clear hb hg) | ((with_reducible refine gate_dst (N := 5) rfl ?_); refine boxG HB #[.int .i64 0, .slice none 0 0] 26 ?_; intro gb275 hg w5 BK275 GE275 hb; have NB273_275 := neL7 BK273 hg; have NB275_273 := neR7 BK273 hg; replace BK273 := blkB BK273 hb; have NB274_275 := neL7 BK274 hg; have NB275_274 := neR7 BK274 hg; replace BK274 := blkB BK274 hb; replace HB := bst HB hb; clear hb hg; obtain ⟨_, _, _, _⟩ := blk2 BK275))
 go_loopg [16] k (fun kq v16 w' => ∃ (x16_1 : Int) (x276001_1 : List Int) (u276001 : Value), v16 = .int .i64 x16_1 ∧ Fc (spec_orPart.l0 kq l1 l1 (l1.length : Int) x16_1 a0_0 l0_1 (l1.length : Int) x276001_1 = some (r1, r2)) ∧ Fc (kq ≤ k) ∧ Fc (Kd.R (Kd.int .i64) 3 w' w.heap.size (fun _ => True) u276001 x276001_1) ∧ Fc (w'.heap[gb273]? = some (.cells #[.int .i64 a0_0, (.slice A0_1 l0_1.length c0_1)] 26 (0, 0))) ∧ Fc (w'.heap[gb274]? = some (.cells #[.int .i64 0, (.slice none 0 0)] 26 (0, 0))) ∧ Fc (w'.heap[gb275]? = some (.cells #[.int .i64 (l1.length : Int), u276001] 26 (0, 0))) ∧ Fc (Below w.heap.size w w'))
 case atStart => exact ⟨(0), (([] : List Int)), (.slice none 0 0), eqS, H', ⟨Nat.le_refl _⟩, ⟨nilE⟩, ⟨blkT BK273⟩, ⟨blkT BK274⟩, ⟨blkT BK275⟩, hbg HB⟩
 case round =>
  clear H'
  try clear c1
  obtain ⟨x16_1, x276001_1, u276001, rfl, HA, HK1, HO_276001, BK273, BK274, BK275, HB⟩ := hrel
  cases gk with
  | zero => exact absurd HA.out (by simp [spec_orPart.l0])
  | succ k1 =>
   have H := HA.out
   clear HA
   simp only [spec_orPart.l0] at H
   rcases iteE H with ⟨c9b0, H⟩ | ⟨c9b0, H⟩
   ·obtain ⟨c10b0, H⟩ := itND H
    obtain ⟨c11b0, H⟩ := itND H
    have H' := mkA H
    clear H
    obtain ⟨p276, q276, ad276, e276, hx276_0⟩ := atI HR1.out x16_1
    cases e276
    replace hx276_0 := (HB.out.cell (World.block_lt_of_cell? w _ hx276_0)).trans hx276_0
    go_wp2
    go_loopg [8, 22] k1 (fun kq v8 v22 w' => ∃ (x8_2 : Int) (x22_2 : Int), v8 = .int .i64 x8_2 ∧ v22 = .int .i64 x22_2 ∧ Fc (spec_orPart.l1 kq l1 (rd l1 x16_1) x8_2 l1 (l1.length : Int) x16_1 l1 (l1.length : Int) x22_2 a0_0 l0_1 (l1.length : Int) x276001_1 = some (r1, r2)) ∧ Fc (kq ≤ k1) ∧ Fc (Kd.R (Kd.int .i64) 3 w' w.heap.size (fun _ => True) u276001 x276001_1) ∧ Fc (w'.heap[gb273]? = some (.cells #[.int .i64 a0_0, (.slice A0_1 l0_1.length c0_1)] 26 (0, 0))) ∧ Fc (w'.heap[gb274]? = some (.cells #[.int .i64 0, (.slice none 0 0)] 26 (0, 0))) ∧ Fc (w'.heap[gb275]? = some (.cells #[.int .i64 (l1.length : Int), u276001] 26 (0, 0))) ∧ Fc (Below w.heap.size w w'))
    case atStart => exact ⟨(0), (0), eqS, eqS, H', ⟨Nat.le_refl _⟩, rg HO_276001, bg BK273, bg BK274, bg BK275, hbg HB⟩
    case round =>
     clear H'
     try clear c1
     try clear c9b0
     try clear c10
     try clear c10b0
     try clear c11
     try clear c11b0
     try clear hx276_0
     try clear p276
     try clear q276
     obtain ⟨x8_2, x22_2, rfl, rfl, HA, HK2, HO_276001, BK273, BK274, BK275, HB⟩ := hrel
     cases gk with
     | zero => exact absurd HA.out (by simp [spec_orPart.l1])
     | succ k2 =>
      have H := HA.out
      clear HA
      simp only [spec_orPart.l1] at H
      rcases iteE H with ⟨c12b0, H⟩ | ⟨c12b0, H⟩
      ·obtain ⟨c13b0, H⟩ := itND H
       obtain ⟨c14b0, H⟩ := itND H
       obtain ⟨c15b0, H⟩ := itND H
       obtain ⟨c16b0, H⟩ := itND H
       obtain ⟨t279, A17, H⟩ := obE H
       by_cases c18 : t279 = true
       ·subst c18
        replace H := ifT H
        have c19b0 := eq_true (ofd : 0 ≤ x22_2)
        obtain ⟨ji20, hji20⟩ : ∃ j_ : Int, (shl .i64 1 x22_2) = j_ := ⟨_, rfl⟩
        first | rw [hji20] at H | simp only [hji20] at H
        (try rw [hji20] at A17)
        have hji20_ : (IntKind.i64.wrap (1 * 2 ^ min x22_2.toNat 64)) = ji20 := hji20
        have hji20z : x22_2 ≤ 64 → (IntKind.i64.wrap (1 * 2 ^ x22_2.toNat)) = ji20 := shl_small hji20
        have hji20u : (IntKind.i64.wrap (2 ^ min x22_2.toNat 64)) = ji20 := by have h_ := hji20_; rw [Int.one_mul] at h_; exact h_
        have hji20v : x22_2 ≤ 64 → (IntKind.i64.wrap (2 ^ x22_2.toNat)) = ji20 := fun hle_ => by have h_ := hji20z hle_; rw [Int.one_mul] at h_; exact h_
        have hji20y : (wrap64 (1 * 2 ^ min x22_2.toNat 64)) = ji20 := (i64_w _).symm.trans hji20_
        have hji20x : x22_2 ≤ 64 → (wrap64 (1 * 2 ^ x22_2.toNat)) = ji20 := fun h_ => (i64_w _).symm.trans (hji20z h_)
        have H' := mkA H
        clear H
        obtain ⟨p277, q277, ad277, e277, hx277_0⟩ := atI HR1.out x22_2
        obtain rfl : ad276 = ad277 := (by injection e277)
        replace hx277_0 := (HB.out.cell (World.block_lt_of_cell? w _ hx277_0)).trans hx277_0
        obtain ⟨_, _, _, _⟩ := blk2 BK273
        obtain ⟨p278, q278, ad278, e278, hx278_0⟩ := atI HR0_1.out (rd l1 x16_1)
        cases e278
        replace hx278_0 := (HB.out.cell (World.block_lt_of_cell? w _ hx278_0)).trans hx278_0
        go_wp2_with (first | ((with_reducible refine gate_callee (f := 35) rfl ?_); refine goesQ (some 33) Tryd.func35 #[.int .i64 (rd l0_1 (rd l1 x16_1)), .int .i64 (rd l1 x22_2)] ?_; (with_reducible refine (spec_orHas.calls (rd l0_1 (rd l1 x16_1)) (rd l1 x22_2) true _ A17.out).mono ?_); rintro e w' ⟨rfl, ⟨nd, rfl⟩⟩; refine ⟨_, rfl, ?_⟩))
        go_roundg k2
        case measure => have := HK1.out; have := HK2.out; omega
        case rel => exact ⟨(Go.bits .or .i64 x8_2 (ji20)), (wrap64 (x22_2 + 1)), (by first | rfl | (simp; done) | (simp only [← hji20] <;> (first | rfl | simp)) | (simp [*]; done)), eqS, H', ⟨by have := HK1.out; have := HK2.out; omega⟩, rg HO_276001, bg BK273, bg BK274, bg BK275, hbg HB⟩
       ·replace c18 := Bool.eq_false_iff.mpr c18
        subst c18
        replace H := ifF H
        have H' := mkA H
        clear H
        obtain ⟨p277, q277, ad277, e277, hx277_0⟩ := atI HR1.out x22_2
        obtain rfl : ad276 = ad277 := (by injection e277)
        replace hx277_0 := (HB.out.cell (World.block_lt_of_cell? w _ hx277_0)).trans hx277_0
        obtain ⟨_, _, _, _⟩ := blk2 BK273
        obtain ⟨p278, q278, ad278, e278, hx278_0⟩ := atI HR0_1.out (rd l1 x16_1)
        cases e278
        replace hx278_0 := (HB.out.cell (World.block_lt_of_cell? w _ hx278_0)).trans hx278_0
        go_wp2_with (first | ((with_reducible refine gate_callee (f := 35) rfl ?_); refine goesQ (some 33) Tryd.func35 #[.int .i64 (rd l0_1 (rd l1 x16_1)), .int .i64 (rd l1 x22_2)] ?_; (with_reducible refine (spec_orHas.calls (rd l0_1 (rd l1 x16_1)) (rd l1 x22_2) false _ A17.out).mono ?_); rintro e w' ⟨rfl, ⟨nd, rfl⟩⟩; refine ⟨_, rfl, ?_⟩))
        go_roundg k2
        case measure => have := HK1.out; have := HK2.out; omega
        case rel => exact ⟨(x8_2), (wrap64 (x22_2 + 1)), eqS, eqS, H', ⟨by have := HK1.out; have := HK2.out; omega⟩, rg HO_276001, bg BK273, bg BK274, bg BK275, hbg HB⟩
      ·obtain ⟨c27, H⟩ := itNP H
       have LMc27 := mkA c27
       clear c27
       obtain ⟨y280, hy280⟩ : ∃ y_ : List Int, y_ = (x276001_1 ++ [x8_2]) := ⟨_, rfl⟩
       rw [← hy280] at H
       have Ny280 := mkA hy280
       clear hy280
       have H' := mkA H
       clear H
       obtain ⟨_, _, _, _⟩ := blk2 BK275
       go_wp2_with (first | ((with_reducible refine gate_builtin (b := .append) (xs := #[.tmp 40, .tmp 42]) rfl ?_); at_builtin; refine Kd.R_append (Kd.int .i64) (w0 := w) w.heap.size rfl (.tmp 40) (.tmp 42) 24 3 (.int .i64 0) 8 rfl Tryd.underlying24 info3 rfl (by decide) (by omega) u276001 x276001_1 x8_2 [.int .i64 x8_2] (fun _ => True) (fun _ => False) rfl rfl ?aP (fun _ hk => hk.elim) ?aF ?aO ?aB ?aS ?aL ?_; (case aP => exact rfl); (case aB => exact (bel_g HB.out)); (case aF => exact (fun _ _ => trivial)); (case aO => exact (Kd.R_g HO_276001.out)); (case aS => exact (below_size (bel_g HB.out))); (case aL => have := LMc27.out; omega); intro v281 w31 ho hb hg hat; rw [← Ny280.out] at ho; replace BK273 := mkA (blk_grown (g := gb273) (o := .cells #[.int .i64 a0_0, .slice A0_1 l0_1.length c0_1] 26 (0, 0)) (blk_g BK273.out) hg (Kd.R_ne HO_276001.out BK273.out (by decide))); replace BK274 := mkA (blk_grown (g := gb274) (o := .cells #[.int .i64 0, .slice none 0 0] 26 (0, 0)) (blk_g BK274.out) hg (Kd.R_ne HO_276001.out BK274.out (by decide))); replace BK275 := mkA (blk_grown (g := gb275) (o := .cells #[.int .i64 (l1.length : Int), u276001] 26 (0, 0)) (blk_g BK275.out) hg (Kd.R_ne HO_276001.out BK275.out (by decide))); have HO282 := mkA (ho); replace HB := mkA (hb); clear HO_276001; clear ho hb hg hat; obtain ⟨Ao32, co32, rfl⟩ := Kd.R_slice HO282.out; obtain ⟨_, _, _, _⟩ := blk2 BK275))
       go_roundg k2
       case measure => have := HK1.out; have := HK2.out; omega
       case rel => exact ⟨(wrap64 (x16_1 + 1)), (y280), (.slice Ao32 y280.length co32), eqS, H', ⟨by have := HK1.out; have := HK2.out; omega⟩, ⟨Kd.R_g (Kd.R_mono (Kd.R_far (p := ⟨gb275, 1, none⟩) (Kd.R_types HO282.out BK275.out (by decide)) (fun _ hk => hk.2) (.slice Ao32 y280.length co32)) (fun _ hk => trivial))⟩, ⟨blkT BK273⟩, ⟨blkT BK274⟩, ⟨blkT BK275⟩, hbg HB⟩
   ·simp only [Option.some.injEq, Prod.mk.injEq] at H
    obtain ⟨rfl, rfl⟩ := H
    obtain ⟨_, _, _, _⟩ := blk2 BK275
    obtain ⟨_, _, _, _⟩ := blk2 BK274
    obtain ⟨Ao39, co39, rfl⟩ := Kd.R_slice HO_276001.out
    go_wp2
    refine bodyPost_ret (results_cell_row rfl _ _ gb274 26 #[.int .i64 (l1.length : Int), .slice Ao39 x276001_1.length co39] (0, 0) _ rfl (blkT BK274) Tryd.underlying26 rfl (by kernel_rfl)) rfl ?_
    exact ⟨_, eqE, Kd.R_g (Kd.R_mono (rF HO_276001 BK274) (fun _ _ => trivial)), bel_g HB.out⟩
end Go.Proofs.YtpphkeijklffgaaDoor.Q
