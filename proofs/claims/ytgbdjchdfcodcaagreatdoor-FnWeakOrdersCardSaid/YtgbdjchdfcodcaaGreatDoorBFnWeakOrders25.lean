import Derived.Test.YtgbdjchdfcodcaaGreatDoorBFnWeakOrders19
import Derived.Test.YtgbdjchdfcodcaaGreatDoorBFnWeakOrders24
namespace Go.Proofs.YtgbdjchdfcodcaaGreatDoor.Q
open Go.RowKit Go.Proofs.YtgbdjchdfcodcaaGreatDoorW.PrintWords Go.Proofs.YtgbdjchdfcodcaaGreatDoorW.PrintLast Go.Proofs.YtgbdjchdfcodcaaGreatDoorW.PrintMore
attribute [local go_sem] max2_int min2_int max_two min_two max_three min_three max_four min_four neB_f
set_option linter.unusedVariables false
set_option maxHeartbeats 8000000
set_option maxRecDepth 100000
set_option linter.unusedSimpArgs false
def cmp_Less_int.f (a0 : Int) (a1 : Int) : Option (Bool) := (cmp_isNaN_int.f a0).bind fun t431 => (if t431 = true then ((cmp_isNaN_int.f a1).bind fun t432 => (if t432 = true then (some (decide (a0 < a1))) else (some true))) else (some (decide (a0 < a1))))
theorem cmp_Less_int.calls (a0 : Int) (a1 : Int) (r : Bool) (w : World) (h : cmp_Less_int.f a0 a1 = some r) :
  Calls Tryz.prog 79 #[.int .i64 a0, .int .i64 a1] w fun e w' => e = .returned (.bool r) ∧ Drawn0 w w' := by
 have H := h
 clear h
 unfold cmp_Less_int.f at H
 obtain ⟨t431, A3, H⟩ := obE H
 by_cases c4 : t431 = true
 ·subst c4
  replace H := ifT H
  obtain ⟨t432, A5, H⟩ := obE H
  by_cases c6 : t432 = true
  ·subst c6
   replace H := ifT H
   obtain rfl := Option.some.inj H
   go_enter Tryz.func79, Tryz.ntmps79
   go_wp2_with (first | ((with_reducible refine gate_callee (f := 87) rfl ?_); refine goesQ (some 6) Tryz.func87 #[.int .i64 a0] ?_; (with_reducible refine (cmp_isNaN_int.calls a0 true _ A3.out).mono ?_); rintro e w' ⟨rfl, ⟨nd, rfl⟩⟩; refine ⟨_, rfl, ?_⟩) | (go_at_call 87; (with_reducible refine (cmp_isNaN_int.calls a1 true _ A5.out).mono ?_); rintro e w' ⟨rfl, ⟨nd, rfl⟩⟩))
   go_ret
   exact ⟨eqS, drE⟩
  ·replace c6 := Bool.eq_false_iff.mpr c6
   subst c6
   replace H := ifF H
   obtain rfl := Option.some.inj H
   go_enter Tryz.func79, Tryz.ntmps79
   go_wp2_with (first | ((with_reducible refine gate_callee (f := 87) rfl ?_); refine goesQ (some 6) Tryz.func87 #[.int .i64 a0] ?_; (with_reducible refine (cmp_isNaN_int.calls a0 true _ A3.out).mono ?_); rintro e w' ⟨rfl, ⟨nd, rfl⟩⟩; refine ⟨_, rfl, ?_⟩) | (go_at_call 87; (with_reducible refine (cmp_isNaN_int.calls a1 false _ A5.out).mono ?_); rintro e w' ⟨rfl, ⟨nd, rfl⟩⟩))
   go_ret
   exact ⟨eqS, drE⟩
 ·replace c4 := Bool.eq_false_iff.mpr c4
  subst c4
  replace H := ifF H
  obtain rfl := Option.some.inj H
  go_enter Tryz.func79, Tryz.ntmps79
  go_wp2_with (first | ((with_reducible refine gate_callee (f := 87) rfl ?_); refine goesQ (some 6) Tryz.func87 #[.int .i64 a0] ?_; (with_reducible refine (cmp_isNaN_int.calls a0 false _ A3.out).mono ?_); rintro e w' ⟨rfl, ⟨nd, rfl⟩⟩; refine ⟨_, rfl, ?_⟩))
  go_ret
  exact ⟨eqS, drE⟩
def slices_isNaN_int.f (a0 : Int) : Option (Bool) := some (a0 != a0)
theorem slices_isNaN_int.calls (a0 : Int) (r : Bool) (w : World) (h : slices_isNaN_int.f a0 = some r) :
  Calls Tryz.prog 80 #[.int .i64 a0] w fun e w' => e = .returned (.bool r) ∧ Drawn0 w w' := by
 have H := h
 clear h
 unfold slices_isNaN_int.f at H
 obtain rfl := Option.some.inj H
 go_enter Tryz.func80, Tryz.ntmps80
 go_wp2
 go_ret
 exact ⟨eqS, drE⟩
def slices_BinarySearch_int_int.l0 : Nat → List Int → Int → Int → Int → Int → Option (Int × Bool)
 | 0, _, _, _, _, _ => none
 | k + 1, x0, x1, x6, x7, x8 => if x7 < x8 then (if 0 ≤ (wrap64 ((IntKind.u64.wrap (wrap64 (x7 + x8))) / 2)) then (if (wrap64 ((IntKind.u64.wrap (wrap64 (x7 + x8))) / 2)) < (x0.length : Int) then ((cmp_Less_int.f (rd x0 (wrap64 ((IntKind.u64.wrap (wrap64 (x7 + x8))) / 2))) x1).bind fun t769 => (if t769 = true then (slices_BinarySearch_int_int.l0 k x0 x1 x6 (wrap64 ((wrap64 ((IntKind.u64.wrap (wrap64 (x7 + x8))) / 2)) + 1)) x8) else (slices_BinarySearch_int_int.l0 k x0 x1 x6 x7 (wrap64 ((IntKind.u64.wrap (wrap64 (x7 + x8))) / 2))))) else (none)) else (none)) else (if x7 < x6 then (if 0 ≤ x7 then (if x7 < (x0.length : Int) then (if (rd x0 x7) = x1 then (some (x7, true)) else ((slices_isNaN_int.f (rd x0 x7)).bind fun t772 => (if t772 = true then ((slices_isNaN_int.f x1).bind fun t773 => (some (x7, t773))) else (some (x7, false))))) else (none)) else (none)) else (some (x7, false)))
def slices_BinarySearch_int_int.f (k : Nat) (l0 : List Int) (a1 : Int) : Option (Int × Bool) := slices_BinarySearch_int_int.l0 k l0 a1 (l0.length : Int) 0 (l0.length : Int)
theorem slices_BinarySearch_int_int.mono_l : ∀ k, (∀ y0 y1 y2 y3 y4, LeO (slices_BinarySearch_int_int.l0 k y0 y1 y2 y3 y4) (slices_BinarySearch_int_int.l0 (k + 1) y0 y1 y2 y3 y4))
 | 0 => fun _ _ _ _ _ r h => by simp [slices_BinarySearch_int_int.l0] at h
 | k + 1 => by
  have ih0 := slices_BinarySearch_int_int.mono_l k
  ·intro y0 y1 y2 y3 y4
   unfold slices_BinarySearch_int_int.l0
   repeat' (with_reducible first|apply ih0|apply LeO.refl|apply LeO.none|apply LeO.ite|apply LeO.bind|intro)
theorem slices_BinarySearch_int_int.mono : ∀ a0 a1 k, LeO (slices_BinarySearch_int_int.f k a0 a1) (slices_BinarySearch_int_int.f (k + 1) a0 a1) := by
 intro a0 a1 k
 have ih0 := slices_BinarySearch_int_int.mono_l k
 unfold slices_BinarySearch_int_int.f
 repeat' (with_reducible first|apply ih0|apply LeO.refl|apply LeO.none|apply LeO.ite|apply LeO.bind|intro)
theorem slices_BinarySearch_int_int.calls (k : Nat) (A0 : Option Addr) (c0 : Nat) (l0 : List Int) (a1 : Int) (r1 : Int) (r2 : Bool) (w : World) (hr0 : Kd.C (Kd.int .i64) w A0 l0.length l0) (hc0 : l0.length ≤ c0) (h : slices_BinarySearch_int_int.f k l0 a1 = some (r1, r2)) :
  Calls Tryz.prog 65 #[.slice A0 l0.length c0, .int .i64 a1] w fun e w' => e = .returned (.tuple #[.int .i64 r1, .bool r2]) ∧ Drawn0 w w' := by
 have HR0 := mkA hr0
 have HC0 := mkA hc0
 clear hr0 hc0
 have H := h
 clear h
 unfold slices_BinarySearch_int_int.f at H
 have H' := mkA H
 clear H
 go_enter Tryz.func65, Tryz.ntmps65
 go_wp2
 go_loopg [7, 8] k (fun kq v7 v8 w' => ∃ (x7_1 : Int) (x8_1 : Int), v7 = .int .i64 x7_1 ∧ v8 = .int .i64 x8_1 ∧ Fc (slices_BinarySearch_int_int.l0 kq l0 a1 (l0.length : Int) x7_1 x8_1 = some (r1, r2)) ∧ Fc (kq ≤ k) ∧ Drawn0 w w')
 case atStart => exact ⟨(0), ((l0.length : Int)), eqS, eqS, H', ⟨Nat.le_refl _⟩, by repeat (first | exact Drawn0.refl _ | apply Drawn0.step)⟩
 case round =>
  clear H'
  obtain ⟨x7_1, x8_1, rfl, rfl, HA, HK1, ⟨m1, rfl⟩⟩ := hrel
  cases gk with
  | zero => exact absurd HA.out (by simp [slices_BinarySearch_int_int.l0])
  | succ k1 =>
   have H := HA.out
   clear HA
   simp only [slices_BinarySearch_int_int.l0] at H
   rcases iteE H with ⟨c3b0, H⟩ | ⟨c3b0, H⟩
   ·obtain ⟨ji4, hji4⟩ : ∃ j_ : Int, (wrap64 ((IntKind.u64.wrap (wrap64 (x7_1 + x8_1))) / 2)) = j_ := ⟨_, rfl⟩
    first | rw [hji4] at H | simp only [hji4] at H
    have hji4w : (IntKind.i64.wrap ((IntKind.u64.wrap (wrap64 (x7_1 + x8_1))) / 2)) = ji4 := (i64_w _).trans hji4
    obtain ⟨c5b0, H⟩ := itND H
    obtain ⟨c6b0, H⟩ := itND H
    obtain ⟨t769, A7, H⟩ := obE H
    by_cases c8 : t769 = true
    ·subst c8
     replace H := ifT H
     have H' := mkA H
     clear H
     obtain ⟨p768, q768, ad768, e768, hx768_0⟩ := atI HR0.out (ji4)
     cases e768
     go_wp2_with (first | ((with_reducible refine gate_callee (f := 79) rfl ?_); refine goesL_ (some 27) rfl rfl Tryz.func79 (by kernel_rfl) rfl #[.int .i64 (rd l0 (ji4)), .int .i64 a1] rfl (by (try simp only [List.map_toArray, List.map_cons, List.map_nil]); first | done | (simp only [hji4]; rfl) | rfl | (simp only [List.length_drop, List.length_take]; rfl)) ?_; (with_reducible refine (cmp_Less_int.calls (rd l0 (ji4)) a1 true _ A7.out).mono ?_); rintro e w' ⟨rfl, ⟨nd, rfl⟩⟩; refine ⟨_, rfl, ?_⟩))
     go_roundg k1
     case measure => have := HK1.out; omega
     case rel => exact ⟨(wrap64 ((ji4) + 1)), (x8_1), (by first | rfl | (simp; done) | (simp only [← hji4] <;> (first | rfl | simp)) | (simp [*]; done)), eqS, H', ⟨by have := HK1.out; omega⟩, by repeat (first | exact Drawn0.refl _ | apply Drawn0.step)⟩
    ·replace c8 := Bool.eq_false_iff.mpr c8
     subst c8
     replace H := ifF H
     have H' := mkA H
     clear H
     obtain ⟨p768, q768, ad768, e768, hx768_0⟩ := atI HR0.out (ji4)
     cases e768
     go_wp2_with (first | ((with_reducible refine gate_callee (f := 79) rfl ?_); refine goesL_ (some 27) rfl rfl Tryz.func79 (by kernel_rfl) rfl #[.int .i64 (rd l0 (ji4)), .int .i64 a1] rfl (by (try simp only [List.map_toArray, List.map_cons, List.map_nil]); first | done | (simp only [hji4]; rfl) | rfl | (simp only [List.length_drop, List.length_take]; rfl)) ?_; (with_reducible refine (cmp_Less_int.calls (rd l0 (ji4)) a1 false _ A7.out).mono ?_); rintro e w' ⟨rfl, ⟨nd, rfl⟩⟩; refine ⟨_, rfl, ?_⟩))
     go_roundg k1
     case measure => have := HK1.out; omega
     case rel => exact ⟨(x7_1), (ji4), eqS, (by first | rfl | (simp; done) | (simp only [← hji4] <;> (first | rfl | simp)) | (simp [*]; done)), H', ⟨by have := HK1.out; omega⟩, by repeat (first | exact Drawn0.refl _ | apply Drawn0.step)⟩
   ·rcases iteE H with ⟨c9b0, H⟩ | ⟨c9b0, H⟩
    ·obtain ⟨c10b0, H⟩ := itND H
     obtain ⟨c11b0, H⟩ := itND H
     rcases iteP H with ⟨c12, H⟩ | ⟨c12, H⟩
     ·have c12b0 := beq_iff_eq.mpr c12
      have c12b1 := bne_eq_false_iff_eq.mpr c12
      clear c12
      simp only [Option.some.injEq, Prod.mk.injEq] at H
      obtain ⟨rfl, rfl⟩ := H
      obtain ⟨p770, q770, ad770, e770, hx770_0⟩ := atI HR0.out x7_1
      cases e770
      go_wp2
      go_ret2
      exact ⟨eqS, drE⟩
     ·have c12b0 := beq_eq_false_iff_ne.mpr c12
      have c12b1 := bne_iff_ne.mpr c12
      obtain ⟨t772, A13, H⟩ := obE H
      by_cases c14 : t772 = true
      ·subst c14
       replace H := ifT H
       obtain ⟨t773, A15, H⟩ := obE H
       simp only [Option.some.injEq, Prod.mk.injEq] at H
       obtain ⟨rfl, rfl⟩ := H
       obtain ⟨p770, q770, ad770, e770, hx770_0⟩ := atI HR0.out x7_1
       cases e770
       obtain ⟨p771, q771, ad771, e771, hx771_0⟩ := atI HR0.out x7_1
       obtain rfl : ad770 = ad771 := (by injection e771)
       go_wp2_with (first | (go_at_call 80; (with_reducible refine (slices_isNaN_int.calls (rd l0 x7_1) true _ A13.out).mono ?_); rintro e w' ⟨rfl, ⟨nd, rfl⟩⟩) | (go_at_call 80; (with_reducible refine (slices_isNaN_int.calls a1 t773 _ A15.out).mono ?_); rintro e w' ⟨rfl, ⟨nd, rfl⟩⟩))
       go_ret2
       exact ⟨eqS, drE⟩
      ·replace c14 := Bool.eq_false_iff.mpr c14
       subst c14
       replace H := ifF H
       simp only [Option.some.injEq, Prod.mk.injEq] at H
       obtain ⟨rfl, rfl⟩ := H
       obtain ⟨p770, q770, ad770, e770, hx770_0⟩ := atI HR0.out x7_1
       cases e770
       obtain ⟨p771, q771, ad771, e771, hx771_0⟩ := atI HR0.out x7_1
       obtain rfl : ad770 = ad771 := (by injection e771)
       go_wp2_with (first | (go_at_call 80; (with_reducible refine (slices_isNaN_int.calls (rd l0 x7_1) false _ A13.out).mono ?_); rintro e w' ⟨rfl, ⟨nd, rfl⟩⟩))
       go_ret2
       exact ⟨eqS, drE⟩
    ·simp only [Option.some.injEq, Prod.mk.injEq] at H
     obtain ⟨rfl, rfl⟩ := H
     go_wp2
     go_ret2
     exact ⟨eqS, drE⟩
def impl_leveled.l0 : Nat → List Int → List Int → List Int → Int → Int → Option (List Int)
 | 0, _, _, _, _, _ => none
 | k + 1, x3, x4, x12, x13, x14 => if x14 < x13 then (if 0 ≤ x14 then (if x14 < (x12.length : Int) then ((slices_BinarySearch_int_int.f k x4 (rd x12 x14)).bind fun bt781 => (if x3.length < 17592186044416 then (impl_leveled.l0 k (x3 ++ [bt781.1]) x4 x12 x13 (wrap64 (x14 + 1))) else (none))) else (none)) else (none)) else (some x3)
def impl_leveled.f (k : Nat) (l0 : List Int) : Option (List Int) := (impl_different.f l0).bind fun t777 => (impl_leveled.l0 k (([] : List Int)) t777 l0 (l0.length : Int) 0)
theorem impl_leveled.mono_l : ∀ k, (∀ y0 y1 y2 y3 y4, LeO (impl_leveled.l0 k y0 y1 y2 y3 y4) (impl_leveled.l0 (k + 1) y0 y1 y2 y3 y4))
 | 0 => fun _ _ _ _ _ r h => by simp [impl_leveled.l0] at h
 | k + 1 => by
  have ih0 := impl_leveled.mono_l k
  ·intro y0 y1 y2 y3 y4
   unfold impl_leveled.l0
   repeat' (with_reducible first|apply ih0|apply slices_BinarySearch_int_int.mono|apply LeO.refl|apply LeO.none|apply LeO.ite|apply LeO.bind|intro)
theorem impl_leveled.mono : ∀ a0 k, LeO (impl_leveled.f k a0) (impl_leveled.f (k + 1) a0) := by
 intro a0 k
 have ih0 := impl_leveled.mono_l k
 unfold impl_leveled.f
 repeat' (with_reducible first|apply ih0|apply slices_BinarySearch_int_int.mono|apply LeO.refl|apply LeO.none|apply LeO.ite|apply LeO.bind|intro)
theorem impl_leveled.calls (k : Nat) (A0 : Option Addr) (c0 : Nat) (l0 : List Int) (r : List Int) (w : World) (hr0 : Kd.C (Kd.int .i64) w A0 l0.length l0) (hc0 : l0.length ≤ c0) (h : impl_leveled.f k l0 = some r) :
  Calls Tryz.prog 42 #[.slice A0 l0.length c0] w fun e w' => ∃ v0_ : Value, e = .returned (v0_) ∧ Kd.R (Kd.int .i64) 3 w' w.heap.size (fun _ => True) v0_ r ∧ Below w.heap.size w w' := by
 have HR0 := mkA hr0
 have HC0 := mkA hc0
 clear hr0 hc0
 have HB := mkA (Below.refl w.heap.size w)
 have H := h
 clear h
 unfold impl_leveled.f at H
 obtain ⟨y774, hy774⟩ : ∃ y_ : List Int, y_ = (([] : List Int)) := ⟨_, rfl⟩
 rw [← hy774] at H
 have Ny774 := mkA hy774
 clear hy774
 obtain ⟨t777, A2, H⟩ := obE H
 have H' := mkA H
 clear H
 go_enter Tryz.func42, Tryz.ntmps42
 go_wp2_with (first | ((with_reducible refine gate_dst (N := 9) rfl ?_); refine litE (Kd.int .i64) 3 ([] : List Int) [] ?hp ?_; (case hp => exact (Reps.none _ _)); intro v775 w3 ho4 hb hg_ hnew_; clear hg_ hnew_; (first | rw [← Ny774.out] at ho4 | (simp only [Int.reduceToNat] at ho4; rw [← Ny774.out] at ho4)); have HO776 := rLo ho4 HB; replace HB := bst HB hb; clear hb ho4) | ((with_reducible refine gate_callee (f := 41) rfl ?_); refine goesQ (some 11) Tryz.func41 #[.slice A0 l0.length c0] ?_; (with_reducible refine (impl_different.calls _ _ l0 t777 _ ?_ ?_ A2.out).mono ?_); exact C_g HR0 HB; exact HC0.out; rintro e w5 ⟨v778, rfl, ho0, hb⟩; refine ⟨_, rfl, ?_⟩; have HO779 := rLo (rN ho0 HO776) HB; replace HO776 := rE HO776 ho0 hb; replace HB := bst HB hb; clear hb ho0))
 go_loopg [3, 14] k (fun kq v3 v14 w' => ∃ (x3_1 : List Int) (x14_1 : Int), v14 = .int .i64 x14_1 ∧ Fc (impl_leveled.l0 kq x3_1 t777 l0 (l0.length : Int) x14_1 = some r) ∧ Fc (kq ≤ k) ∧ Fc (Kd.R (Kd.int .i64) 3 w' w.heap.size (fun k_ => some k_ ≠ (v778 : Value).ownBlock) v3 x3_1) ∧ Fc (Kd.R (Kd.int .i64) 3 w' w.heap.size (fun k_ => some k_ ≠ (v3 : Value).ownBlock) v778 t777) ∧ Fc (Below w.heap.size w w'))
 case atStart => exact ⟨(y774), (0), eqS, H', ⟨Nat.le_refl _⟩, ⟨Kd.R_g (Kd.R_mono HO776.out (fun _ hk => hk.2))⟩, ⟨Kd.R_g (Kd.R_mono HO779.out (fun _ hk => hk.2))⟩, hbg HB⟩
 case round =>
  clear H'
  obtain ⟨x3_1, x14_1, rfl, HA, HK1, HO_3, HO_4, HB⟩ := hrel
  cases gk with
  | zero => exact absurd HA.out (by simp [impl_leveled.l0])
  | succ k1 =>
   have H := HA.out
   clear HA
   simp only [impl_leveled.l0] at H
   rcases iteE H with ⟨c6b0, H⟩ | ⟨c6b0, H⟩
   ·obtain ⟨c7b0, H⟩ := itND H
    obtain ⟨c8b0, H⟩ := itND H
    obtain ⟨⟨t781, t782⟩, A9, H⟩ := obE H
    dsimp only at H
    obtain ⟨c10, H⟩ := itNP H
    have LMc10 := mkA c10
    clear c10
    obtain ⟨y783, hy783⟩ : ∃ y_ : List Int, y_ = (x3_1 ++ [t781]) := ⟨_, rfl⟩
    rw [← hy783] at H
    have Ny783 := mkA hy783
    clear hy783
    have H' := mkA H
    clear H
    obtain ⟨p780, q780, ad780, e780, hx780_0⟩ := atI HR0.out x14_1
    cases e780
    replace hx780_0 := (HB.out.cell (World.block_lt_of_cell? w _ hx780_0)).trans hx780_0
    obtain ⟨Ao11, co11, rfl⟩ := Kd.R_slice HO_4.out
    go_wp2_with (first | ((with_reducible refine gate_callee (f := 65) rfl ?_); refine goesQ (some 21) Tryz.func65 #[.slice Ao11 t777.length co11, .int .i64 (rd l0 x14_1)] ?_; (with_reducible refine (slices_BinarySearch_int_int.calls k1 _ _ t777 (rd l0 x14_1) t781 t782 _ ?_ ?_ A9.out).mono ?_); exact rC HO_4; exact rL HO_4; rintro e w' ⟨rfl, ⟨nd, rfl⟩⟩; refine ⟨_, rfl, ?_⟩) | ((with_reducible refine gate_builtin (b := .append) (xs := #[.tmp 24, .tmp 26]) rfl ?_); at_builtin; refine Kd.R_append (Kd.int .i64) (w0 := w) w.heap.size rfl (.tmp 24) (.tmp 26) 24 3 (.int .i64 0) 8 rfl Tryz.underlying24 info3 rfl (by decide) (by omega) u3 x3_1 t781 [.int .i64 t781] (fun k_ => some k_ ≠ (.slice Ao11 t777.length co11 : Value).ownBlock) (fun _ => False) rfl rfl ?aP (fun _ hk => hk.elim) ?aF ?aO ?aB ?aS ?aL ?_; (case aP => exact rfl); (case aB => exact (bel_g HB.out)); (case aF => exact (fun k_ hk => Kd.fresh' (Kd.R_lt (Kd.R_g HO_4.out)) k_ hk)); (case aO => exact (Kd.R_g HO_3.out)); (case aS => exact (below_size (bel_g HB.out))); (case aL => have := LMc10.out; omega); intro v784 w12 ho hb hg hat; rw [← Ny783.out] at ho; replace HO_4 := mkA (Kd.R_after (ok := (fun _ => True)) (Kd.R_g (Kd.R_mono HO_4.out (fun _ hk => ⟨trivial, hk⟩))) hg hat); have HO785 := mkA (ho); replace HB := mkA (hb); clear HO_3; clear ho hb hg hat))
    go_roundg k1
    case measure => have := HK1.out; omega
    case rel => exact ⟨(y783), (wrap64 (x14_1 + 1)), eqS, H', ⟨by have := HK1.out; omega⟩, rg HO785, ⟨Kd.R_g (Kd.R_mono HO_4.out (fun _ hk => hk.2))⟩, hbg HB⟩
   ·obtain rfl := Option.some.inj H
    go_wp2
    go_ret
    exact ⟨_, eqE, Kd.R_g (Kd.R_mono HO_3.out (fun _ hk => trivial)), bel_g HB.out⟩
def impl_MirrorLevels.l0 : Nat → List Int → List Int → Int → Int → Option (List Int × Bool)
 | 0, _, _, _, _ => none
 | k + 1, x4, x11, x12, x13 => if x13 < x12 then (if 0 ≤ x13 then (if x13 < (x11.length : Int) then (if x4.length < 17592186044416 then (impl_MirrorLevels.l0 k (x4 ++ [wrap64 (-(rd x11 x13))]) x11 x12 (wrap64 (x13 + 1))) else (none)) else (none)) else (none)) else ((impl_leveled.f k x4).bind fun t794 => (some (t794, true)))
def impl_MirrorLevels.f (k : Nat) (l0 : List Int) : Option (List Int × Bool) := (impl_AreLevels.f k l0).bind fun t786 => (if t786 = true then (impl_MirrorLevels.l0 k (([] : List Int)) l0 (l0.length : Int) 0) else (some (([] : List Int), false)))
theorem impl_MirrorLevels.mono_l : ∀ k, (∀ y0 y1 y2 y3, LeO (impl_MirrorLevels.l0 k y0 y1 y2 y3) (impl_MirrorLevels.l0 (k + 1) y0 y1 y2 y3))
 | 0 => fun _ _ _ _ r h => by simp [impl_MirrorLevels.l0] at h
 | k + 1 => by
  have ih0 := impl_MirrorLevels.mono_l k
  ·intro y0 y1 y2 y3
   unfold impl_MirrorLevels.l0
   repeat' (with_reducible first|apply ih0|apply impl_AreLevels.mono|apply impl_leveled.mono|apply LeO.refl|apply LeO.none|apply LeO.ite|apply LeO.bind|intro)
theorem impl_MirrorLevels.mono : ∀ a0 k, LeO (impl_MirrorLevels.f k a0) (impl_MirrorLevels.f (k + 1) a0) := by
 intro a0 k
 have ih0 := impl_MirrorLevels.mono_l k
 unfold impl_MirrorLevels.f
 repeat' (with_reducible first|apply ih0|apply impl_AreLevels.mono|apply impl_leveled.mono|apply LeO.refl|apply LeO.none|apply LeO.ite|apply LeO.bind|intro)
theorem impl_MirrorLevels.calls (k : Nat) (A0 : Option Addr) (c0 : Nat) (l0 : List Int) (r1 : List Int) (r2 : Bool) (w : World) (hr0 : Kd.C (Kd.int .i64) w A0 l0.length l0) (hc0 : l0.length ≤ c0) (h : impl_MirrorLevels.f k l0 = some (r1, r2)) :
  Calls Tryz.prog 20 #[.slice A0 l0.length c0] w fun e w' => ∃ v0_ : Value, e = .returned (.tuple #[v0_, .bool r2]) ∧ Kd.R (Kd.int .i64) 3 w' w.heap.size (fun _ => True) v0_ r1 ∧ Below w.heap.size w w' := by
 have HR0 := mkA hr0
 have HC0 := mkA hc0
 clear hr0 hc0
 have HB := mkA (Below.refl w.heap.size w)
 have H := h
 clear h
 unfold impl_MirrorLevels.f at H
 obtain ⟨t786, A2, H⟩ := obE H
 by_cases c3 : t786 = true
 ·subst c3
  replace H := ifT H
  obtain ⟨y787, hy787⟩ : ∃ y_ : List Int, y_ = (([] : List Int)) := ⟨_, rfl⟩
  rw [← hy787] at H
  have Ny787 := mkA hy787
  clear hy787
  have H' := mkA H
  clear H
  go_enter Tryz.func20, Tryz.ntmps20
  go_wp2_with (first | ((with_reducible refine gate_callee (f := 19) rfl ?_); refine goesQ (some 8) Tryz.func19 #[.slice A0 l0.length c0] ?_; (with_reducible refine (impl_AreLevels.calls k _ _ l0 true _ ?s1 ?s2 A2.out).mono ?_); (case s1 => repeat (first | exact HR0.out | (with_reducible refine Kd.C_alloc ?_ _) | (with_reducible refine Kd.C_drewN ?_ _) | (with_reducible refine Kd.C_drew ?_))); (case s2 => exact HC0.out); rintro e w4 ⟨rfl, hb⟩; refine ⟨_, rfl, ?_⟩; replace HB := bst HB hb; clear hb) | ((with_reducible refine gate_dst (N := 10) rfl ?_); refine litE (Kd.int .i64) 3 ([] : List Int) [] ?hp ?_; (case hp => exact (Reps.none _ _)); intro v788 w5 ho6 hb hg_ hnew_; clear hg_ hnew_; (first | rw [← Ny787.out] at ho6 | (simp only [Int.reduceToNat] at ho6; rw [← Ny787.out] at ho6)); have HO789 := rLo ho6 HB; replace HB := bst HB hb; clear hb ho6))
  go_loopg [4, 13] k (fun kq v4 v13 w' => ∃ (x4_1 : List Int) (x13_1 : Int), v13 = .int .i64 x13_1 ∧ Fc (impl_MirrorLevels.l0 kq x4_1 l0 (l0.length : Int) x13_1 = some (r1, r2)) ∧ Fc (kq ≤ k) ∧ Fc (Kd.R (Kd.int .i64) 3 w' w.heap.size (fun _ => True) v4 x4_1) ∧ Fc (Below w.heap.size w w'))
  case atStart => exact ⟨(y787), (0), eqS, H', ⟨Nat.le_refl _⟩, rg HO789, hbg HB⟩
  case round =>
   clear H'
   try clear c3
   obtain ⟨x4_1, x13_1, rfl, HA, HK1, HO_4, HB⟩ := hrel
   cases gk with
   | zero => exact absurd HA.out (by simp [impl_MirrorLevels.l0])
   | succ k1 =>
    have H := HA.out
    clear HA
    simp only [impl_MirrorLevels.l0] at H
    rcases iteE H with ⟨c7b0, H⟩ | ⟨c7b0, H⟩
    ·obtain ⟨c8b0, H⟩ := itND H
     obtain ⟨c9b0, H⟩ := itND H
     obtain ⟨c10, H⟩ := itNP H
     have LMc10 := mkA c10
     clear c10
     obtain ⟨y791, hy791⟩ : ∃ y_ : List Int, y_ = (x4_1 ++ [wrap64 (-(rd l0 x13_1))]) := ⟨_, rfl⟩
     rw [← hy791] at H
     have Ny791 := mkA hy791
     clear hy791
     have H' := mkA H
     clear H
     obtain ⟨p790, q790, ad790, e790, hx790_0⟩ := atI HR0.out x13_1
     cases e790
     replace hx790_0 := (HB.out.cell (World.block_lt_of_cell? w _ hx790_0)).trans hx790_0
     go_wp2_with (first | ((with_reducible refine gate_builtin (b := .append) (xs := #[.tmp 17, .tmp 20]) rfl ?_); at_builtin; refine Kd.R_append (Kd.int .i64) (w0 := w) w.heap.size rfl (.tmp 17) (.tmp 20) 24 3 (.int .i64 0) 8 rfl Tryz.underlying24 info3 rfl (by decide) (by omega) u4 x4_1 (wrap64 (-(rd l0 x13_1))) [.int .i64 (wrap64 (-(rd l0 x13_1)))] (fun _ => True) (fun _ => False) rfl rfl ?aP (fun _ hk => hk.elim) ?aF ?aO ?aB ?aS ?aL ?_; (case aP => exact rfl); (case aB => exact (bel_g HB.out)); (case aF => exact (fun _ _ => trivial)); (case aO => exact (Kd.R_g HO_4.out)); (case aS => exact (below_size (bel_g HB.out))); (case aL => have := LMc10.out; omega); intro v792 w11 ho hb hg hat; rw [← Ny791.out] at ho; have HO793 := mkA (ho); replace HB := mkA (hb); clear HO_4; clear ho hb hg hat))
     go_roundg k1
     case measure => have := HK1.out; omega
     case rel => exact ⟨(y791), (wrap64 (x13_1 + 1)), eqS, H', ⟨by have := HK1.out; omega⟩, rg HO793, hbg HB⟩
    ·obtain ⟨t794, A12, H⟩ := obE H
     simp only [Option.some.injEq, Prod.mk.injEq] at H
     obtain ⟨rfl, rfl⟩ := H
     obtain ⟨Ao13, co13, rfl⟩ := Kd.R_slice HO_4.out
     go_wp2_with (first | ((with_reducible refine gate_callee (f := 42) rfl ?_); refine goesQ (some 24) Tryz.func42 #[.slice Ao13 x4_1.length co13] ?_; (with_reducible refine (impl_leveled.calls k1 _ _ x4_1 t794 _ ?_ ?_ A12.out).mono ?_); exact rC HO_4; exact rL HO_4; rintro e w14 ⟨v795, rfl, ho0, hb⟩; refine ⟨_, rfl, ?_⟩; have HO796 := rLo (rN ho0 HO_4) HB; replace HO_4 := rE HO_4 ho0 hb; replace HB := bst HB hb; clear hb ho0))
     go_ret2
     exact ⟨_, eqE, Kd.R_g (Kd.R_mono HO796.out (fun _ hk => trivial)), bel_g HB.out⟩
 ·replace c3 := Bool.eq_false_iff.mpr c3
  subst c3
  replace H := ifF H
  simp only [Option.some.injEq, Prod.mk.injEq] at H
  obtain ⟨rfl, rfl⟩ := H
  go_enter Tryz.func20, Tryz.ntmps20
  go_wp2_with (first | ((with_reducible refine gate_callee (f := 19) rfl ?_); refine goesQ (some 8) Tryz.func19 #[.slice A0 l0.length c0] ?_; (with_reducible refine (impl_AreLevels.calls k _ _ l0 false _ ?s1 ?s2 A2.out).mono ?_); (case s1 => repeat (first | exact HR0.out | (with_reducible refine Kd.C_alloc ?_ _) | (with_reducible refine Kd.C_drewN ?_ _) | (with_reducible refine Kd.C_drew ?_))); (case s2 => exact HC0.out); rintro e w15 ⟨rfl, hb⟩; refine ⟨_, rfl, ?_⟩; replace HB := bst HB hb; clear hb))
  go_ret2
  exact ⟨_, eqE, nilE, bel_g HB.out⟩
end Go.Proofs.YtgbdjchdfcodcaaGreatDoor.Q
