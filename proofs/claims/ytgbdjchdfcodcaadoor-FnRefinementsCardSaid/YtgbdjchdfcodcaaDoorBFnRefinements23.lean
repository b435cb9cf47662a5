import Derived.Test.YtgbdjchdfcodcaaDoorBFnRefinements22
namespace Go.Proofs.YtgbdjchdfcodcaaDoor.Q
open Go.RowKit Go.Proofs.YtgbdjchdfcodcaaDoorW.PrintWords Go.Proofs.YtgbdjchdfcodcaaDoorW.PrintLast Go.Proofs.YtgbdjchdfcodcaaDoorW.PrintMore
attribute [local go_sem] max2_int min2_int max_two min_two max_three min_three max_four min_four neB_f
set_option linter.unusedVariables false
set_option maxHeartbeats 8000000
set_option maxRecDepth 100000
set_option linter.unusedSimpArgs false
def slices_isNaN_int.f (a0 : Int) : Option (Bool) := some (a0 != a0)
theorem slices_isNaN_int.calls (a0 : Int) (r : Bool) (w : World) (h : slices_isNaN_int.f a0 = some r) :
  Calls Tryd.prog 61 #[.int .i64 a0] w fun e w' => e = .returned (.bool r) ∧ Drawn0 w w' := by
 have H := h
 clear h
 unfold slices_isNaN_int.f at H
 obtain rfl := Option.some.inj H
 go_enter Tryd.func61, Tryd.ntmps61
 go_wp2
 go_ret
 exact ⟨by first | rfl | (simp; done) | (simp [*]; done), by repeat (first | exact Drawn0.refl _ | apply Drawn0.step)⟩
def slices_BinarySearch_int_int.l0 : Nat → List Int → Int → Int → Int → Int → Option (Int × Bool)
 | 0, _, _, _, _, _ => none
 | k + 1, x0, x1, x6, x7, x8 => if x7 < x8 then (if 0 ≤ (wrap64 ((IntKind.u64.wrap (wrap64 (x7 + x8))) / 2)) then (if (wrap64 ((IntKind.u64.wrap (wrap64 (x7 + x8))) / 2)) < (x0.length : Int) then ((cmp_Less_int.f (rd x0 (wrap64 ((IntKind.u64.wrap (wrap64 (x7 + x8))) / 2))) x1).bind fun t676 => (if t676 = true then (slices_BinarySearch_int_int.l0 k x0 x1 x6 (wrap64 ((wrap64 ((IntKind.u64.wrap (wrap64 (x7 + x8))) / 2)) + 1)) x8) else (slices_BinarySearch_int_int.l0 k x0 x1 x6 x7 (wrap64 ((IntKind.u64.wrap (wrap64 (x7 + x8))) / 2))))) else (none)) else (none)) else (if x7 < x6 then (if 0 ≤ x7 then (if x7 < (x0.length : Int) then (if (rd x0 x7) = x1 then (some (x7, true)) else ((slices_isNaN_int.f (rd x0 x7)).bind fun t679 => (if t679 = true then ((slices_isNaN_int.f x1).bind fun t680 => (some (x7, t680))) else (some (x7, false))))) else (none)) else (none)) else (some (x7, false)))
def slices_BinarySearch_int_int.f (k : Nat) (l0 : List Int) (a1 : Int) : Option (Int × Bool) := slices_BinarySearch_int_int.l0 k l0 a1 (l0.length : Int) 0 (l0.length : Int)
theorem slices_BinarySearch_int_int.mono_l : ∀ k, (∀ y0 y1 y2 y3 y4, LeO (slices_BinarySearch_int_int.l0 k y0 y1 y2 y3 y4) (slices_BinarySearch_int_int.l0 (k + 1) y0 y1 y2 y3 y4))
 | 0 => fun _ _ _ _ _ r h => by simp [slices_BinarySearch_int_int.l0] at h
 | k + 1 => by
  have ih0 := slices_BinarySearch_int_int.mono_l k
  ·intro y0 y1 y2 y3 y4
   unfold slices_BinarySearch_int_int.l0
   repeat' (with_reducible first|exact ih0 _ _ _ _ _|exact LeO.refl _|exact LeO.none _|refine LeO.ite ?_ ?_|refine LeO.bind ?_ (fun _ => ?_))
theorem slices_BinarySearch_int_int.mono : ∀ a0 a1 k, LeO (slices_BinarySearch_int_int.f k a0 a1) (slices_BinarySearch_int_int.f (k + 1) a0 a1) := by
 intro a0 a1 k
 have ih0 := slices_BinarySearch_int_int.mono_l k
 unfold slices_BinarySearch_int_int.f
 repeat' (with_reducible first|exact ih0 _ _ _ _ _|exact LeO.refl _|exact LeO.none _|refine LeO.ite ?_ ?_|refine LeO.bind ?_ (fun _ => ?_))
theorem slices_BinarySearch_int_int.calls (k : Nat) (A0 : Option Addr) (c0 : Nat) (l0 : List Int) (a1 : Int) (r1 : Int) (r2 : Bool) (w : World) (hr0 : Kd.C (Kd.int .i64) w A0 l0.length l0) (hc0 : l0.length ≤ c0) (h : slices_BinarySearch_int_int.f k l0 a1 = some (r1, r2)) :
  Calls Tryd.prog 43 #[.slice A0 l0.length c0, .int .i64 a1] w fun e w' => e = .returned (.tuple #[.int .i64 r1, .bool r2]) ∧ Drawn0 w w' := by
 have HR0 := mkA hr0
 have HC0 := mkA hc0
 clear hr0 hc0
 have H := h
 clear h
 unfold slices_BinarySearch_int_int.f at H
 have H' := mkA H
 clear H
 go_enter Tryd.func43, Tryd.ntmps43
 go_wp2
 go_loopg [7, 8] k (fun kq v7 v8 w' => ∃ (x7_1 : Int) (x8_1 : Int), v7 = .int .i64 x7_1 ∧ v8 = .int .i64 x8_1 ∧ Fc (slices_BinarySearch_int_int.l0 kq l0 a1 (l0.length : Int) x7_1 x8_1 = some (r1, r2)) ∧ Fc (kq ≤ k) ∧ Drawn0 w w')
 case atStart => exact ⟨(0), ((l0.length : Int)), eqS, eqS, H', ⟨Nat.le_refl _⟩, by repeat (first | exact Drawn0.refl _ | apply Drawn0.step)⟩
 case round =>
  clear H'
  obtain ⟨x7_1, x8_1, rfl, rfl, HA, HK1, ⟨m1, rfl⟩⟩ := hrel
  cases gk with
  | zero => exact absurd HA.out (by simp [slices_BinarySearch_int_int.l0])
  | succ k1 =>
   have H := HA.out
   clear HA
   simp only [slices_BinarySearch_int_int.l0] at H
   rcases iteE H with ⟨c3b0, H⟩ | ⟨c3b0, H⟩
   ·obtain ⟨ji4, hji4⟩ : ∃ j_ : Int, (wrap64 ((IntKind.u64.wrap (wrap64 (x7_1 + x8_1))) / 2)) = j_ := ⟨_, rfl⟩
    replace H : (if 0 ≤ (ji4) then (if (ji4) < (l0.length : Int) then ((cmp_Less_int.f (rd l0 (ji4)) a1).bind fun t676 => (if t676 = true then (slices_BinarySearch_int_int.l0 k1 l0 a1 (l0.length : Int) (wrap64 ((ji4) + 1)) x8_1) else (slices_BinarySearch_int_int.l0 k1 l0 a1 (l0.length : Int) x7_1 ji4))) else (none)) else (none)) = some (r1, r2) := by first | (rw [hji4] at H; exact H) | (simp only [hji4] at H ⊢; exact H)
    have hji4w : (IntKind.i64.wrap ((IntKind.u64.wrap (wrap64 (x7_1 + x8_1))) / 2)) = ji4 := (i64_w _).trans hji4
    obtain ⟨c5, H⟩ := itNP H
    have c5b0 : decide (0 ≤ (ji4)) = true := decide_eq_true c5
    clear c5
    obtain ⟨c6, H⟩ := itNP H
    have c6b0 : decide ((ji4) < (l0.length : Int)) = true := decide_eq_true c6
    clear c6
    obtain ⟨t676, A7, H⟩ := obE H
    by_cases c8 : t676 = true
    ·subst c8
     replace H := ifT H
     have H' := mkA H
     clear H
     have p675 : 0 ≤ ((ji4) : Int) := ofd
     have q675 : (ji4) < (l0.length : Int) := ofd
     obtain ⟨ad675, e675, hx675_0⟩ := Kd.at_int HR0.out (ji4) p675 q675
     cases e675
     replace p675 := eq_true p675
     replace q675 := eq_true q675
     go_wp2_with (first | ((with_reducible refine gate_callee (f := 60) rfl ?_); refine goesL_ (some 27) rfl rfl Tryd.func60 (by kernel_rfl) rfl #[.int .i64 (rd l0 (ji4)), .int .i64 a1] rfl (by (try simp only [List.map_toArray, List.map_cons, List.map_nil]); first | done | (simp only [hji4]; rfl) | rfl | (simp only [List.length_drop, List.length_take]; rfl)) ?_; (with_reducible refine (cmp_Less_int.calls (rd l0 (ji4)) a1 true _ A7.out).mono ?_); rintro e w' ⟨rfl, ⟨nd, rfl⟩⟩; refine ⟨_, rfl, ?_⟩))
     go_roundg k1
     case measure => have := HK1.out; omega
     case rel => exact ⟨(wrap64 ((ji4) + 1)), (x8_1), (by first | rfl | (simp; done) | (simp only [← hji4] <;> (first | rfl | simp)) | (simp [*]; done)), eqS, H', ⟨by have := HK1.out; omega⟩, by repeat (first | exact Drawn0.refl _ | apply Drawn0.step)⟩
    ·replace c8 := Bool.eq_false_iff.mpr c8
     subst c8
     replace H := ifF H
     have H' := mkA H
     clear H
     have p675 : 0 ≤ ((ji4) : Int) := ofd
     have q675 : (ji4) < (l0.length : Int) := ofd
     obtain ⟨ad675, e675, hx675_0⟩ := Kd.at_int HR0.out (ji4) p675 q675
     cases e675
     replace p675 := eq_true p675
     replace q675 := eq_true q675
     go_wp2_with (first | ((with_reducible refine gate_callee (f := 60) rfl ?_); refine goesL_ (some 27) rfl rfl Tryd.func60 (by kernel_rfl) rfl #[.int .i64 (rd l0 (ji4)), .int .i64 a1] rfl (by (try simp only [List.map_toArray, List.map_cons, List.map_nil]); first | done | (simp only [hji4]; rfl) | rfl | (simp only [List.length_drop, List.length_take]; rfl)) ?_; (with_reducible refine (cmp_Less_int.calls (rd l0 (ji4)) a1 false _ A7.out).mono ?_); rintro e w' ⟨rfl, ⟨nd, rfl⟩⟩; refine ⟨_, rfl, ?_⟩))
     go_roundg k1
     case measure => have := HK1.out; omega
     case rel => exact ⟨(x7_1), (ji4), eqS, (by first | rfl | (simp; done) | (simp only [← hji4] <;> (first | rfl | simp)) | (simp [*]; done)), H', ⟨by have := HK1.out; omega⟩, by repeat (first | exact Drawn0.refl _ | apply Drawn0.step)⟩
   ·rcases iteE H with ⟨c9b0, H⟩ | ⟨c9b0, H⟩
    ·obtain ⟨c10, H⟩ := itNP H
     have c10b0 : decide (0 ≤ x7_1) = true := decide_eq_true c10
     clear c10
     obtain ⟨c11, H⟩ := itNP H
     have c11b0 : decide (x7_1 < (l0.length : Int)) = true := decide_eq_true c11
     clear c11
     rcases iteP H with ⟨c12, H⟩ | ⟨c12, H⟩
     ·have c12b0 : ((rd l0 x7_1) == a1) = true := beq_iff_eq.mpr c12
      have c12b1 : ((rd l0 x7_1) != a1) = false := bne_eq_false_iff_eq.mpr c12
      clear c12
      simp only [Option.some.injEq, Prod.mk.injEq] at H
      obtain ⟨rfl, rfl⟩ := H
      have p677 : 0 ≤ (x7_1 : Int) := ofd
      have q677 : x7_1 < (l0.length : Int) := ofd
      obtain ⟨ad677, e677, hx677_0⟩ := Kd.at_int HR0.out x7_1 p677 q677
      cases e677
      replace p677 := eq_true p677
      replace q677 := eq_true q677
      go_wp2
      go_ret2
      exact ⟨by first | rfl | (simp; done) | (simp [*]; done), by repeat (first | exact Drawn0.refl _ | apply Drawn0.step)⟩
     ·have c12b0 : ((rd l0 x7_1) == a1) = false := beq_eq_false_iff_ne.mpr c12
      have c12b1 : ((rd l0 x7_1) != a1) = true := bne_iff_ne.mpr c12
      obtain ⟨t679, A13, H⟩ := obE H
      by_cases c14 : t679 = true
      ·subst c14
       replace H := ifT H
       obtain ⟨t680, A15, H⟩ := obE H
       simp only [Option.some.injEq, Prod.mk.injEq] at H
       obtain ⟨rfl, rfl⟩ := H
       have p677 : 0 ≤ (x7_1 : Int) := ofd
       have q677 : x7_1 < (l0.length : Int) := ofd
       obtain ⟨ad677, e677, hx677_0⟩ := Kd.at_int HR0.out x7_1 p677 q677
       cases e677
       replace p677 := eq_true p677
       replace q677 := eq_true q677
       have p678 : 0 ≤ (x7_1 : Int) := ofd
       have q678 : x7_1 < (l0.length : Int) := ofd
       obtain ⟨ad678, e678, hx678_0⟩ := Kd.at_int HR0.out x7_1 p678 q678
       obtain rfl : ad677 = ad678 := (by injection e678)
       replace p678 := eq_true p678
       replace q678 := eq_true q678
       go_wp2_with (first | (go_at_call 61; (with_reducible refine (slices_isNaN_int.calls (rd l0 x7_1) true _ A13.out).mono ?_); rintro e w' ⟨rfl, ⟨nd, rfl⟩⟩) | (go_at_call 61; (with_reducible refine (slices_isNaN_int.calls a1 t680 _ A15.out).mono ?_); rintro e w' ⟨rfl, ⟨nd, rfl⟩⟩))
       go_ret2
       exact ⟨by first | rfl | (simp; done) | (simp [*]; done), by repeat (first | exact Drawn0.refl _ | apply Drawn0.step)⟩
      ·replace c14 := Bool.eq_false_iff.mpr c14
       subst c14
       replace H := ifF H
       simp only [Option.some.injEq, Prod.mk.injEq] at H
       obtain ⟨rfl, rfl⟩ := H
       have p677 : 0 ≤ (x7_1 : Int) := ofd
       have q677 : x7_1 < (l0.length : Int) := ofd
       obtain ⟨ad677, e677, hx677_0⟩ := Kd.at_int HR0.out x7_1 p677 q677
       cases e677
       replace p677 := eq_true p677
       replace q677 := eq_true q677
       have p678 : 0 ≤ (x7_1 : Int) := ofd
       have q678 : x7_1 < (l0.length : Int) := ofd
       obtain ⟨ad678, e678, hx678_0⟩ := Kd.at_int HR0.out x7_1 p678 q678
       obtain rfl : ad677 = ad678 := (by injection e678)
       replace p678 := eq_true p678
       replace q678 := eq_true q678
       go_wp2_with (first | (go_at_call 61; (with_reducible refine (slices_isNaN_int.calls (rd l0 x7_1) false _ A13.out).mono ?_); rintro e w' ⟨rfl, ⟨nd, rfl⟩⟩))
       go_ret2
       exact ⟨by first | rfl | (simp; done) | (simp [*]; done), by repeat (first | exact Drawn0.refl _ | apply Drawn0.step)⟩
    ·simp only [Option.some.injEq, Prod.mk.injEq] at H
     obtain ⟨rfl, rfl⟩ := H
     go_wp2
     go_ret2
     exact ⟨by first | rfl | (simp; done) | (simp [*]; done), by repeat (first | exact Drawn0.refl _ | apply Drawn0.step)⟩
def impl_leveled.l0 : Nat → List Int → List Int → List Int → Int → Int → Option (List Int)
 | 0, _, _, _, _, _ => none
 | k + 1, x3, x4, x12, x13, x14 => if x14 < x13 then (if 0 ≤ x14 then (if x14 < (x12.length : Int) then ((slices_BinarySearch_int_int.f k x4 (rd x12 x14)).bind fun bt688 => (if x3.length < 17592186044416 then (impl_leveled.l0 k (x3 ++ [bt688.1]) x4 x12 x13 (wrap64 (x14 + 1))) else (none))) else (none)) else (none)) else (some x3)
def impl_leveled.f (k : Nat) (l0 : List Int) : Option (List Int) := (impl_different.f l0).bind fun t684 => (impl_leveled.l0 k (([] : List Int)) t684 l0 (l0.length : Int) 0)
theorem impl_leveled.mono_l : ∀ k, (∀ y0 y1 y2 y3 y4, LeO (impl_leveled.l0 k y0 y1 y2 y3 y4) (impl_leveled.l0 (k + 1) y0 y1 y2 y3 y4))
 | 0 => fun _ _ _ _ _ r h => by simp [impl_leveled.l0] at h
 | k + 1 => by
  have ih0 := impl_leveled.mono_l k
  ·intro y0 y1 y2 y3 y4
   unfold impl_leveled.l0
   repeat' (with_reducible first|exact ih0 _ _ _ _ _|exact slices_BinarySearch_int_int.mono _ _ _|exact LeO.refl _|exact LeO.none _|refine LeO.ite ?_ ?_|refine LeO.bind ?_ (fun _ => ?_))
theorem impl_leveled.mono : ∀ a0 k, LeO (impl_leveled.f k a0) (impl_leveled.f (k + 1) a0) := by
 intro a0 k
 have ih0 := impl_leveled.mono_l k
 unfold impl_leveled.f
 repeat' (with_reducible first|exact ih0 _ _ _ _ _|exact slices_BinarySearch_int_int.mono _ _ _|exact LeO.refl _|exact LeO.none _|refine LeO.ite ?_ ?_|refine LeO.bind ?_ (fun _ => ?_))
theorem impl_leveled.calls (k : Nat) (A0 : Option Addr) (c0 : Nat) (l0 : List Int) (r : List Int) (w : World) (hr0 : Kd.C (Kd.int .i64) w A0 l0.length l0) (hc0 : l0.length ≤ c0) (h : impl_leveled.f k l0 = some r) :
  Calls Tryd.prog 29 #[.slice A0 l0.length c0] w fun e w' => ∃ v0_ : Value, e = .returned (v0_) ∧ Kd.R (Kd.int .i64) 3 w' w.heap.size (fun _ => True) v0_ r ∧ Below w.heap.size w w' := by
 have HR0 := mkA hr0
 have HC0 := mkA hc0
 clear hr0 hc0
 have HB := mkA (Below.refl w.heap.size w)
 have H := h
 clear h
 unfold impl_leveled.f at H
 obtain ⟨y681, hy681⟩ : ∃ y_ : List Int, y_ = (([] : List Int)) := ⟨_, rfl⟩
 replace H : ((impl_different.f l0).bind fun t684 => (impl_leveled.l0 k y681 t684 l0 (l0.length : Int) 0)) = some r := by first | (rw [hy681]; with_reducible exact H) | (have H2_ := (Option.bind_some _ _).symm.trans H; rw [hy681]; with_reducible exact H2_) | (have H2_ := (Option.bind_some _ _).symm.trans H; with_reducible exact H2_) | with_reducible exact H | (rw [hy681]; exact H) | exact H
 have Ny681 := mkA hy681
 clear hy681
 obtain ⟨t684, A2, H⟩ := obE H
 have H' := mkA H
 clear H
 go_enter Tryd.func29, Tryd.ntmps29
 go_wp2_with (first | ((with_reducible refine gate_dst (N := 9) rfl ?_); refine Kd.R_lit (Kd.int .i64) _ 3 ?hg (N := 9) ?hd (xs := ([] : List Int)) (inner := []) (ok := fun _ => True) (okp := fun _ => True) ?hr ?hp (fun _ hk => hk) trivial (Below.refl _ _) (Nat.le_refl _) (by simp) ?_; (case hd => rfl); (case hg => rfl); (case hr => first | (go_simp; done) | (go_simp; rfl)); (case hp => exact (Reps.none _ _)); intro v682 w3 ho4 hb hg_ hnew_; clear hg_ hnew_; (first | rw [← Ny681.out] at ho4 | (simp only [Int.reduceToNat] at ho4; rw [← Ny681.out] at ho4)); have HO683 := mkA (Kd.R_lower ho4 (below_size (bel_g HB.out))); replace HB := bst HB hb; clear hb ho4) | ((with_reducible refine gate_callee (f := 42) rfl ?_); refine goesQ (some 11) Tryd.func42 #[.slice A0 l0.length c0] ?_; (with_reducible refine (impl_different.calls _ _ l0 t684 _ ?s1 ?s2 A2.out).mono ?_); (case s1 => exact C_g HR0 HB); (case s2 => exact HC0.out); rintro e w5 ⟨v685, rfl, ho0, hb⟩; refine ⟨_, rfl, ?_⟩; have HO686 := mkA (Kd.R_lower (Kd.R_new' ho0 (Kd.R_lt (Kd.R_g HO683.out))) (below_size (bel_g HB.out))); replace HO683 := mkA (Kd.R_elder' (Kd.R_g HO683.out) (Kd.R_base ho0) hb); replace HB := bst HB hb; (try clear hb); (try clear hk); (try clear ho0)))
 go_loopg [3, 14] k (fun kq v3 v14 w' => ∃ (x3_1 : List Int) (x14_1 : Int), v14 = .int .i64 x14_1 ∧ Fc (impl_leveled.l0 kq x3_1 t684 l0 (l0.length : Int) x14_1 = some r) ∧ Fc (kq ≤ k) ∧ Fc (Kd.R (Kd.int .i64) 3 w' w.heap.size (fun k_ => some k_ ≠ (v685 : Value).ownBlock) v3 x3_1) ∧ Fc (Kd.R (Kd.int .i64) 3 w' w.heap.size (fun k_ => some k_ ≠ (v3 : Value).ownBlock) v685 t684) ∧ Fc (Below w.heap.size w w'))
 case atStart => exact ⟨(y681), (0), eqS, H', ⟨Nat.le_refl _⟩, ⟨Kd.R_g (Kd.R_mono HO683.out (fun _ hk => hk.2))⟩, ⟨Kd.R_g (Kd.R_mono HO686.out (fun _ hk => hk.2))⟩, ⟨bel_g HB.out⟩⟩
 case round =>
  clear H'
  obtain ⟨x3_1, x14_1, rfl, HA, HK1, HO_3, HO_4, HB⟩ := hrel
  cases gk with
  | zero => exact absurd HA.out (by simp [impl_leveled.l0])
  | succ k1 =>
   have H := HA.out
   clear HA
   simp only [impl_leveled.l0] at H
   rcases iteE H with ⟨c6b0, H⟩ | ⟨c6b0, H⟩
   ·obtain ⟨c7, H⟩ := itNP H
    have c7b0 : decide (0 ≤ x14_1) = true := decide_eq_true c7
    clear c7
    obtain ⟨c8, H⟩ := itNP H
    have c8b0 : decide (x14_1 < (l0.length : Int)) = true := decide_eq_true c8
    clear c8
    obtain ⟨⟨t688, t689⟩, A9, H⟩ := obE H
    dsimp only at H
    obtain ⟨c10, H⟩ := itNP H
    have LMc10 := mkA c10
    clear c10
    obtain ⟨y690, hy690⟩ : ∃ y_ : List Int, y_ = (x3_1 ++ [t688]) := ⟨_, rfl⟩
    replace H : (impl_leveled.l0 k1 y690 t684 l0 (l0.length : Int) (wrap64 (x14_1 + 1))) = some r := by first | (rw [hy690]; with_reducible exact H) | (have H2_ := (Option.bind_some _ _).symm.trans H; rw [hy690]; with_reducible exact H2_) | (have H2_ := (Option.bind_some _ _).symm.trans H; with_reducible exact H2_) | with_reducible exact H | (rw [hy690]; exact H) | exact H
    have Ny690 := mkA hy690
    clear hy690
    have H' := mkA H
    clear H
    have p687 : 0 ≤ (x14_1 : Int) := ofd
    have q687 : x14_1 < (l0.length : Int) := ofd
    obtain ⟨ad687, e687, hx687_0⟩ := Kd.at_int HR0.out x14_1 p687 q687
    cases e687
    replace hx687_0 := (HB.out.cell (World.block_lt_of_cell? w _ hx687_0)).trans hx687_0
    replace p687 := eq_true p687
    replace q687 := eq_true q687
    obtain ⟨Ao11, co11, eo11⟩ := Kd.R_slice HO_4.out
    subst eo11
    go_wp2_with (first | ((with_reducible refine gate_callee (f := 43) rfl ?_); refine goesQ (some 21) Tryd.func43 #[.slice Ao11 t684.length co11, .int .i64 (rd l0 x14_1)] ?_; (with_reducible refine (slices_BinarySearch_int_int.calls k1 _ _ t684 (rd l0 x14_1) t688 t689 _ ?s1 ?s2 A9.out).mono ?_); (case s1 => exact rC HO_4); (case s2 => exact rL HO_4); rintro e w' ⟨rfl, ⟨nd, rfl⟩⟩; refine ⟨_, rfl, ?_⟩) | ((with_reducible refine gate_builtin (b := .append) (xs := #[.tmp 24, .tmp 26]) rfl ?_); at_builtin; refine Kd.R_append (Kd.int .i64) (w0 := w) w.heap.size rfl (.tmp 24) (.tmp 26) 24 3 (.int .i64 0) 8 rfl Tryd.underlying24 info3 rfl (by decide) (by omega) u3 x3_1 t688 [.int .i64 t688] (fun k_ => some k_ ≠ (.slice Ao11 t684.length co11 : Value).ownBlock) (fun _ => False) rfl rfl ?aP (fun _ hk => hk.elim) ?aF ?aO ?aB ?aS ?aL ?_; (case aP => exact rfl); (case aB => exact (bel_g HB.out)); (case aF => exact (fun k_ hk => Kd.fresh' (Kd.R_lt (Kd.R_g HO_4.out)) k_ hk)); (case aO => exact (Kd.R_g HO_3.out)); (case aS => exact (below_size (bel_g HB.out))); (case aL => have := LMc10.out; omega); intro v691 w12 ho hb hg hat; rw [← Ny690.out] at ho; replace HO_4 := mkA (Kd.R_after (ok := (fun _ => True)) (Kd.R_g (Kd.R_mono HO_4.out (fun _ hk => ⟨trivial, hk⟩))) hg hat); have HO692 := mkA (ho); replace HB := mkA (hb); clear HO_3; clear ho hb hg hat))
    go_roundg k1
    case measure => have := HK1.out; omega
    case rel => exact ⟨(y690), (wrap64 (x14_1 + 1)), eqS, H', ⟨by have := HK1.out; omega⟩, ⟨Kd.R_g HO692.out⟩, ⟨Kd.R_g (Kd.R_mono HO_4.out (fun _ hk => hk.2))⟩, ⟨bel_g HB.out⟩⟩
   ·obtain rfl := Option.some.inj H
    go_wp2
    go_ret
    exact ⟨_, eqE, by (with_reducible repeat (first | apply Kd.R_alloc | apply Kd.R_drewN | apply Kd.R_drew)); exact Kd.R_mono HO_3.out (fun _ hk => trivial), bel_g HB.out⟩
end Go.Proofs.YtgbdjchdfcodcaaDoor.Q
