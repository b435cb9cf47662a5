import Derived.Test.YtmdnbjhboppkdaaDoorBFnMajorities11
namespace Go.Proofs.YtmdnbjhboppkdaaDoor.Q
open Go.RowKit Go.Proofs.YtmdnbjhboppkdaaDoorW.PrintWords Go.Proofs.YtmdnbjhboppkdaaDoorW.PrintLast Go.Proofs.YtmdnbjhboppkdaaDoorW.PrintMore
attribute [local go_sem] max2_int min2_int max_two min_two max_three min_three max_four min_four neB_f
set_option linter.unusedVariables false
set_option maxHeartbeats 8000000
set_option maxRecDepth 100000
set_option linter.unusedSimpArgs false
def slices_BinarySearch_int_int.l0 : Nat → List Int → Int → Int → Int → Int → Option (Int × Bool)
 | 0, _, _, _, _, _ => none
 | k + 1, x0, x1, x6, x7, x8 => if x7 < x8 then (if 0 ≤ (wrap64 ((IntKind.u64.wrap (wrap64 (x7 + x8))) / 2)) then (if (wrap64 ((IntKind.u64.wrap (wrap64 (x7 + x8))) / 2)) < (x0.length : Int) then ((cmp_Less_int.f (rd x0 (wrap64 ((IntKind.u64.wrap (wrap64 (x7 + x8))) / 2))) x1).bind fun t436 => (if t436 = true then (slices_BinarySearch_int_int.l0 k x0 x1 x6 (wrap64 ((wrap64 ((IntKind.u64.wrap (wrap64 (x7 + x8))) / 2)) + 1)) x8) else (slices_BinarySearch_int_int.l0 k x0 x1 x6 x7 (wrap64 ((IntKind.u64.wrap (wrap64 (x7 + x8))) / 2))))) else (none)) else (none)) else (if x7 < x6 then (if 0 ≤ x7 then (if x7 < (x0.length : Int) then (if (rd x0 x7) = x1 then (some (x7, true)) else ((slices_isNaN_int.f (rd x0 x7)).bind fun t439 => (if t439 = true then ((slices_isNaN_int.f x1).bind fun t440 => (some (x7, t440))) else (some (x7, false))))) else (none)) else (none)) else (some (x7, false)))
def slices_BinarySearch_int_int.f (k : Nat) (l0 : List Int) (a1 : Int) : Option (Int × Bool) := slices_BinarySearch_int_int.l0 k l0 a1 (l0.length : Int) 0 (l0.length : Int)
theorem slices_BinarySearch_int_int.mono_l : ∀ k, (∀ y0 y1 y2 y3 y4, LeO (slices_BinarySearch_int_int.l0 k y0 y1 y2 y3 y4) (slices_BinarySearch_int_int.l0 (k + 1) y0 y1 y2 y3 y4))
 | 0 => fun _ _ _ _ _ r h => by simp [slices_BinarySearch_int_int.l0] at h
 | k + 1 => by
  have ih0 := slices_BinarySearch_int_int.mono_l k
  ·intro y0 y1 y2 y3 y4
   unfold slices_BinarySearch_int_int.l0
   repeat' (with_reducible first|apply ih0|apply LeO.refl|apply LeO.none|apply LeO.ite|apply LeO.bind|intro)
theorem slices_BinarySearch_int_int.mono : ∀ a0 a1 k, LeO (slices_BinarySearch_int_int.f k a0 a1) (slices_BinarySearch_int_int.f (k + 1) a0 a1) := by
 intro a0 a1 k
 have ih0 := slices_BinarySearch_int_int.mono_l k
 unfold slices_BinarySearch_int_int.f
 repeat' (with_reducible first|apply ih0|apply LeO.refl|apply LeO.none|apply LeO.ite|apply LeO.bind|intro)
theorem slices_BinarySearch_int_int.calls (k : Nat) (A0 : Option Addr) (c0 : Nat) (l0 : List Int) (a1 : Int) (r1 : Int) (r2 : Bool) (w : World) (hr0 : Kd.C (Kd.int .i64) w A0 l0.length l0) (hc0 : l0.length ≤ c0) (h : slices_BinarySearch_int_int.f k l0 a1 = some (r1, r2)) :
  Calls Tryd.prog 46 #[.slice A0 l0.length c0, .int .i64 a1] w fun e w' => e = .returned (.tuple #[.int .i64 r1, .bool r2]) ∧ Drawn0 w w' := by
 have HR0 := mkA hr0
 have HC0 := mkA hc0
 clear hr0 hc0
 have H := h
 clear h
 unfold slices_BinarySearch_int_int.f at H
 have H' := mkA H
 clear H
 go_enter Tryd.func46, Tryd.ntmps46
 go_wp2
 go_loopg [7, 8] k (fun kq v7 v8 w' => ∃ (x7_1 : Int) (x8_1 : Int), v7 = .int .i64 x7_1 ∧ v8 = .int .i64 x8_1 ∧ Fc (slices_BinarySearch_int_int.l0 kq l0 a1 (l0.length : Int) x7_1 x8_1 = some (r1, r2)) ∧ Fc (kq ≤ k) ∧ Drawn0 w w')
 case atStart => exact ⟨(0), ((l0.length : Int)), eqS, eqS, H', ⟨Nat.le_refl _⟩, by repeat (first | exact Drawn0.refl _ | apply Drawn0.step)⟩
 case round =>
  clear H'
  obtain ⟨x7_1, x8_1, rfl, rfl, HA, HK1, ⟨m1, rfl⟩⟩ := hrel
  cases gk with
  | zero => exact absurd HA.out (by simp [slices_BinarySearch_int_int.l0])
  | succ k1 =>
   have H := HA.out
   clear HA
   simp only [slices_BinarySearch_int_int.l0] at H
   rcases iteE H with ⟨c3b0, H⟩ | ⟨c3b0, H⟩
   ·obtain ⟨ji4, hji4⟩ : ∃ j_ : Int, (wrap64 ((IntKind.u64.wrap (wrap64 (x7_1 + x8_1))) / 2)) = j_ := ⟨_, rfl⟩
    first | rw [hji4] at H | simp only [hji4] at H
    have hji4w : (IntKind.i64.wrap ((IntKind.u64.wrap (wrap64 (x7_1 + x8_1))) / 2)) = ji4 := (i64_w _).trans hji4
    obtain ⟨c5b0, H⟩ := itND H
    obtain ⟨c6b0, H⟩ := itND H
    obtain ⟨t436, A7, H⟩ := obE H
    by_cases c8 : t436 = true
    ·subst c8
     replace H := ifT H
     have H' := mkA H
     clear H
     obtain ⟨p435, q435, ad435, e435, hx435_0⟩ := atI HR0.out (ji4)
     cases e435
     go_wp2_with (first | ((with_reducible refine gate_callee (f := 63) rfl ?_); refine goesL_ (some 27) rfl rfl Tryd.func63 (by kernel_rfl) rfl #[.int .i64 (rd l0 (ji4)), .int .i64 a1] rfl (by (try simp only [List.map_toArray, List.map_cons, List.map_nil]); first | done | (simp only [hji4]; rfl) | rfl | (simp only [List.length_drop, List.length_take]; rfl)) ?_; (with_reducible refine (cmp_Less_int.calls (rd l0 (ji4)) a1 true _ A7.out).mono ?_); rintro e w' ⟨rfl, ⟨nd, rfl⟩⟩; refine ⟨_, rfl, ?_⟩))
     go_roundg k1
     case measure => have := HK1.out; omega
     case rel => exact ⟨(wrap64 ((ji4) + 1)), (x8_1), (by first | rfl | (simp; done) | (simp only [← hji4] <;> (first | rfl | simp)) | (simp [*]; done)), eqS, H', ⟨by have := HK1.out; omega⟩, by repeat (first | exact Drawn0.refl _ | apply Drawn0.step)⟩
    ·replace c8 := Bool.eq_false_iff.mpr c8
     subst c8
     replace H := ifF H
     have H' := mkA H
     clear H
     obtain ⟨p435, q435, ad435, e435, hx435_0⟩ := atI HR0.out (ji4)
     cases e435
     go_wp2_with (first | ((with_reducible refine gate_callee (f := 63) rfl ?_); refine goesL_ (some 27) rfl rfl Tryd.func63 (by kernel_rfl) rfl #[.int .i64 (rd l0 (ji4)), .int .i64 a1] rfl (by (try simp only [List.map_toArray, List.map_cons, List.map_nil]); first | done | (simp only [hji4]; rfl) | rfl | (simp only [List.length_drop, List.length_take]; rfl)) ?_; (with_reducible refine (cmp_Less_int.calls (rd l0 (ji4)) a1 false _ A7.out).mono ?_); rintro e w' ⟨rfl, ⟨nd, rfl⟩⟩; refine ⟨_, rfl, ?_⟩))
     go_roundg k1
     case measure => have := HK1.out; omega
     case rel => exact ⟨(x7_1), (ji4), eqS, (by first | rfl | (simp; done) | (simp only [← hji4] <;> (first | rfl | simp)) | (simp [*]; done)), H', ⟨by have := HK1.out; omega⟩, by repeat (first | exact Drawn0.refl _ | apply Drawn0.step)⟩
   ·rcases iteE H with ⟨c9b0, H⟩ | ⟨c9b0, H⟩
    ·obtain ⟨c10b0, H⟩ := itND H
     obtain ⟨c11b0, H⟩ := itND H
     rcases iteP H with ⟨c12, H⟩ | ⟨c12, H⟩
     ·have c12b0 := beq_iff_eq.mpr c12
      have c12b1 := bne_eq_false_iff_eq.mpr c12
      clear c12
      simp only [Option.some.injEq, Prod.mk.injEq] at H
      obtain ⟨rfl, rfl⟩ := H
      obtain ⟨p437, q437, ad437, e437, hx437_0⟩ := atI HR0.out x7_1
      cases e437
      go_wp2
      go_ret2
      exact ⟨eqS, drE⟩
     ·have c12b0 := beq_eq_false_iff_ne.mpr c12
      have c12b1 := bne_iff_ne.mpr c12
      obtain ⟨t439, A13, H⟩ := obE H
      by_cases c14 : t439 = true
      ·subst c14
       replace H := ifT H
       obtain ⟨t440, A15, H⟩ := obE H
       simp only [Option.some.injEq, Prod.mk.injEq] at H
       obtain ⟨rfl, rfl⟩ := H
       obtain ⟨p437, q437, ad437, e437, hx437_0⟩ := atI HR0.out x7_1
       cases e437
       obtain ⟨p438, q438, ad438, e438, hx438_0⟩ := atI HR0.out x7_1
       obtain rfl : ad437 = ad438 := (by injection e438)
       go_wp2_with (first | (go_at_call 64; (with_reducible refine (slices_isNaN_int.calls (rd l0 x7_1) true _ A13.out).mono ?_); rintro e w' ⟨rfl, ⟨nd, rfl⟩⟩) | (go_at_call 64; (with_reducible refine (slices_isNaN_int.calls a1 t440 _ A15.out).mono ?_); rintro e w' ⟨rfl, ⟨nd, rfl⟩⟩))
       go_ret2
       exact ⟨eqS, drE⟩
      ·replace c14 := Bool.eq_false_iff.mpr c14
       subst c14
       replace H := ifF H
       simp only [Option.some.injEq, Prod.mk.injEq] at H
       obtain ⟨rfl, rfl⟩ := H
       obtain ⟨p437, q437, ad437, e437, hx437_0⟩ := atI HR0.out x7_1
       cases e437
       obtain ⟨p438, q438, ad438, e438, hx438_0⟩ := atI HR0.out x7_1
       obtain rfl : ad437 = ad438 := (by injection e438)
       go_wp2_with (first | (go_at_call 64; (with_reducible refine (slices_isNaN_int.calls (rd l0 x7_1) false _ A13.out).mono ?_); rintro e w' ⟨rfl, ⟨nd, rfl⟩⟩))
       go_ret2
       exact ⟨eqS, drE⟩
    ·simp only [Option.some.injEq, Prod.mk.injEq] at H
     obtain ⟨rfl, rfl⟩ := H
     go_wp2
     go_ret2
     exact ⟨eqS, drE⟩
def impl_leveled.l0 : Nat → List Int → List Int → List Int → Int → Int → Option (List Int)
 | 0, _, _, _, _, _ => none
 | k + 1, x3, x4, x12, x13, x14 => if x14 < x13 then (if 0 ≤ x14 then (if x14 < (x12.length : Int) then ((slices_BinarySearch_int_int.f k x4 (rd x12 x14)).bind fun bt448 => (if x3.length < 17592186044416 then (impl_leveled.l0 k (x3 ++ [bt448.1]) x4 x12 x13 (wrap64 (x14 + 1))) else (none))) else (none)) else (none)) else (some x3)
def impl_leveled.f (k : Nat) (l0 : List Int) : Option (List Int) := (impl_different.f l0).bind fun t444 => (impl_leveled.l0 k (([] : List Int)) t444 l0 (l0.length : Int) 0)
theorem impl_leveled.mono_l : ∀ k, (∀ y0 y1 y2 y3 y4, LeO (impl_leveled.l0 k y0 y1 y2 y3 y4) (impl_leveled.l0 (k + 1) y0 y1 y2 y3 y4))
 | 0 => fun _ _ _ _ _ r h => by simp [impl_leveled.l0] at h
 | k + 1 => by
  have ih0 := impl_leveled.mono_l k
  ·intro y0 y1 y2 y3 y4
   unfold impl_leveled.l0
   repeat' (with_reducible first|apply ih0|apply slices_BinarySearch_int_int.mono|apply LeO.refl|apply LeO.none|apply LeO.ite|apply LeO.bind|intro)
theorem impl_leveled.mono : ∀ a0 k, LeO (impl_leveled.f k a0) (impl_leveled.f (k + 1) a0) := by
 intro a0 k
 have ih0 := impl_leveled.mono_l k
 unfold impl_leveled.f
 repeat' (with_reducible first|apply ih0|apply slices_BinarySearch_int_int.mono|apply LeO.refl|apply LeO.none|apply LeO.ite|apply LeO.bind|intro)
theorem impl_leveled.calls (k : Nat) (A0 : Option Addr) (c0 : Nat) (l0 : List Int) (r : List Int) (w : World) (hr0 : Kd.C (Kd.int .i64) w A0 l0.length l0) (hc0 : l0.length ≤ c0) (h : impl_leveled.f k l0 = some r) :
  Calls Tryd.prog 25 #[.slice A0 l0.length c0] w fun e w' => ∃ v0_ : Value, e = .returned (v0_) ∧ Kd.R (Kd.int .i64) 3 w' w.heap.size (fun _ => True) v0_ r ∧ Below w.heap.size w w' := by
 have HR0 := mkA hr0
 have HC0 := mkA hc0
 clear hr0 hc0
 have HB := mkA (Below.refl w.heap.size w)
 have H := h
 clear h
 unfold impl_leveled.f at H
 obtain ⟨y441, hy441⟩ : ∃ y_ : List Int, y_ = (([] : List Int)) := ⟨_, rfl⟩
 rw [← hy441] at H
 have Ny441 := mkA hy441
 clear hy441
 obtain ⟨t444, A2, H⟩ := obE H
 have H' := mkA H
 clear H
 go_enter Tryd.func25, Tryd.ntmps25
 go_wp2_with (first | ((with_reducible refine gate_dst (N := 9) rfl ?_); refine litE (Kd.int .i64) 3 ([] : List Int) [] ?hp ?_; (case hp => exact (Reps.none _ _)); intro v442 w3 ho4 hb hg_ hnew_; clear hg_ hnew_; (first | rw [← Ny441.out] at ho4 | (simp only [Int.reduceToNat] at ho4; rw [← Ny441.out] at ho4)); have HO443 := rLo ho4 HB; replace HB := bst HB hb; clear hb ho4) | ((with_reducible refine gate_callee (f := 29) rfl ?_); refine goesQ (some 11) Tryd.func29 #[.slice A0 l0.length c0] ?_; (with_reducible refine (impl_different.calls _ _ l0 t444 _ ?_ ?_ A2.out).mono ?_); exact C_g HR0 HB; exact HC0.out; rintro e w5 ⟨v445, rfl, ho0, hb⟩; refine ⟨_, rfl, ?_⟩; have HO446 := rLo (rN ho0 HO443) HB; replace HO443 := rE HO443 ho0 hb; replace HB := bst HB hb; clear hb ho0))
 go_loopg [3, 14] k (fun kq v3 v14 w' => ∃ (x3_1 : List Int) (x14_1 : Int), v14 = .int .i64 x14_1 ∧ Fc (impl_leveled.l0 kq x3_1 t444 l0 (l0.length : Int) x14_1 = some r) ∧ Fc (kq ≤ k) ∧ Fc (Kd.R (Kd.int .i64) 3 w' w.heap.size (fun k_ => some k_ ≠ (v445 : Value).ownBlock) v3 x3_1) ∧ Fc (Kd.R (Kd.int .i64) 3 w' w.heap.size (fun k_ => some k_ ≠ (v3 : Value).ownBlock) v445 t444) ∧ Fc (Below w.heap.size w w'))
 case atStart => exact ⟨(y441), (0), eqS, H', ⟨Nat.le_refl _⟩, ⟨Kd.R_g (Kd.R_mono HO443.out (fun _ hk => hk.2))⟩, ⟨Kd.R_g (Kd.R_mono HO446.out (fun _ hk => hk.2))⟩, hbg HB⟩
 case round =>
  clear H'
  obtain ⟨x3_1, x14_1, rfl, HA, HK1, HO_3, HO_4, HB⟩ := hrel
  cases gk with
  | zero => exact absurd HA.out (by simp [impl_leveled.l0])
  | succ k1 =>
   have H := HA.out
   clear HA
   simp only [impl_leveled.l0] at H
   rcases iteE H with ⟨c6b0, H⟩ | ⟨c6b0, H⟩
   ·obtain ⟨c7b0, H⟩ := itND H
    obtain ⟨c8b0, H⟩ := itND H
    obtain ⟨⟨t448, t449⟩, A9, H⟩ := obE H
    dsimp only at H
    obtain ⟨c10, H⟩ := itNP H
    have LMc10 := mkA c10
    clear c10
    obtain ⟨y450, hy450⟩ : ∃ y_ : List Int, y_ = (x3_1 ++ [t448]) := ⟨_, rfl⟩
    rw [← hy450] at H
    have Ny450 := mkA hy450
    clear hy450
    have H' := mkA H
    clear H
    obtain ⟨p447, q447, ad447, e447, hx447_0⟩ := atI HR0.out x14_1
    cases e447
    replace hx447_0 := (HB.out.cell (World.block_lt_of_cell? w _ hx447_0)).trans hx447_0
    obtain ⟨Ao11, co11, rfl⟩ := Kd.R_slice HO_4.out
    go_wp2_with (first | ((with_reducible refine gate_callee (f := 46) rfl ?_); refine goesQ (some 21) Tryd.func46 #[.slice Ao11 t444.length co11, .int .i64 (rd l0 x14_1)] ?_; (with_reducible refine (slices_BinarySearch_int_int.calls k1 _ _ t444 (rd l0 x14_1) t448 t449 _ ?_ ?_ A9.out).mono ?_); exact rC HO_4; exact rL HO_4; rintro e w' ⟨rfl, ⟨nd, rfl⟩⟩; refine ⟨_, rfl, ?_⟩) | ((with_reducible refine gate_builtin (b := .append) (xs := #[.tmp 24, .tmp 26]) rfl ?_); at_builtin; refine Kd.R_append (Kd.int .i64) (w0 := w) w.heap.size rfl (.tmp 24) (.tmp 26) 26 3 (.int .i64 0) 8 rfl Tryd.underlying26 info3 rfl (by decide) (by omega) u3 x3_1 t448 [.int .i64 t448] (fun k_ => some k_ ≠ (.slice Ao11 t444.length co11 : Value).ownBlock) (fun _ => False) rfl rfl ?aP (fun _ hk => hk.elim) ?aF ?aO ?aB ?aS ?aL ?_; (case aP => exact rfl); (case aB => exact (bel_g HB.out)); (case aF => exact (fun k_ hk => Kd.fresh' (Kd.R_lt (Kd.R_g HO_4.out)) k_ hk)); (case aO => exact (Kd.R_g HO_3.out)); (case aS => exact (below_size (bel_g HB.out))); (case aL => have := LMc10.out; omega); intro v451 w12 ho hb hg hat; rw [← Ny450.out] at ho; replace HO_4 := mkA (Kd.R_after (ok := (fun _ => True)) (Kd.R_g (Kd.R_mono HO_4.out (fun _ hk => ⟨trivial, hk⟩))) hg hat); have HO452 := mkA (ho); replace HB := mkA (hb); clear HO_3; clear ho hb hg hat))
    go_roundg k1
    case measure => have := HK1.out; omega
    case rel => exact ⟨(y450), (wrap64 (x14_1 + 1)), eqS, H', ⟨by have := HK1.out; omega⟩, rg HO452, ⟨Kd.R_g (Kd.R_mono HO_4.out (fun _ hk => hk.2))⟩, hbg HB⟩
   ·obtain rfl := Option.some.inj H
    go_wp2
    go_ret
    exact ⟨_, eqE, Kd.R_g (Kd.R_mono HO_3.out (fun _ hk => trivial)), bel_g HB.out⟩
mutual
def impl_MeanLevels.l0 : Nat → List Int → List (List Int) → Int → Int → Option (List Int × Bool)
 | 0, _, _, _, _ => none
 | k + 1, x4, x17, x18, x19 => if x19 < x18 then (if 0 ≤ x19 then (if x19 < (x17.length : Int) then (impl_MeanLevels.l1 k x4 x17 x18 x19 (rd_L2 x17 x19) ((rd_L2 x17 x19).length : Int) 0) else (none)) else (none)) else ((impl_leveled.f k x4).bind fun t458 => (some (t458, true)))
def impl_MeanLevels.l1 : Nat → List Int → List (List Int) → Int → Int → List Int → Int → Int → Option (List Int × Bool)
 | 0, _, _, _, _, _, _, _ => none
 | k + 1, x4, x17, x18, x19, x23, x24, x25 => if x25 < x24 then (if 0 ≤ x25 then (if x25 < (x23.length : Int) then (if x25 < (x4.length : Int) then (impl_MeanLevels.l1 k (x4.set (x25 : Int).toNat (wrap64 ((rd x4 x25) + (rd x23 x25)))) x17 x18 x19 x23 x24 (wrap64 (x25 + 1))) else (none)) else (none)) else (none)) else (impl_MeanLevels.l0 k x4 x17 x18 (wrap64 (x19 + 1)))
end
def impl_MeanLevels.f (k : Nat) (l0 : List (List Int)) : Option (List Int × Bool) := (impl_areVoters.f k l0).bind fun t453 => (if t453 = true then (if 0 < (l0.length : Int) then (if 0 ≤ ((rd_L2 l0 0).length : Int) then (if (((rd_L2 l0 0).length : Int) : Int).toNat ≤ 35184372088832 then (impl_MeanLevels.l0 k (List.replicate (((rd_L2 l0 0).length : Int) : Int).toNat 0) l0 (l0.length : Int) 0) else (none)) else (none)) else (none)) else (some (([] : List Int), false)))
theorem impl_MeanLevels.mono_l : ∀ k, (∀ y0 y1 y2 y3, LeO (impl_MeanLevels.l0 k y0 y1 y2 y3) (impl_MeanLevels.l0 (k + 1) y0 y1 y2 y3)) ∧ (∀ y0 y1 y2 y3 y4 y5 y6, LeO (impl_MeanLevels.l1 k y0 y1 y2 y3 y4 y5 y6) (impl_MeanLevels.l1 (k + 1) y0 y1 y2 y3 y4 y5 y6))
 | 0 => ⟨fun _ _ _ _ r h => by simp [impl_MeanLevels.l0] at h, fun _ _ _ _ _ _ _ r h => by simp [impl_MeanLevels.l1] at h⟩
 | k + 1 => by
  obtain ⟨ih0, ih1⟩ := impl_MeanLevels.mono_l k
  refine ⟨?_, ?_⟩ <;> intros
  unfold impl_MeanLevels.l0
  rotate_left
  unfold impl_MeanLevels.l1
  rotate_left
  all_goals repeat' (with_reducible first|apply ih0|apply ih1|apply impl_areVoters.mono|apply impl_leveled.mono|apply LeO.refl|apply LeO.none|apply LeO.ite|apply LeO.bind|intro)
theorem impl_MeanLevels.mono : ∀ a0 k, LeO (impl_MeanLevels.f k a0) (impl_MeanLevels.f (k + 1) a0) := by
 intro a0 k
 obtain ⟨ih0, ih1⟩ := impl_MeanLevels.mono_l k
 unfold impl_MeanLevels.f
 repeat' (with_reducible first|apply ih0|apply ih1|apply impl_areVoters.mono|apply impl_leveled.mono|apply LeO.refl|apply LeO.none|apply LeO.ite|apply LeO.bind|intro)
theorem impl_MeanLevels.calls (k : Nat) (A0 : Option Addr) (c0 : Nat) (l0 : List (List Int)) (r1 : List Int) (r2 : Bool) (w : World) (hr0 : Kd.C (Kd.slice 3 (Kd.int .i64)) w A0 l0.length l0) (hc0 : l0.length ≤ c0) (h : impl_MeanLevels.f k l0 = some (r1, r2)) :
  Calls Tryd.prog 8 #[.slice A0 l0.length c0] w fun e w' => ∃ v0_ : Value, e = .returned (.tuple #[v0_, .bool r2]) ∧ Kd.R (Kd.int .i64) 3 w' w.heap.size (fun _ => True) v0_ r1 ∧ Below w.heap.size w w' := by
 have HR0 := mkA hr0
 have HC0 := mkA hc0
 clear hr0 hc0
 have HB := mkA (Below.refl w.heap.size w)
 have H := h
 clear h
 unfold impl_MeanLevels.f at H
 obtain ⟨t453, A2, H⟩ := obE H
 by_cases c3 : t453 = true
 ·subst c3
  replace H := ifT H
  obtain ⟨c4, H⟩ := itNP H
  have c4b0 := decide_eq_true c4
  have c4b1 : decide (0 < l0.length) = true := decide_eq_true (by omega)
  clear c4
  obtain ⟨c5b0, c5b1, H⟩ := itNQ H
  obtain ⟨c6b0, c6b1, H⟩ := itNQ H
  obtain ⟨y455, hy455⟩ : ∃ y_ : List Int, y_ = (List.replicate (((rd_L2 l0 0).length : Int) : Int).toNat 0) := ⟨_, rfl⟩
  rw [← hy455] at H
  have Ny455 := mkA hy455
  clear hy455
  have H' := mkA H
  clear H
  go_enter Tryd.func8, Tryd.ntmps8
  go_wp2_with (first | ((with_reducible refine gate_callee (f := 19) rfl ?_); refine goesQ (some 10) Tryd.func19 #[.slice A0 l0.length c0] ?_; (with_reducible refine (impl_areVoters.calls k _ _ l0 true _ ?s1 ?s2 A2.out).mono ?_); (case s1 => repeat (first | exact HR0.out | (with_reducible refine Kd.C_alloc ?_ _) | (with_reducible refine Kd.C_drewN ?_ _) | (with_reducible refine Kd.C_drew ?_))); (case s2 => exact HC0.out); rintro e w7 ⟨rfl, hb⟩; refine ⟨_, rfl, ?_⟩; replace HB := bst HB hb; clear hb; have p454 : 0 ≤ (0 : Int) := (by omega); have q454 : 0 < (l0.length : Int) := ofd; obtain ⟨ad454, A454_0, c454_0, e454, hx454_0, hl454_0, hi454_0⟩ := at_L2 HR0.out 0 p454 q454; cases e454; have qi454 : (0 < l0.length) = True := eq_true (by omega); (try rw [show ((0 : Int)).toNat = 0 from rfl] at hx454_0); (try rw [Addr.add_zero'] at hx454_0); replace hx454_0 := (HB.out.cell (World.block_lt_of_cell? w _ hx454_0)).trans hx454_0; have HR454_0 := mkA hi454_0; have HC454_0 := mkA hl454_0; clear hi454_0 hl454_0; replace p454 := eq_true p454; replace q454 := eq_true q454) | ((with_reducible refine gate_dst (N := 16) rfl ?_); refine Kd.R_make (Kd.int .i64) _ 3 rfl (N := 16) rfl 26 _ _ rfl ((rd_L2 l0 0).length : Int) rfl rfl Tryd.underlying26 (.int .i64 0) 8 info3 rfl (by decide) (by omega) 0 (ok := fun _ => True) (okp := fun _ => True) rfl (fun _ hk => hk) trivial (ofd) (Nat.le_trans (Nat.mul_le_mul_right _ (ofd : ((rd_L2 l0 0).length : Int).toNat ≤ 35184372088832)) (by omega)) (Below.refl _ _) (Nat.le_refl _) ?_; intro v456 w8 ho9 hb hg_ hnew_; clear hg_ hnew_; (first | rw [← Ny455.out] at ho9 | (simp only [Int.reduceToNat] at ho9; rw [← Ny455.out] at ho9)); have HO457 := rLo ho9 HB; replace HB := bst HB hb; clear hb ho9))
  go_loopg [19] k (fun kq v19 w' => ∃ (x4_1 : List Int) (x19_1 : Int), v19 = .int .i64 x19_1 ∧ Fc (impl_MeanLevels.l0 kq x4_1 l0 (l0.length : Int) x19_1 = some (r1, r2)) ∧ Fc (kq ≤ k) ∧ Fc (Kd.R (Kd.int .i64) 3 w' w.heap.size (fun _ => True) v456 x4_1) ∧ Fc (Below w.heap.size w w'))
  case atStart => exact ⟨(y455), (0), eqS, H', ⟨Nat.le_refl _⟩, rg HO457, hbg HB⟩
  case round =>
   clear H'
   try clear c3
   try clear c4
   try clear c4b0
   try clear c4b1
   try clear c5
   try clear c5b0
   try clear c5b1
   try clear c6
   try clear c6b0
   try clear c6b1
   try clear hx454_0
   try clear p454
   try clear q454
   obtain ⟨x4_1, x19_1, rfl, HA, HK1, HO_4, HB⟩ := hrel
   cases gk with
   | zero => exact absurd HA.out (by simp [impl_MeanLevels.l0])
   | succ k1 =>
    have H := HA.out
    clear HA
    simp only [impl_MeanLevels.l0] at H
    rcases iteE H with ⟨c10b0, H⟩ | ⟨c10b0, H⟩
    ·obtain ⟨c11b0, H⟩ := itND H
     obtain ⟨c12b0, H⟩ := itND H
     have H' := mkA H
     clear H
     have p461 : 0 ≤ (x19_1 : Int) := ofd
     have q461 : x19_1 < (l0.length : Int) := ofd
     obtain ⟨ad461, A461_0, c461_0, e461, hx461_0, hl461_0, hi461_0⟩ := at_L2 HR0.out x19_1 p461 q461
     obtain rfl : ad454 = ad461 := (by injection e461)
     replace hx461_0 := (HB.out.cell (World.block_lt_of_cell? w _ hx461_0)).trans hx461_0
     have HR461_0 := mkA hi461_0
     have HC461_0 := mkA hl461_0
     clear hi461_0 hl461_0
     replace p461 := eq_true p461
     replace q461 := eq_true q461
     go_wp2
     go_loopg [25] k1 (fun kq v25 w' => ∃ (x4_2 : List Int) (x25_2 : Int), v25 = .int .i64 x25_2 ∧ Fc (impl_MeanLevels.l1 kq x4_2 l0 (l0.length : Int) x19_1 (rd_L2 l0 x19_1) ((rd_L2 l0 x19_1).length : Int) x25_2 = some (r1, r2)) ∧ Fc (kq ≤ k1) ∧ Fc (Kd.R (Kd.int .i64) 3 w' w.heap.size (fun _ => True) v456 x4_2) ∧ Fc (Below w.heap.size w w'))
     case atStart => exact ⟨(x4_1), (0), eqS, H', ⟨Nat.le_refl _⟩, rg HO_4, hbg HB⟩
     case round =>
      clear H'
      try clear c3
      try clear c4
      try clear c4b0
      try clear c4b1
      try clear c5
      try clear c5b0
      try clear c5b1
      try clear c6
      try clear c6b0
      try clear c6b1
      try clear c10b0
      try clear c11
      try clear c11b0
      try clear c12
      try clear c12b0
      try clear hx454_0
      try clear hx461_0
      try clear p454
      try clear p461
      try clear q454
      try clear q461
      obtain ⟨x4_2, x25_2, rfl, HA, HK2, HO_4, HB⟩ := hrel
      cases gk with
      | zero => exact absurd HA.out (by simp [impl_MeanLevels.l1])
      | succ k2 =>
       have H := HA.out
       clear HA
       simp only [impl_MeanLevels.l1] at H
       rcases iteE H with ⟨c13b0, H⟩ | ⟨c13b0, H⟩
       ·obtain ⟨c14b0, H⟩ := itND H
        obtain ⟨c15b0, H⟩ := itND H
        obtain ⟨c16b0, H⟩ := itND H
        obtain ⟨y464, hy464⟩ : ∃ y_ : List Int, y_ = (x4_2.set (x25_2 : Int).toNat (wrap64 ((rd x4_2 x25_2) + (rd (rd_L2 l0 x19_1) x25_2)))) := ⟨_, rfl⟩
        rw [← hy464] at H
        have Ny464 := mkA hy464
        clear hy464
        have H' := mkA H
        clear H
        obtain ⟨p462, q462, ad462, e462, hx462_0⟩ := atI HR461_0.out x25_2
        cases e462
        replace hx462_0 := (HB.out.cell (World.block_lt_of_cell? w _ hx462_0)).trans hx462_0
        obtain ⟨Ao18, co18, rfl⟩ := Kd.R_slice HO_4.out
        obtain ⟨p463, q463, ad463, e463, hx463_0⟩ := atI (Kd.R_reads' HO_4.out).2.2 x25_2
        cases e463
        have p17 : 0 ≤ (x25_2 : Int) := ofd
        have q17 : (x25_2 : Int) < ((x4_2.length : Int) : Int) := ofd
        obtain ⟨go17, co17, eo17, gb17, gl17, cl17, HG17⟩ := Kd.R_form HO_4.out (by omega)
        (first | cases eo17 | (injection eo17 with ea_ en_ ec_; (first | subst ea_ | (injection ea_ with ea_; subst ea_)); subst ec_; clear en_))
        have GB17 : Ge _ _ := ⟨gb17⟩
        have GG17 := mkA HG17
        clear gb17 gl17 HG17
        (first | simp only [add_plain] at hx463_0 | skip)
        obtain ⟨hx17_0, hf17_0⟩ := Kd.R_celln 0 HO_4.out (x25_2 : Int) p17 q17
        replace p17 := eq_true p17
        replace q17 := eq_true q17
        have HP19 := Kd.R_putg HO_4.out (x25_2 : Int) (wrap64 ((rd x4_2 x25_2) + (rd (rd_L2 l0 x19_1) x25_2)))
        go_wp2_with (first | ((with_reducible refine gate_store (t := 3) (p := 36) rfl ?_); refine store_event (t := 3) (p := 36) (v := ?vo_w20) (w1 := (wr.setCell ⟨go17, (x25_2 : Int).toNat, none⟩ (.int .i64 (wrap64 ((rd x4_2 x25_2) + (rd (rd_L2 l0 x19_1) x25_2)))))) ?hg ?ho ?hn ?hr ?_; (case ho => rfl); (case hg => rfl); (case hn => rfl); (case hr => first | (go_simp; done) | (go_simp; rfl)); intro w20 hw; have hg : wr.grownBy w20 (some go17) := (by rw [hw]; exact HP19.2); have hp_ : Kd.R (Kd.int .i64) 3 w20 w.heap.size (fun _ => True) (.slice (some ⟨go17, 0, none⟩) x4_2.length co18) y464 := (by rw [hw, Ny464.out]; exact HP19.1); clear HP19; replace HO_4 := mkA (hp_); replace HB := mkA ((by rw [hw]; exact below_set (HB.out) GB17.out : Below w.heap.size w w20)); clear hg hw hp_))
        go_roundg k2
        case measure => have := HK1.out; have := HK2.out; omega
        case rel => exact ⟨(y464), (wrap64 (x25_2 + 1)), eqS, H', ⟨by have := HK1.out; have := HK2.out; omega⟩, rg HO_4, hbg HB⟩
       ·have H' := mkA H
        clear H
        go_wp2
        go_roundg k2
        case measure => have := HK1.out; have := HK2.out; omega
        case rel => exact ⟨(x4_2), (wrap64 (x19_1 + 1)), eqS, H', ⟨by have := HK1.out; have := HK2.out; omega⟩, rg HO_4, hbg HB⟩
    ·obtain ⟨t458, A21, H⟩ := obE H
     simp only [Option.some.injEq, Prod.mk.injEq] at H
     obtain ⟨rfl, rfl⟩ := H
     obtain ⟨Ao22, co22, rfl⟩ := Kd.R_slice HO_4.out
     go_wp2_with (first | ((with_reducible refine gate_callee (f := 25) rfl ?_); refine goesQ (some 40) Tryd.func25 #[.slice Ao22 x4_1.length co22] ?_; (with_reducible refine (impl_leveled.calls k1 _ _ x4_1 t458 _ ?_ ?_ A21.out).mono ?_); exact rC HO_4; exact rL HO_4; rintro e w23 ⟨v459, rfl, ho0, hb⟩; refine ⟨_, rfl, ?_⟩; have HO460 := rLo (rN ho0 HO_4) HB; replace HO_4 := rE HO_4 ho0 hb; replace HB := bst HB hb; clear hb ho0))
     go_ret2
     exact ⟨_, eqE, Kd.R_g (Kd.R_mono HO460.out (fun _ hk => trivial)), bel_g HB.out⟩
 ·replace c3 := Bool.eq_false_iff.mpr c3
  subst c3
  replace H := ifF H
  simp only [Option.some.injEq, Prod.mk.injEq] at H
  obtain ⟨rfl, rfl⟩ := H
  go_enter Tryd.func8, Tryd.ntmps8
  go_wp2_with (first | ((with_reducible refine gate_callee (f := 19) rfl ?_); refine goesQ (some 10) Tryd.func19 #[.slice A0 l0.length c0] ?_; (with_reducible refine (impl_areVoters.calls k _ _ l0 false _ ?s1 ?s2 A2.out).mono ?_); (case s1 => repeat (first | exact HR0.out | (with_reducible refine Kd.C_alloc ?_ _) | (with_reducible refine Kd.C_drewN ?_ _) | (with_reducible refine Kd.C_drew ?_))); (case s2 => exact HC0.out); rintro e w24 ⟨rfl, hb⟩; refine ⟨_, rfl, ?_⟩; replace HB := bst HB hb; clear hb))
  go_ret2
  exact ⟨_, eqE, nilE, bel_g HB.out⟩
end Go.Proofs.YtmdnbjhboppkdaaDoor.Q
