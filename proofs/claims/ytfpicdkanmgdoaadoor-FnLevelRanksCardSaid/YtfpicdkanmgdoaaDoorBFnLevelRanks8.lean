import Derived.Test.YtfpicdkanmgdoaaDoorBFnLevelRanks2
namespace Go.Proofs.YtfpicdkanmgdoaaDoor.Q
open Go.RowKit Go.Proofs.YtfpicdkanmgdoaaDoorW.PrintWords Go.Proofs.YtfpicdkanmgdoaaDoorW.PrintLast Go.Proofs.YtfpicdkanmgdoaaDoorW.PrintMore
attribute [local go_sem] max2_int min2_int max_two min_two max_three min_three max_four min_four neB_f
set_option linter.unusedVariables false
set_option maxHeartbeats 8000000
set_option maxRecDepth 100000
set_option linter.unusedSimpArgs false
mutual
def impl_CountWeak.l0 : Nat → Int → List Int → Int → Option (Int × Bool)
 | 0, _, _, _ => none
 | k + 1, x0, x4, x5 => if x5 ≤ x0 then (impl_CountWeak.l1 k x0 x4 x5 0 1 1) else (if 0 ≤ x0 then (if x0 < (x4.length : Int) then (some (rd x4 x0, true)) else (none)) else (none))
def impl_CountWeak.l1 : Nat → Int → List Int → Int → Int → Int → Int → Option (Int × Bool)
 | 0, _, _, _, _, _, _ => none
 | k + 1, x0, x4, x5, x6, x7, x8 => if x8 ≤ x5 then (if x8 = 0 then (none) else (if 0 ≤ (wrap64 (x5 - x8)) then (if (wrap64 (x5 - x8)) < (x4.length : Int) then (impl_CountWeak.l1 k x0 x4 x5 (wrap64 (x6 + (wrap64 ((wrap64 (Int.tdiv (wrap64 (x7 * (wrap64 ((wrap64 (x5 - x8)) + 1)))) x8)) * (rd x4 (wrap64 (x5 - x8))))))) (wrap64 (Int.tdiv (wrap64 (x7 * (wrap64 ((wrap64 (x5 - x8)) + 1)))) x8)) (wrap64 (x8 + 1))) else (none)) else (none))) else (if x4.length < 17592186044416 then (impl_CountWeak.l0 k x0 (x4 ++ [x6]) (wrap64 (x5 + 1))) else (none))
end
def impl_CountWeak.f (k : Nat) (a0 : Int) : Option (Int × Bool) := (impl_within.f a0 0 10).bind fun t344 => (if t344 = true then (impl_CountWeak.l0 k a0 (([1] : List Int)) 1) else (some (0, false)))
theorem impl_CountWeak.mono_l : ∀ k, (∀ y0 y1 y2, LeO (impl_CountWeak.l0 k y0 y1 y2) (impl_CountWeak.l0 (k + 1) y0 y1 y2)) ∧ (∀ y0 y1 y2 y3 y4 y5, LeO (impl_CountWeak.l1 k y0 y1 y2 y3 y4 y5) (impl_CountWeak.l1 (k + 1) y0 y1 y2 y3 y4 y5))
 | 0 => ⟨fun _ _ _ r h => by simp [impl_CountWeak.l0] at h, fun _ _ _ _ _ _ r h => by simp [impl_CountWeak.l1] at h⟩
 | k + 1 => by
  obtain ⟨ih0, ih1⟩ := impl_CountWeak.mono_l k
  refine ⟨?_, ?_⟩ <;> intros
  unfold impl_CountWeak.l0
  rotate_left
  unfold impl_CountWeak.l1
  rotate_left
  all_goals repeat' (with_reducible first|apply ih0|apply ih1|apply LeO.refl|apply LeO.none|apply LeO.ite|apply LeO.bind|intro)
theorem impl_CountWeak.mono : ∀ a0 k, LeO (impl_CountWeak.f k a0) (impl_CountWeak.f (k + 1) a0) := by
 intro a0 k
 obtain ⟨ih0, ih1⟩ := impl_CountWeak.mono_l k
 unfold impl_CountWeak.f
 repeat' (with_reducible first|apply ih0|apply ih1|apply LeO.refl|apply LeO.none|apply LeO.ite|apply LeO.bind|intro)
theorem impl_CountWeak.calls (k : Nat) (a0 : Int) (r1 : Int) (r2 : Bool) (w : World) (h : impl_CountWeak.f k a0 = some (r1, r2)) :
  Calls Tryd.prog 10 #[.int .i64 a0] w fun e w' => e = .returned (.tuple #[.int .i64 r1, .bool r2]) ∧ Below w.heap.size w w' := by
 have HB := mkA (Below.refl w.heap.size w)
 have H := h
 clear h
 unfold impl_CountWeak.f at H
 obtain ⟨t344, A2, H⟩ := obE H
 by_cases c3 : t344 = true
 ·subst c3
  replace H := ifT H
  obtain ⟨y345, hy345⟩ : ∃ y_ : List Int, y_ = (([1] : List Int)) := ⟨_, rfl⟩
  rw [← hy345] at H
  have Ny345 := mkA hy345
  clear hy345
  have H' := mkA H
  clear H
  go_enter Tryd.func10, Tryd.ntmps10
  go_wp2_with (first | ((with_reducible refine gate_callee (f := 25) rfl ?_); refine goesQ (some 10) Tryd.func25 #[.int .i64 a0, .int .i64 0, .int .i64 10] ?_; (with_reducible refine (impl_within.calls a0 0 10 true _ A2.out).mono ?_); rintro e w' ⟨rfl, ⟨nd, rfl⟩⟩; refine ⟨_, rfl, ?_⟩) | ((with_reducible refine gate_dst (N := 12) rfl ?_); refine litE (Kd.int .i64) 3 ([1] : List Int) [.int .i64 1] ?hp ?_; (case hp => exact (Reps.one (show Kd.M (Kd.int .i64) _ _ _ 1 [.int .i64 1] from rfl) (Reps.none _ _))); intro v346 w4 ho5 hb hg_ hnew_; clear hg_ hnew_; (first | rw [← Ny345.out] at ho5 | (simp only [Int.reduceToNat] at ho5; rw [← Ny345.out] at ho5)); have HO347 := rLo ho5 HB; replace HB := bst HB hb; clear hb ho5))
  go_loopg [4, 5] k (fun kq v4 v5 w' => ∃ (x4_1 : List Int) (x5_1 : Int), v5 = .int .i64 x5_1 ∧ Fc (impl_CountWeak.l0 kq a0 x4_1 x5_1 = some (r1, r2)) ∧ Fc (kq ≤ k) ∧ Fc (Kd.R (Kd.int .i64) 3 w' w.heap.size (fun _ => True) v4 x4_1) ∧ Fc (Below w.heap.size w w'))
  case atStart => exact ⟨(y345), (1), eqS, H', ⟨Nat.le_refl _⟩, rg HO347, hbg HB⟩
  case round =>
   clear H'
   try clear c3
   obtain ⟨x4_1, x5_1, rfl, HA, HK1, HO_4, HB⟩ := hrel
   cases gk with
   | zero => exact absurd HA.out (by simp [impl_CountWeak.l0])
   | succ k1 =>
    have H := HA.out
    clear HA
    simp only [impl_CountWeak.l0] at H
    rcases iteE H with ⟨c6b0, H⟩ | ⟨c6b0, H⟩
    ·have H' := mkA H
     clear H
     go_wp2
     go_loopg [6, 7, 8] k1 (fun kq v6 v7 v8 w' => ∃ (x6_2 : Int) (x7_2 : Int) (x8_2 : Int), v6 = .int .i64 x6_2 ∧ v7 = .int .i64 x7_2 ∧ v8 = .int .i64 x8_2 ∧ Fc (impl_CountWeak.l1 kq a0 x4_1 x5_1 x6_2 x7_2 x8_2 = some (r1, r2)) ∧ Fc (kq ≤ k1) ∧ Fc (Kd.R (Kd.int .i64) 3 w' w.heap.size (fun _ => True) u4 x4_1) ∧ Fc (Below w.heap.size w w'))
     case atStart => exact ⟨(0), (1), (1), eqS, eqS, eqS, H', ⟨Nat.le_refl _⟩, rg HO_4, hbg HB⟩
     case round =>
      clear H'
      try clear c3
      try clear c6b0
      obtain ⟨x6_2, x7_2, x8_2, rfl, rfl, rfl, HA, HK2, HO_4, HB⟩ := hrel
      cases gk with
      | zero => exact absurd HA.out (by simp [impl_CountWeak.l1])
      | succ k2 =>
       have H := HA.out
       clear HA
       simp only [impl_CountWeak.l1] at H
       rcases iteE H with ⟨c7b0, H⟩ | ⟨c7b0, H⟩
       ·obtain ⟨c8, H⟩ := itMP H
        have c8b0 := beq_eq_false_iff_ne.mpr c8
        have c8b1 := bne_iff_ne.mpr c8
        obtain ⟨ji9, hji9⟩ : ∃ j_ : Int, (wrap64 (x5_1 - x8_2)) = j_ := ⟨_, rfl⟩
        first | rw [hji9] at H | simp only [hji9] at H
        have hji9w : (IntKind.i64.wrap (x5_1 - x8_2)) = ji9 := (i64_w _).trans hji9
        obtain ⟨c10b0, H⟩ := itND H
        obtain ⟨c11b0, H⟩ := itND H
        have H' := mkA H
        clear H
        obtain ⟨Ao12, co12, rfl⟩ := Kd.R_slice HO_4.out
        obtain ⟨p349, q349, ad349, e349, hx349_0⟩ := atI (Kd.R_reads' HO_4.out).2.2 (ji9)
        cases e349
        go_wp2
        go_roundg k2
        case measure => have := HK1.out; have := HK2.out; omega
        case rel => exact ⟨(wrap64 (x6_2 + (wrap64 ((wrap64 (Int.tdiv (wrap64 (x7_2 * (wrap64 ((ji9) + 1)))) x8_2)) * (rd x4_1 (ji9)))))), (wrap64 (Int.tdiv (wrap64 (x7_2 * (wrap64 ((ji9) + 1)))) x8_2)), (wrap64 (x8_2 + 1)), (by first | rfl | (simp; done) | (simp only [← hji9] <;> (first | rfl | simp)) | (simp [*]; done)), (by first | rfl | (simp; done) | (simp only [← hji9] <;> (first | rfl | simp)) | (simp [*]; done)), eqS, H', ⟨by have := HK1.out; have := HK2.out; omega⟩, rg HO_4, hbg HB⟩
       ·obtain ⟨c13, H⟩ := itNP H
        have LMc13 := mkA c13
        clear c13
        obtain ⟨y350, hy350⟩ : ∃ y_ : List Int, y_ = (x4_1 ++ [x6_2]) := ⟨_, rfl⟩
        rw [← hy350] at H
        have Ny350 := mkA hy350
        clear hy350
        have H' := mkA H
        clear H
        go_wp2_with (first | ((with_reducible refine gate_builtin (b := .append) (xs := #[.tmp 41, .tmp 43]) rfl ?_); at_builtin; refine Kd.R_append (Kd.int .i64) (w0 := w) w.heap.size rfl (.tmp 41) (.tmp 43) 26 3 (.int .i64 0) 8 rfl Tryd.underlying26 info3 rfl (by decide) (by omega) u4 x4_1 x6_2 [.int .i64 x6_2] (fun _ => True) (fun _ => False) rfl rfl ?aP (fun _ hk => hk.elim) ?aF ?aO ?aB ?aS ?aL ?_; (case aP => exact rfl); (case aB => exact (bel_g HB.out)); (case aF => exact (fun _ _ => trivial)); (case aO => exact (Kd.R_g HO_4.out)); (case aS => exact (below_size (bel_g HB.out))); (case aL => have := LMc13.out; omega); intro v351 w14 ho hb hg hat; rw [← Ny350.out] at ho; have HO352 := mkA (ho); replace HB := mkA (hb); clear HO_4; clear ho hb hg hat))
        go_roundg k2
        case measure => have := HK1.out; have := HK2.out; omega
        case rel => exact ⟨(y350), (wrap64 (x5_1 + 1)), eqS, H', ⟨by have := HK1.out; have := HK2.out; omega⟩, rg HO352, hbg HB⟩
    ·obtain ⟨c15b0, H⟩ := itND H
     obtain ⟨c16b0, H⟩ := itND H
     simp only [Option.some.injEq, Prod.mk.injEq] at H
     obtain ⟨rfl, rfl⟩ := H
     obtain ⟨Ao17, co17, rfl⟩ := Kd.R_slice HO_4.out
     obtain ⟨p348, q348, ad348, e348, hx348_0⟩ := atI (Kd.R_reads' HO_4.out).2.2 a0
     cases e348
     go_wp2
     go_ret2
     exact ⟨eqE, bel_g HB.out⟩
 ·replace c3 := Bool.eq_false_iff.mpr c3
  subst c3
  replace H := ifF H
  simp only [Option.some.injEq, Prod.mk.injEq] at H
  obtain ⟨rfl, rfl⟩ := H
  go_enter Tryd.func10, Tryd.ntmps10
  go_wp2_with (first | ((with_reducible refine gate_callee (f := 25) rfl ?_); refine goesQ (some 10) Tryd.func25 #[.int .i64 a0, .int .i64 0, .int .i64 10] ?_; (with_reducible refine (impl_within.calls a0 0 10 false _ A2.out).mono ?_); rintro e w' ⟨rfl, ⟨nd, rfl⟩⟩; refine ⟨_, rfl, ?_⟩))
  go_ret2
  exact ⟨eqE, bel_g HB.out⟩
def laws_vLess.l0 : Nat → List Int → List Int → Int → Int → Option (Bool)
 | 0, _, _, _, _ => none
 | k + 1, x0, x1, x7, x8 => if x8 < x7 then (if 0 ≤ x8 then (if x8 < (x0.length : Int) then (if x8 < (x1.length : Int) then (if (rd x0 x8) = (rd x1 x8) then (laws_vLess.l0 k x0 x1 x7 (wrap64 (x8 + 1))) else (some (decide ((rd x0 x8) < (rd x1 x8))))) else (none)) else (none)) else (none)) else (some false)
def laws_vLess.f (k : Nat) (l0 : List Int) (l1 : List Int) : Option (Bool) := laws_vLess.l0 k l0 l1 (l0.length : Int) 0
theorem laws_vLess.mono_l : ∀ k, (∀ y0 y1 y2 y3, LeO (laws_vLess.l0 k y0 y1 y2 y3) (laws_vLess.l0 (k + 1) y0 y1 y2 y3))
 | 0 => fun _ _ _ _ r h => by simp [laws_vLess.l0] at h
 | k + 1 => by
  have ih0 := laws_vLess.mono_l k
  ·intro y0 y1 y2 y3
   unfold laws_vLess.l0
   repeat' (with_reducible first|apply ih0|apply LeO.refl|apply LeO.none|apply LeO.ite|apply LeO.bind|intro)
theorem laws_vLess.mono : ∀ a0 a1 k, LeO (laws_vLess.f k a0 a1) (laws_vLess.f (k + 1) a0 a1) := by
 intro a0 a1 k
 have ih0 := laws_vLess.mono_l k
 unfold laws_vLess.f
 repeat' (with_reducible first|apply ih0|apply LeO.refl|apply LeO.none|apply LeO.ite|apply LeO.bind|intro)
theorem laws_vLess.calls (k : Nat) (A0 : Option Addr) (c0 : Nat) (l0 : List Int) (A1 : Option Addr) (c1 : Nat) (l1 : List Int) (r : Bool) (w : World) (hr0 : Kd.C (Kd.int .i64) w A0 l0.length l0) (hc0 : l0.length ≤ c0) (hr1 : Kd.C (Kd.int .i64) w A1 l1.length l1) (hc1 : l1.length ≤ c1) (h : laws_vLess.f k l0 l1 = some r) :
  Calls Tryd.prog 11 #[.slice A0 l0.length c0, .slice A1 l1.length c1] w fun e w' => e = .returned (.bool r) ∧ Drawn0 w w' := by
 have HR0 := mkA hr0
 have HC0 := mkA hc0
 clear hr0 hc0
 have HR1 := mkA hr1
 have HC1 := mkA hc1
 clear hr1 hc1
 have H := h
 clear h
 unfold laws_vLess.f at H
 have H' := mkA H
 clear H
 go_enter Tryd.func11, Tryd.ntmps11
 go_wp2
 repeat (go_quiet (fail); try go_wp2)
 go_loopg [8] k (fun kq v8 w' => ∃ (x8_1 : Int), v8 = .int .i64 x8_1 ∧ Fc (laws_vLess.l0 kq l0 l1 (l0.length : Int) x8_1 = some r) ∧ Fc (kq ≤ k) ∧ Drawn0 w w')
 case atStart => exact ⟨(0), eqS, H', ⟨Nat.le_refl _⟩, by repeat (first | exact Drawn0.refl _ | apply Drawn0.step)⟩
 case round =>
  clear H'
  try clear c1
  obtain ⟨x8_1, rfl, HA, HK1, ⟨m1, rfl⟩⟩ := hrel
  cases gk with
  | zero => exact absurd HA.out (by simp [laws_vLess.l0])
  | succ k1 =>
   have H := HA.out
   clear HA
   simp only [laws_vLess.l0] at H
   rcases iteE H with ⟨c3b0, H⟩ | ⟨c3b0, H⟩
   ·obtain ⟨c4b0, H⟩ := itND H
    obtain ⟨c5b0, H⟩ := itND H
    obtain ⟨c6b0, H⟩ := itND H
    rcases iteP H with ⟨c7, H⟩ | ⟨c7, H⟩
    ·have c7b0 := beq_iff_eq.mpr c7
     have c7b1 := bne_eq_false_iff_eq.mpr c7
     clear c7
     have H' := mkA H
     clear H
     obtain ⟨p353, q353, ad353, e353, hx353_0⟩ := atI HR0.out x8_1
     cases e353
     obtain ⟨p354, q354, ad354, e354, hx354_0⟩ := atI HR1.out x8_1
     cases e354
     go_wp2
     repeat (go_quiet (fail); try go_wp2)
     go_roundg k1
     case measure => have := HK1.out; omega
     case rel => exact ⟨(wrap64 (x8_1 + 1)), eqS, H', ⟨by have := HK1.out; omega⟩, by repeat (first | exact Drawn0.refl _ | apply Drawn0.step)⟩
    ·have c7b0 := beq_eq_false_iff_ne.mpr c7
     have c7b1 := bne_iff_ne.mpr c7
     obtain rfl := Option.some.inj H
     obtain ⟨p353, q353, ad353, e353, hx353_0⟩ := atI HR0.out x8_1
     cases e353
     obtain ⟨p354, q354, ad354, e354, hx354_0⟩ := atI HR1.out x8_1
     cases e354
     obtain ⟨p355, q355, ad355, e355, hx355_0⟩ := atI HR0.out x8_1
     obtain rfl : ad353 = ad355 := (by injection e355)
     obtain ⟨p356, q356, ad356, e356, hx356_0⟩ := atI HR1.out x8_1
     obtain rfl : ad354 = ad356 := (by injection e356)
     go_wp2
     repeat (go_quiet (fail); try go_wp2)
     go_ret
     exact ⟨eqS, drE⟩
   ·obtain rfl := Option.some.inj H
    go_wp2
    repeat (go_quiet (fail); try go_wp2)
    go_ret
    exact ⟨eqS, drE⟩
end Go.Proofs.YtfpicdkanmgdoaaDoor.Q
