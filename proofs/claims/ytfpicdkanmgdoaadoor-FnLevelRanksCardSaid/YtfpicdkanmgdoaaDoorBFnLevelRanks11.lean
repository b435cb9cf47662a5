import Derived.Test.YtfpicdkanmgdoaaDoorBFnLevelRanks3
import Derived.Test.YtfpicdkanmgdoaaDoorBFnLevelRanks10
namespace Go.Proofs.YtfpicdkanmgdoaaDoor.Q
open Go.RowKit Go.Proofs.YtfpicdkanmgdoaaDoorW.PrintWords Go.Proofs.YtfpicdkanmgdoaaDoorW.PrintLast Go.Proofs.YtfpicdkanmgdoaaDoorW.PrintMore
attribute [local go_sem] max2_int min2_int max_two min_two max_three min_three max_four min_four neB_f
set_option linter.unusedVariables false
set_option maxHeartbeats 8000000
set_option maxRecDepth 100000
set_option linter.unusedSimpArgs false
def spec_l1Cur_elements.f (s0_0 : List Int) (s0_1 : Int) (s0_2 : Int) : Option (Int × Int × Int) := (spec_l1Cur_one.f s0_0 s0_1 s0_2 15).bind fun bt434 => (if bt434.1 = true then ((spec_l1Cur_among.f s0_0 bt434.2.1 bt434.2.2 (([0, 10, 11] : List Int))).bind fun bt440 => (some (bt440.1, bt440.2.1, bt440.2.2))) else ((spec_l1Cur_pick.f s0_0 bt434.2.1 bt434.2.2 7).bind fun bt443 => (some (bt443.1, bt443.2.1, bt443.2.2))))
theorem spec_l1Cur_elements.calls (g : Nat) (s0_0 : List Int) (s0_1 : Int) (s0_2 : Int) (r1 : Int) (r2 : Int) (r3 : Int) (w0 w : World) (hI : IsS43 w0 w g s0_0 s0_1 s0_2) (hB : Below w0.heap.size w0 w) (h : spec_l1Cur_elements.f s0_0 s0_1 s0_2 = some (r1, r2, r3)) :
  Calls Tryd.prog 47 #[.pointer (some ⟨g, 0, none⟩)] w fun e w' => e = .returned (.int .i64 r1) ∧ IsS43 w0 w' g s0_0 r2 r3 ∧ Below w0.heap.size w0 w' ∧ KeepBut w w' g none := by
 have HI0 := mkA hI
 have HK := mkA (KeepBut.refl w g none)
 have HL := mkA hB.size
 clear hI
 have HW0 := mkA hB.size
 have HB := mkA hB
 clear hB
 have H := h
 clear h
 unfold spec_l1Cur_elements.f at H
 obtain ⟨⟨t434, t435, t436⟩, A2, H⟩ := obE H
 dsimp only at H
 by_cases c3 : t434 = true
 ·subst c3
  replace H := ifT H
  obtain ⟨y437, hy437⟩ : ∃ y_ : List Int, y_ = (([0, 10, 11] : List Int)) := ⟨_, rfl⟩
  rw [← hy437] at H
  have Ny437 := mkA hy437
  clear hy437
  obtain ⟨⟨t440, t441, t442⟩, A4, H⟩ := obE H
  dsimp only at H
  simp only [Option.some.injEq, Prod.mk.injEq] at H
  obtain ⟨rfl, rfl, rfl⟩ := H
  go_enter Tryd.func47, Tryd.ntmps47
  go_wp2_with (first | ((with_reducible refine gate_callee (f := 57) rfl ?_); refine goesQ (some 4) Tryd.func57 #[.pointer (some ⟨g, 0, none⟩), .int .i64 15] ?_; (with_reducible refine (spec_l1Cur_one.calls g s0_0 s0_1 s0_2 15 true t435 t436 w0 _ ?_ ?_ A2.out).mono ?_); exact st43_0 HI0.out; exact bl43_0 HB.out HI0.out; rintro e w5 ⟨rfl, hi, hb, hk⟩; refine ⟨_, rfl, ?_⟩; replace HK := kT (by exact kb43_0 HK.out) hk; replace HI0 := mkA (hi); replace HB := mkA (hb); clear hb hk hi) | ((with_reducible refine gate_dst (N := 6) rfl ?_); refine litE (Kd.int .i64) 3 ([0, 10, 11] : List Int) [.int .i64 0, .int .i64 10, .int .i64 11] ?hp ?_; (case hp => exact (Reps.one (show Kd.M (Kd.int .i64) _ _ _ 0 [.int .i64 0] from rfl) (Reps.one (show Kd.M (Kd.int .i64) _ _ _ 10 [.int .i64 10] from rfl) (Reps.one (show Kd.M (Kd.int .i64) _ _ _ 11 [.int .i64 11] from rfl) (Reps.none _ _))))); intro v438 w6 ho7 hb hg_ hnew_; clear hg_ hnew_; (first | rw [← Ny437.out] at ho7 | (simp only [Int.reduceToNat] at ho7; rw [← Ny437.out] at ho7)); have HO439 := mkA (Kd.R_lower ho7 (keep_size (w := w) (g := g) (row := none) (by exact kb43_0 HK.out))); replace HK := kU (g := g) (by exact kb43_0 HK.out) hb; replace HB := mkA (below_step (by exact bl43_0 HB.out HI0.out) hb); replace HI0 := mkA (IsS43.below (by exact st43_0 HI0.out) hb); clear hb ho7; obtain ⟨Ao8, co8, rfl⟩ := Kd.R_slice HO439.out) | ((with_reducible refine gate_callee (f := 21) rfl ?_); refine goesQ (some 7) Tryd.func21 #[.pointer (some ⟨g, 0, none⟩), .slice Ao8 y437.length co8] ?_; (with_reducible refine (spec_l1Cur_among.calls g s0_0 t435 t436 _ _ y437 t440 t441 t442 w0 _ ?_ ?_ ?_ ?_ ?_ A4.out).mono ?_); exact st43_0 HI0.out; exact bl43_0 HB.out HI0.out; exact rC HO439; exact rL HO439; exact far_slice (IsS43.own_ne HI0.out HO439.out (by decide)); rintro e w9 ⟨rfl, hi, hb, hk⟩; refine ⟨_, rfl, ?_⟩; replace HO439 := rK (IsS43.apart (show IsS43 w0 _ g s0_0 t435 t436 from by exact st43_0 HI0.out) (Kd.R_g HO439.out) (by decide)) hk; replace HK := kT (by exact kb43_0 HK.out) hk; replace HI0 := mkA (hi); replace HB := mkA (hb); clear hb hk hi))
  go_ret
  exact ⟨eqE, by exact st43_0 HI0.out, by exact bl43_0 HB.out HI0.out, by exact kb43_0 HK.out⟩
 ·replace c3 := Bool.eq_false_iff.mpr c3
  subst c3
  replace H := ifF H
  obtain ⟨⟨t443, t444, t445⟩, A10, H⟩ := obE H
  dsimp only at H
  simp only [Option.some.injEq, Prod.mk.injEq] at H
  obtain ⟨rfl, rfl, rfl⟩ := H
  go_enter Tryd.func47, Tryd.ntmps47
  go_wp2_with (first | ((with_reducible refine gate_callee (f := 57) rfl ?_); refine goesQ (some 4) Tryd.func57 #[.pointer (some ⟨g, 0, none⟩), .int .i64 15] ?_; (with_reducible refine (spec_l1Cur_one.calls g s0_0 s0_1 s0_2 15 false t435 t436 w0 _ ?_ ?_ A2.out).mono ?_); exact st43_0 HI0.out; exact bl43_0 HB.out HI0.out; rintro e w11 ⟨rfl, hi, hb, hk⟩; refine ⟨_, rfl, ?_⟩; replace HK := kT (by exact kb43_0 HK.out) hk; replace HI0 := mkA (hi); replace HB := mkA (hb); clear hb hk hi) | ((with_reducible refine gate_callee (f := 24) rfl ?_); refine goesQ (some 9) Tryd.func24 #[.pointer (some ⟨g, 0, none⟩), .int .i64 7] ?_; (with_reducible refine (spec_l1Cur_pick.calls g s0_0 t435 t436 7 t443 t444 t445 w0 _ ?_ ?_ A10.out).mono ?_); exact st43_0 HI0.out; exact bl43_0 HB.out HI0.out; rintro e w12 ⟨rfl, hi, hb, hk⟩; refine ⟨_, rfl, ?_⟩; replace HK := kT (by exact kb43_0 HK.out) hk; replace HI0 := mkA (hi); replace HB := mkA (hb); clear hb hk hi))
  go_ret
  exact ⟨eqE, by exact st43_0 HI0.out, by exact bl43_0 HB.out HI0.out, by exact kb43_0 HK.out⟩
def spec_DrawAreLevels.f (k : Nat) (l0 : List Int) : Option (List Int) := (spec_l1Cur_elements.f l0 0 0).bind fun bt447 => ((spec_l1Cur_levels.f k l0 bt447.2.1 bt447.2.2 bt447.1).bind fun bt450 => (some bt450.1))
theorem spec_DrawAreLevels.mono : ∀ a0 k, LeO (spec_DrawAreLevels.f k a0) (spec_DrawAreLevels.f (k + 1) a0) := by
 intro a0 k
 unfold spec_DrawAreLevels.f
 repeat' (with_reducible first|apply spec_l1Cur_levels.mono|apply LeO.refl|apply LeO.none|apply LeO.ite|apply LeO.bind|intro)
theorem spec_DrawAreLevels.calls (k : Nat) (A0 : Option Addr) (c0 : Nat) (l0 : List Int) (r : List Int) (w : World) (hr0 : Kd.C (Kd.int .u8) w A0 l0.length l0) (hc0 : l0.length ≤ c0) (h : spec_DrawAreLevels.f k l0 = some r) :
  Calls Tryd.prog 33 #[.slice A0 l0.length c0] w fun e w' => ∃ v0_ : Value, e = .returned (v0_) ∧ Kd.R (Kd.int .i64) 3 w' w.heap.size (fun _ => True) v0_ r ∧ Below w.heap.size w w' := by
 have hu43 := Tryd.underlying43
 have HR0 := mkA hr0
 have HC0 := mkA hc0
 clear hr0 hc0
 have HB := mkA (Below.refl w.heap.size w)
 have H := h
 clear h
 unfold spec_DrawAreLevels.f at H
 obtain ⟨⟨t447, t448, t449⟩, A2, H⟩ := obE H
 dsimp only at H
 obtain ⟨⟨t450, t453, t454⟩, A3, H⟩ := obE H
 dsimp only at H
 obtain rfl := Option.some.inj H
 go_enter Tryd.func33, Tryd.ntmps33
 go_wp2_with (first | ((with_reducible refine gate_dst (N := 6) rfl ?_); refine boxE (N := 6) (cs := #[.slice A0 l0.length c0, .int .i64 0, .int .u64 0]) (t := 43) ?_; intro gb446 hg w4 hbox hb; have HI446 := mkA ((⟨_, _, hbox, (by rw [hg]; exact (below_size (bel_g HB.out))), HR0.out⟩ : IsS43 w w4 gb446 l0 0 0)); have GE446 := geB HB hg; replace HB := bst HB hb; clear hb hbox hg) | ((with_reducible refine gate_callee (f := 47) rfl ?_); refine goesQ (some 9) Tryd.func47 #[.pointer (some ⟨gb446, 0, none⟩)] ?_; (with_reducible refine (spec_l1Cur_elements.calls gb446 l0 0 0 t447 t448 t449 w _ ?_ ?_ A2.out).mono ?_); exact st43_0 HI446.out; exact bl43_0 HB.out HI446.out; rintro e w5 ⟨rfl, hi, hb, hk⟩; refine ⟨_, rfl, ?_⟩; replace HI446 := mkA (hi); replace HB := mkA (hb); clear hb hk hi) | ((with_reducible refine gate_callee (f := 39) rfl ?_); refine goesQ (some 10) Tryd.func39 #[.pointer (some ⟨gb446, 0, none⟩), .int .i64 t447] ?_; (with_reducible refine (spec_l1Cur_levels.calls k gb446 l0 t448 t449 t447 t450 t453 t454 w _ ?_ ?_ A3.out).mono ?_); exact st43_0 HI446.out; exact bl43_0 HB.out HI446.out; rintro e w6 ⟨v451, rfl, ho0, hi, hb, hk⟩; refine ⟨_, rfl, ?_⟩; have HO452 := mkA (Kd.R_lower ho0 (below_size (by exact bl43_0 HB.out HI446.out))); replace HI446 := mkA (hi); replace HB := mkA (hb); clear hb hk hi ho0))
 go_ret
 exact ⟨_, eqE, Kd.R_g HO452.out, by exact bl43_0 HB.out HI446.out⟩
def spec_DrawCountLinear.f (k : Nat) (l0 : List Int) : Option (List Int) := (spec_DrawAreLevels.f k l0).bind fun t455 => (some t455)
theorem spec_DrawCountLinear.mono : ∀ a0 k, LeO (spec_DrawCountLinear.f k a0) (spec_DrawCountLinear.f (k + 1) a0) := by
 intro a0 k
 unfold spec_DrawCountLinear.f
 repeat' (with_reducible first|apply spec_DrawAreLevels.mono|apply LeO.refl|apply LeO.none|apply LeO.ite|apply LeO.bind|intro)
theorem spec_DrawCountLinear.calls (k : Nat) (A0 : Option Addr) (c0 : Nat) (l0 : List Int) (r : List Int) (w : World) (hr0 : Kd.C (Kd.int .u8) w A0 l0.length l0) (hc0 : l0.length ≤ c0) (h : spec_DrawCountLinear.f k l0 = some r) :
  Calls Tryd.prog 12 #[.slice A0 l0.length c0] w fun e w' => ∃ v0_ : Value, e = .returned (v0_) ∧ Kd.R (Kd.int .i64) 3 w' w.heap.size (fun _ => True) v0_ r ∧ Below w.heap.size w w' := by
 have HR0 := mkA hr0
 have HC0 := mkA hc0
 clear hr0 hc0
 have HB := mkA (Below.refl w.heap.size w)
 have H := h
 clear h
 unfold spec_DrawCountLinear.f at H
 obtain ⟨t455, A2, H⟩ := obE H
 obtain rfl := Option.some.inj H
 go_enter Tryd.func12, Tryd.ntmps12
 go_wp2_with (first | ((with_reducible refine gate_callee (f := 33) rfl ?_); refine goesQ (some 4) Tryd.func33 #[.slice A0 l0.length c0] ?_; (with_reducible refine (spec_DrawAreLevels.calls k _ _ l0 t455 _ ?s1 ?s2 A2.out).mono ?_); (case s1 => repeat (first | exact HR0.out | (with_reducible refine Kd.C_alloc ?_ _) | (with_reducible refine Kd.C_drewN ?_ _) | (with_reducible refine Kd.C_drew ?_))); (case s2 => exact HC0.out); rintro e w3 ⟨v456, rfl, ho0, hb⟩; refine ⟨_, rfl, ?_⟩; have HO457 := rLo ho0 HB; replace HB := bst HB hb; clear hb ho0))
 go_ret
 exact ⟨_, eqE, Kd.R_g HO457.out, bel_g HB.out⟩
def impl_CountLinear.l0 : Nat → Int → List Int → List Int → Int → Int → Option (Int × Bool)
 | 0, _, _, _, _, _ => none
 | k + 1, x4, x5, x12, x13, x14 => if x14 < x13 then (if 0 ≤ x14 then (if x14 < (x12.length : Int) then (if 0 ≤ (rd x12 x14) then (if (rd x12 x14) < (x5.length : Int) then ((some (x5.set ((rd x12 x14) : Int).toNat (wrap64 ((rd x5 (rd x12 x14)) + 1)) : List Int)).bind fun y464 => (impl_CountLinear.l0 k (wrap64 (x4 * (rd y464 (rd x12 x14)))) y464 x12 x13 (wrap64 (x14 + 1)))) else (none)) else (none)) else (none)) else (none)) else (some (x4, true))
def impl_CountLinear.f (k : Nat) (l0 : List Int) : Option (Int × Bool) := (impl_AreLevels.f k l0).bind fun t458 => (if t458 = true then (if 10 ≤ 35184372088832 then (impl_CountLinear.l0 k 1 (List.replicate 10 0) l0 (l0.length : Int) 0) else (none)) else (some (0, false)))
theorem impl_CountLinear.mono_l : ∀ k, (∀ y0 y1 y2 y3 y4, LeO (impl_CountLinear.l0 k y0 y1 y2 y3 y4) (impl_CountLinear.l0 (k + 1) y0 y1 y2 y3 y4))
 | 0 => fun _ _ _ _ _ r h => by simp [impl_CountLinear.l0] at h
 | k + 1 => by
  have ih0 := impl_CountLinear.mono_l k
  ·intro y0 y1 y2 y3 y4
   unfold impl_CountLinear.l0
   repeat' (with_reducible first|apply ih0|apply impl_AreLevels.mono|apply LeO.refl|apply LeO.none|apply LeO.ite|apply LeO.bind|intro)
theorem impl_CountLinear.mono : ∀ a0 k, LeO (impl_CountLinear.f k a0) (impl_CountLinear.f (k + 1) a0) := by
 intro a0 k
 have ih0 := impl_CountLinear.mono_l k
 unfold impl_CountLinear.f
 repeat' (with_reducible first|apply ih0|apply impl_AreLevels.mono|apply LeO.refl|apply LeO.none|apply LeO.ite|apply LeO.bind|intro)
theorem impl_CountLinear.calls (k : Nat) (A0 : Option Addr) (c0 : Nat) (l0 : List Int) (r1 : Int) (r2 : Bool) (w : World) (hr0 : Kd.C (Kd.int .i64) w A0 l0.length l0) (hc0 : l0.length ≤ c0) (h : impl_CountLinear.f k l0 = some (r1, r2)) :
  Calls Tryd.prog 13 #[.slice A0 l0.length c0] w fun e w' => e = .returned (.tuple #[.int .i64 r1, .bool r2]) ∧ Below w.heap.size w w' := by
 have HR0 := mkA hr0
 have HC0 := mkA hc0
 clear hr0 hc0
 have HB := mkA (Below.refl w.heap.size w)
 have H := h
 clear h
 unfold impl_CountLinear.f at H
 obtain ⟨t458, A2, H⟩ := obE H
 by_cases c3 : t458 = true
 ·subst c3
  replace H := ifT H
  obtain ⟨c4b0, c4b1, H⟩ := itNQ H
  obtain ⟨y459, hy459⟩ : ∃ y_ : List Int, y_ = (List.replicate 10 0) := ⟨_, rfl⟩
  rw [← hy459] at H
  have Ny459 := mkA hy459
  clear hy459
  have H' := mkA H
  clear H
  go_enter Tryd.func13, Tryd.ntmps13
  try go_wp2_with (first | ((with_reducible refine gate_callee (f := 29) rfl ?_); refine goesQ (some 9) Tryd.func29 #[.slice A0 l0.length c0] ?_; (with_reducible refine (impl_AreLevels.calls k _ _ l0 true _ ?s1 ?s2 A2.out).mono ?_); (case s1 => repeat (first | exact HR0.out | (with_reducible refine Kd.C_alloc ?_ _) | (with_reducible refine Kd.C_drewN ?_ _) | (with_reducible refine Kd.C_drew ?_))); (case s2 => exact HC0.out); rintro e w5 ⟨rfl, hb⟩; refine ⟨_, rfl, ?_⟩; replace HB := bst HB hb; clear hb))
  replace HB := mkA (below_drew1 HB.out)
  refine start_ (n := 3) (S := fun w' => True) (ds := []) (bm 3 0) (by kernel_rfl) rfl (by kernel_rfl) trivial (fun hHeld => ?_)
  generalize w5.drew = w6 at HB hHeld ⊢
  refine pure_ (i := 1) (N := some 4) (v := ?_) (a' := ?_) (bm 3 2) rfl rfl (by kernel_rfl) (fun _ _ _ h => h) (Or.inl ⟨by rfl, ?_⟩) ?_ ?_
  rotate_left
  ·intro w'
   go_simp
   with_reducible rfl
  rotate_left
  ·simp only [Act.put, List.setIfInBounds_toArray, List.set_cons_zero, List.set_cons_succ, i64_w, i32_w]
   rfl
  refine one_ (i := 0) (N := some 11) (bm 3 3) rfl rfl (by kernel_rfl) (by decide) (fun K hK => ?_)
  refine Kd.R_make_step (Kd.int .i64) _ 3 (by rfl) (N := 11) rfl 26 _ _ rfl 10 rfl rfl Tryd.underlying26 (.int .i64 0) 8 info3 rfl (by decide) (by omega) 0 (ok := fun _ => True) (okp := fun _ => True) rfl (fun _ hk => hk) trivial (by omega) (by omega) (Below.refl _ _) (Nat.le_refl _) ?_
  intro v460 w7 ho8 hb hg_ hnew_
  clear hg_ hnew_
  (first | rw [← Ny459.out] at ho8 | (simp only [Int.reduceToNat] at ho8; rw [← Ny459.out] at ho8))
  have HO461 := rLo ho8 HB
  replace HB := bst HB hb
  clear hb ho8
  refine hK.out _ _ trivial (fun hHeld => ?_)
  clear hK K
  refine normW 11 ?_
  refine pure_ (i := 2) (N := some 5) (v := ?_) (a' := ?_) (bm 3 7) rfl rfl (by kernel_rfl) (fun _ _ _ h => h) (Or.inl ⟨by rfl, ?_⟩) ?_ ?_
  rotate_left
  ·intro w'
   go_simp
   with_reducible rfl
  rotate_left
  ·simp only [Act.put, List.setIfInBounds_toArray, List.set_cons_zero, List.set_cons_succ, i64_w, i32_w]
   rfl
  refine done_ (by kernel_rfl) ?_
  try go_wp2
  go_loopg [4, 14] k (fun kq v4 v14 w' => ∃ (x4_1 : Int) (x5_1 : List Int) (x14_1 : Int), v4 = .int .i64 x4_1 ∧ v14 = .int .i64 x14_1 ∧ Fc (impl_CountLinear.l0 kq x4_1 x5_1 l0 (l0.length : Int) x14_1 = some (r1, r2)) ∧ Fc (kq ≤ k) ∧ Fc (Kd.R (Kd.int .i64) 3 w' w.heap.size (fun _ => True) v460 x5_1) ∧ Fc (Below w.heap.size w w'))
  case atStart => exact ⟨(1), (y459), (0), eqS, eqS, H', ⟨Nat.le_refl _⟩, rg HO461, hbg HB⟩
  case round =>
   clear H'
   try clear c3
   try clear c4
   try clear c4b0
   try clear c4b1
   obtain ⟨x4_1, x5_1, x14_1, rfl, rfl, HA, HK1, HO_5, HB⟩ := hrel
   cases gk with
   | zero => exact absurd HA.out (by simp [impl_CountLinear.l0])
   | succ k1 =>
    have H := HA.out
    clear HA
    simp only [impl_CountLinear.l0] at H
    rcases iteE H with ⟨c9b0, H⟩ | ⟨c9b0, H⟩
    ·obtain ⟨c10b0, H⟩ := itND H
     obtain ⟨c11b0, H⟩ := itND H
     obtain ⟨c12b0, H⟩ := itND H
     obtain ⟨c13b0, H⟩ := itND H
     obtain ⟨y464, Ny464, H⟩ := nmE H
     have H' := mkA H
     clear H
     obtain ⟨p462, q462, ad462, e462, hx462_0⟩ := atI HR0.out x14_1
     cases e462
     replace hx462_0 := (HB.out.cell (World.block_lt_of_cell? w _ hx462_0)).trans hx462_0
     obtain ⟨Ao15, co15, rfl⟩ := Kd.R_slice HO_5.out
     obtain ⟨p463, q463, ad463, e463, hx463_0⟩ := atI (Kd.R_reads' HO_5.out).2.2 (rd l0 x14_1)
     cases e463
     have p14 : 0 ≤ ((rd l0 x14_1) : Int) := ofd
     have q14 : ((rd l0 x14_1) : Int) < ((x5_1.length : Int) : Int) := ofd
     obtain ⟨go14, co14, eo14, gb14, gl14, cl14, HG14⟩ := Kd.R_form HO_5.out (by omega)
     (first | cases eo14 | (injection eo14 with ea_ en_ ec_; (first | subst ea_ | (injection ea_ with ea_; subst ea_)); subst ec_; clear en_))
     have GB14 : Ge _ _ := ⟨gb14⟩
     have GG14 := mkA HG14
     clear gb14 gl14 HG14
     (first | simp only [add_plain] at hx463_0 | skip)
     obtain ⟨hx14_0, hf14_0⟩ := Kd.R_celln 0 HO_5.out ((rd l0 x14_1) : Int) p14 q14
     replace p14 := eq_true p14
     replace q14 := eq_true q14
     have HP16 := Kd.R_putg HO_5.out ((rd l0 x14_1) : Int) (wrap64 ((rd x5_1 (rd l0 x14_1)) + 1))
     go_wp2_with (first | ((with_reducible refine gate_store (t := 3) (p := 23) rfl ?_); refine store_event (t := 3) (p := 23) (v := ?vo_w17) (w1 := (wr.setCell ⟨go14, ((rd l0 x14_1) : Int).toNat, none⟩ (.int .i64 (wrap64 ((rd x5_1 (rd l0 x14_1)) + 1))))) ?hg ?ho ?hn ?hr ?_; (case ho => rfl); (case hg => rfl); (case hn => rfl); (case hr => first | (go_simp; done) | (go_simp; rfl)); intro w17 hw; have hg : wr.grownBy w17 (some go14) := (by rw [hw]; exact HP16.2); have hp_ : Kd.R (Kd.int .i64) 3 w17 w.heap.size (fun _ => True) (.slice (some ⟨go14, 0, none⟩) x5_1.length co15) y464 := (by rw [hw, Ny464.out]; exact HP16.1); clear HP16; replace HO_5 := mkA (hp_); replace HB := mkA ((by rw [hw]; exact below_set (HB.out) GB14.out : Below w.heap.size w w17)); clear hg hw hp_; have p465 : 0 ≤ ((rd l0 x14_1) : Int) := ofd; have q465 : (rd l0 x14_1) < (y464.length : Int) := (by have h_ : ((rd l0 x14_1) : Int) < ((x5_1.length : Int) : Int) := ofd; first | (have e_ := (Kd.R_reads' HO_5.out).1; omega) | simpa only [Ny464.out, List.length_set] using h_); have ql465 : (((rd l0 x14_1) : Int) < ((x5_1.length : Int) : Int)) = True := eq_true (ofd); obtain ⟨ad465, e465, hx465_0⟩ := Kd.at_int (Kd.R_reads' HO_5.out).2.2 (rd l0 x14_1) p465 q465; obtain rfl : (⟨go14, 0, none⟩ : Addr) = ad465 := (by injection e465); (first | simp only [add_plain] at hx465_0 | simp only [add_at] at hx465_0 | simp only [Addr.add, Nat.zero_add] at hx465_0 | skip); replace p465 := eq_true p465; replace q465 := eq_true q465))
     go_roundg k1
     case measure => have := HK1.out; omega
     case rel => exact ⟨(wrap64 (x4_1 * (rd y464 (rd l0 x14_1)))), (y464), (wrap64 (x14_1 + 1)), eqS, eqS, H', ⟨by have := HK1.out; omega⟩, rg HO_5, hbg HB⟩
    ·simp only [Option.some.injEq, Prod.mk.injEq] at H
     obtain ⟨rfl, rfl⟩ := H
     go_wp2
     go_ret2
     exact ⟨eqE, bel_g HB.out⟩
 ·replace c3 := Bool.eq_false_iff.mpr c3
  subst c3
  replace H := ifF H
  simp only [Option.some.injEq, Prod.mk.injEq] at H
  obtain ⟨rfl, rfl⟩ := H
  go_enter Tryd.func13, Tryd.ntmps13
  go_wp2_with (first | ((with_reducible refine gate_callee (f := 29) rfl ?_); refine goesQ (some 9) Tryd.func29 #[.slice A0 l0.length c0] ?_; (with_reducible refine (impl_AreLevels.calls k _ _ l0 false _ ?s1 ?s2 A2.out).mono ?_); (case s1 => repeat (first | exact HR0.out | (with_reducible refine Kd.C_alloc ?_ _) | (with_reducible refine Kd.C_drewN ?_ _) | (with_reducible refine Kd.C_drew ?_))); (case s2 => exact HC0.out); rintro e w18 ⟨rfl, hb⟩; refine ⟨_, rfl, ?_⟩; replace HB := bst HB hb; clear hb))
  go_ret2
  exact ⟨eqE, bel_g HB.out⟩
end Go.Proofs.YtfpicdkanmgdoaaDoor.Q
