import Derived.Test.YtgbdjchdfcodcaaDoorBFnRefinements23
namespace Go.Proofs.YtgbdjchdfcodcaaDoor.Q
open Go.RowKit Go.Proofs.YtgbdjchdfcodcaaDoorW.PrintWords Go.Proofs.YtgbdjchdfcodcaaDoorW.PrintLast Go.Proofs.YtgbdjchdfcodcaaDoorW.PrintMore
attribute [local go_sem] max2_int min2_int max_two min_two max_three min_three max_four min_four neB_f
set_option linter.unusedVariables false
set_option maxHeartbeats 8000000
set_option maxRecDepth 100000
set_option linter.unusedSimpArgs false
mutual
def impl_RefineLevels.j0 : Nat → List Int → List Int → Bool → Option (List Int × Bool)
 | 0, _, _, _ => none
 | k + 1, x0, x1, x23 => if x23 = true then (some (([] : List Int), false)) else (impl_RefineLevels.l0 k x1 (([] : List Int)) x0 (x0.length : Int) 0)
def impl_RefineLevels.l0 : Nat → List Int → List Int → List Int → Int → Int → Option (List Int × Bool)
 | 0, _, _, _, _, _ => none
 | k + 1, x1, x6, x25, x26, x27 => if x27 < x26 then (if 0 ≤ x27 then (if x27 < (x25.length : Int) then (if x27 < (x1.length : Int) then (if x6.length < 17592186044416 then (impl_RefineLevels.l0 k x1 (x6 ++ [wrap64 ((wrap64 ((rd x25 x27) * 11)) + (rd x1 x27))]) x25 x26 (wrap64 (x27 + 1))) else (none)) else (none)) else (none)) else (none)) else ((impl_leveled.f k x6).bind fun t703 => (some (t703, true)))
end
def impl_RefineLevels.f (k : Nat) (l0 : List Int) (l1 : List Int) : Option (List Int × Bool) := (impl_AreLevels.f k l0).bind fun t693 => (if t693 = true then ((impl_AreLevels.f k l1).bind fun t694 => (if t694 = true then (impl_RefineLevels.j0 k l0 l1 ((l0.length : Int) != (l1.length : Int))) else (impl_RefineLevels.j0 k l0 l1 true))) else (impl_RefineLevels.j0 k l0 l1 true))
theorem impl_RefineLevels.mono_l : ∀ k, (∀ y0 y1 y2, LeO (impl_RefineLevels.j0 k y0 y1 y2) (impl_RefineLevels.j0 (k + 1) y0 y1 y2)) ∧ (∀ y0 y1 y2 y3 y4, LeO (impl_RefineLevels.l0 k y0 y1 y2 y3 y4) (impl_RefineLevels.l0 (k + 1) y0 y1 y2 y3 y4))
 | 0 => ⟨fun _ _ _ r h => by simp [impl_RefineLevels.j0] at h, fun _ _ _ _ _ r h => by simp [impl_RefineLevels.l0] at h⟩
 | k + 1 => by
  obtain ⟨ih0, ih1⟩ := impl_RefineLevels.mono_l k
  refine ⟨?_, ?_⟩ <;> intros
  unfold impl_RefineLevels.j0
  rotate_left
  unfold impl_RefineLevels.l0
  rotate_left
  all_goals repeat' (with_reducible first|exact ih0 _ _ _|exact ih1 _ _ _ _ _|exact impl_AreLevels.mono _ _|exact impl_leveled.mono _ _|exact LeO.refl _|exact LeO.none _|refine LeO.ite ?_ ?_|refine LeO.bind ?_ (fun _ => ?_))
theorem impl_RefineLevels.mono : ∀ a0 a1 k, LeO (impl_RefineLevels.f k a0 a1) (impl_RefineLevels.f (k + 1) a0 a1) := by
 intro a0 a1 k
 obtain ⟨ih0, ih1⟩ := impl_RefineLevels.mono_l k
 unfold impl_RefineLevels.f
 repeat' (with_reducible first|exact ih0 _ _ _|exact ih1 _ _ _ _ _|exact impl_AreLevels.mono _ _|exact impl_leveled.mono _ _|exact LeO.refl _|exact LeO.none _|refine LeO.ite ?_ ?_|refine LeO.bind ?_ (fun _ => ?_))
theorem impl_RefineLevels.calls (k : Nat) (A0 : Option Addr) (c0 : Nat) (l0 : List Int) (A1 : Option Addr) (c1 : Nat) (l1 : List Int) (r1 : List Int) (r2 : Bool) (w : World) (hr0 : Kd.C (Kd.int .i64) w A0 l0.length l0) (hc0 : l0.length ≤ c0) (hr1 : Kd.C (Kd.int .i64) w A1 l1.length l1) (hc1 : l1.length ≤ c1) (h : impl_RefineLevels.f k l0 l1 = some (r1, r2)) :
  Calls Tryd.prog 13 #[.slice A0 l0.length c0, .slice A1 l1.length c1] w fun e w' => ∃ v0_ : Value, e = .returned (.tuple #[v0_, .bool r2]) ∧ Kd.R (Kd.int .i64) 3 w' w.heap.size (fun _ => True) v0_ r1 ∧ Below w.heap.size w w' := by
 have HR0 := mkA hr0
 have HC0 := mkA hc0
 clear hr0 hc0
 have HR1 := mkA hr1
 have HC1 := mkA hc1
 clear hr1 hc1
 have HB := mkA (Below.refl w.heap.size w)
 have H := h
 clear h
 unfold impl_RefineLevels.f at H
 have HC3 := mkA H
 clear H
 go_enter Tryd.func13, Tryd.ntmps13
 go_upto_region 1 with (fail)
 go_cut [23] (fun v23 wc => ∃ (kq : Nat) (x23_2 : Bool), v23 = .bool x23_2 ∧ Fc (impl_RefineLevels.j0 kq l0 l1 x23_2 = some (r1, r2)) ∧ Fc (kq ≤ k) ∧ Fc (Below w.heap.size w wc))
 case first =>
  have H := HC3.out
  clear HC3
  obtain ⟨t693, A4, H⟩ := obE H
  by_cases c5 : t693 = true
  ·subst c5
   replace H := ifT H
   obtain ⟨t694, A6, H⟩ := obE H
   by_cases c7 : t694 = true
   ·subst c7
    replace H := ifT H
    have H' := mkA H
    clear H
    go_wp2_with (first | ((with_reducible refine gate_callee (f := 28) rfl ?_); refine goesQ (some 10) Tryd.func28 #[.slice A0 l0.length c0] ?_; (with_reducible refine (impl_AreLevels.calls k _ _ l0 true _ ?s1 ?s2 A4.out).mono ?_); (case s1 => exact C_g HR0 HB); (case s2 => exact HC0.out); rintro e w8 ⟨rfl, hb⟩; refine ⟨_, rfl, ?_⟩; replace HB := bst HB hb; (try clear hb); (try clear hk)) | (go_at_call 28; (with_reducible refine (impl_AreLevels.calls k _ _ l1 true _ ?s1 ?s2 A6.out).mono ?_); (case s1 => exact C_g HR1 HB); (case s2 => exact HC1.out); rintro e w9 ⟨rfl, hb⟩; replace HB := bst HB hb; (try clear hb); (try clear hk)))
    go_meet
    case rel => exact ⟨_, (((l0.length : Int) != (l1.length : Int))), eqS, H', ⟨by first | omega | exact Nat.le_refl _⟩, ⟨bel_g HB.out⟩⟩
   ·replace c7 := Bool.eq_false_iff.mpr c7
    subst c7
    replace H := ifF H
    have H' := mkA H
    clear H
    go_wp2_with (first | ((with_reducible refine gate_callee (f := 28) rfl ?_); refine goesQ (some 10) Tryd.func28 #[.slice A0 l0.length c0] ?_; (with_reducible refine (impl_AreLevels.calls k _ _ l0 true _ ?s1 ?s2 A4.out).mono ?_); (case s1 => exact C_g HR0 HB); (case s2 => exact HC0.out); rintro e w10 ⟨rfl, hb⟩; refine ⟨_, rfl, ?_⟩; replace HB := bst HB hb; (try clear hb); (try clear hk)) | (go_at_call 28; (with_reducible refine (impl_AreLevels.calls k _ _ l1 false _ ?s1 ?s2 A6.out).mono ?_); (case s1 => exact C_g HR1 HB); (case s2 => exact HC1.out); rintro e w11 ⟨rfl, hb⟩; replace HB := bst HB hb; (try clear hb); (try clear hk)))
    go_meet
    case rel => exact ⟨_, (true), eqS, H', ⟨by first | omega | exact Nat.le_refl _⟩, ⟨bel_g HB.out⟩⟩
  ·replace c5 := Bool.eq_false_iff.mpr c5
   subst c5
   replace H := ifF H
   have H' := mkA H
   clear H
   go_wp2_with (first | ((with_reducible refine gate_callee (f := 28) rfl ?_); refine goesQ (some 10) Tryd.func28 #[.slice A0 l0.length c0] ?_; (with_reducible refine (impl_AreLevels.calls k _ _ l0 false _ ?s1 ?s2 A4.out).mono ?_); (case s1 => exact C_g HR0 HB); (case s2 => exact HC0.out); rintro e w12 ⟨rfl, hb⟩; refine ⟨_, rfl, ?_⟩; replace HB := bst HB hb; (try clear hb); (try clear hk)))
   go_meet
   case rel => exact ⟨_, (true), eqS, H', ⟨by first | omega | exact Nat.le_refl _⟩, ⟨bel_g HB.out⟩⟩
 case rest =>
  clear HC3
  try clear c1
  try clear c5
  try clear c7
  obtain ⟨kq, x23_2, rfl, HA, HJ2, HB⟩ := hcut
  cases kq with
  | zero => exact absurd HA.out (by simp [impl_RefineLevels.j0])
  | succ kj2 =>
   have H := HA.out
   clear HA
   simp only [impl_RefineLevels.j0] at H
   by_cases c13 : x23_2 = true
   ·subst c13
    replace H := ifT H
    simp only [Option.some.injEq, Prod.mk.injEq] at H
    obtain ⟨rfl, rfl⟩ := H
    go_wp2
    go_ret2
    exact ⟨_, eqE, by first | exact Kd.R_nil _ _ _ _ _ | exact Kd.N_nil _ _ _ _ _ | exact Kd.V_nil _ _ _ _ _ | exact Kd.Q_nil _ _ _ _ _ | exact Kd.S_nil _ _ _ _ _, bel_g HB.out⟩
   ·replace c13 := Bool.eq_false_iff.mpr c13
    subst c13
    replace H := ifF H
    obtain ⟨y695, hy695⟩ : ∃ y_ : List Int, y_ = (([] : List Int)) := ⟨_, rfl⟩
    replace H : (impl_RefineLevels.l0 kj2 l1 y695 l0 (l0.length : Int) 0) = some (r1, r2) := by first | (rw [hy695]; with_reducible exact H) | (have H2_ := (Option.bind_some _ _).symm.trans H; rw [hy695]; with_reducible exact H2_) | (have H2_ := (Option.bind_some _ _).symm.trans H; with_reducible exact H2_) | with_reducible exact H | (rw [hy695]; exact H) | exact H
    have Ny695 := mkA hy695
    clear hy695
    have H' := mkA H
    clear H
    go_wp2_with (first | ((with_reducible refine gate_dst (N := 24) rfl ?_); (try (refine gate_guard (by rfl) ?_; dsimp only)); refine Kd.R_lit (Kd.int .i64) _ 3 ?hg (N := 24) ?hd (xs := ([] : List Int)) (inner := []) (ok := fun _ => True) (okp := fun _ => True) ?hr ?hp (fun _ hk => hk) trivial (Below.refl _ _) (Nat.le_refl _) (by simp) ?_; (case hd => rfl); (case hg => rfl); (case hr => first | (go_simp; done) | (go_simp; rfl)); (case hp => exact (Reps.none _ _)); intro v696 w14 ho15 hb hg_ hnew_; clear hg_ hnew_; (first | rw [← Ny695.out] at ho15 | (simp only [Int.reduceToNat] at ho15; rw [← Ny695.out] at ho15)); have HO697 := mkA (Kd.R_lower ho15 (below_size (bel_g HB.out))); replace HB := bst HB hb; clear hb ho15))
    go_loopg [6, 27] kj2 (fun kq v6 v27 w' => ∃ (x6_2 : List Int) (x27_2 : Int), v27 = .int .i64 x27_2 ∧ Fc (impl_RefineLevels.l0 kq l1 x6_2 l0 (l0.length : Int) x27_2 = some (r1, r2)) ∧ Fc (kq ≤ kj2) ∧ Fc (Kd.R (Kd.int .i64) 3 w' w.heap.size (fun _ => True) v6 x6_2) ∧ Fc (Below w.heap.size w w'))
    case atStart => exact ⟨(y695), (0), eqS, H', ⟨Nat.le_refl _⟩, ⟨Kd.R_g HO697.out⟩, ⟨bel_g HB.out⟩⟩
    case round =>
     clear H'
     try clear c1
     try clear c5
     try clear c7
     try clear c13
     obtain ⟨x6_2, x27_2, rfl, HA, HK2, HO_6, HB⟩ := hrel
     cases gk with
     | zero => exact absurd HA.out (by simp [impl_RefineLevels.l0])
     | succ k2 =>
      have H := HA.out
      clear HA
      simp only [impl_RefineLevels.l0] at H
      rcases iteE H with ⟨c16b0, H⟩ | ⟨c16b0, H⟩
      ·obtain ⟨c17, H⟩ := itNP H
       have c17b0 : decide (0 ≤ x27_2) = true := decide_eq_true c17
       clear c17
       obtain ⟨c18, H⟩ := itNP H
       have c18b0 : decide (x27_2 < (l0.length : Int)) = true := decide_eq_true c18
       clear c18
       obtain ⟨c19, H⟩ := itNP H
       have c19b0 : decide (x27_2 < (l1.length : Int)) = true := decide_eq_true c19
       clear c19
       obtain ⟨c20, H⟩ := itNP H
       have LMc20 := mkA c20
       clear c20
       obtain ⟨y700, hy700⟩ : ∃ y_ : List Int, y_ = (x6_2 ++ [wrap64 ((wrap64 ((rd l0 x27_2) * 11)) + (rd l1 x27_2))]) := ⟨_, rfl⟩
       replace H : (impl_RefineLevels.l0 k2 l1 y700 l0 (l0.length : Int) (wrap64 (x27_2 + 1))) = some (r1, r2) := by first | (rw [hy700]; with_reducible exact H) | (have H2_ := (Option.bind_some _ _).symm.trans H; rw [hy700]; with_reducible exact H2_) | (have H2_ := (Option.bind_some _ _).symm.trans H; with_reducible exact H2_) | with_reducible exact H | (rw [hy700]; exact H) | exact H
       have Ny700 := mkA hy700
       clear hy700
       have H' := mkA H
       clear H
       have p698 : 0 ≤ (x27_2 : Int) := ofd
       have q698 : x27_2 < (l0.length : Int) := ofd
       obtain ⟨ad698, e698, hx698_0⟩ := Kd.at_int HR0.out x27_2 p698 q698
       cases e698
       replace hx698_0 := (HB.out.cell (World.block_lt_of_cell? w _ hx698_0)).trans hx698_0
       replace p698 := eq_true p698
       replace q698 := eq_true q698
       have p699 : 0 ≤ (x27_2 : Int) := ofd
       have q699 : x27_2 < (l1.length : Int) := ofd
       obtain ⟨ad699, e699, hx699_0⟩ := Kd.at_int HR1.out x27_2 p699 q699
       cases e699
       replace hx699_0 := (HB.out.cell (World.block_lt_of_cell? w _ hx699_0)).trans hx699_0
       replace p699 := eq_true p699
       replace q699 := eq_true q699
       go_wp2_with (first | ((with_reducible refine gate_builtin (b := .append) (xs := #[.tmp 32, .tmp 40]) rfl ?_); (try (refine gate_guard (by rfl) ?_; dsimp only)); at_builtin; refine Kd.R_append (Kd.int .i64) (w0 := w) w.heap.size rfl (.tmp 32) (.tmp 40) 24 3 (.int .i64 0) 8 rfl Tryd.underlying24 info3 rfl (by decide) (by omega) u6 x6_2 (wrap64 ((wrap64 ((rd l0 x27_2) * 11)) + (rd l1 x27_2))) [.int .i64 (wrap64 ((wrap64 ((rd l0 x27_2) * 11)) + (rd l1 x27_2)))] (fun _ => True) (fun _ => False) rfl rfl ?aP (fun _ hk => hk.elim) ?aF ?aO ?aB ?aS ?aL ?_; (case aP => exact rfl); (case aB => exact (bel_g HB.out)); (case aF => exact (fun _ _ => trivial)); (case aO => exact (Kd.R_g HO_6.out)); (case aS => exact (below_size (bel_g HB.out))); (case aL => have := LMc20.out; omega); intro v701 w21 ho hb hg hat; rw [← Ny700.out] at ho; have HO702 := mkA (ho); replace HB := mkA (hb); clear HO_6; clear ho hb hg hat))
       go_roundg k2
       case measure => have := HJ2.out; have := HK2.out; omega
       case rel => exact ⟨(y700), (wrap64 (x27_2 + 1)), eqS, H', ⟨by have := HJ2.out; have := HK2.out; omega⟩, ⟨Kd.R_g HO702.out⟩, ⟨bel_g HB.out⟩⟩
      ·obtain ⟨t703, A22, H⟩ := obE H
       simp only [Option.some.injEq, Prod.mk.injEq] at H
       obtain ⟨rfl, rfl⟩ := H
       obtain ⟨Ao23, co23, eo23⟩ := Kd.R_slice HO_6.out
       subst eo23
       go_wp2_with (first | ((with_reducible refine gate_callee (f := 29) rfl ?_); refine goesQ (some 44) Tryd.func29 #[.slice Ao23 x6_2.length co23] ?_; (with_reducible refine (impl_leveled.calls k2 _ _ x6_2 t703 _ ?s1 ?s2 A22.out).mono ?_); (case s1 => exact rC HO_6); (case s2 => exact rL HO_6); rintro e w24 ⟨v704, rfl, ho0, hb⟩; refine ⟨_, rfl, ?_⟩; have HO705 := mkA (Kd.R_lower (Kd.R_new' ho0 (Kd.R_lt (Kd.R_g HO_6.out))) (below_size (bel_g HB.out))); replace HO_6 := mkA (Kd.R_elder' (Kd.R_g HO_6.out) (Kd.R_base ho0) hb); replace HB := bst HB hb; (try clear hb); (try clear hk); (try clear ho0)))
       go_ret2
       exact ⟨_, eqE, by (with_reducible repeat (first | apply Kd.R_alloc | apply Kd.R_drewN | apply Kd.R_drew)); exact Kd.R_mono HO705.out (fun _ hk => trivial), bel_g HB.out⟩
def spec_l1Has.l0 : Nat → Int → List Int → Int → Int → Option (Bool)
 | 0, _, _, _, _ => none
 | k + 1, x1, x7, x8, x9 => if x9 < x8 then (if 0 ≤ x9 then (if x9 < (x7.length : Int) then (if (rd x7 x9) = x1 then (some true) else (spec_l1Has.l0 k x1 x7 x8 (wrap64 (x9 + 1)))) else (none)) else (none)) else (some false)
def spec_l1Has.f (k : Nat) (l0 : List Int) (a1 : Int) : Option (Bool) := spec_l1Has.l0 k a1 l0 (l0.length : Int) 0
theorem spec_l1Has.mono_l : ∀ k, (∀ y0 y1 y2 y3, LeO (spec_l1Has.l0 k y0 y1 y2 y3) (spec_l1Has.l0 (k + 1) y0 y1 y2 y3))
 | 0 => fun _ _ _ _ r h => by simp [spec_l1Has.l0] at h
 | k + 1 => by
  have ih0 := spec_l1Has.mono_l k
  ·intro y0 y1 y2 y3
   unfold spec_l1Has.l0
   repeat' (with_reducible first|exact ih0 _ _ _ _|exact LeO.refl _|exact LeO.none _|refine LeO.ite ?_ ?_|refine LeO.bind ?_ (fun _ => ?_))
theorem spec_l1Has.mono : ∀ a0 a1 k, LeO (spec_l1Has.f k a0 a1) (spec_l1Has.f (k + 1) a0 a1) := by
 intro a0 a1 k
 have ih0 := spec_l1Has.mono_l k
 unfold spec_l1Has.f
 repeat' (with_reducible first|exact ih0 _ _ _ _|exact LeO.refl _|exact LeO.none _|refine LeO.ite ?_ ?_|refine LeO.bind ?_ (fun _ => ?_))
theorem spec_l1Has.calls (k : Nat) (A0 : Option Addr) (c0 : Nat) (l0 : List Int) (a1 : Int) (r : Bool) (w : World) (hr0 : Kd.C (Kd.int .i64) w A0 l0.length l0) (hc0 : l0.length ≤ c0) (h : spec_l1Has.f k l0 a1 = some r) :
  Calls Tryd.prog 45 #[.slice A0 l0.length c0, .int .i64 a1] w fun e w' => e = .returned (.bool r) ∧ Drawn0 w w' := by
 have HR0 := mkA hr0
 have HC0 := mkA hc0
 clear hr0 hc0
 have H := h
 clear h
 unfold spec_l1Has.f at H
 have H' := mkA H
 clear H
 go_enter Tryd.func45, Tryd.ntmps45
 go_wp2
 go_loopg [9] k (fun kq v9 w' => ∃ (x9_1 : Int), v9 = .int .i64 x9_1 ∧ Fc (spec_l1Has.l0 kq a1 l0 (l0.length : Int) x9_1 = some r) ∧ Fc (kq ≤ k) ∧ Drawn0 w w')
 case atStart => exact ⟨(0), eqS, H', ⟨Nat.le_refl _⟩, by repeat (first | exact Drawn0.refl _ | apply Drawn0.step)⟩
 case round =>
  clear H'
  obtain ⟨x9_1, rfl, HA, HK1, ⟨m1, rfl⟩⟩ := hrel
  cases gk with
  | zero => exact absurd HA.out (by simp [spec_l1Has.l0])
  | succ k1 =>
   have H := HA.out
   clear HA
   simp only [spec_l1Has.l0] at H
   rcases iteE H with ⟨c3b0, H⟩ | ⟨c3b0, H⟩
   ·obtain ⟨c4, H⟩ := itNP H
    have c4b0 : decide (0 ≤ x9_1) = true := decide_eq_true c4
    clear c4
    obtain ⟨c5, H⟩ := itNP H
    have c5b0 : decide (x9_1 < (l0.length : Int)) = true := decide_eq_true c5
    clear c5
    rcases iteP H with ⟨c6, H⟩ | ⟨c6, H⟩
    ·have c6b0 : ((rd l0 x9_1) == a1) = true := beq_iff_eq.mpr c6
     have c6b1 : ((rd l0 x9_1) != a1) = false := bne_eq_false_iff_eq.mpr c6
     clear c6
     obtain rfl := Option.some.inj H
     have p706 : 0 ≤ (x9_1 : Int) := ofd
     have q706 : x9_1 < (l0.length : Int) := ofd
     obtain ⟨ad706, e706, hx706_0⟩ := Kd.at_int HR0.out x9_1 p706 q706
     cases e706
     replace p706 := eq_true p706
     replace q706 := eq_true q706
     go_wp2
     go_ret
     exact ⟨by first | rfl | (simp; done) | (simp [*]; done), by repeat (first | exact Drawn0.refl _ | apply Drawn0.step)⟩
    ·have c6b0 : ((rd l0 x9_1) == a1) = false := beq_eq_false_iff_ne.mpr c6
     have c6b1 : ((rd l0 x9_1) != a1) = true := bne_iff_ne.mpr c6
     have H' := mkA H
     clear H
     have p706 : 0 ≤ (x9_1 : Int) := ofd
     have q706 : x9_1 < (l0.length : Int) := ofd
     obtain ⟨ad706, e706, hx706_0⟩ := Kd.at_int HR0.out x9_1 p706 q706
     cases e706
     replace p706 := eq_true p706
     replace q706 := eq_true q706
     go_wp2
     go_roundg k1
     case measure => have := HK1.out; omega
     case rel => exact ⟨(wrap64 (x9_1 + 1)), eqS, H', ⟨by have := HK1.out; omega⟩, by repeat (first | exact Drawn0.refl _ | apply Drawn0.step)⟩
   ·obtain rfl := Option.some.inj H
    go_wp2
    go_ret
    exact ⟨by first | rfl | (simp; done) | (simp [*]; done), by repeat (first | exact Drawn0.refl _ | apply Drawn0.step)⟩
mutual
def spec_weLevels.j0 : Nat → List Int → Bool → Option (Bool)
 | 0, _, _ => none
 | k + 1, x0, x12 => if x12 = true then (some false) else (spec_weLevels.l0 k x0 x0 (x0.length : Int) 0)
def spec_weLevels.l0 : Nat → List Int → List Int → Int → Int → Option (Bool)
 | 0, _, _, _, _ => none
 | k + 1, x0, x13, x14, x15 => if x15 < x14 then (if 0 ≤ x15 then (if x15 < (x13.length : Int) then (if (rd x13 x15) > 0 then ((spec_l1Has.f k x0 (wrap64 ((rd x13 x15) - 1))).bind fun t709 => (if t709 = true then (spec_weLevels.l0 k x0 x13 x14 (wrap64 (x15 + 1))) else (some false))) else (spec_weLevels.l0 k x0 x13 x14 (wrap64 (x15 + 1)))) else (none)) else (none)) else (some true)
end
def spec_weLevels.f (k : Nat) (l0 : List Int) : Option (Bool) := if (l0.length : Int) > 10 then (spec_weLevels.j0 k l0 true) else ((spec_l1All.f k l0 0 10).bind fun t707 => (spec_weLevels.j0 k l0 (!t707)))
theorem spec_weLevels.mono_l : ∀ k, (∀ y0 y1, LeO (spec_weLevels.j0 k y0 y1) (spec_weLevels.j0 (k + 1) y0 y1)) ∧ (∀ y0 y1 y2 y3, LeO (spec_weLevels.l0 k y0 y1 y2 y3) (spec_weLevels.l0 (k + 1) y0 y1 y2 y3))
 | 0 => ⟨fun _ _ r h => by simp [spec_weLevels.j0] at h, fun _ _ _ _ r h => by simp [spec_weLevels.l0] at h⟩
 | k + 1 => by
  obtain ⟨ih0, ih1⟩ := spec_weLevels.mono_l k
  refine ⟨?_, ?_⟩ <;> intros
  unfold spec_weLevels.j0
  rotate_left
  unfold spec_weLevels.l0
  rotate_left
  all_goals repeat' (with_reducible first|exact ih0 _ _|exact ih1 _ _ _ _|exact spec_l1All.mono _ _ _ _|exact spec_l1Has.mono _ _ _|exact LeO.refl _|exact LeO.none _|refine LeO.ite ?_ ?_|refine LeO.bind ?_ (fun _ => ?_))
theorem spec_weLevels.mono : ∀ a0 k, LeO (spec_weLevels.f k a0) (spec_weLevels.f (k + 1) a0) := by
 intro a0 k
 obtain ⟨ih0, ih1⟩ := spec_weLevels.mono_l k
 unfold spec_weLevels.f
 repeat' (with_reducible first|exact ih0 _ _|exact ih1 _ _ _ _|exact spec_l1All.mono _ _ _ _|exact spec_l1Has.mono _ _ _|exact LeO.refl _|exact LeO.none _|refine LeO.ite ?_ ?_|refine LeO.bind ?_ (fun _ => ?_))
theorem spec_weLevels.calls (k : Nat) (A0 : Option Addr) (c0 : Nat) (l0 : List Int) (r : Bool) (w : World) (hr0 : Kd.C (Kd.int .i64) w A0 l0.length l0) (hc0 : l0.length ≤ c0) (h : spec_weLevels.f k l0 = some r) :
  Calls Tryd.prog 30 #[.slice A0 l0.length c0] w fun e w' => e = .returned (.bool r) ∧ Drawn0 w w' := by
 have HR0 := mkA hr0
 have HC0 := mkA hc0
 clear hr0 hc0
 have H := h
 clear h
 unfold spec_weLevels.f at H
 have HC2 := mkA H
 clear H
 go_enter Tryd.func30, Tryd.ntmps30
 go_upto_region 1 with (fail)
 go_cut [12] (fun v12 wc => ∃ (kq : Nat) (x12_1 : Bool), v12 = .bool x12_1 ∧ Fc (spec_weLevels.j0 kq l0 x12_1 = some r) ∧ Fc (kq ≤ k) ∧ Drawn0 w wc)
 case first =>
  have H := HC2.out
  clear HC2
  rcases iteP H with ⟨c3, H⟩ | ⟨c3, H⟩
  ·have c3b0 : decide (10 < (l0.length : Int)) = true := decide_eq_true c3
   have c3b1 : decide (10 < l0.length) = true := decide_eq_true (by omega)
   clear c3
   (first | rw [c3b0] | (simp only [i64_w, i32_w]; rw [c3b0]) | skip)
   have H' := mkA H
   clear H
   go_wp2
   go_meet
   case rel => exact ⟨_, (true), eqS, H', ⟨by first | omega | exact Nat.le_refl _⟩, by repeat (first | exact Drawn0.refl _ | apply Drawn0.step)⟩
  ·have c3b0 : decide (10 < (l0.length : Int)) = false := decide_eq_false c3
   have c3b1 : decide (10 < l0.length) = false := decide_eq_false (by omega)
   clear c3
   (first | rw [c3b0] | (simp only [i64_w, i32_w]; rw [c3b0]) | skip)
   obtain ⟨t707, A4, H⟩ := obE H
   have H' := mkA H
   clear H
   go_wp2_with (first | (go_at_call 44; (with_reducible refine (spec_l1All.calls k _ _ l0 0 10 t707 _ ?s1 ?s2 A4.out).mono ?_); (case s1 => repeat (first | exact HR0.out | (with_reducible refine Kd.C_alloc ?_ _) | (with_reducible refine Kd.C_drewN ?_ _) | (with_reducible refine Kd.C_drew ?_))); (case s2 => exact HC0.out); rintro e w' ⟨rfl, ⟨nd, rfl⟩⟩))
   go_meet
   case rel => exact ⟨_, (!t707), eqS, H', ⟨by first | omega | exact Nat.le_refl _⟩, by repeat (first | exact Drawn0.refl _ | apply Drawn0.step)⟩
 case rest =>
  clear HC2
  try clear c3
  try clear c3b0
  try clear c3b1
  obtain ⟨kq, x12_1, rfl, HA, HJ1, ⟨mc1, rfl⟩⟩ := hcut
  cases kq with
  | zero => exact absurd HA.out (by simp [spec_weLevels.j0])
  | succ kj1 =>
   have H := HA.out
   clear HA
   simp only [spec_weLevels.j0] at H
   by_cases c5 : x12_1 = true
   ·subst c5
    replace H := ifT H
    obtain rfl := Option.some.inj H
    go_wp2
    go_ret
    exact ⟨by first | rfl | (simp; done) | (simp [*]; done), by repeat (first | exact Drawn0.refl _ | apply Drawn0.step)⟩
   ·replace c5 := Bool.eq_false_iff.mpr c5
    subst c5
    replace H := ifF H
    have H' := mkA H
    clear H
    go_wp2
    go_loopg [15] kj1 (fun kq v15 w' => ∃ (x15_2 : Int), v15 = .int .i64 x15_2 ∧ Fc (spec_weLevels.l0 kq l0 l0 (l0.length : Int) x15_2 = some r) ∧ Fc (kq ≤ kj1) ∧ Drawn0 w w')
    case atStart => exact ⟨(0), eqS, H', ⟨Nat.le_refl _⟩, by repeat (first | exact Drawn0.refl _ | apply Drawn0.step)⟩
    case round =>
     clear H'
     try clear c3
     try clear c3b0
     try clear c3b1
     try clear c5
     obtain ⟨x15_2, rfl, HA, HK2, ⟨m2, rfl⟩⟩ := hrel
     cases gk with
     | zero => exact absurd HA.out (by simp [spec_weLevels.l0])
     | succ k2 =>
      have H := HA.out
      clear HA
      simp only [spec_weLevels.l0] at H
      rcases iteE H with ⟨c6b0, H⟩ | ⟨c6b0, H⟩
      ·obtain ⟨c7, H⟩ := itNP H
       have c7b0 : decide (0 ≤ x15_2) = true := decide_eq_true c7
       clear c7
       obtain ⟨c8, H⟩ := itNP H
       have c8b0 : decide (x15_2 < (l0.length : Int)) = true := decide_eq_true c8
       clear c8
       rcases iteP H with ⟨c9, H⟩ | ⟨c9, H⟩
       ·have c9b0 : decide (0 < (rd l0 x15_2)) = true := decide_eq_true c9
        clear c9
        obtain ⟨t709, A10, H⟩ := obE H
        by_cases c11 : t709 = true
        ·subst c11
         replace H := ifT H
         have H' := mkA H
         clear H
         have p708 : 0 ≤ (x15_2 : Int) := ofd
         have q708 : x15_2 < (l0.length : Int) := ofd
         obtain ⟨ad708, e708, hx708_0⟩ := Kd.at_int HR0.out x15_2 p708 q708
         cases e708
         replace p708 := eq_true p708
         replace q708 := eq_true q708
         go_wp2_with (first | (go_at_call 45; (with_reducible refine (spec_l1Has.calls k2 _ _ l0 (wrap64 ((rd l0 x15_2) - 1)) true _ ?s1 ?s2 A10.out).mono ?_); (case s1 => repeat (first | exact HR0.out | (with_reducible refine Kd.C_alloc ?_ _) | (with_reducible refine Kd.C_drewN ?_ _) | (with_reducible refine Kd.C_drew ?_))); (case s2 => exact HC0.out); rintro e w' ⟨rfl, ⟨nd, rfl⟩⟩))
         go_roundg k2
         case measure => have := HJ1.out; have := HK2.out; omega
         case rel => exact ⟨(wrap64 (x15_2 + 1)), eqS, H', ⟨by have := HJ1.out; have := HK2.out; omega⟩, by repeat (first | exact Drawn0.refl _ | apply Drawn0.step)⟩
        ·replace c11 := Bool.eq_false_iff.mpr c11
         subst c11
         replace H := ifF H
         obtain rfl := Option.some.inj H
         have p708 : 0 ≤ (x15_2 : Int) := ofd
         have q708 : x15_2 < (l0.length : Int) := ofd
         obtain ⟨ad708, e708, hx708_0⟩ := Kd.at_int HR0.out x15_2 p708 q708
         cases e708
         replace p708 := eq_true p708
         replace q708 := eq_true q708
         go_wp2_with (first | (go_at_call 45; (with_reducible refine (spec_l1Has.calls k2 _ _ l0 (wrap64 ((rd l0 x15_2) - 1)) false _ ?s1 ?s2 A10.out).mono ?_); (case s1 => repeat (first | exact HR0.out | (with_reducible refine Kd.C_alloc ?_ _) | (with_reducible refine Kd.C_drewN ?_ _) | (with_reducible refine Kd.C_drew ?_))); (case s2 => exact HC0.out); rintro e w' ⟨rfl, ⟨nd, rfl⟩⟩))
         go_ret
         exact ⟨by first | rfl | (simp; done) | (simp [*]; done), by repeat (first | exact Drawn0.refl _ | apply Drawn0.step)⟩
       ·have c9b0 : decide (0 < (rd l0 x15_2)) = false := decide_eq_false c9
        clear c9
        have H' := mkA H
        clear H
        have p708 : 0 ≤ (x15_2 : Int) := ofd
        have q708 : x15_2 < (l0.length : Int) := ofd
        obtain ⟨ad708, e708, hx708_0⟩ := Kd.at_int HR0.out x15_2 p708 q708
        cases e708
        replace p708 := eq_true p708
        replace q708 := eq_true q708
        go_wp2
        go_roundg k2
        case measure => have := HJ1.out; have := HK2.out; omega
        case rel => exact ⟨(wrap64 (x15_2 + 1)), eqS, H', ⟨by have := HJ1.out; have := HK2.out; omega⟩, by repeat (first | exact Drawn0.refl _ | apply Drawn0.step)⟩
      ·obtain rfl := Option.some.inj H
       go_wp2
       go_ret
       exact ⟨by first | rfl | (simp; done) | (simp [*]; done), by repeat (first | exact Drawn0.refl _ | apply Drawn0.step)⟩
end Go.Proofs.YtgbdjchdfcodcaaDoor.Q
