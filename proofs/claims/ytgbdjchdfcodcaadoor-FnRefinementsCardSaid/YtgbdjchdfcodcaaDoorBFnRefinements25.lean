import Derived.Test.YtgbdjchdfcodcaaDoorBFnRefinements17
import Derived.Test.YtgbdjchdfcodcaaDoorBFnRefinements24
namespace Go.Proofs.YtgbdjchdfcodcaaDoor.Q
open Go.RowKit Go.Proofs.YtgbdjchdfcodcaaDoorW.PrintWords Go.Proofs.YtgbdjchdfcodcaaDoorW.PrintLast Go.Proofs.YtgbdjchdfcodcaaDoorW.PrintMore
attribute [local go_sem] max2_int min2_int max_two min_two max_three min_three max_four min_four neB_f
set_option linter.unusedVariables false
set_option maxHeartbeats 8000000
set_option maxRecDepth 100000
set_option linter.unusedSimpArgs false
mutual
def spec_RefineLevels.j0 : Nat → List Int → List Int → Bool → Option (List Int × Bool)
 | 0, _, _, _ => none
 | k + 1, x0, x1, x23 => if x23 = true then (some (([] : List Int), false)) else (spec_RefineLevels.l0 k x1 ([] : List Int) x0 (x0.length : Int) 0)
def spec_RefineLevels.l0 : Nat → List Int → List Int → List Int → Int → Int → Option (List Int × Bool)
 | 0, _, _, _, _, _ => none
 | k + 1, x1, x6, x24, x25, x26 => if x26 < x25 then (if 0 ≤ x26 then (if x26 < (x24.length : Int) then (if x26 < (x1.length : Int) then (if x6.length < 17592186044416 then (spec_RefineLevels.l0 k x1 (x6 ++ [wrap64 ((wrap64 (100 * (rd x24 x26))) + (rd x1 x26))]) x24 x25 (wrap64 (x26 + 1))) else (none)) else (none)) else (none)) else (none)) else ((spec_weOfNumbers.f k x6).bind fun t717 => (some (t717, true)))
end
def spec_RefineLevels.f (k : Nat) (l0 : List Int) (l1 : List Int) : Option (List Int × Bool) := (spec_weLevels.f k l0).bind fun t710 => (if t710 = true then ((spec_weLevels.f k l1).bind fun t711 => (if t711 = true then (spec_RefineLevels.j0 k l0 l1 ((l0.length : Int) != (l1.length : Int))) else (spec_RefineLevels.j0 k l0 l1 true))) else (spec_RefineLevels.j0 k l0 l1 true))
theorem spec_RefineLevels.mono_l : ∀ k, (∀ y0 y1 y2, LeO (spec_RefineLevels.j0 k y0 y1 y2) (spec_RefineLevels.j0 (k + 1) y0 y1 y2)) ∧ (∀ y0 y1 y2 y3 y4, LeO (spec_RefineLevels.l0 k y0 y1 y2 y3 y4) (spec_RefineLevels.l0 (k + 1) y0 y1 y2 y3 y4))
 | 0 => ⟨fun _ _ _ r h => by simp [spec_RefineLevels.j0] at h, fun _ _ _ _ _ r h => by simp [spec_RefineLevels.l0] at h⟩
 | k + 1 => by
  obtain ⟨ih0, ih1⟩ := spec_RefineLevels.mono_l k
  refine ⟨?_, ?_⟩ <;> intros
  unfold spec_RefineLevels.j0
  rotate_left
  unfold spec_RefineLevels.l0
  rotate_left
  all_goals repeat' (with_reducible first|exact ih0 _ _ _|exact ih1 _ _ _ _ _|exact spec_weLevels.mono _ _|exact spec_weOfNumbers.mono _ _|exact LeO.refl _|exact LeO.none _|refine LeO.ite ?_ ?_|refine LeO.bind ?_ (fun _ => ?_))
theorem spec_RefineLevels.mono : ∀ a0 a1 k, LeO (spec_RefineLevels.f k a0 a1) (spec_RefineLevels.f (k + 1) a0 a1) := by
 intro a0 a1 k
 obtain ⟨ih0, ih1⟩ := spec_RefineLevels.mono_l k
 unfold spec_RefineLevels.f
 repeat' (with_reducible first|exact ih0 _ _ _|exact ih1 _ _ _ _ _|exact spec_weLevels.mono _ _|exact spec_weOfNumbers.mono _ _|exact LeO.refl _|exact LeO.none _|refine LeO.ite ?_ ?_|refine LeO.bind ?_ (fun _ => ?_))
theorem spec_RefineLevels.calls (k : Nat) (A0 : Option Addr) (c0 : Nat) (l0 : List Int) (A1 : Option Addr) (c1 : Nat) (l1 : List Int) (r1 : List Int) (r2 : Bool) (w : World) (hr0 : Kd.C (Kd.int .i64) w A0 l0.length l0) (hc0 : l0.length ≤ c0) (hr1 : Kd.C (Kd.int .i64) w A1 l1.length l1) (hc1 : l1.length ≤ c1) (h : spec_RefineLevels.f k l0 l1 = some (r1, r2)) :
  Calls Tryd.prog 14 #[.slice A0 l0.length c0, .slice A1 l1.length c1] w fun e w' => ∃ v0_ : Value, e = .returned (.tuple #[v0_, .bool r2]) ∧ Kd.R (Kd.int .i64) 3 w' w.heap.size (fun _ => True) v0_ r1 ∧ Below w.heap.size w w' := by
 have HR0 := mkA hr0
 have HC0 := mkA hc0
 clear hr0 hc0
 have HR1 := mkA hr1
 have HC1 := mkA hc1
 clear hr1 hc1
 have HB := mkA (Below.refl w.heap.size w)
 have H := h
 clear h
 unfold spec_RefineLevels.f at H
 have HC3 := mkA H
 clear H
 go_enter Tryd.func14, Tryd.ntmps14
 go_upto_region 1 with (fail)
 go_cut [23] (fun v23 wc => ∃ (kq : Nat) (x23_2 : Bool), v23 = .bool x23_2 ∧ Fc (spec_RefineLevels.j0 kq l0 l1 x23_2 = some (r1, r2)) ∧ Fc (kq ≤ k) ∧ Fc (Below w.heap.size w wc))
 case first =>
  have H := HC3.out
  clear HC3
  obtain ⟨t710, A4, H⟩ := obE H
  by_cases c5 : t710 = true
  ·subst c5
   replace H := ifT H
   obtain ⟨t711, A6, H⟩ := obE H
   by_cases c7 : t711 = true
   ·subst c7
    replace H := ifT H
    have H' := mkA H
    clear H
    go_wp2_with (first | ((with_reducible refine gate_callee (f := 30) rfl ?_); refine goesQ (some 10) Tryd.func30 #[.slice A0 l0.length c0] ?_; (with_reducible refine (spec_weLevels.calls k _ _ l0 true _ ?s1 ?s2 A4.out).mono ?_); (case s1 => exact C_g HR0 HB); (case s2 => exact HC0.out); rintro e w' ⟨rfl, ⟨nd, rfl⟩⟩; refine ⟨_, rfl, ?_⟩) | (go_at_call 30; (with_reducible refine (spec_weLevels.calls k _ _ l1 true _ ?s1 ?s2 A6.out).mono ?_); (case s1 => repeat (first | exact (Kd.C_below HR1.out (bel_g HB.out)) | (with_reducible refine Kd.C_alloc ?_ _) | (with_reducible refine Kd.C_drewN ?_ _) | (with_reducible refine Kd.C_drew ?_))); (case s2 => exact HC1.out); rintro e w' ⟨rfl, ⟨nd, rfl⟩⟩))
    go_meet
    case rel => exact ⟨_, (((l0.length : Int) != (l1.length : Int))), eqS, H', ⟨by first | omega | exact Nat.le_refl _⟩, ⟨bel_g HB.out⟩⟩
   ·replace c7 := Bool.eq_false_iff.mpr c7
    subst c7
    replace H := ifF H
    have H' := mkA H
    clear H
    go_wp2_with (first | ((with_reducible refine gate_callee (f := 30) rfl ?_); refine goesQ (some 10) Tryd.func30 #[.slice A0 l0.length c0] ?_; (with_reducible refine (spec_weLevels.calls k _ _ l0 true _ ?s1 ?s2 A4.out).mono ?_); (case s1 => exact C_g HR0 HB); (case s2 => exact HC0.out); rintro e w' ⟨rfl, ⟨nd, rfl⟩⟩; refine ⟨_, rfl, ?_⟩) | (go_at_call 30; (with_reducible refine (spec_weLevels.calls k _ _ l1 false _ ?s1 ?s2 A6.out).mono ?_); (case s1 => repeat (first | exact (Kd.C_below HR1.out (bel_g HB.out)) | (with_reducible refine Kd.C_alloc ?_ _) | (with_reducible refine Kd.C_drewN ?_ _) | (with_reducible refine Kd.C_drew ?_))); (case s2 => exact HC1.out); rintro e w' ⟨rfl, ⟨nd, rfl⟩⟩))
    go_meet
    case rel => exact ⟨_, (true), eqS, H', ⟨by first | omega | exact Nat.le_refl _⟩, ⟨bel_g HB.out⟩⟩
  ·replace c5 := Bool.eq_false_iff.mpr c5
   subst c5
   replace H := ifF H
   have H' := mkA H
   clear H
   go_wp2_with (first | ((with_reducible refine gate_callee (f := 30) rfl ?_); refine goesQ (some 10) Tryd.func30 #[.slice A0 l0.length c0] ?_; (with_reducible refine (spec_weLevels.calls k _ _ l0 false _ ?s1 ?s2 A4.out).mono ?_); (case s1 => exact C_g HR0 HB); (case s2 => exact HC0.out); rintro e w' ⟨rfl, ⟨nd, rfl⟩⟩; refine ⟨_, rfl, ?_⟩))
   go_meet
   case rel => exact ⟨_, (true), eqS, H', ⟨by first | omega | exact Nat.le_refl _⟩, ⟨bel_g HB.out⟩⟩
 case rest =>
  clear HC3
  try clear c1
  try clear c5
  try clear c7
  obtain ⟨kq, x23_2, rfl, HA, HJ2, HB⟩ := hcut
  cases kq with
  | zero => exact absurd HA.out (by simp [spec_RefineLevels.j0])
  | succ kj2 =>
   have H := HA.out
   clear HA
   simp only [spec_RefineLevels.j0] at H
   by_cases c8 : x23_2 = true
   ·subst c8
    replace H := ifT H
    simp only [Option.some.injEq, Prod.mk.injEq] at H
    obtain ⟨rfl, rfl⟩ := H
    go_wp2
    go_ret2
    exact ⟨_, eqE, by first | exact Kd.R_nil _ _ _ _ _ | exact Kd.N_nil _ _ _ _ _ | exact Kd.V_nil _ _ _ _ _ | exact Kd.Q_nil _ _ _ _ _ | exact Kd.S_nil _ _ _ _ _, bel_g HB.out⟩
   ·replace c8 := Bool.eq_false_iff.mpr c8
    subst c8
    replace H := ifF H
    have H' := mkA H
    clear H
    go_wp2
    go_loopg [6, 26] kj2 (fun kq v6 v26 w' => ∃ (x6_2 : List Int) (x26_2 : Int), v26 = .int .i64 x26_2 ∧ Fc (spec_RefineLevels.l0 kq l1 x6_2 l0 (l0.length : Int) x26_2 = some (r1, r2)) ∧ Fc (kq ≤ kj2) ∧ Fc (Kd.R (Kd.int .i64) 3 w' w.heap.size (fun _ => True) v6 x6_2) ∧ Fc (Below w.heap.size w w'))
    case atStart => exact ⟨(([] : List Int)), (0), eqS, H', ⟨Nat.le_refl _⟩, ⟨by first | exact Kd.R_nil _ _ _ _ _ | exact Kd.N_nil _ _ _ _ _ | exact Kd.V_nil _ _ _ _ _ | exact Kd.Q_nil _ _ _ _ _ | exact Kd.S_nil _ _ _ _ _⟩, ⟨bel_g HB.out⟩⟩
    case round =>
     clear H'
     try clear c1
     try clear c5
     try clear c7
     try clear c8
     obtain ⟨x6_2, x26_2, rfl, HA, HK2, HO_6, HB⟩ := hrel
     cases gk with
     | zero => exact absurd HA.out (by simp [spec_RefineLevels.l0])
     | succ k2 =>
      have H := HA.out
      clear HA
      simp only [spec_RefineLevels.l0] at H
      rcases iteE H with ⟨c9b0, H⟩ | ⟨c9b0, H⟩
      ·obtain ⟨c10, H⟩ := itNP H
       have c10b0 : decide (0 ≤ x26_2) = true := decide_eq_true c10
       clear c10
       obtain ⟨c11, H⟩ := itNP H
       have c11b0 : decide (x26_2 < (l0.length : Int)) = true := decide_eq_true c11
       clear c11
       obtain ⟨c12, H⟩ := itNP H
       have c12b0 : decide (x26_2 < (l1.length : Int)) = true := decide_eq_true c12
       clear c12
       obtain ⟨c13, H⟩ := itNP H
       have LMc13 := mkA c13
       clear c13
       obtain ⟨y714, hy714⟩ : ∃ y_ : List Int, y_ = (x6_2 ++ [wrap64 ((wrap64 (100 * (rd l0 x26_2))) + (rd l1 x26_2))]) := ⟨_, rfl⟩
       replace H : (spec_RefineLevels.l0 k2 l1 y714 l0 (l0.length : Int) (wrap64 (x26_2 + 1))) = some (r1, r2) := by first | (rw [hy714]; with_reducible exact H) | (have H2_ := (Option.bind_some _ _).symm.trans H; rw [hy714]; with_reducible exact H2_) | (have H2_ := (Option.bind_some _ _).symm.trans H; with_reducible exact H2_) | with_reducible exact H | (rw [hy714]; exact H) | exact H
       have Ny714 := mkA hy714
       clear hy714
       have H' := mkA H
       clear H
       have p712 : 0 ≤ (x26_2 : Int) := ofd
       have q712 : x26_2 < (l0.length : Int) := ofd
       obtain ⟨ad712, e712, hx712_0⟩ := Kd.at_int HR0.out x26_2 p712 q712
       cases e712
       replace hx712_0 := (HB.out.cell (World.block_lt_of_cell? w _ hx712_0)).trans hx712_0
       replace p712 := eq_true p712
       replace q712 := eq_true q712
       have p713 : 0 ≤ (x26_2 : Int) := ofd
       have q713 : x26_2 < (l1.length : Int) := ofd
       obtain ⟨ad713, e713, hx713_0⟩ := Kd.at_int HR1.out x26_2 p713 q713
       cases e713
       replace hx713_0 := (HB.out.cell (World.block_lt_of_cell? w _ hx713_0)).trans hx713_0
       replace p713 := eq_true p713
       replace q713 := eq_true q713
       go_wp2_with (first | ((with_reducible refine gate_builtin (b := .append) (xs := #[.tmp 31, .tmp 39]) rfl ?_); (try (refine gate_guard (by rfl) ?_; dsimp only)); at_builtin; refine Kd.R_append (Kd.int .i64) (w0 := w) w.heap.size rfl (.tmp 31) (.tmp 39) 24 3 (.int .i64 0) 8 rfl Tryd.underlying24 info3 rfl (by decide) (by omega) u6 x6_2 (wrap64 ((wrap64 (100 * (rd l0 x26_2))) + (rd l1 x26_2))) [.int .i64 (wrap64 ((wrap64 (100 * (rd l0 x26_2))) + (rd l1 x26_2)))] (fun _ => True) (fun _ => False) rfl rfl ?aP (fun _ hk => hk.elim) ?aF ?aO ?aB ?aS ?aL ?_; (case aP => exact rfl); (case aB => exact (bel_g HB.out)); (case aF => exact (fun _ _ => trivial)); (case aO => exact (Kd.R_g HO_6.out)); (case aS => exact (below_size (bel_g HB.out))); (case aL => have := LMc13.out; omega); intro v715 w14 ho hb hg hat; rw [← Ny714.out] at ho; have HO716 := mkA (ho); replace HB := mkA (hb); clear HO_6; clear ho hb hg hat))
       go_roundg k2
       case measure => have := HJ2.out; have := HK2.out; omega
       case rel => exact ⟨(y714), (wrap64 (x26_2 + 1)), eqS, H', ⟨by have := HJ2.out; have := HK2.out; omega⟩, ⟨Kd.R_g HO716.out⟩, ⟨bel_g HB.out⟩⟩
      ·obtain ⟨t717, A15, H⟩ := obE H
       simp only [Option.some.injEq, Prod.mk.injEq] at H
       obtain ⟨rfl, rfl⟩ := H
       obtain ⟨Ao16, co16, eo16⟩ := Kd.R_slice HO_6.out
       subst eo16
       go_wp2_with (first | ((with_reducible refine gate_callee (f := 31) rfl ?_); refine goesQ (some 43) Tryd.func31 #[.slice Ao16 x6_2.length co16] ?_; (with_reducible refine (spec_weOfNumbers.calls k2 _ _ x6_2 t717 _ ?s1 ?s2 A15.out).mono ?_); (case s1 => exact rC HO_6); (case s2 => exact rL HO_6); rintro e w17 ⟨v718, rfl, ho0, hb⟩; refine ⟨_, rfl, ?_⟩; have HO719 := mkA (Kd.R_lower (Kd.R_new' ho0 (Kd.R_lt (Kd.R_g HO_6.out))) (below_size (bel_g HB.out))); replace HO_6 := mkA (Kd.R_elder' (Kd.R_g HO_6.out) (Kd.R_base ho0) hb); replace HB := bst HB hb; (try clear hb); (try clear hk); (try clear ho0)))
       go_ret2
       exact ⟨_, eqE, by (with_reducible repeat (first | apply Kd.R_alloc | apply Kd.R_drewN | apply Kd.R_drew)); exact Kd.R_mono HO719.out (fun _ hk => trivial), bel_g HB.out⟩
def impl_ofLevels_1.f (a0 : Int) (a1 : Int) (l2_0 : List Int) : Option (Bool) := if 0 ≤ a1 then (if a1 < (l2_0.length : Int) then (if 0 ≤ a0 then (if a0 < (l2_0.length : Int) then (some (decide ((rd l2_0 a1) > (rd l2_0 a0)))) else (none)) else (none)) else (none)) else (none)
theorem impl_ofLevels_1.calls (a0 : Int) (a1 : Int) (gB2 : Nat) (A2_0 : Option Addr) (c2_0 : Nat) (l2_0 : List Int) (r : Bool) (w : World) (hb2 : w.heap[gB2]? = some (.cells #[.slice A2_0 l2_0.length c2_0] 24 (0, 0))) (hr2_0 : Kd.C (Kd.int .i64) w A2_0 l2_0.length l2_0) (hc2_0 : l2_0.length ≤ c2_0) (h : impl_ofLevels_1.f a0 a1 l2_0 = some r) :
  Calls Tryd.prog 48 #[.int .i64 a0, .int .i64 a1, .pointer (some ⟨gB2, 0, none⟩)] w fun e w' => e = .returned (.bool r) ∧ Drawn0 w w' := by
 have BK720 := mkA hb2
 clear hb2
 have HR2_0 := mkA hr2_0
 have HC2_0 := mkA hc2_0
 clear hr2_0 hc2_0
 have H := h
 clear h
 unfold impl_ofLevels_1.f at H
 obtain ⟨c4, H⟩ := itNP H
 have c4b0 : decide (0 ≤ a1) = true := decide_eq_true c4
 clear c4
 obtain ⟨c5, H⟩ := itNP H
 have c5b0 : decide (a1 < (l2_0.length : Int)) = true := decide_eq_true c5
 clear c5
 obtain ⟨c6, H⟩ := itNP H
 have c6b0 : decide (0 ≤ a0) = true := decide_eq_true c6
 clear c6
 obtain ⟨c7, H⟩ := itNP H
 have c7b0 : decide (a0 < (l2_0.length : Int)) = true := decide_eq_true c7
 clear c7
 obtain rfl := Option.some.inj H
 obtain ⟨_, _⟩ := blk1 BK720
 have p721 : 0 ≤ (a1 : Int) := ofd
 have q721 : a1 < (l2_0.length : Int) := ofd
 obtain ⟨ad721, e721, hx721_0⟩ := Kd.at_int HR2_0.out a1 p721 q721
 cases e721
 replace p721 := eq_true p721
 replace q721 := eq_true q721
 have p722 : 0 ≤ (a0 : Int) := ofd
 have q722 : a0 < (l2_0.length : Int) := ofd
 obtain ⟨ad722, e722, hx722_0⟩ := Kd.at_int HR2_0.out a0 p722 q722
 obtain rfl : ad721 = ad722 := (by injection e722)
 replace p722 := eq_true p722
 replace q722 := eq_true q722
 go_enter Tryd.func48, Tryd.ntmps48
 go_wp2
 repeat (go_quiet (fail); try go_wp2)
 go_ret
 exact ⟨by first | rfl | (simp; done) | (simp [*]; done), by repeat (first | exact Drawn0.refl _ | apply Drawn0.step)⟩
def impl_ofLevels.f (k : Nat) (l0 : List Int) : Option (Int × List Int) := (impl_relation.f k (l0.length : Int) (fun u0_ u1_ => impl_ofLevels_1.f u0_ u1_ l0)).bind fun bt725 => (some (bt725.1, bt725.2))
theorem impl_ofLevels.mono : ∀ a0 k, LeO (impl_ofLevels.f k a0) (impl_ofLevels.f (k + 1) a0) := by
 intro a0 k
 unfold impl_ofLevels.f
 repeat' first
   | (with_reducible exact impl_relation.mono _ _ _)
   | (refine impl_relation.monoF ?_ _ _; intros)
   | (with_reducible exact impl_relation.mono _ _ _)
   | (with_reducible exact LeO.refl _)
   | (with_reducible exact LeO.none _)
   | (with_reducible refine LeO.ite ?_ ?_)
   | (with_reducible refine LeO.bind ?_ (fun _ => ?_))
   | exact impl_relation.mono _ _ _
   | exact LeO.none _
   | refine LeO.ite ?_ ?_
   | refine LeO.bind ?_ (fun _ => ?_)
theorem impl_ofLevels.calls (k : Nat) (A0 : Option Addr) (c0 : Nat) (l0 : List Int) (r1 : Int) (r2 : List Int) (w : World) (hr0 : Kd.C (Kd.int .i64) w A0 l0.length l0) (hc0 : l0.length ≤ c0) (h : impl_ofLevels.f k l0 = some (r1, r2)) :
  Calls Tryd.prog 32 #[.slice A0 l0.length c0] w fun e w' => ∃ v1_ : Value, e = .returned (.agg #[.int .i64 r1, v1_]) ∧ Kd.R (Kd.int .i64) 3 w' w.heap.size (fun _ => True) v1_ r2 ∧ Below w.heap.size w w' := by
 have hu26 := Tryd.underlying26
 have HR0 := mkA hr0
 have HC0 := mkA hc0
 clear hr0 hc0
 have HB := mkA (Below.refl w.heap.size w)
 have H := h
 clear h
 unfold impl_ofLevels.f at H
 obtain ⟨⟨t725, t726⟩, A2, H⟩ := obE H
 dsimp only at H
 simp only [Option.some.injEq, Prod.mk.injEq] at H
 obtain ⟨rfl, rfl⟩ := H
 go_enter Tryd.func32, Tryd.ntmps32
 go_wp2_with (first | ((with_reducible refine gate_dst (N := 1) rfl ?_); refine boxE (N := 1) (cs := #[.slice A0 l0.length c0]) (t := 24) ?_; intro gb723 hg w3 hbox hb; have BK723 := mkA (hbox); have GE723 := geB HB hg; replace HB := bst HB hb; clear hb hbox hg) | ((with_reducible refine gate_dst (N := 2) rfl ?_); refine boxE (N := 2) (cs := #[.int .i64 0, .slice none 0 0]) (t := 26) ?_; intro gb724 hg w4 hbox hb; have BK724 := mkA (hbox); have GE724 := geB HB hg; have NB723_724 := neL7 BK723 hg; have NB724_723 := neR7 BK723 hg; replace BK723 := blkB BK723 hb; replace HB := bst HB hb; clear hb hbox hg; obtain ⟨_, _⟩ := blk1 BK723) | ((with_reducible refine gate_callee (f := 19) rfl ?_); refine goesQ (some 6) Tryd.func19 #[.int .i64 (l0.length : Int), .func (.func 48) #[] #[.pointer (some ⟨gb723, 0, none⟩)]] ?_; (with_reducible refine (impl_relation.calls k (l0.length : Int) (fun u0_ u1_ => impl_ofLevels_1.f u0_ u1_ l0) 48 #[.pointer (some ⟨gb723, 0, none⟩)] (fun args_ W_ => enters_ Tryd.func48 (by kernel_rfl) rfl args_ W_) t725 t726 _ ?s1 A2.out).mono ?_); (case s1 => exact fun u0_ u1_ q_ W_ hb_ hq_ => (impl_ofLevels_1.calls u0_ u1_ gb723 A0 c0 l0 q_ W_ (blk_below (show _ = some (Obj.cells #[.slice A0 l0.length c0] 24 (0, 0)) from blkT BK723) hb_) (Kd.C_below (show Kd.C (Kd.int .i64) _ A0 l0.length l0 from by exact C_g HR0 HB) hb_) (by exact HC0.out) hq_).mono (fun _ _ h_ => ⟨h_.1, h_.2.below⟩)); rintro e w7 ⟨v727, rfl, ho0, hb⟩; refine ⟨_, rfl, ?_⟩; have HO728 := mkA (Kd.R_lower ho0 (below_size (bel_g HB.out))); replace BK723 := blkB BK723 hb; replace BK724 := blkB BK724 hb; replace HB := bst HB hb; (try clear hb); (try clear hk); (try clear ho0); obtain ⟨_, _, _, _⟩ := blk2 BK724; obtain ⟨Ao9, co9, eo9⟩ := Kd.R_slice HO728.out; subst eo9))
 refine bodyPost_ret (results_cell_row rfl _ _ gb724 26 #[.int .i64 t725, .slice Ao9 t726.length co9] (0, 0) _ rfl (blkT BK724) Tryd.underlying26 rfl (by kernel_rfl)) rfl ?_
 exact ⟨_, eqE, by (with_reducible repeat (first | apply Kd.R_alloc | apply Kd.R_drewN | apply Kd.R_drew)); exact Kd.R_mono (rF HO728 BK724) (fun _ _ => trivial), bel_g HB.out⟩
def impl_OrderOfLevels.f (k : Nat) (l0 : List Int) : Option (Int × List Int × Bool) := (impl_AreLevels.f k l0).bind fun t730 => (if t730 = true then ((impl_ofLevels.f k l0).bind fun bt731 => (some (bt731.1, bt731.2, true))) else (some (0, ([] : List Int), false)))
theorem impl_OrderOfLevels.mono : ∀ a0 k, LeO (impl_OrderOfLevels.f k a0) (impl_OrderOfLevels.f (k + 1) a0) := by
 intro a0 k
 unfold impl_OrderOfLevels.f
 repeat' (with_reducible first|exact impl_AreLevels.mono _ _|exact impl_ofLevels.mono _ _|exact LeO.refl _|exact LeO.none _|refine LeO.ite ?_ ?_|refine LeO.bind ?_ (fun _ => ?_))
theorem impl_OrderOfLevels.calls (k : Nat) (A0 : Option Addr) (c0 : Nat) (l0 : List Int) (r1 : Int) (r2 : List Int) (r3 : Bool) (w : World) (hr0 : Kd.C (Kd.int .i64) w A0 l0.length l0) (hc0 : l0.length ≤ c0) (h : impl_OrderOfLevels.f k l0 = some (r1, r2, r3)) :
  Calls Tryd.prog 16 #[.slice A0 l0.length c0] w fun e w' => ∃ v1_ : Value, e = .returned (.tuple #[.agg #[.int .i64 r1, v1_], .bool r3]) ∧ Kd.R (Kd.int .i64) 3 w' w.heap.size (fun _ => True) v1_ r2 ∧ Below w.heap.size w w' := by
 have hu26 := Tryd.underlying26
 have HR0 := mkA hr0
 have HC0 := mkA hc0
 clear hr0 hc0
 have HB := mkA (Below.refl w.heap.size w)
 have H := h
 clear h
 unfold impl_OrderOfLevels.f at H
 obtain ⟨t730, A2, H⟩ := obE H
 by_cases c3 : t730 = true
 ·subst c3
  replace H := ifT H
  obtain ⟨⟨t731, t732⟩, A4, H⟩ := obE H
  dsimp only at H
  simp only [Option.some.injEq, Prod.mk.injEq] at H
  obtain ⟨rfl, rfl, rfl⟩ := H
  go_enter Tryd.func16, Tryd.ntmps16
  go_wp2_with (first | ((with_reducible refine gate_dst (N := 2) rfl ?_); refine boxE (N := 2) (cs := #[.int .i64 0, .slice none 0 0]) (t := 26) ?_; intro gb729 hg w5 hbox hb; have BK729 := mkA (hbox); have GE729 := geB HB hg; replace HB := bst HB hb; clear hb hbox hg) | ((with_reducible refine gate_callee (f := 28) rfl ?_); refine goesQ (some 5) Tryd.func28 #[.slice A0 l0.length c0] ?_; (with_reducible refine (impl_AreLevels.calls k _ _ l0 true _ ?s1 ?s2 A2.out).mono ?_); (case s1 => exact C_g HR0 HB); (case s2 => exact HC0.out); rintro e w6 ⟨rfl, hb⟩; refine ⟨_, rfl, ?_⟩; replace BK729 := blkB BK729 hb; replace HB := bst HB hb; (try clear hb); (try clear hk)) | ((with_reducible refine gate_callee (f := 32) rfl ?_); refine goesQ (some 9) Tryd.func32 #[.slice A0 l0.length c0] ?_; (with_reducible refine (impl_ofLevels.calls k _ _ l0 t731 t732 _ ?s1 ?s2 A4.out).mono ?_); (case s1 => exact C_g HR0 HB); (case s2 => exact HC0.out); rintro e w7 ⟨v733, rfl, ho0, hb⟩; refine ⟨_, rfl, ?_⟩; have HO734 := mkA (Kd.R_lower ho0 (below_size (bel_g HB.out))); replace BK729 := blkB BK729 hb; replace HB := bst HB hb; (try clear hb); (try clear hk); (try clear ho0); obtain ⟨_, _, _, _⟩ := blk2 BK729; obtain ⟨Ao9, co9, eo9⟩ := Kd.R_slice HO734.out; subst eo9))
  refine bodyPost_ret (results_ct rfl _ _ gb729 26 #[.int .i64 t731, .slice Ao9 t732.length co9] (0, 0) _ rfl (blkT BK729) Tryd.underlying26 rfl (by kernel_rfl)) rfl ?_
  exact ⟨_, eqE, by (with_reducible repeat (first | apply Kd.R_alloc | apply Kd.R_drewN | apply Kd.R_drew)); exact Kd.R_mono (rF HO734 BK729) (fun _ _ => trivial), bel_g HB.out⟩
 ·replace c3 := Bool.eq_false_iff.mpr c3
  subst c3
  replace H := ifF H
  simp only [Option.some.injEq, Prod.mk.injEq] at H
  obtain ⟨rfl, rfl, rfl⟩ := H
  go_enter Tryd.func16, Tryd.ntmps16
  go_wp2_with (first | ((with_reducible refine gate_dst (N := 2) rfl ?_); refine boxE (N := 2) (cs := #[.int .i64 0, .slice none 0 0]) (t := 26) ?_; intro gb729 hg w10 hbox hb; have BK729 := mkA (hbox); have GE729 := geB HB hg; replace HB := bst HB hb; clear hb hbox hg) | ((with_reducible refine gate_callee (f := 28) rfl ?_); refine goesQ (some 5) Tryd.func28 #[.slice A0 l0.length c0] ?_; (with_reducible refine (impl_AreLevels.calls k _ _ l0 false _ ?s1 ?s2 A2.out).mono ?_); (case s1 => exact C_g HR0 HB); (case s2 => exact HC0.out); rintro e w11 ⟨rfl, hb⟩; refine ⟨_, rfl, ?_⟩; replace BK729 := blkB BK729 hb; replace HB := bst HB hb; (try clear hb); (try clear hk); obtain ⟨_, _, _, _⟩ := blk2 BK729))
  refine bodyPost_ret (results_ct rfl _ _ gb729 26 #[.int .i64 0, .slice none 0 0] (0, 0) _ rfl (blkT BK729) Tryd.underlying26 rfl (by kernel_rfl)) rfl ?_
  exact ⟨_, eqE, by first | exact Kd.R_nil _ _ _ _ _ | exact Kd.N_nil _ _ _ _ _ | exact Kd.V_nil _ _ _ _ _ | exact Kd.Q_nil _ _ _ _ _ | exact Kd.S_nil _ _ _ _ _, bel_g HB.out⟩
end Go.Proofs.YtgbdjchdfcodcaaDoor.Q
