import Derived.Test.YtjojalbgpemjoaaBFnExactOrderOfAscent0
import Derived.Test.YtjojalbgpemjoaaBFnExactOrderOfAscent9
import Derived.Test.YtjojalbgpemjoaaBFnExactOrderOfAscent10
-- printed by this project's own program (wip/mp/mp.py) over the kit's print, for this seat; Lean checks it
namespace Go.Proofs.Ytjojalbgpemjoaa.Q
open Go.RowKit Go.Proofs.YtjojalbgpemjoaaW.PrintWords Go.Proofs.YtjojalbgpemjoaaW.PrintLast Go.Proofs.YtjojalbgpemjoaaW.PrintMore
attribute [local go_sem] max2_int min2_int max_two min_two max_three min_three max_four min_four   -- for this text's walks alone
set_option linter.unusedVariables false
set_option linter.unusedSimpArgs false

/-! ### impl_build: function 94 -/
mutual
def impl_build.l0 : Nat → List (S61) → Int → List Int → List (S61) → Int → Int → Option ((List (S61)))
  | 0, _, _, _, _, _, _ => none
  | k + 1, x0, x1, x5, x16, x17, x18 => if x18 < x17 then (if 0 ≤ x18 then (if x18 < (x16.length : Int) then (if x5.length < 17592186044416 then (impl_build.l0 k x0 x1 (x5 ++ [(rd_T61 x16 x18).f0]) x16 x17 (wrap64 (x18 + 1))) else (none)) else (none)) else (none)) else ((impl_different.f x5).bind fun t715 => (if (t715.length : Int) = 0 then (some (([(⟨0, 0⟩ : S61)] : List (S61)))) else (impl_build.l1 k x0 x1 (t715.length : Int) (t715.length : Int) x0 (x0.length : Int) 0)))
def impl_build.l1 : Nat → List (S61) → Int → Int → Int → List (S61) → Int → Int → Option ((List (S61)))
  | 0, _, _, _, _, _, _, _ => none
  | k + 1, x0, x1, x6, x9, x36, x37, x38 => if x38 < x37 then (if 0 ≤ x38 then (if x38 < (x36.length : Int) then (if ((rd_T61 x36 x38).f1) = (wrap64 (x9 - 1)) then (impl_build.l1 k x0 x1 (mn x6 ((rd_T61 x36 x38).f0)) x9 x36 x37 (wrap64 (x38 + 1))) else (impl_build.l1 k x0 x1 x6 x9 x36 x37 (wrap64 (x38 + 1)))) else (none)) else (none)) else ((impl_Interval.f x0).bind fun t723 => (if x1 ≤ x6 then (if t723.length < 8796093022208 then (some (t723 ++ [(⟨x1, wrap64 (x9 - 1)⟩ : S61)])) else (none)) else (impl_build.l2 k x1 x9 t723 x0 (x0.length : Int) 0)))
def impl_build.l2 : Nat → Int → Int → List (S61) → List (S61) → Int → Int → Option ((List (S61)))
  | 0, _, _, _, _, _, _ => none
  | k + 1, x1, x9, x12, x64, x65, x66 => if x66 < x65 then (if 0 ≤ x66 then (if x66 < (x64.length : Int) then (if ((rd_T61 x64 x66).f1) < x1 then (if ((rd_T61 x64 x66).f0) ≥ x1 then (if x66 < (x12.length : Int) then (impl_build.l2 k x1 x9 (x12.set (x66 : Int).toNat (⟨wrap64 (((rd_T61 x12 x66).f0) + 1), (rd_T61 x12 x66).f1⟩ : S61)) x64 x65 (wrap64 (x66 + 1))) else (none)) else (impl_build.l2 k x1 x9 x12 x64 x65 (wrap64 (x66 + 1)))) else (if ((rd_T61 x64 x66).f1) = (wrap64 (x9 - 1)) then (impl_build.j3 k x1 x9 x12 x66 x64 x65 x66 (decide (((rd_T61 x64 x66).f0) < x1)) ((rd_T61 x64 x66).f0) ((rd_T61 x64 x66).f1)) else (impl_build.j3 k x1 x9 x12 x66 x64 x65 x66 false ((rd_T61 x64 x66).f0) ((rd_T61 x64 x66).f1)))) else (none)) else (none)) else (if x12.length < 8796093022208 then (some (x12 ++ [(⟨x1, x9⟩ : S61)])) else (none))
def impl_build.j3 : Nat → Int → Int → List (S61) → Int → List (S61) → Int → Int → Bool → Int → Int → Option ((List (S61)))
  | 0, _, _, _, _, _, _, _, _, _, _ => none
  | k + 1, x1, x9, x12, x13, x64, x65, x66, x84, x734000, x734001 => if x84 = true then (if 0 ≤ x13 then (if x13 < (x12.length : Int) then ((some (x12.set (x13 : Int).toNat (⟨(rd_T61 x12 x13).f0, x1⟩ : S61) : List (S61))).bind fun y736 => (if x734000 ≥ x1 then (impl_build.l2 k x1 x9 (y736.set (x13 : Int).toNat (⟨wrap64 (((rd_T61 y736 x13).f0) + 1), (rd_T61 y736 x13).f1⟩ : S61)) x64 x65 (wrap64 (x66 + 1))) else (impl_build.l2 k x1 x9 y736 x64 x65 (wrap64 (x66 + 1))))) else (none)) else (none)) else (if 0 ≤ x13 then (if x13 < (x12.length : Int) then ((some (x12.set (x13 : Int).toNat (⟨(rd_T61 x12 x13).f0, wrap64 (((rd_T61 x12 x13).f1) + 1)⟩ : S61) : List (S61))).bind fun y740 => (if x734000 ≥ x1 then (impl_build.l2 k x1 x9 (y740.set (x13 : Int).toNat (⟨wrap64 (((rd_T61 y740 x13).f0) + 1), (rd_T61 y740 x13).f1⟩ : S61)) x64 x65 (wrap64 (x66 + 1))) else (impl_build.l2 k x1 x9 y740 x64 x65 (wrap64 (x66 + 1))))) else (none)) else (none))
end
def impl_build.f (k : Nat) (l0 : List (S61)) (a1 : Int) : Option ((List (S61))) := impl_build.l0 k l0 a1 (([] : List Int)) l0 (l0.length : Int) 0
theorem impl_build.mono_l : ∀ k, (∀ y0 y1 y2 y3 y4 y5, LeO (impl_build.l0 k y0 y1 y2 y3 y4 y5) (impl_build.l0 (k + 1) y0 y1 y2 y3 y4 y5)) ∧ (∀ y0 y1 y2 y3 y4 y5 y6, LeO (impl_build.l1 k y0 y1 y2 y3 y4 y5 y6) (impl_build.l1 (k + 1) y0 y1 y2 y3 y4 y5 y6)) ∧ (∀ y0 y1 y2 y3 y4 y5, LeO (impl_build.l2 k y0 y1 y2 y3 y4 y5) (impl_build.l2 (k + 1) y0 y1 y2 y3 y4 y5)) ∧ (∀ y0 y1 y2 y3 y4 y5 y6 y7 y8 y9, LeO (impl_build.j3 k y0 y1 y2 y3 y4 y5 y6 y7 y8 y9) (impl_build.j3 (k + 1) y0 y1 y2 y3 y4 y5 y6 y7 y8 y9))
  | 0 => ⟨fun _ _ _ _ _ _ r h => by simp [impl_build.l0] at h, fun _ _ _ _ _ _ _ r h => by simp [impl_build.l1] at h, fun _ _ _ _ _ _ r h => by simp [impl_build.l2] at h, fun _ _ _ _ _ _ _ _ _ _ r h => by simp [impl_build.j3] at h⟩
  | k + 1 => by
    obtain ⟨ih0, ih1, ih2, ih3⟩ := impl_build.mono_l k
    refine ⟨?_, ?_, ?_, ?_⟩
    · intro y0 y1 y2 y3 y4 y5
      unfold impl_build.l0
      repeat' first
      | (with_reducible exact ih0 _ _ _ _ _ _)
      | (with_reducible exact ih1 _ _ _ _ _ _ _)
      | (with_reducible exact ih2 _ _ _ _ _ _)
      | (with_reducible exact ih3 _ _ _ _ _ _ _ _ _ _)
      | (with_reducible exact LeO.refl _)
      | (with_reducible exact LeO.none _)
      | (with_reducible refine LeO.ite ?_ ?_)
      | (with_reducible refine LeO.bind ?_ (fun _ => ?_))
      | exact ih0 _ _ _ _ _ _
      | exact ih1 _ _ _ _ _ _ _
      | exact ih2 _ _ _ _ _ _
      | exact ih3 _ _ _ _ _ _ _ _ _ _
      | exact LeO.none _
      | refine LeO.ite ?_ ?_
      | refine LeO.bind ?_ (fun _ => ?_)
    · intro y0 y1 y2 y3 y4 y5 y6
      unfold impl_build.l1
      repeat' first
      | (with_reducible exact ih0 _ _ _ _ _ _)
      | (with_reducible exact ih1 _ _ _ _ _ _ _)
      | (with_reducible exact ih2 _ _ _ _ _ _)
      | (with_reducible exact ih3 _ _ _ _ _ _ _ _ _ _)
      | (with_reducible exact LeO.refl _)
      | (with_reducible exact LeO.none _)
      | (with_reducible refine LeO.ite ?_ ?_)
      | (with_reducible refine LeO.bind ?_ (fun _ => ?_))
      | exact ih0 _ _ _ _ _ _
      | exact ih1 _ _ _ _ _ _ _
      | exact ih2 _ _ _ _ _ _
      | exact ih3 _ _ _ _ _ _ _ _ _ _
      | exact LeO.none _
      | refine LeO.ite ?_ ?_
      | refine LeO.bind ?_ (fun _ => ?_)
    · intro y0 y1 y2 y3 y4 y5
      unfold impl_build.l2
      repeat' first
      | (with_reducible exact ih0 _ _ _ _ _ _)
      | (with_reducible exact ih1 _ _ _ _ _ _ _)
      | (with_reducible exact ih2 _ _ _ _ _ _)
      | (with_reducible exact ih3 _ _ _ _ _ _ _ _ _ _)
      | (with_reducible exact LeO.refl _)
      | (with_reducible exact LeO.none _)
      | (with_reducible refine LeO.ite ?_ ?_)
      | (with_reducible refine LeO.bind ?_ (fun _ => ?_))
      | exact ih0 _ _ _ _ _ _
      | exact ih1 _ _ _ _ _ _ _
      | exact ih2 _ _ _ _ _ _
      | exact ih3 _ _ _ _ _ _ _ _ _ _
      | exact LeO.none _
      | refine LeO.ite ?_ ?_
      | refine LeO.bind ?_ (fun _ => ?_)
    · intro y0 y1 y2 y3 y4 y5 y6 y7 y8 y9
      unfold impl_build.j3
      repeat' first
      | (with_reducible exact ih0 _ _ _ _ _ _)
      | (with_reducible exact ih1 _ _ _ _ _ _ _)
      | (with_reducible exact ih2 _ _ _ _ _ _)
      | (with_reducible exact ih3 _ _ _ _ _ _ _ _ _ _)
      | (with_reducible exact LeO.refl _)
      | (with_reducible exact LeO.none _)
      | (with_reducible refine LeO.ite ?_ ?_)
      | (with_reducible refine LeO.bind ?_ (fun _ => ?_))
      | exact ih0 _ _ _ _ _ _
      | exact ih1 _ _ _ _ _ _ _
      | exact ih2 _ _ _ _ _ _
      | exact ih3 _ _ _ _ _ _ _ _ _ _
      | exact LeO.none _
      | refine LeO.ite ?_ ?_
      | refine LeO.bind ?_ (fun _ => ?_)
theorem impl_build.mono : ∀ a0 a1 k, LeO (impl_build.f k a0 a1) (impl_build.f (k + 1) a0 a1) := by
  intro a0 a1 k
  obtain ⟨ih0, ih1, ih2, ih3⟩ := impl_build.mono_l k
  unfold impl_build.f
  repeat' first
      | (with_reducible exact ih0 _ _ _ _ _ _)
      | (with_reducible exact ih1 _ _ _ _ _ _ _)
      | (with_reducible exact ih2 _ _ _ _ _ _)
      | (with_reducible exact ih3 _ _ _ _ _ _ _ _ _ _)
      | (with_reducible exact LeO.refl _)
      | (with_reducible exact LeO.none _)
      | (with_reducible refine LeO.ite ?_ ?_)
      | (with_reducible refine LeO.bind ?_ (fun _ => ?_))
      | exact ih0 _ _ _ _ _ _
      | exact ih1 _ _ _ _ _ _ _
      | exact ih2 _ _ _ _ _ _
      | exact ih3 _ _ _ _ _ _ _ _ _ _
      | exact LeO.none _
      | refine LeO.ite ?_ ?_
      | refine LeO.bind ?_ (fun _ => ?_)
set_option maxHeartbeats 8000000 in
set_option maxRecDepth 100000 in
theorem impl_build.calls (k : Nat) (A0 : Option Addr) (c0 : Nat) (l0 : List (S61)) (a1 : Int) (r : List (S61)) (w : World) (hr0 : Kd.C k61 w A0 l0.length l0) (hc0 : l0.length ≤ c0) (h : impl_build.f k l0 a1 = some r) :
    Calls Try.prog 94 #[.slice A0 l0.length c0, .int .i64 a1] w fun e w' => ∃ v0_ : Value, e = .returned (v0_) ∧ Kd.R k61 61 w' w.heap.size (fun _ => True) v0_ r ∧ Below w.heap.size w w' := by
  have hu61 := Try.underlying61
  have HR0 := Aside0.mk hr0
  have HC0 := Aside0.mk hc0
  clear hr0 hc0
  have HB := Aside0.mk (Below.refl w.heap.size w)
  have H : (impl_build.l0 k l0 a1 (([] : List Int)) l0 (l0.length : Int) 0) = some r := h
  clear h
  obtain ⟨y707, hy707⟩ : ∃ y_ : List Int, y_ = (([] : List Int)) := ⟨_, rfl⟩
  replace H : (impl_build.l0 k l0 a1 y707 l0 (l0.length : Int) 0) = some r := by first | (rw [hy707]; with_reducible exact H) | (have H2_ := (Option.bind_some _ _).symm.trans H; rw [hy707]; with_reducible exact H2_) | (have H2_ := (Option.bind_some _ _).symm.trans H; with_reducible exact H2_) | with_reducible exact H | (rw [hy707]; exact H) | exact H
  have Ny707 := Aside0.mk hy707
  clear hy707
  have H' := Aside0.mk H
  clear H
  go_enter Try.func94, Try.ntmps94
  go_wp2_with (first | ((with_reducible refine gate_dst (N := 15) rfl ?_); refine Kd.R_lit (Kd.int .i64) _ 3 ?hg (N := 15) ?hd (xs := ([] : List Int)) (inner := []) (ok := fun _ => True) (okp := fun _ => True) ?hr ?hp (fun _ hk => hk) trivial (Below.refl _ _) (Nat.le_refl _) (by simp) ?_; (case hd => rfl); (case hg => rfl); (case hr => first | (go_simp; done) | (go_simp; rfl)); (case hp => exact (Reps.none _ _)); intro v708 w3 ho4 hb hg_ hnew_; clear hg_ hnew_; (first | rw [← Ny707.out] at ho4 | (simp only [Int.reduceToNat] at ho4; rw [← Ny707.out] at ho4)); have n0_ := Aside0.mk (Kd.R_lower ho4 (below_size (by repeat (first | (with_reducible first | exact HB.out | apply below_alloc | apply pw_below_drewN | apply below_drew1) | exact HB.out)))); have n1_ := Aside0.mk (below_step (by repeat (first | (with_reducible first | exact HB.out | apply below_alloc | apply pw_below_drewN | apply below_drew1) | exact HB.out)) hb); clear HB; have HO709 := n0_; have HB := n1_; clear n0_ n1_; clear hb ho4))
  go_loopg [5, 18] k (fun kq v5 v18 w' => ∃ (x5_1 : List Int) (x18_1 : Int), v18 = .int .i64 x18_1 ∧ Aside0 (impl_build.l0 kq l0 a1 x5_1 l0 (l0.length : Int) x18_1 = some r) ∧ Aside0 (kq ≤ k) ∧ Aside0 (Kd.R (Kd.int .i64) 3 w' w.heap.size (fun _ => True) v5 x5_1) ∧ Aside0 (Below w.heap.size w w'))
  case atStart => exact ⟨(y707), (0), (by first | rfl | (simp; done) | (simp [*]; done)), H', ⟨Nat.le_refl _⟩, ⟨by (with_reducible repeat (first | apply Kd.R_alloc | apply Kd.R_drewN | apply Kd.R_drew)); exact HO709.out⟩, ⟨by repeat (first | (with_reducible first | exact HB.out | apply below_alloc | apply pw_below_drewN | apply below_drew1) | exact HB.out)⟩⟩
  case round =>
    clear H'
    try clear p2
    obtain ⟨x5_1, x18_1, rfl, HA, HK1, HO_5, HB⟩ := hrel
    cases gk with
    | zero => exact absurd HA.out (by simp [impl_build.l0])
    | succ k1 =>
      have H := HA.out
      clear HA
      simp only [impl_build.l0] at H
      by_cases c5 : x18_1 < (l0.length : Int)
      · rw [if_pos c5] at H
        have c5b0 : decide (x18_1 < (l0.length : Int)) = true := decide_eq_true c5
        clear c5
        by_cases c6 : 0 ≤ x18_1
        · rw [if_pos c6] at H
          have c6b0 : decide (0 ≤ x18_1) = true := decide_eq_true c6
          clear c6
          by_cases c7 : x18_1 < (l0.length : Int)
          · rw [if_pos c7] at H
            have c7b0 : decide (x18_1 < (l0.length : Int)) = true := decide_eq_true c7
            clear c7
            by_cases c8 : x5_1.length < 17592186044416
            · rw [if_pos c8] at H
              have LMc8 := Aside0.mk c8
              clear c8
              obtain ⟨y712, hy712⟩ : ∃ y_ : List Int, y_ = (x5_1 ++ [(rd_T61 l0 x18_1).f0]) := ⟨_, rfl⟩
              replace H : (impl_build.l0 k1 l0 a1 y712 l0 (l0.length : Int) (wrap64 (x18_1 + 1))) = some r := by first | (rw [hy712]; with_reducible exact H) | (have H2_ := (Option.bind_some _ _).symm.trans H; rw [hy712]; with_reducible exact H2_) | (have H2_ := (Option.bind_some _ _).symm.trans H; with_reducible exact H2_) | with_reducible exact H | (rw [hy712]; exact H) | exact H
              have Ny712 := Aside0.mk hy712
              clear hy712
              have H' := Aside0.mk H
              clear H
              have p710 : 0 ≤ (x18_1 : Int) := of_decide_eq_true (by first | (with_reducible assumption) | assumption)
              have q710 : x18_1 < (l0.length : Int) := of_decide_eq_true (by first | (with_reducible assumption) | assumption)
              obtain ⟨ad710, e710, hx710_0, hx710_1⟩ := at_T61 HR0.out x18_1 p710 q710
              cases e710
              replace hx710_0 := (HB.out.cell (World.block_lt_of_cell? w _ hx710_0)).trans hx710_0
              replace hx710_1 := (HB.out.cell (World.block_lt_of_cell? w _ hx710_1)).trans hx710_1
              replace p710 := eq_true p710
              replace q710 := eq_true q710
              go_wp2_with (first | ((with_reducible refine gate_dst (N := 8) rfl ?_); refine box_event ?hg (N := 8) ?hd (cs := #[.int .i64 0, .int .i64 0]) (t := 61) ?hr ?_; (case hd => rfl); (case hg => rfl); (case hr => first | (go_simp; done) | (go_simp; rfl)); intro gb711 hg w9 hbox hb; have n0_ := Aside0.mk (Kd.R_below (by (with_reducible repeat (first | apply Kd.R_alloc | apply Kd.R_drewN | apply Kd.R_drew)); exact HO_5.out) hb); have n1_ := Aside0.mk (below_step (by repeat (first | (with_reducible first | exact HB.out | apply below_alloc | apply pw_below_drewN | apply below_drew1) | exact HB.out)) hb); have n2_ := Aside0.mk (hbox); have n3_ := Aside0.mk ((by rw [hg]; exact (below_size (by repeat (first | (with_reducible first | exact HB.out | apply below_alloc | apply pw_below_drewN | apply below_drew1) | exact HB.out))) : w.heap.size ≤ gb711)); have n4_ := Aside0.mk ((by rw [hg]; exact (below_size (by repeat (first | (with_reducible first | exact HB.out | apply below_alloc | apply pw_below_drewN | apply below_drew1) | exact HB.out))) : w.heap.size ≤ gb711)); clear HO_5; clear HB; have HO_5 := n0_; have HB := n1_; have BK711 := n2_; have GW711 := n3_; have GE711 := n4_; clear n0_ n1_ n2_ n3_ n4_; clear hb hbox hg; have hcz10_0 : w9.cell? ⟨gb711, 0, none⟩ = some (.int .i64 0) := (blk_cell BK711.out 0).trans rfl; have hcz10_1 : w9.cell? ⟨gb711, 1, none⟩ = some (.int .i64 0) := (blk_cell BK711.out 1).trans rfl; have hfz10_0 := blk_frozen BK711.out 0; have hfz10_1 := blk_frozen BK711.out 1) | ((with_reducible refine gate_builtin (b := .append) (xs := #[.tmp 22, .tmp 25]) rfl ?_); at_builtin; refine Kd.R_append (Kd.int .i64) (w0 := w) w.heap.size rfl (.tmp 22) (.tmp 25) 22 3 (.int .i64 0) 8 rfl Try.underlying22 info3 rfl (by decide) (by omega) u5 x5_1 ((rd_T61 l0 x18_1).f0) [.int .i64 ((rd_T61 l0 x18_1).f0)] (fun _ => True) (fun _ => False) rfl (by first | (go_simp; done) | (go_simp; rfl)) ?aP (fun _ hk => hk.elim) ?aF ?aO ?aB ?aS ?aL ?_; (case aP => exact rfl); (case aB => exact (by repeat (first | (with_reducible first | exact HB.out | apply below_alloc | apply pw_below_drewN | apply below_drew1 | refine below_set ?_ GE711.out) | exact HB.out))); (case aF => exact (fun _ _ => trivial)); (case aO => exact (by (with_reducible repeat (first | apply Kd.R_alloc | apply Kd.R_drewN | apply Kd.R_drew)); exact Kd.R_mono (Kd.R_far (p := ⟨gb711, 1, none⟩) (Kd.R_far (p := ⟨gb711, 0, none⟩) (Kd.R_types HO_5.out BK711.out (by decide)) (fun _ hk => hk.2) (.int .i64 ((rd_T61 l0 x18_1).f0))) (fun _ hk => hk.2) (.int .i64 ((rd_T61 l0 x18_1).f1))) (fun _ hk => trivial))); (case aS => exact (below_size (by repeat (first | (with_reducible first | exact HB.out | apply below_alloc | apply pw_below_drewN | apply below_drew1 | refine below_set ?_ GE711.out) | exact HB.out)))); (case aL => have := LMc8.out; omega); intro v713 w11 ho hb hg hat; rw [← Ny712.out] at ho; have n0_ := Aside0.mk (blk_grown (g := gb711) (o := .cells #[.int .i64 ((rd_T61 l0 x18_1).f0), .int .i64 ((rd_T61 l0 x18_1).f1)] 61 (0, 0)) (by (with_reducible repeat (first | refine blk_drewN ?_ _ | refine blk_drew ?_ | refine blk_alloc ?_ _)); refine blk_put (cs := #[.int .i64 ((rd_T61 l0 x18_1).f0), .int .i64 0]) ?_ 1 _ rfl; (with_reducible repeat (first | refine blk_drewN ?_ _ | refine blk_drew ?_ | refine blk_alloc ?_ _)); refine blk_put (cs := #[.int .i64 0, .int .i64 0]) ?_ 0 _ rfl; (with_reducible repeat (first | refine blk_drewN ?_ _ | refine blk_drew ?_ | refine blk_alloc ?_ _)); exact BK711.out) hg (Kd.R_ne HO_5.out BK711.out (by decide))); have n1_ := Aside0.mk (hb); have n2_ := Aside0.mk (ho); clear BK711; clear HB; clear HO_5; have BK711 := n0_; have HB := n1_; have HO714 := n2_; clear n0_ n1_ n2_; clear ho hb hg hat))
              go_roundg k1
              case measure => have := HK1.out; omega
              case rel => exact ⟨(y712), (wrap64 (x18_1 + 1)), (by first | rfl | (simp; done) | (simp [*]; done)), H', ⟨by have := HK1.out; omega⟩, ⟨by (with_reducible repeat (first | apply Kd.R_alloc | apply Kd.R_drewN | apply Kd.R_drew)); exact HO714.out⟩, ⟨by repeat (first | (with_reducible first | exact HB.out | apply below_alloc | apply pw_below_drewN | apply below_drew1 | refine below_set ?_ GE711.out) | exact HB.out)⟩⟩
            · rw [if_neg c8] at H
              exact absurd H (by simp)
          · rw [if_neg c7] at H
            exact absurd H (by simp)
        · rw [if_neg c6] at H
          exact absurd H (by simp)
      · rw [if_neg c5] at H
        have c5b0 : decide (x18_1 < (l0.length : Int)) = false := decide_eq_false c5
        clear c5
        replace H := Option.bind_eq_some_iff.mp H
        obtain ⟨t715, A120, H⟩ := H
        replace H : (if (t715.length : Int) = 0 then (some (([(⟨0, 0⟩ : S61)] : List (S61)))) else (impl_build.l1 k1 l0 a1 (t715.length : Int) (t715.length : Int) l0 (l0.length : Int) 0)) = some r := H
        have A12 := Aside0.mk A120
        clear A120
        by_cases c13 : (t715.length : Int) = 0
        · rw [if_pos c13] at H
          have c13b0 : ((t715.length : Int) == 0) = true := beq_iff_eq.mpr c13
          have c13b1 : ((t715.length : Int) != 0) = false := bne_eq_false_iff_eq.mpr c13
          clear c13
          obtain ⟨y718, hy718⟩ : ∃ y_ : List (S61), y_ = (([(⟨0, 0⟩ : S61)] : List (S61))) := ⟨_, rfl⟩
          replace H : (some y718) = some r := by first | (rw [hy718]; with_reducible exact H) | (have H2_ := (Option.bind_some _ _).symm.trans H; rw [hy718]; with_reducible exact H2_) | (have H2_ := (Option.bind_some _ _).symm.trans H; with_reducible exact H2_) | with_reducible exact H | (rw [hy718]; exact H) | exact H
          have Ny718 := Aside0.mk hy718
          clear hy718
          obtain rfl := Option.some.inj H
          obtain ⟨Ao14, co14, eo14⟩ := Kd.R_slice HO_5.out
          subst eo14
          go_wp2_with (first | ((with_reducible refine gate_callee (f := 51) rfl ?_); refine goesL_ (some 29) rfl rfl Try.func51 (by kernel_rfl) rfl #[.slice Ao14 x5_1.length co14] rfl (by (try simp only [List.map_toArray, List.map_cons, List.map_nil]); first | done | rfl | (simp only [List.length_drop, List.length_take]; rfl)) ?_; (with_reducible refine (impl_different.calls _ _ x5_1 t715 _ ?side1 ?side2 A12.out).mono ?_); (case side1 => repeat (first | exact (Kd.R_reads' HO_5.out).2.2 | (with_reducible refine Kd.C_alloc ?_ _) | (with_reducible refine Kd.C_drewN ?_ _) | (with_reducible refine Kd.C_drew ?_))); (case side2 => exact (Kd.R_reads' HO_5.out).2.1); rintro e w15 ⟨v716, rfl, ho0, hb⟩; refine ⟨_, rfl, ?_⟩; have n0_ := Aside0.mk (Kd.R_elder' (by (with_reducible repeat (first | apply Kd.R_alloc | apply Kd.R_drewN | apply Kd.R_drew)); exact HO_5.out) (Kd.R_base ho0) hb); have n1_ := Aside0.mk (Kd.R_lower (Kd.R_new' ho0 (Kd.R_lt (by (with_reducible repeat (first | apply Kd.R_alloc | apply Kd.R_drewN | apply Kd.R_drew)); exact HO_5.out))) (below_size (by repeat (first | (with_reducible first | exact HB.out | apply below_alloc | apply pw_below_drewN | apply below_drew1) | exact HB.out)))); have n2_ := Aside0.mk (below_step (by repeat (first | (with_reducible first | exact HB.out | apply below_alloc | apply pw_below_drewN | apply below_drew1) | exact HB.out)) hb); clear HO_5; clear HB; have HO_5 := n0_; have HO717 := n1_; have HB := n2_; clear n0_ n1_ n2_; (try clear hb); (try clear hb2); (try clear hk); (try clear hi); (try clear ho0); obtain ⟨Ao16, co16, eo16⟩ := Kd.R_slice HO717.out; subst eo16) | ((with_reducible refine gate_dst (N := 34) rfl ?_); refine Kd.R_lit k61 _ 61 ?hg (N := 34) ?hd (xs := ([(⟨0, 0⟩ : S61)] : List (S61))) (inner := [.int .i64 0, .int .i64 0]) (ok := fun _ => True) (okp := fun _ => True) ?hr ?hp (fun _ hk => hk) trivial (Below.refl _ _) (Nat.le_refl _) (by simp) ?_; (case hd => rfl); (case hg => rfl); (case hr => first | (go_simp; done) | (go_simp; rfl)); (case hp => exact (Reps.c2 (show Kd.M k61 _ _ _ (⟨0, 0⟩ : S61) [.int .i64 0, .int .i64 0] from (k61_mkM _ _ _ (⟨0, 0⟩ : S61) )) (Reps.none _ _))); intro v719 w17 ho18 hb hg_ hnew_; clear hg_ hnew_; (first | rw [← Ny718.out] at ho18 | (simp only [Int.reduceToNat] at ho18; rw [← Ny718.out] at ho18)); have n0_ := Aside0.mk (Kd.R_below (by (with_reducible repeat (first | apply Kd.R_alloc | apply Kd.R_drewN | apply Kd.R_drew)); exact HO_5.out) hb); have n1_ := Aside0.mk (Kd.R_below (by (with_reducible repeat (first | apply Kd.R_alloc | apply Kd.R_drewN | apply Kd.R_drew)); exact HO717.out) hb); have n2_ := Aside0.mk (Kd.R_lower ho18 (below_size (by repeat (first | (with_reducible first | exact HB.out | apply below_alloc | apply pw_below_drewN | apply below_drew1) | exact HB.out)))); have n3_ := Aside0.mk (below_step (by repeat (first | (with_reducible first | exact HB.out | apply below_alloc | apply pw_below_drewN | apply below_drew1) | exact HB.out)) hb); clear HO_5; clear HO717; clear HB; have HO_5 := n0_; have HO717 := n1_; have HO720 := n2_; have HB := n3_; clear n0_ n1_ n2_ n3_; clear hb ho18))
          go_ret
          exact ⟨_, by first | rfl | (simp [errW_none, errW_some] <;> rfl) | (simp [*, errW_none, errW_some] <;> rfl), by (with_reducible repeat (first | apply Kd.R_alloc | apply Kd.R_drewN | apply Kd.R_drew)); exact HO720.out, by repeat (first | (with_reducible first | exact HB.out | apply below_alloc | apply pw_below_drewN | apply below_drew1) | exact HB.out)⟩
        · rw [if_neg c13] at H
          have c13b0 : ((t715.length : Int) == 0) = false := beq_eq_false_iff_ne.mpr c13
          have c13b1 : ((t715.length : Int) != 0) = true := bne_iff_ne.mpr c13
          have c13b2 : ¬ (t715 = []) := fun h_ => c13 (by rw [h_]; rfl)
          have H' := Aside0.mk H
          clear H
          obtain ⟨Ao19, co19, eo19⟩ := Kd.R_slice HO_5.out
          subst eo19
          go_wp2_with (first | ((with_reducible refine gate_callee (f := 51) rfl ?_); refine goesL_ (some 29) rfl rfl Try.func51 (by kernel_rfl) rfl #[.slice Ao19 x5_1.length co19] rfl (by (try simp only [List.map_toArray, List.map_cons, List.map_nil]); first | done | rfl | (simp only [List.length_drop, List.length_take]; rfl)) ?_; (with_reducible refine (impl_different.calls _ _ x5_1 t715 _ ?side1 ?side2 A12.out).mono ?_); (case side1 => repeat (first | exact (Kd.R_reads' HO_5.out).2.2 | (with_reducible refine Kd.C_alloc ?_ _) | (with_reducible refine Kd.C_drewN ?_ _) | (with_reducible refine Kd.C_drew ?_))); (case side2 => exact (Kd.R_reads' HO_5.out).2.1); rintro e w20 ⟨v716, rfl, ho0, hb⟩; refine ⟨_, rfl, ?_⟩; have n0_ := Aside0.mk (Kd.R_elder' (by (with_reducible repeat (first | apply Kd.R_alloc | apply Kd.R_drewN | apply Kd.R_drew)); exact HO_5.out) (Kd.R_base ho0) hb); have n1_ := Aside0.mk (Kd.R_lower (Kd.R_new' ho0 (Kd.R_lt (by (with_reducible repeat (first | apply Kd.R_alloc | apply Kd.R_drewN | apply Kd.R_drew)); exact HO_5.out))) (below_size (by repeat (first | (with_reducible first | exact HB.out | apply below_alloc | apply pw_below_drewN | apply below_drew1) | exact HB.out)))); have n2_ := Aside0.mk (below_step (by repeat (first | (with_reducible first | exact HB.out | apply below_alloc | apply pw_below_drewN | apply below_drew1) | exact HB.out)) hb); clear HO_5; clear HB; have HO_5 := n0_; have HO717 := n1_; have HB := n2_; clear n0_ n1_ n2_; (try clear hb); (try clear hb2); (try clear hk); (try clear hi); (try clear ho0); obtain ⟨Ao21, co21, eo21⟩ := Kd.R_slice HO717.out; subst eo21))
          go_loopg [6, 38] k1 (fun kq v6 v38 w' => ∃ (x6_2 : Int) (x38_2 : Int), v6 = .int .i64 x6_2 ∧ v38 = .int .i64 x38_2 ∧ Aside0 (impl_build.l1 kq l0 a1 x6_2 (t715.length : Int) l0 (l0.length : Int) x38_2 = some r) ∧ Aside0 (kq ≤ k1) ∧ Aside0 (Below w.heap.size w w'))
          case atStart => exact ⟨((t715.length : Int)), (0), (by first | rfl | (simp; done) | (simp [*]; done)), (by first | rfl | (simp; done) | (simp [*]; done)), H', ⟨Nat.le_refl _⟩, ⟨by repeat (first | (with_reducible first | exact HB.out | apply below_alloc | apply pw_below_drewN | apply below_drew1) | exact HB.out)⟩⟩
          case round =>
            clear H'
            try clear c1
            try clear c2
            try clear p2
            try clear c5
            try clear c5b0
            try clear c6
            try clear c6b0
            try clear p6
            try clear c7
            try clear c7b0
            try clear p7
            try clear q7
            try clear hx7
            try clear c8
            try clear c9
            try clear c13
            try clear c13b0
            try clear c13b1
            try clear c13b2
            try clear hcz10_0
            try clear hcz10_1
            try clear hfz10_0
            try clear hfz10_1
            try clear hx710_0
            try clear hx710_1
            try clear p2
            try clear p710
            try clear q710
            obtain ⟨x6_2, x38_2, rfl, rfl, HA, HK2, HB⟩ := hrel
            cases gk with
            | zero => exact absurd HA.out (by simp [impl_build.l1])
            | succ k2 =>
              have H := HA.out
              clear HA
              simp only [impl_build.l1] at H
              by_cases c22 : x38_2 < (l0.length : Int)
              · rw [if_pos c22] at H
                have c22b0 : decide (x38_2 < (l0.length : Int)) = true := decide_eq_true c22
                clear c22
                by_cases c23 : 0 ≤ x38_2
                · rw [if_pos c23] at H
                  have c23b0 : decide (0 ≤ x38_2) = true := decide_eq_true c23
                  clear c23
                  by_cases c24 : x38_2 < (l0.length : Int)
                  · rw [if_pos c24] at H
                    have c24b0 : decide (x38_2 < (l0.length : Int)) = true := decide_eq_true c24
                    clear c24
                    by_cases c25 : ((rd_T61 l0 x38_2).f1) = (wrap64 ((t715.length : Int) - 1))
                    · rw [if_pos c25] at H
                      have c25b0 : (((rd_T61 l0 x38_2).f1) == (wrap64 ((t715.length : Int) - 1))) = true := beq_iff_eq.mpr c25
                      have c25b1 : (((rd_T61 l0 x38_2).f1) != (wrap64 ((t715.length : Int) - 1))) = false := bne_eq_false_iff_eq.mpr c25
                      clear c25
                      obtain ⟨ji26, hji26⟩ : ∃ j_ : Int, (mn x6_2 ((rd_T61 l0 x38_2).f0)) = j_ := ⟨_, rfl⟩
                      replace H : (impl_build.l1 k2 l0 a1 ji26 (t715.length : Int) l0 (l0.length : Int) (wrap64 (x38_2 + 1))) = some r := by first | (rw [hji26] at H; exact H) | (simp only [hji26] at H ⊢; exact H)
                      have hji26_ : (if ((rd_T61 l0 x38_2).f0) < x6_2 then ((rd_T61 l0 x38_2).f0) else x6_2) = ji26 := hji26
                      have H' := Aside0.mk H
                      clear H
                      have p721 : 0 ≤ (x38_2 : Int) := of_decide_eq_true (by first | (with_reducible assumption) | assumption)
                      have q721 : x38_2 < (l0.length : Int) := of_decide_eq_true (by first | (with_reducible assumption) | assumption)
                      obtain ⟨ad721, e721, hx721_0, hx721_1⟩ := at_T61 HR0.out x38_2 p721 q721
                      cases e721
                      replace hx721_0 := (HB.out.cell (World.block_lt_of_cell? w _ hx721_0)).trans hx721_0
                      replace hx721_1 := (HB.out.cell (World.block_lt_of_cell? w _ hx721_1)).trans hx721_1
                      replace p721 := eq_true p721
                      replace q721 := eq_true q721
                      go_wp2_with (first | ((with_reducible refine gate_dst (N := 11) rfl ?_); refine box_event ?hg (N := 11) ?hd (cs := #[.int .i64 0, .int .i64 0]) (t := 61) ?hr ?_; (case hd => rfl); (case hg => rfl); (case hr => first | (go_simp; done) | (go_simp; rfl)); intro gb722 hg w27 hbox hb; have n0_ := Aside0.mk (below_step (by repeat (first | (with_reducible first | exact HB.out | apply below_alloc | apply pw_below_drewN | apply below_drew1) | exact HB.out)) hb); have n1_ := Aside0.mk (hbox); have n2_ := Aside0.mk ((by rw [hg]; exact (below_size (by repeat (first | (with_reducible first | exact HB.out | apply below_alloc | apply pw_below_drewN | apply below_drew1) | exact HB.out))) : w.heap.size ≤ gb722)); have n3_ := Aside0.mk ((by rw [hg]; exact (below_size (by repeat (first | (with_reducible first | exact HB.out | apply below_alloc | apply pw_below_drewN | apply below_drew1) | exact HB.out))) : w.heap.size ≤ gb722)); clear HB; have HB := n0_; have BK722 := n1_; have GW722 := n2_; have GE722 := n3_; clear n0_ n1_ n2_ n3_; clear hb hbox hg; have hcz28_0 : w27.cell? ⟨gb722, 0, none⟩ = some (.int .i64 0) := (blk_cell BK722.out 0).trans rfl; have hcz28_1 : w27.cell? ⟨gb722, 1, none⟩ = some (.int .i64 0) := (blk_cell BK722.out 1).trans rfl; have hfz28_0 := blk_frozen BK722.out 0; have hfz28_1 := blk_frozen BK722.out 1))
                      go_roundg k2
                      case measure => have := HK1.out; have := HK2.out; omega
                      case rel => exact ⟨(ji26), (wrap64 (x38_2 + 1)), (by first | rfl | (simp; done) | (simp only [← hji26] <;> (first | rfl | simp)) | (simp [*]; done)), (by first | rfl | (simp; done) | (simp [*]; done)), H', ⟨by have := HK1.out; have := HK2.out; omega⟩, ⟨by repeat (first | (with_reducible first | exact HB.out | apply below_alloc | apply pw_below_drewN | apply below_drew1 | refine below_set ?_ GE722.out) | exact HB.out)⟩⟩
                    · rw [if_neg c25] at H
                      have c25b0 : (((rd_T61 l0 x38_2).f1) == (wrap64 ((t715.length : Int) - 1))) = false := beq_eq_false_iff_ne.mpr c25
                      have c25b1 : (((rd_T61 l0 x38_2).f1) != (wrap64 ((t715.length : Int) - 1))) = true := bne_iff_ne.mpr c25
                      have H' := Aside0.mk H
                      clear H
                      have p721 : 0 ≤ (x38_2 : Int) := of_decide_eq_true (by first | (with_reducible assumption) | assumption)
                      have q721 : x38_2 < (l0.length : Int) := of_decide_eq_true (by first | (with_reducible assumption) | assumption)
                      obtain ⟨ad721, e721, hx721_0, hx721_1⟩ := at_T61 HR0.out x38_2 p721 q721
                      cases e721
                      replace hx721_0 := (HB.out.cell (World.block_lt_of_cell? w _ hx721_0)).trans hx721_0
                      replace hx721_1 := (HB.out.cell (World.block_lt_of_cell? w _ hx721_1)).trans hx721_1
                      replace p721 := eq_true p721
                      replace q721 := eq_true q721
                      go_wp2_with (first | ((with_reducible refine gate_dst (N := 11) rfl ?_); refine box_event ?hg (N := 11) ?hd (cs := #[.int .i64 0, .int .i64 0]) (t := 61) ?hr ?_; (case hd => rfl); (case hg => rfl); (case hr => first | (go_simp; done) | (go_simp; rfl)); intro gb722 hg w29 hbox hb; have n0_ := Aside0.mk (below_step (by repeat (first | (with_reducible first | exact HB.out | apply below_alloc | apply pw_below_drewN | apply below_drew1) | exact HB.out)) hb); have n1_ := Aside0.mk (hbox); have n2_ := Aside0.mk ((by rw [hg]; exact (below_size (by repeat (first | (with_reducible first | exact HB.out | apply below_alloc | apply pw_below_drewN | apply below_drew1) | exact HB.out))) : w.heap.size ≤ gb722)); have n3_ := Aside0.mk ((by rw [hg]; exact (below_size (by repeat (first | (with_reducible first | exact HB.out | apply below_alloc | apply pw_below_drewN | apply below_drew1) | exact HB.out))) : w.heap.size ≤ gb722)); clear HB; have HB := n0_; have BK722 := n1_; have GW722 := n2_; have GE722 := n3_; clear n0_ n1_ n2_ n3_; clear hb hbox hg; have hcz30_0 : w29.cell? ⟨gb722, 0, none⟩ = some (.int .i64 0) := (blk_cell BK722.out 0).trans rfl; have hcz30_1 : w29.cell? ⟨gb722, 1, none⟩ = some (.int .i64 0) := (blk_cell BK722.out 1).trans rfl; have hfz30_0 := blk_frozen BK722.out 0; have hfz30_1 := blk_frozen BK722.out 1))
                      go_roundg k2
                      case measure => have := HK1.out; have := HK2.out; omega
                      case rel => exact ⟨(x6_2), (wrap64 (x38_2 + 1)), (by first | rfl | (simp; done) | (simp [*]; done)), (by first | rfl | (simp; done) | (simp [*]; done)), H', ⟨by have := HK1.out; have := HK2.out; omega⟩, ⟨by repeat (first | (with_reducible first | exact HB.out | apply below_alloc | apply pw_below_drewN | apply below_drew1 | refine below_set ?_ GE722.out) | exact HB.out)⟩⟩
                  · rw [if_neg c24] at H
                    exact absurd H (by simp)
                · rw [if_neg c23] at H
                  exact absurd H (by simp)
              · rw [if_neg c22] at H
                have c22b0 : decide (x38_2 < (l0.length : Int)) = false := decide_eq_false c22
                clear c22
                replace H := Option.bind_eq_some_iff.mp H
                obtain ⟨t723, A310, H⟩ := H
                replace H : (if a1 ≤ x6_2 then (if t723.length < 8796093022208 then (some (t723 ++ [(⟨a1, wrap64 ((t715.length : Int) - 1)⟩ : S61)])) else (none)) else (impl_build.l2 k2 a1 (t715.length : Int) t723 l0 (l0.length : Int) 0)) = some r := H
                have A31 := Aside0.mk A310
                clear A310
                by_cases c32 : a1 ≤ x6_2
                · rw [if_pos c32] at H
                  have c32b0 : decide (a1 ≤ x6_2) = true := decide_eq_true c32
                  clear c32
                  by_cases c33 : t723.length < 8796093022208
                  · rw [if_pos c33] at H
                    have LMc33 := Aside0.mk c33
                    clear c33
                    obtain ⟨y726, hy726⟩ : ∃ y_ : List (S61), y_ = (t723 ++ [(⟨a1, wrap64 ((t715.length : Int) - 1)⟩ : S61)]) := ⟨_, rfl⟩
                    replace H : (some y726) = some r := by first | (rw [hy726]; with_reducible exact H) | (have H2_ := (Option.bind_some _ _).symm.trans H; rw [hy726]; with_reducible exact H2_) | (have H2_ := (Option.bind_some _ _).symm.trans H; with_reducible exact H2_) | with_reducible exact H | (rw [hy726]; exact H) | exact H
                    have Ny726 := Aside0.mk hy726
                    clear hy726
                    obtain rfl := Option.some.inj H
                    go_wp2_with (first | ((with_reducible refine gate_callee (f := 106) rfl ?_); refine goesL_ (some 53) rfl rfl Try.func106 (by kernel_rfl) rfl #[.slice A0 l0.length c0] rfl (by (try simp only [List.map_toArray, List.map_cons, List.map_nil]); first | done | rfl | (simp only [List.length_drop, List.length_take]; rfl)) ?_; (with_reducible refine (impl_Interval.calls _ _ l0 t723 _ ?side1 ?side2 A31.out).mono ?_); (case side1 => repeat (first | exact (Kd.C_below HR0.out HB.out) | (with_reducible refine Kd.C_alloc ?_ _) | (with_reducible refine Kd.C_drewN ?_ _) | (with_reducible refine Kd.C_drew ?_))); (case side2 => exact HC0.out); rintro e w34 ⟨v724, rfl, ho0, hb⟩; refine ⟨_, rfl, ?_⟩; have n0_ := Aside0.mk (Kd.R_lower ho0 (below_size (by repeat (first | (with_reducible first | exact HB.out | apply below_alloc | apply pw_below_drewN | apply below_drew1) | exact HB.out)))); have n1_ := Aside0.mk (below_step (by repeat (first | (with_reducible first | exact HB.out | apply below_alloc | apply pw_below_drewN | apply below_drew1) | exact HB.out)) hb); clear HB; have HO725 := n0_; have HB := n1_; clear n0_ n1_; (try clear hb); (try clear hb2); (try clear hk); (try clear hi); (try clear ho0)) | ((with_reducible refine gate_builtin (b := .append) (xs := #[.tmp 57, .tmp 62]) rfl ?_); at_builtin; refine Kd.R_append k61 (w0 := w) w.heap.size rfl (.tmp 57) (.tmp 62) 40 61 (.agg #[(.int .i64 0), (.int .i64 0)]) 16 rfl Try.underlying40 info61 rfl (by decide) (by omega) v724 t723 (⟨a1, wrap64 ((t715.length : Int) - 1)⟩ : S61) [.int .i64 a1, .int .i64 (wrap64 ((t715.length : Int) - 1))] (fun _ => True) (fun _ => False) rfl rfl ?aP (fun _ hk => hk.elim) ?aF ?aO ?aB ?aS ?aL ?_; (case aP => exact k61_mkM _ _ _ (⟨a1, wrap64 ((t715.length : Int) - 1)⟩ : S61)); (case aB => exact (by repeat (first | (with_reducible first | exact HB.out | apply below_alloc | apply pw_below_drewN | apply below_drew1) | exact HB.out))); (case aF => exact (fun _ _ => trivial)); (case aO => exact (by (with_reducible repeat (first | apply Kd.R_alloc | apply Kd.R_drewN | apply Kd.R_drew)); exact HO725.out)); (case aS => exact (below_size (by repeat (first | (with_reducible first | exact HB.out | apply below_alloc | apply pw_below_drewN | apply below_drew1) | exact HB.out)))); (case aL => have := LMc33.out; omega); intro v727 w35 ho hb hg hat; rw [← Ny726.out] at ho; have n0_ := Aside0.mk (hb); have n1_ := Aside0.mk (ho); clear HB; clear HO725; have HB := n0_; have HO728 := n1_; clear n0_ n1_; clear ho hb hg hat))
                    go_ret
                    exact ⟨_, by first | rfl | (simp [errW_none, errW_some] <;> rfl) | (simp [*, errW_none, errW_some] <;> rfl), by (with_reducible repeat (first | apply Kd.R_alloc | apply Kd.R_drewN | apply Kd.R_drew)); exact HO728.out, by repeat (first | (with_reducible first | exact HB.out | apply below_alloc | apply pw_below_drewN | apply below_drew1) | exact HB.out)⟩
                  · rw [if_neg c33] at H
                    exact absurd H (by simp)
                · rw [if_neg c32] at H
                  have c32b0 : decide (a1 ≤ x6_2) = false := decide_eq_false c32
                  clear c32
                  have H' := Aside0.mk H
                  clear H
                  go_wp2_with (first | ((with_reducible refine gate_callee (f := 106) rfl ?_); refine goesL_ (some 53) rfl rfl Try.func106 (by kernel_rfl) rfl #[.slice A0 l0.length c0] rfl (by (try simp only [List.map_toArray, List.map_cons, List.map_nil]); first | done | rfl | (simp only [List.length_drop, List.length_take]; rfl)) ?_; (with_reducible refine (impl_Interval.calls _ _ l0 t723 _ ?side1 ?side2 A31.out).mono ?_); (case side1 => repeat (first | exact (Kd.C_below HR0.out HB.out) | (with_reducible refine Kd.C_alloc ?_ _) | (with_reducible refine Kd.C_drewN ?_ _) | (with_reducible refine Kd.C_drew ?_))); (case side2 => exact HC0.out); rintro e w36 ⟨v724, rfl, ho0, hb⟩; refine ⟨_, rfl, ?_⟩; have n0_ := Aside0.mk (Kd.R_lower ho0 (below_size (by repeat (first | (with_reducible first | exact HB.out | apply below_alloc | apply pw_below_drewN | apply below_drew1) | exact HB.out)))); have n1_ := Aside0.mk (below_step (by repeat (first | (with_reducible first | exact HB.out | apply below_alloc | apply pw_below_drewN | apply below_drew1) | exact HB.out)) hb); clear HB; have HO725 := n0_; have HB := n1_; clear n0_ n1_; (try clear hb); (try clear hb2); (try clear hk); (try clear hi); (try clear ho0)))
                  go_loopg [66] k2 (fun kq v66 w' => ∃ (x12_3 : List (S61)) (x66_3 : Int), v66 = .int .i64 x66_3 ∧ Aside0 (impl_build.l2 kq a1 (t715.length : Int) x12_3 l0 (l0.length : Int) x66_3 = some r) ∧ Aside0 (kq ≤ k2) ∧ Aside0 (Kd.R k61 61 w' w.heap.size (fun _ => True) v724 x12_3) ∧ Aside0 (Below w.heap.size w w'))
                  case atStart => exact ⟨(t723), (0), (by first | rfl | (simp; done) | (simp [*]; done)), H', ⟨Nat.le_refl _⟩, ⟨by (with_reducible repeat (first | apply Kd.R_alloc | apply Kd.R_drewN | apply Kd.R_drew)); exact HO725.out⟩, ⟨by repeat (first | (with_reducible first | exact HB.out | apply below_alloc | apply pw_below_drewN | apply below_drew1) | exact HB.out)⟩⟩
                  case round =>
                    clear H'
                    try clear c1
                    try clear c2
                    try clear p2
                    try clear c3
                    try clear c5
                    try clear c5b0
                    try clear c6
                    try clear c6b0
                    try clear p6
                    try clear c7
                    try clear c7b0
                    try clear p7
                    try clear q7
                    try clear hx7
                    try clear c8
                    try clear c9
                    try clear c10
                    try clear c13
                    try clear c13b0
                    try clear c13b1
                    try clear c13b2
                    try clear c22
                    try clear c22b0
                    try clear c23
                    try clear c23b0
                    try clear c24
                    try clear c24b0
                    try clear c25
                    try clear c25b0
                    try clear c25b1
                    try clear c32
                    try clear c32b0
                    try clear c33
                    try clear hcz10_0
                    try clear hcz10_1
                    try clear hcz28_0
                    try clear hcz28_1
                    try clear hcz30_0
                    try clear hcz30_1
                    try clear hfz10_0
                    try clear hfz10_1
                    try clear hfz28_0
                    try clear hfz28_1
                    try clear hfz30_0
                    try clear hfz30_1
                    try clear hx710_0
                    try clear hx710_1
                    try clear hx721_0
                    try clear hx721_1
                    try clear p2
                    try clear p6
                    try clear p7
                    try clear p710
                    try clear p721
                    try clear q7
                    try clear q710
                    try clear q721
                    obtain ⟨x12_3, x66_3, rfl, HA, HK3, HO_12, HB⟩ := hrel
                    cases gk with
                    | zero => exact absurd HA.out (by simp [impl_build.l2])
                    | succ k3 =>
                      have H := HA.out
                      clear HA
                      simp only [impl_build.l2] at H
                      by_cases c37 : x66_3 < (l0.length : Int)
                      · rw [if_pos c37] at H
                        have c37b0 : decide (x66_3 < (l0.length : Int)) = true := decide_eq_true c37
                        clear c37
                        by_cases c38 : 0 ≤ x66_3
                        · rw [if_pos c38] at H
                          have c38b0 : decide (0 ≤ x66_3) = true := decide_eq_true c38
                          clear c38
                          by_cases c39 : x66_3 < (l0.length : Int)
                          · rw [if_pos c39] at H
                            have c39b0 : decide (x66_3 < (l0.length : Int)) = true := decide_eq_true c39
                            clear c39
                            by_cases c40 : ((rd_T61 l0 x66_3).f1) < a1
                            · rw [if_pos c40] at H
                              have c40b0 : decide (((rd_T61 l0 x66_3).f1) < a1) = true := decide_eq_true c40
                              clear c40
                              by_cases c41 : ((rd_T61 l0 x66_3).f0) ≥ a1
                              · rw [if_pos c41] at H
                                have c41b0 : decide (a1 ≤ ((rd_T61 l0 x66_3).f0)) = true := decide_eq_true c41
                                clear c41
                                by_cases c42 : x66_3 < (x12_3.length : Int)
                                · rw [if_pos c42] at H
                                  have c42b0 : decide (x66_3 < (x12_3.length : Int)) = true := decide_eq_true c42
                                  clear c42
                                  obtain ⟨y735, hy735⟩ : ∃ y_ : List (S61), y_ = (x12_3.set (x66_3 : Int).toNat (⟨wrap64 (((rd_T61 x12_3 x66_3).f0) + 1), (rd_T61 x12_3 x66_3).f1⟩ : S61)) := ⟨_, rfl⟩
                                  replace H : (impl_build.l2 k3 a1 (t715.length : Int) y735 l0 (l0.length : Int) (wrap64 (x66_3 + 1))) = some r := by first | (rw [hy735]; with_reducible exact H) | (have H2_ := (Option.bind_some _ _).symm.trans H; rw [hy735]; with_reducible exact H2_) | (have H2_ := (Option.bind_some _ _).symm.trans H; with_reducible exact H2_) | with_reducible exact H | (rw [hy735]; exact H) | exact H
                                  have Ny735 := Aside0.mk hy735
                                  clear hy735
                                  have H' := Aside0.mk H
                                  clear H
                                  have p732 : 0 ≤ (x66_3 : Int) := of_decide_eq_true (by first | (with_reducible assumption) | assumption)
                                  have q732 : x66_3 < (l0.length : Int) := of_decide_eq_true (by first | (with_reducible assumption) | assumption)
                                  obtain ⟨ad732, e732, hx732_0, hx732_1⟩ := at_T61 HR0.out x66_3 p732 q732
                                  cases e732
                                  replace hx732_0 := (HB.out.cell (World.block_lt_of_cell? w _ hx732_0)).trans hx732_0
                                  replace hx732_1 := (HB.out.cell (World.block_lt_of_cell? w _ hx732_1)).trans hx732_1
                                  replace p732 := eq_true p732
                                  replace q732 := eq_true q732
                                  go_wp2_with (first | ((with_reducible refine gate_dst (N := 14) rfl ?_); refine box_event ?hg (N := 14) ?hd (cs := #[.int .i64 0, .int .i64 0]) (t := 61) ?hr ?_; (case hd => rfl); (case hg => rfl); (case hr => first | (go_simp; done) | (go_simp; rfl)); intro gb733 hg w44 hbox hb; have n0_ := Aside0.mk (Kd.R_below (Kd.R_elderB (by (with_reducible repeat (first | apply Kd.R_alloc | apply Kd.R_drewN | apply Kd.R_drew)); exact HO_12.out) gb733 (Nat.le_of_eq hg.symm)) hb); have n1_ := Aside0.mk (below_step (by repeat (first | (with_reducible first | exact HB.out | apply below_alloc | apply pw_below_drewN | apply below_drew1) | exact HB.out)) hb); have n2_ := Aside0.mk (hbox); have n3_ := Aside0.mk ((by rw [hg]; exact (below_size (by repeat (first | (with_reducible first | exact HB.out | apply below_alloc | apply pw_below_drewN | apply below_drew1) | exact HB.out))) : w.heap.size ≤ gb733)); have n4_ := Aside0.mk ((by rw [hg]; exact (below_size (by repeat (first | (with_reducible first | exact HB.out | apply below_alloc | apply pw_below_drewN | apply below_drew1) | exact HB.out))) : w.heap.size ≤ gb733)); clear HO_12; clear HB; have HO_12 := n0_; have HB := n1_; have BK733 := n2_; have GW733 := n3_; have GE733 := n4_; clear n0_ n1_ n2_ n3_ n4_; clear hb hbox hg; have hcz45_0 : w44.cell? ⟨gb733, 0, none⟩ = some (.int .i64 0) := (blk_cell BK733.out 0).trans rfl; have hcz45_1 : w44.cell? ⟨gb733, 1, none⟩ = some (.int .i64 0) := (blk_cell BK733.out 1).trans rfl; have hfz45_0 := blk_frozen BK733.out 0; have hfz45_1 := blk_frozen BK733.out 1) | ((with_reducible refine gate_store (t := 61) (p := 14) rfl ?_); refine store_event (t := 61) (p := 14) (v := ?vo_w46) (w1 := ((w44.setCell ⟨gb733, 0, none⟩ (.int .i64 ((rd_T61 l0 x66_3).f0))).setCell ⟨gb733, 1, none⟩ (.int .i64 ((rd_T61 l0 x66_3).f1)))) ?hg ?ho ?hn ?hr ?_; (case ho => rfl); (case hg => rfl); (case hn => rfl); (case hr => first | (go_simp; done) | (go_simp; rfl)); intro w46 hw; have n0_ : Aside0 (Kd.R k61 61 w46 w.heap.size (fun k_ => k_ ≠ gb733) v724 x12_3) := ⟨(by rw [hw]; exact (by (with_reducible repeat (first | apply Kd.R_alloc | apply Kd.R_drewN | apply Kd.R_drew)); exact Kd.R_mono (Kd.R_far (p := ⟨gb733, 1, none⟩) (Kd.R_far (p := ⟨gb733, 0, none⟩) (Kd.R_mono HO_12.out (fun k_ hk => (⟨hk, hk.2⟩ : _ ∧ k_ ≠ gb733))) (fun _ hk => hk.2) (.int .i64 ((rd_T61 l0 x66_3).f0))) (fun _ hk => hk.2) (.int .i64 ((rd_T61 l0 x66_3).f1))) (fun _ hk => hk.1.2)))⟩; have n1_ : Aside0 (w46.heap[gb733]? = some (.cells #[.int .i64 ((rd_T61 l0 x66_3).f0), .int .i64 ((rd_T61 l0 x66_3).f1)] 61 (0, 0))) := ⟨(by rw [hw]; exact (by (with_reducible repeat (first | refine blk_drewN ?_ _ | refine blk_drew ?_ | refine blk_alloc ?_ _)); refine blk_put (cs := #[.int .i64 ((rd_T61 l0 x66_3).f0), .int .i64 0]) ?_ 1 _ rfl; (with_reducible repeat (first | refine blk_drewN ?_ _ | refine blk_drew ?_ | refine blk_alloc ?_ _)); refine blk_put (cs := #[.int .i64 0, .int .i64 0]) ?_ 0 _ rfl; (with_reducible repeat (first | refine blk_drewN ?_ _ | refine blk_drew ?_ | refine blk_alloc ?_ _)); exact BK733.out))⟩; have n2_ : Aside0 (Below w.heap.size w w46) := ⟨(by rw [hw]; exact (by repeat (first | (with_reducible first | exact HB.out | apply below_alloc | apply pw_below_drewN | apply below_drew1 | refine below_set ?_ GE733.out) | exact HB.out)))⟩; clear hw; clear HO_12; clear BK733; clear HB; have HO_12 := n0_; have BK733 := n1_; have HB := n2_; clear n0_ n1_ n2_; have hcz47_0 : w46.cell? ⟨gb733, 0, none⟩ = some (.int .i64 ((rd_T61 l0 x66_3).f0)) := (blk_cell BK733.out 0).trans rfl; have hcz47_1 : w46.cell? ⟨gb733, 1, none⟩ = some (.int .i64 ((rd_T61 l0 x66_3).f1)) := (blk_cell BK733.out 1).trans rfl; have hfz47_0 := blk_frozen BK733.out 0; have hfz47_1 := blk_frozen BK733.out 1; obtain ⟨Ao48, co48, eo48⟩ := Kd.R_slice HO_12.out; subst eo48; have p734 : 0 ≤ (x66_3 : Int) := of_decide_eq_true (by first | (with_reducible assumption) | assumption); have q734 : x66_3 < (x12_3.length : Int) := of_decide_eq_true (by first | (with_reducible assumption) | assumption); obtain ⟨ad734, e734, hx734_0, hx734_1⟩ := at_T61 (Kd.R_reads' HO_12.out).2.2 x66_3 p734 q734; cases e734; replace p734 := eq_true p734; replace q734 := eq_true q734; have p43 : 0 ≤ (x66_3 : Int) := of_decide_eq_true (by first | (with_reducible assumption) | assumption); have q43 : (x66_3 : Int) < ((x12_3.length : Int) : Int) := of_decide_eq_true (by first | (with_reducible assumption) | assumption); obtain ⟨go43, co43, eo43, gb43, gl43, cl43, HG43⟩ := Kd.R_form HO_12.out (by omega); (first | cases eo43 | (injection eo43 with ea_ en_ ec_; (first | subst ea_ | (injection ea_ with ea_; subst ea_)); subst ec_; clear en_)); have GB43 := Aside0.mk gb43; have GG43 := Aside0.mk HG43; clear gb43 gl43 HG43; (first | simp only [add_plain] at hx734_0 | skip); (first | simp only [add_plain] at hx734_1 | skip); obtain ⟨ce43, hcl43, hM43, hcc43, hfr43⟩ := Kd.R_elem HO_12.out z61 (x66_3 : Int) p43 q43; obtain rfl := k61_openM hM43; have hx43_0 : w46.cell? ⟨go43, (x66_3 : Int).toNat * 2, none⟩ = some (.int .i64 ((rd_T61 x12_3 x66_3).f0)) := hcc43 0 _ rfl; have hx43_1 : w46.cell? ⟨go43, (x66_3 : Int).toNat * 2 + 1, none⟩ = some (.int .i64 ((rd_T61 x12_3 x66_3).f1)) := hcc43 1 _ rfl; have hf43_0 : w46.frozen? ⟨go43, (x66_3 : Int).toNat * 2, none⟩ = false := hfr43 0; have hf43_1 : w46.frozen? ⟨go43, (x66_3 : Int).toNat * 2 + 1, none⟩ = false := hfr43 1; clear hcl43 hcc43 hfr43; (try clear hM43); replace p43 := eq_true p43; replace q43 := eq_true q43; have HX49 := Aside0.mk (show Kd.R k61 61 w46 w.heap.size (fun k_ => k_ ≠ gb733) (.slice (some ⟨go43, 0, none⟩) x12_3.length co48) x12_3 from (by (with_reducible repeat (first | apply Kd.R_alloc | apply Kd.R_drewN | apply Kd.R_drew)); exact HO_12.out)); obtain ⟨ce49, hcl49, hM49, hcc49, hfr49⟩ := Kd.R_elem HX49.out z61 (x66_3 : Int) (of_decide_eq_true (by first | (with_reducible assumption) | assumption)) (by have h_ : (x66_3 : Int) < ((x12_3.length : Int) : Int) := of_decide_eq_true (by first | (with_reducible assumption) | assumption); first | exact h_ | (have e_ := (Kd.R_reads' HO_12.out).1; omega) | simpa using h_); obtain rfl := k61_openM hM49; have HP49 := Kd.R_seg HX49.out (x66_3 : Int) (of_decide_eq_true (by first | (with_reducible assumption) | assumption)) (by have h_ : (x66_3 : Int) < ((x12_3.length : Int) : Int) := of_decide_eq_true (by first | (with_reducible assumption) | assumption); first | exact h_ | (have e_ := (Kd.R_reads' HO_12.out).1; omega) | simpa using h_) (seg := [.int .i64 (wrap64 (((rd_T61 x12_3 x66_3).f0) + 1))]) (j := 0) hcl49 hcc49 (show 1 ≤ 2 from by decide) (x' := (⟨wrap64 (((rd_T61 x12_3 x66_3).f0) + 1), (rd_T61 x12_3 x66_3).f1⟩ : S61)) (k61_mkM _ _ _ (⟨wrap64 (((rd_T61 x12_3 x66_3).f0) + 1), (rd_T61 x12_3 x66_3).f1⟩ : S61) ) (fun _ hk => hk); have hx49_0 := hcc49 0 _ rfl; (try simp only [show (k61).sz = 2 from rfl, Nat.mul_one, Nat.add_zero] at hx49_0); have hf49_0 := hfr49 0; (try simp only [show (k61).sz = 2 from rfl, Nat.mul_one, Nat.add_zero] at hf49_0); clear hcl49 hcc49 hfr49; (try clear hM49)) | ((with_reducible refine gate_store (t := 3) (p := 112) rfl ?_); refine store_event (t := 3) (p := 112) (v := ?vo_w50) (w1 := (w46.setCell ⟨go43, (x66_3 : Int).toNat * 2, none⟩ (.int .i64 (wrap64 (((rd_T61 x12_3 x66_3).f0) + 1))))) ?hg ?ho ?hn ?hr ?_; (case ho => rfl); (case hg => rfl); (case hn => rfl); (case hr => first | (go_simp; done) | (go_simp; rfl)); intro w50 hw; have hg : w46.grownBy w50 (some go43) := (by rw [hw]; exact HP49.2); have hp_ : Kd.R k61 61 w50 w.heap.size (fun k_ => k_ ≠ gb733) (.slice (some ⟨go43, 0, none⟩) x12_3.length co48) y735 := (by rw [hw, Ny735.out]; exact HP49.1); clear HP49; have n0_ := Aside0.mk (hp_); have n1_ := Aside0.mk (blk_grown (g := gb733) (o := .cells #[.int .i64 ((rd_T61 l0 x66_3).f0), .int .i64 ((rd_T61 l0 x66_3).f1)] 61 (0, 0)) (by (with_reducible repeat (first | refine blk_drewN ?_ _ | refine blk_drew ?_ | refine blk_alloc ?_ _)); exact BK733.out) hg (Kd.R_away HO_12.out (fun _ hk => hk))); have n2_ := Aside0.mk ((by rw [hw]; exact below_set (HB.out) GB43.out : Below w.heap.size w w50)); clear HO_12; clear BK733; clear HB; have HO_12 := n0_; have BK733 := n1_; have HB := n2_; clear n0_ n1_ n2_; clear hg hw hp_))
                                  go_roundg k3
                                  case measure => have := HK1.out; have := HK2.out; have := HK3.out; omega
                                  case rel => exact ⟨(y735), (wrap64 (x66_3 + 1)), (by first | rfl | (simp; done) | (simp [*]; done)), H', ⟨by have := HK1.out; have := HK2.out; have := HK3.out; omega⟩, ⟨by (with_reducible repeat (first | apply Kd.R_alloc | apply Kd.R_drewN | apply Kd.R_drew)); exact Kd.R_mono HO_12.out (fun _ hk => trivial)⟩, ⟨by repeat (first | (with_reducible first | exact HB.out | apply below_alloc | apply pw_below_drewN | apply below_drew1 | refine below_set ?_ GE733.out) | exact HB.out)⟩⟩
                                · rw [if_neg c42] at H
                                  exact absurd H (by simp)
                              · rw [if_neg c41] at H
                                have c41b0 : decide (a1 ≤ ((rd_T61 l0 x66_3).f0)) = false := decide_eq_false c41
                                clear c41
                                have H' := Aside0.mk H
                                clear H
                                have p732 : 0 ≤ (x66_3 : Int) := of_decide_eq_true (by first | (with_reducible assumption) | assumption)
                                have q732 : x66_3 < (l0.length : Int) := of_decide_eq_true (by first | (with_reducible assumption) | assumption)
                                obtain ⟨ad732, e732, hx732_0, hx732_1⟩ := at_T61 HR0.out x66_3 p732 q732
                                cases e732
                                replace hx732_0 := (HB.out.cell (World.block_lt_of_cell? w _ hx732_0)).trans hx732_0
                                replace hx732_1 := (HB.out.cell (World.block_lt_of_cell? w _ hx732_1)).trans hx732_1
                                replace p732 := eq_true p732
                                replace q732 := eq_true q732
                                go_wp2_with (first | ((with_reducible refine gate_dst (N := 14) rfl ?_); refine box_event ?hg (N := 14) ?hd (cs := #[.int .i64 0, .int .i64 0]) (t := 61) ?hr ?_; (case hd => rfl); (case hg => rfl); (case hr => first | (go_simp; done) | (go_simp; rfl)); intro gb733 hg w51 hbox hb; have n0_ := Aside0.mk (Kd.R_below (Kd.R_elderB (by (with_reducible repeat (first | apply Kd.R_alloc | apply Kd.R_drewN | apply Kd.R_drew)); exact HO_12.out) gb733 (Nat.le_of_eq hg.symm)) hb); have n1_ := Aside0.mk (below_step (by repeat (first | (with_reducible first | exact HB.out | apply below_alloc | apply pw_below_drewN | apply below_drew1) | exact HB.out)) hb); have n2_ := Aside0.mk (hbox); have n3_ := Aside0.mk ((by rw [hg]; exact (below_size (by repeat (first | (with_reducible first | exact HB.out | apply below_alloc | apply pw_below_drewN | apply below_drew1) | exact HB.out))) : w.heap.size ≤ gb733)); have n4_ := Aside0.mk ((by rw [hg]; exact (below_size (by repeat (first | (with_reducible first | exact HB.out | apply below_alloc | apply pw_below_drewN | apply below_drew1) | exact HB.out))) : w.heap.size ≤ gb733)); clear HO_12; clear HB; have HO_12 := n0_; have HB := n1_; have BK733 := n2_; have GW733 := n3_; have GE733 := n4_; clear n0_ n1_ n2_ n3_ n4_; clear hb hbox hg; have hcz52_0 : w51.cell? ⟨gb733, 0, none⟩ = some (.int .i64 0) := (blk_cell BK733.out 0).trans rfl; have hcz52_1 : w51.cell? ⟨gb733, 1, none⟩ = some (.int .i64 0) := (blk_cell BK733.out 1).trans rfl; have hfz52_0 := blk_frozen BK733.out 0; have hfz52_1 := blk_frozen BK733.out 1))
                                go_roundg k3
                                case measure => have := HK1.out; have := HK2.out; have := HK3.out; omega
                                case rel => exact ⟨(x12_3), (wrap64 (x66_3 + 1)), (by first | rfl | (simp; done) | (simp [*]; done)), H', ⟨by have := HK1.out; have := HK2.out; have := HK3.out; omega⟩, ⟨by (with_reducible repeat (first | apply Kd.R_alloc | apply Kd.R_drewN | apply Kd.R_drew)); exact Kd.R_mono (Kd.R_far (p := ⟨gb733, 1, none⟩) (Kd.R_far (p := ⟨gb733, 0, none⟩) (Kd.R_mono HO_12.out (fun k_ hk => (⟨hk, hk.2⟩ : _ ∧ k_ ≠ gb733))) (fun _ hk => hk.2) (.int .i64 ((rd_T61 l0 x66_3).f0))) (fun _ hk => hk.2) (.int .i64 ((rd_T61 l0 x66_3).f1))) (fun _ hk => trivial)⟩, ⟨by repeat (first | (with_reducible first | exact HB.out | apply below_alloc | apply pw_below_drewN | apply below_drew1 | refine below_set ?_ GE733.out) | exact HB.out)⟩⟩
                            · rw [if_neg c40] at H
                              have c40b0 : decide (((rd_T61 l0 x66_3).f1) < a1) = false := decide_eq_false c40
                              clear c40
                              have HC53 := Aside0.mk H
                              clear H
                              have p732 : 0 ≤ (x66_3 : Int) := of_decide_eq_true (by first | (with_reducible assumption) | assumption)
                              have q732 : x66_3 < (l0.length : Int) := of_decide_eq_true (by first | (with_reducible assumption) | assumption)
                              obtain ⟨ad732, e732, hx732_0, hx732_1⟩ := at_T61 HR0.out x66_3 p732 q732
                              cases e732
                              replace hx732_0 := (HB.out.cell (World.block_lt_of_cell? w _ hx732_0)).trans hx732_0
                              replace hx732_1 := (HB.out.cell (World.block_lt_of_cell? w _ hx732_1)).trans hx732_1
                              replace p732 := eq_true p732
                              replace q732 := eq_true q732
                              go_upto_region 25 with (first | ((with_reducible refine gate_dst (N := 14) rfl ?_); refine box_event ?hg (N := 14) ?hd (cs := #[.int .i64 0, .int .i64 0]) (t := 61) ?hr ?_; (case hd => rfl); (case hg => rfl); (case hr => first | (go_simp; done) | (go_simp; rfl)); intro gb733 hg w54 hbox hb; have n0_ := Aside0.mk (Kd.R_below (Kd.R_elderB (by (with_reducible repeat (first | apply Kd.R_alloc | apply Kd.R_drewN | apply Kd.R_drew)); exact HO_12.out) gb733 (Nat.le_of_eq hg.symm)) hb); have n1_ := Aside0.mk (below_step (by repeat (first | (with_reducible first | exact HB.out | apply below_alloc | apply pw_below_drewN | apply below_drew1) | exact HB.out)) hb); have n2_ := Aside0.mk (hbox); have n3_ := Aside0.mk ((by rw [hg]; exact (below_size (by repeat (first | (with_reducible first | exact HB.out | apply below_alloc | apply pw_below_drewN | apply below_drew1) | exact HB.out))) : w.heap.size ≤ gb733)); have n4_ := Aside0.mk ((by rw [hg]; exact (below_size (by repeat (first | (with_reducible first | exact HB.out | apply below_alloc | apply pw_below_drewN | apply below_drew1) | exact HB.out))) : w.heap.size ≤ gb733)); clear HO_12; clear HB; have HO_12 := n0_; have HB := n1_; have BK733 := n2_; have GW733 := n3_; have GE733 := n4_; clear n0_ n1_ n2_ n3_ n4_; clear hb hbox hg; have hcz55_0 : w54.cell? ⟨gb733, 0, none⟩ = some (.int .i64 0) := (blk_cell BK733.out 0).trans rfl; have hcz55_1 : w54.cell? ⟨gb733, 1, none⟩ = some (.int .i64 0) := (blk_cell BK733.out 1).trans rfl; have hfz55_0 := blk_frozen BK733.out 0; have hfz55_1 := blk_frozen BK733.out 1))
                              (try simp only [Act.put, List.setIfInBounds_toArray, List.set_cons_zero, List.set_cons_succ])
                              go_cut [84] (fun v84 wc => ∃ (kq : Nat) (x84_52 : Bool), v84 = .bool x84_52 ∧ Aside0 (impl_build.j3 kq a1 (t715.length : Int) x12_3 x66_3 l0 (l0.length : Int) x66_3 x84_52 ((rd_T61 l0 x66_3).f0) ((rd_T61 l0 x66_3).f1) = some r) ∧ Aside0 (kq ≤ k3) ∧ Aside0 (Kd.R k61 61 wc w.heap.size (fun k_ => k_ ≠ gb733) v724 x12_3) ∧ Aside0 (wc.heap[gb733]? = some (.cells #[.int .i64 ((rd_T61 l0 x66_3).f0), .int .i64 ((rd_T61 l0 x66_3).f1)] 61 (0, 0))) ∧ Aside0 (Below w.heap.size w wc))
                              case first =>
                                have H := HC53.out
                                clear HC53
                                by_cases c56 : ((rd_T61 l0 x66_3).f1) = (wrap64 ((t715.length : Int) - 1))
                                · rw [if_pos c56] at H
                                  have c56b0 : (((rd_T61 l0 x66_3).f1) == (wrap64 ((t715.length : Int) - 1))) = true := beq_iff_eq.mpr c56
                                  have c56b1 : (((rd_T61 l0 x66_3).f1) != (wrap64 ((t715.length : Int) - 1))) = false := bne_eq_false_iff_eq.mpr c56
                                  clear c56
                                  (first | rw [c56b0] | (simp only [i64_w, i32_w]; rw [c56b0]) | skip)
                                  have H' := Aside0.mk H
                                  clear H
                                  have hcz57_0 : w54.cell? ⟨gb733, 0, none⟩ = some (.int .i64 0) := (blk_cell BK733.out 0).trans rfl
                                  have hcz57_1 : w54.cell? ⟨gb733, 1, none⟩ = some (.int .i64 0) := (blk_cell BK733.out 1).trans rfl
                                  have hfz57_0 := blk_frozen BK733.out 0
                                  have hfz57_1 := blk_frozen BK733.out 1
                                  go_wp2
                                  go_meet
                                  case rel => exact ⟨_, (decide (((rd_T61 l0 x66_3).f0) < a1)), (by first | rfl | (simp; done) | (simp [*]; done)), H', ⟨by have := HK1.out; have := HK2.out; have := HK3.out; first | omega | exact Nat.le_refl _⟩, ⟨by (with_reducible repeat (first | apply Kd.R_alloc | apply Kd.R_drewN | apply Kd.R_drew)); exact Kd.R_mono (Kd.R_far (p := ⟨gb733, 1, none⟩) (Kd.R_far (p := ⟨gb733, 0, none⟩) (Kd.R_mono HO_12.out (fun k_ hk => (⟨hk, hk.2⟩ : _ ∧ k_ ≠ gb733))) (fun _ hk => hk.2) (.int .i64 ((rd_T61 l0 x66_3).f0))) (fun _ hk => hk.2) (.int .i64 ((rd_T61 l0 x66_3).f1))) (fun _ hk => hk.1.2)⟩, ⟨by (with_reducible repeat (first | refine blk_drewN ?_ _ | refine blk_drew ?_ | refine blk_alloc ?_ _)); refine blk_put (cs := #[.int .i64 ((rd_T61 l0 x66_3).f0), .int .i64 0]) ?_ 1 _ rfl; (with_reducible repeat (first | refine blk_drewN ?_ _ | refine blk_drew ?_ | refine blk_alloc ?_ _)); refine blk_put (cs := #[.int .i64 0, .int .i64 0]) ?_ 0 _ rfl; (with_reducible repeat (first | refine blk_drewN ?_ _ | refine blk_drew ?_ | refine blk_alloc ?_ _)); exact BK733.out⟩, ⟨by repeat (first | (with_reducible first | exact HB.out | apply below_alloc | apply pw_below_drewN | apply below_drew1 | refine below_set ?_ GE733.out) | exact HB.out)⟩⟩
                                · rw [if_neg c56] at H
                                  have c56b0 : (((rd_T61 l0 x66_3).f1) == (wrap64 ((t715.length : Int) - 1))) = false := beq_eq_false_iff_ne.mpr c56
                                  have c56b1 : (((rd_T61 l0 x66_3).f1) != (wrap64 ((t715.length : Int) - 1))) = true := bne_iff_ne.mpr c56
                                  (first | rw [c56b0] | (simp only [i64_w, i32_w]; rw [c56b0]) | skip)
                                  have H' := Aside0.mk H
                                  clear H
                                  have hcz58_0 : w54.cell? ⟨gb733, 0, none⟩ = some (.int .i64 0) := (blk_cell BK733.out 0).trans rfl
                                  have hcz58_1 : w54.cell? ⟨gb733, 1, none⟩ = some (.int .i64 0) := (blk_cell BK733.out 1).trans rfl
                                  have hfz58_0 := blk_frozen BK733.out 0
                                  have hfz58_1 := blk_frozen BK733.out 1
                                  go_wp2
                                  go_meet
                                  case rel => exact ⟨_, (false), (by first | rfl | (simp; done) | (simp [*]; done)), H', ⟨by have := HK1.out; have := HK2.out; have := HK3.out; first | omega | exact Nat.le_refl _⟩, ⟨by (with_reducible repeat (first | apply Kd.R_alloc | apply Kd.R_drewN | apply Kd.R_drew)); exact Kd.R_mono (Kd.R_far (p := ⟨gb733, 1, none⟩) (Kd.R_far (p := ⟨gb733, 0, none⟩) (Kd.R_mono HO_12.out (fun k_ hk => (⟨hk, hk.2⟩ : _ ∧ k_ ≠ gb733))) (fun _ hk => hk.2) (.int .i64 ((rd_T61 l0 x66_3).f0))) (fun _ hk => hk.2) (.int .i64 ((rd_T61 l0 x66_3).f1))) (fun _ hk => hk.1.2)⟩, ⟨by (with_reducible repeat (first | refine blk_drewN ?_ _ | refine blk_drew ?_ | refine blk_alloc ?_ _)); refine blk_put (cs := #[.int .i64 ((rd_T61 l0 x66_3).f0), .int .i64 0]) ?_ 1 _ rfl; (with_reducible repeat (first | refine blk_drewN ?_ _ | refine blk_drew ?_ | refine blk_alloc ?_ _)); refine blk_put (cs := #[.int .i64 0, .int .i64 0]) ?_ 0 _ rfl; (with_reducible repeat (first | refine blk_drewN ?_ _ | refine blk_drew ?_ | refine blk_alloc ?_ _)); exact BK733.out⟩, ⟨by repeat (first | (with_reducible first | exact HB.out | apply below_alloc | apply pw_below_drewN | apply below_drew1 | refine below_set ?_ GE733.out) | exact HB.out)⟩⟩
                              case rest =>
                                clear HC53
                                try clear c1
                                try clear c2
                                try clear p2
                                try clear c3
                                try clear c4
                                try clear p4
                                try clear q4
                                try clear hx4
                                try clear hf4
                                try clear c5
                                try clear c5b0
                                try clear c6
                                try clear c6b0
                                try clear p6
                                try clear c7
                                try clear c7b0
                                try clear p7
                                try clear q7
                                try clear hx7
                                try clear c8
                                try clear c9
                                try clear c10
                                try clear c13
                                try clear c13b0
                                try clear c13b1
                                try clear c13b2
                                try clear c22
                                try clear c22b0
                                try clear c23
                                try clear c23b0
                                try clear c24
                                try clear c24b0
                                try clear c25
                                try clear c25b0
                                try clear c25b1
                                try clear c32
                                try clear c32b0
                                try clear c33
                                try clear c37
                                try clear c37b0
                                try clear c38
                                try clear c38b0
                                try clear c39
                                try clear c39b0
                                try clear c40
                                try clear c40b0
                                try clear c41
                                try clear c41b0
                                try clear c42
                                try clear c42b0
                                try clear c43
                                try clear p43
                                try clear q43
                                try clear hx43
                                try clear hf43
                                try clear c49
                                try clear hx49
                                try clear hf49
                                try clear c51
                                try clear c56
                                try clear c56b0
                                try clear c56b1
                                try clear hcz10_0
                                try clear hcz10_1
                                try clear hcz28_0
                                try clear hcz28_1
                                try clear hcz30_0
                                try clear hcz30_1
                                try clear hcz45_0
                                try clear hcz45_1
                                try clear hcz47_0
                                try clear hcz47_1
                                try clear hcz52_0
                                try clear hcz52_1
                                try clear hcz55_0
                                try clear hcz55_1
                                try clear hcz57_0
                                try clear hcz57_1
                                try clear hcz58_0
                                try clear hcz58_1
                                try clear hfz10_0
                                try clear hfz10_1
                                try clear hfz28_0
                                try clear hfz28_1
                                try clear hfz30_0
                                try clear hfz30_1
                                try clear hfz45_0
                                try clear hfz45_1
                                try clear hfz47_0
                                try clear hfz47_1
                                try clear hfz52_0
                                try clear hfz52_1
                                try clear hfz55_0
                                try clear hfz55_1
                                try clear hfz57_0
                                try clear hfz57_1
                                try clear hfz58_0
                                try clear hfz58_1
                                try clear hx43_0
                                try clear hx43_1
                                try clear hx49_0
                                try clear hx710_0
                                try clear hx710_1
                                try clear hx721_0
                                try clear hx721_1
                                try clear hx732_0
                                try clear hx732_1
                                try clear hx734_0
                                try clear hx734_1
                                try clear p2
                                try clear p43
                                try clear p6
                                try clear p7
                                try clear p710
                                try clear p721
                                try clear p732
                                try clear p734
                                try clear q43
                                try clear q7
                                try clear q710
                                try clear q721
                                try clear q732
                                try clear q734
                                obtain ⟨kq, x84_52, rfl, HA, HJ52, HO_12, BK733, HB⟩ := hcut
                                cases kq with
                                | zero => exact absurd HA.out (by simp [impl_build.j3])
                                | succ kj52 =>
                                  have H := HA.out
                                  clear HA
                                  simp only [impl_build.j3] at H
                                  by_cases c59 : x84_52 = true
                                  · subst c59
                                    have H1 : (if 0 ≤ x66_3 then (if x66_3 < (x12_3.length : Int) then ((some (x12_3.set (x66_3 : Int).toNat (⟨(rd_T61 x12_3 x66_3).f0, a1⟩ : S61) : List (S61))).bind fun y736 => (if ((rd_T61 l0 x66_3).f0) ≥ a1 then (impl_build.l2 kj52 a1 (t715.length : Int) (y736.set (x66_3 : Int).toNat (⟨wrap64 (((rd_T61 y736 x66_3).f0) + 1), (rd_T61 y736 x66_3).f1⟩ : S61)) l0 (l0.length : Int) (wrap64 (x66_3 + 1))) else (impl_build.l2 kj52 a1 (t715.length : Int) y736 l0 (l0.length : Int) (wrap64 (x66_3 + 1))))) else (none)) else (none)) = some r := by rw [if_pos rfl] at H; exact H
                                    clear H
                                    have H := H1
                                    clear H1
                                    by_cases c60 : 0 ≤ x66_3
                                    · rw [if_pos c60] at H
                                      have c60b0 : decide (0 ≤ x66_3) = true := decide_eq_true c60
                                      clear c60
                                      by_cases c61 : x66_3 < (x12_3.length : Int)
                                      · rw [if_pos c61] at H
                                        have c61b0 : decide (x66_3 < (x12_3.length : Int)) = true := decide_eq_true c61
                                        clear c61
                                        obtain ⟨y736, hy736⟩ : ∃ y_ : List (S61), y_ = (x12_3.set (x66_3 : Int).toNat (⟨(rd_T61 x12_3 x66_3).f0, a1⟩ : S61)) := ⟨_, rfl⟩
                                        replace H : (if ((rd_T61 l0 x66_3).f0) ≥ a1 then (impl_build.l2 kj52 a1 (t715.length : Int) (y736.set (x66_3 : Int).toNat (⟨wrap64 (((rd_T61 y736 x66_3).f0) + 1), (rd_T61 y736 x66_3).f1⟩ : S61)) l0 (l0.length : Int) (wrap64 (x66_3 + 1))) else (impl_build.l2 kj52 a1 (t715.length : Int) y736 l0 (l0.length : Int) (wrap64 (x66_3 + 1)))) = some r := by first | (rw [hy736]; with_reducible exact H) | (have H2_ := (Option.bind_some _ _).symm.trans H; rw [hy736]; with_reducible exact H2_) | (have H2_ := (Option.bind_some _ _).symm.trans H; with_reducible exact H2_) | with_reducible exact H | (rw [hy736]; exact H) | exact H
                                        have Ny736 := Aside0.mk hy736
                                        clear hy736
                                        by_cases c63 : ((rd_T61 l0 x66_3).f0) ≥ a1
                                        · rw [if_pos c63] at H
                                          have c63b0 : decide (a1 ≤ ((rd_T61 l0 x66_3).f0)) = true := decide_eq_true c63
                                          clear c63
                                          obtain ⟨y738, hy738⟩ : ∃ y_ : List (S61), y_ = (y736.set (x66_3 : Int).toNat (⟨wrap64 (((rd_T61 y736 x66_3).f0) + 1), (rd_T61 y736 x66_3).f1⟩ : S61)) := ⟨_, rfl⟩
                                          replace H : (impl_build.l2 kj52 a1 (t715.length : Int) y738 l0 (l0.length : Int) (wrap64 (x66_3 + 1))) = some r := by first | (rw [hy738]; with_reducible exact H) | (have H2_ := (Option.bind_some _ _).symm.trans H; rw [hy738]; with_reducible exact H2_) | (have H2_ := (Option.bind_some _ _).symm.trans H; with_reducible exact H2_) | with_reducible exact H | (rw [hy738]; exact H) | exact H
                                          have Ny738 := Aside0.mk hy738
                                          clear hy738
                                          have H' := Aside0.mk H
                                          clear H
                                          have p62 : 0 ≤ (x66_3 : Int) := of_decide_eq_true (by first | (with_reducible assumption) | assumption)
                                          have q62 : (x66_3 : Int) < ((x12_3.length : Int) : Int) := of_decide_eq_true (by first | (with_reducible assumption) | assumption)
                                          obtain ⟨go62, co62, eo62, gb62, gl62, cl62, HG62⟩ := Kd.R_form HO_12.out (by omega)
                                          (first | cases eo62 | (injection eo62 with ea_ en_ ec_; (first | subst ea_ | (injection ea_ with ea_; subst ea_)); subst ec_; clear en_))
                                          have GB62 := Aside0.mk gb62
                                          have GG62 := Aside0.mk HG62
                                          clear gb62 gl62 HG62
                                          obtain ⟨ce62, hcl62, hM62, hcc62, hfr62⟩ := Kd.R_elem HO_12.out z61 (x66_3 : Int) p62 q62
                                          obtain rfl := k61_openM hM62
                                          have hx62_0 : wc.cell? ⟨go62, (x66_3 : Int).toNat * 2, none⟩ = some (.int .i64 ((rd_T61 x12_3 x66_3).f0)) := hcc62 0 _ rfl
                                          have hx62_1 : wc.cell? ⟨go62, (x66_3 : Int).toNat * 2 + 1, none⟩ = some (.int .i64 ((rd_T61 x12_3 x66_3).f1)) := hcc62 1 _ rfl
                                          have hf62_0 : wc.frozen? ⟨go62, (x66_3 : Int).toNat * 2, none⟩ = false := hfr62 0
                                          have hf62_1 : wc.frozen? ⟨go62, (x66_3 : Int).toNat * 2 + 1, none⟩ = false := hfr62 1
                                          clear hcl62 hcc62 hfr62; (try clear hM62)
                                          replace p62 := eq_true p62
                                          replace q62 := eq_true q62
                                          have HX65 := Aside0.mk (show Kd.R k61 61 wc w.heap.size (fun k_ => k_ ≠ gb733) (.slice (some ⟨go62, 0, none⟩) x12_3.length co62) x12_3 from (by (with_reducible repeat (first | apply Kd.R_alloc | apply Kd.R_drewN | apply Kd.R_drew)); exact HO_12.out))
                                          obtain ⟨ce65, hcl65, hM65, hcc65, hfr65⟩ := Kd.R_elem HX65.out z61 (x66_3 : Int) (of_decide_eq_true (by first | (with_reducible assumption) | assumption)) (by have h_ : (x66_3 : Int) < ((x12_3.length : Int) : Int) := of_decide_eq_true (by first | (with_reducible assumption) | assumption); first | exact h_ | (have e_ := (Kd.R_reads' HO_12.out).1; omega) | simpa using h_)
                                          obtain rfl := k61_openM hM65
                                          have HP65 := Kd.R_seg HX65.out (x66_3 : Int) (of_decide_eq_true (by first | (with_reducible assumption) | assumption)) (by have h_ : (x66_3 : Int) < ((x12_3.length : Int) : Int) := of_decide_eq_true (by first | (with_reducible assumption) | assumption); first | exact h_ | (have e_ := (Kd.R_reads' HO_12.out).1; omega) | simpa using h_) (seg := [.int .i64 a1]) (j := 1) hcl65 hcc65 (show 2 ≤ 2 from by decide) (x' := (⟨(rd_T61 x12_3 x66_3).f0, a1⟩ : S61)) (k61_mkM _ _ _ (⟨(rd_T61 x12_3 x66_3).f0, a1⟩ : S61) ) (fun _ hk => hk)
                                          have hx65_1 := hcc65 1 _ rfl
                                          (try simp only [show (k61).sz = 2 from rfl, Nat.mul_one, Nat.add_zero] at hx65_1)
                                          have hf65_1 := hfr65 1
                                          (try simp only [show (k61).sz = 2 from rfl, Nat.mul_one, Nat.add_zero] at hf65_1)
                                          clear hcl65 hcc65 hfr65; (try clear hM65)
                                          go_wp2_with (first | ((with_reducible refine gate_store (t := 3) (p := 100) rfl ?_); refine store_event (t := 3) (p := 100) (v := ?vo_w66) (w1 := (wc.setCell ⟨go62, (x66_3 : Int).toNat * 2 + 1, none⟩ (.int .i64 a1))) ?hg ?ho ?hn ?hr ?_; (case ho => rfl); (case hg => rfl); (case hn => rfl); (case hr => first | (go_simp; done) | (go_simp; rfl)); intro w66 hw; have hg : wc.grownBy w66 (some go62) := (by rw [hw]; exact HP65.2); have hp_ : Kd.R k61 61 w66 w.heap.size (fun k_ => k_ ≠ gb733) (.slice (some ⟨go62, 0, none⟩) x12_3.length co62) y736 := (by rw [hw, Ny736.out]; exact HP65.1); clear HP65; have n0_ := Aside0.mk (hp_); have n1_ := Aside0.mk (blk_grown (g := gb733) (o := .cells #[.int .i64 ((rd_T61 l0 x66_3).f0), .int .i64 ((rd_T61 l0 x66_3).f1)] 61 (0, 0)) (by (with_reducible repeat (first | refine blk_drewN ?_ _ | refine blk_drew ?_ | refine blk_alloc ?_ _)); exact BK733.out) hg (Kd.R_away HO_12.out (fun _ hk => hk))); have n2_ := Aside0.mk ((by rw [hw]; exact below_set (HB.out) GB62.out : Below w.heap.size w w66)); clear HO_12; clear BK733; clear HB; have HO_12 := n0_; have BK733 := n1_; have HB := n2_; clear n0_ n1_ n2_; clear hg hw hp_; have hcz67_0 : w66.cell? ⟨gb733, 0, none⟩ = some (.int .i64 ((rd_T61 l0 x66_3).f0)) := (blk_cell BK733.out 0).trans rfl; have hcz67_1 : w66.cell? ⟨gb733, 1, none⟩ = some (.int .i64 ((rd_T61 l0 x66_3).f1)) := (blk_cell BK733.out 1).trans rfl; have hfz67_0 := blk_frozen BK733.out 0; have hfz67_1 := blk_frozen BK733.out 1; have p737 : 0 ≤ (x66_3 : Int) := of_decide_eq_true (by first | (with_reducible assumption) | assumption); have q737 : x66_3 < (y736.length : Int) := (by have h_ : (x66_3 : Int) < ((x12_3.length : Int) : Int) := of_decide_eq_true (by first | (with_reducible assumption) | assumption); first | (have e_ := (Kd.R_reads' HO_12.out).1; omega) | simpa only [Ny736.out, List.length_set] using h_); have ql737 : ((x66_3 : Int) < ((x12_3.length : Int) : Int)) = True := eq_true (of_decide_eq_true (by first | (with_reducible assumption) | assumption)); obtain ⟨ad737, e737, hx737_0, hx737_1⟩ := at_T61 (Kd.R_reads' HO_12.out).2.2 x66_3 p737 q737; obtain rfl : (⟨go62, 0, none⟩ : Addr) = ad737 := (by injection e737); (first | simp only [add_plain] at hx737_0 | simp only [add_at] at hx737_0 | simp only [Addr.add, Nat.zero_add] at hx737_0 | skip); (first | simp only [add_plain] at hx737_1 | simp only [add_at] at hx737_1 | simp only [Addr.add, Nat.zero_add] at hx737_1 | skip); replace p737 := eq_true p737; replace q737 := eq_true q737; have p64 : 0 ≤ (x66_3 : Int) := of_decide_eq_true (by first | (with_reducible assumption) | assumption); have q64 : (x66_3 : Int) < ((x12_3.length : Int) : Int) := of_decide_eq_true (by first | (with_reducible assumption) | assumption); obtain ⟨ce64, hcl64, hM64, hcc64, hfr64⟩ := Kd.R_elem HO_12.out z61 (x66_3 : Int) p64 q64; obtain rfl := k61_openM hM64; have hx64_0 : w66.cell? ⟨go62, (x66_3 : Int).toNat * 2, none⟩ = some (.int .i64 ((rd_T61 y736 x66_3).f0)) := hcc64 0 _ rfl; have hx64_1 : w66.cell? ⟨go62, (x66_3 : Int).toNat * 2 + 1, none⟩ = some (.int .i64 ((rd_T61 y736 x66_3).f1)) := hcc64 1 _ rfl; have hf64_0 : w66.frozen? ⟨go62, (x66_3 : Int).toNat * 2, none⟩ = false := hfr64 0; have hf64_1 : w66.frozen? ⟨go62, (x66_3 : Int).toNat * 2 + 1, none⟩ = false := hfr64 1; clear hcl64 hcc64 hfr64; (try clear hM64); replace p64 := eq_true p64; replace q64 := eq_true q64; have HX68 := Aside0.mk (show Kd.R k61 61 w66 w.heap.size (fun k_ => k_ ≠ gb733) (.slice (some ⟨go62, 0, none⟩) x12_3.length co62) y736 from (by (with_reducible repeat (first | apply Kd.R_alloc | apply Kd.R_drewN | apply Kd.R_drew)); exact HO_12.out)); obtain ⟨ce68, hcl68, hM68, hcc68, hfr68⟩ := Kd.R_elem HX68.out z61 (x66_3 : Int) (of_decide_eq_true (by first | (with_reducible assumption) | assumption)) (by have h_ : (x66_3 : Int) < ((x12_3.length : Int) : Int) := of_decide_eq_true (by first | (with_reducible assumption) | assumption); first | exact h_ | (have e_ := (Kd.R_reads' HO_12.out).1; omega) | simpa using h_); obtain rfl := k61_openM hM68; have HP68 := Kd.R_seg HX68.out (x66_3 : Int) (of_decide_eq_true (by first | (with_reducible assumption) | assumption)) (by have h_ : (x66_3 : Int) < ((x12_3.length : Int) : Int) := of_decide_eq_true (by first | (with_reducible assumption) | assumption); first | exact h_ | (have e_ := (Kd.R_reads' HO_12.out).1; omega) | simpa using h_) (seg := [.int .i64 (wrap64 (((rd_T61 y736 x66_3).f0) + 1))]) (j := 0) hcl68 hcc68 (show 1 ≤ 2 from by decide) (x' := (⟨wrap64 (((rd_T61 y736 x66_3).f0) + 1), (rd_T61 y736 x66_3).f1⟩ : S61)) (k61_mkM _ _ _ (⟨wrap64 (((rd_T61 y736 x66_3).f0) + 1), (rd_T61 y736 x66_3).f1⟩ : S61) ) (fun _ hk => hk); have hx68_0 := hcc68 0 _ rfl; (try simp only [show (k61).sz = 2 from rfl, Nat.mul_one, Nat.add_zero] at hx68_0); have hf68_0 := hfr68 0; (try simp only [show (k61).sz = 2 from rfl, Nat.mul_one, Nat.add_zero] at hf68_0); clear hcl68 hcc68 hfr68; (try clear hM68)) | ((with_reducible refine gate_store (t := 3) (p := 112) rfl ?_); refine store_event (t := 3) (p := 112) (v := ?vo_w69) (w1 := (w66.setCell ⟨go62, (x66_3 : Int).toNat * 2, none⟩ (.int .i64 (wrap64 (((rd_T61 y736 x66_3).f0) + 1))))) ?hg ?ho ?hn ?hr ?_; (case ho => rfl); (case hg => rfl); (case hn => rfl); (case hr => first | (go_simp; done) | (go_simp; rfl)); intro w69 hw; have hg : w66.grownBy w69 (some go62) := (by rw [hw]; exact HP68.2); have hp_ : Kd.R k61 61 w69 w.heap.size (fun k_ => k_ ≠ gb733) (.slice (some ⟨go62, 0, none⟩) x12_3.length co62) y738 := (by rw [hw, Ny738.out]; exact HP68.1); clear HP68; have n0_ := Aside0.mk (hp_); have n1_ := Aside0.mk (blk_grown (g := gb733) (o := .cells #[.int .i64 ((rd_T61 l0 x66_3).f0), .int .i64 ((rd_T61 l0 x66_3).f1)] 61 (0, 0)) (by (with_reducible repeat (first | refine blk_drewN ?_ _ | refine blk_drew ?_ | refine blk_alloc ?_ _)); exact BK733.out) hg (Kd.R_away HO_12.out (fun _ hk => hk))); have n2_ := Aside0.mk ((by rw [hw]; exact below_set (HB.out) GB62.out : Below w.heap.size w w69)); clear HO_12; clear BK733; clear HB; have HO_12 := n0_; have BK733 := n1_; have HB := n2_; clear n0_ n1_ n2_; clear hg hw hp_))
                                          go_roundg kj52
                                          case measure => have := HK1.out; have := HK2.out; have := HK3.out; have := HJ52.out; omega
                                          case rel => exact ⟨(y738), (wrap64 (x66_3 + 1)), (by first | rfl | (simp; done) | (simp [*]; done)), H', ⟨by have := HK1.out; have := HK2.out; have := HK3.out; have := HJ52.out; omega⟩, ⟨by (with_reducible repeat (first | apply Kd.R_alloc | apply Kd.R_drewN | apply Kd.R_drew)); exact Kd.R_mono HO_12.out (fun _ hk => trivial)⟩, ⟨by repeat (first | (with_reducible first | exact HB.out | apply below_alloc | apply pw_below_drewN | apply below_drew1 | refine below_set ?_ GE733.out) | exact HB.out)⟩⟩
                                        · rw [if_neg c63] at H
                                          have c63b0 : decide (a1 ≤ ((rd_T61 l0 x66_3).f0)) = false := decide_eq_false c63
                                          clear c63
                                          have H' := Aside0.mk H
                                          clear H
                                          have p62 : 0 ≤ (x66_3 : Int) := of_decide_eq_true (by first | (with_reducible assumption) | assumption)
                                          have q62 : (x66_3 : Int) < ((x12_3.length : Int) : Int) := of_decide_eq_true (by first | (with_reducible assumption) | assumption)
                                          obtain ⟨go62, co62, eo62, gb62, gl62, cl62, HG62⟩ := Kd.R_form HO_12.out (by omega)
                                          (first | cases eo62 | (injection eo62 with ea_ en_ ec_; (first | subst ea_ | (injection ea_ with ea_; subst ea_)); subst ec_; clear en_))
                                          have GB62 := Aside0.mk gb62
                                          have GG62 := Aside0.mk HG62
                                          clear gb62 gl62 HG62
                                          obtain ⟨ce62, hcl62, hM62, hcc62, hfr62⟩ := Kd.R_elem HO_12.out z61 (x66_3 : Int) p62 q62
                                          obtain rfl := k61_openM hM62
                                          have hx62_0 : wc.cell? ⟨go62, (x66_3 : Int).toNat * 2, none⟩ = some (.int .i64 ((rd_T61 x12_3 x66_3).f0)) := hcc62 0 _ rfl
                                          have hx62_1 : wc.cell? ⟨go62, (x66_3 : Int).toNat * 2 + 1, none⟩ = some (.int .i64 ((rd_T61 x12_3 x66_3).f1)) := hcc62 1 _ rfl
                                          have hf62_0 : wc.frozen? ⟨go62, (x66_3 : Int).toNat * 2, none⟩ = false := hfr62 0
                                          have hf62_1 : wc.frozen? ⟨go62, (x66_3 : Int).toNat * 2 + 1, none⟩ = false := hfr62 1
                                          clear hcl62 hcc62 hfr62; (try clear hM62)
                                          replace p62 := eq_true p62
                                          replace q62 := eq_true q62
                                          have HX70 := Aside0.mk (show Kd.R k61 61 wc w.heap.size (fun k_ => k_ ≠ gb733) (.slice (some ⟨go62, 0, none⟩) x12_3.length co62) x12_3 from (by (with_reducible repeat (first | apply Kd.R_alloc | apply Kd.R_drewN | apply Kd.R_drew)); exact HO_12.out))
                                          obtain ⟨ce70, hcl70, hM70, hcc70, hfr70⟩ := Kd.R_elem HX70.out z61 (x66_3 : Int) (of_decide_eq_true (by first | (with_reducible assumption) | assumption)) (by have h_ : (x66_3 : Int) < ((x12_3.length : Int) : Int) := of_decide_eq_true (by first | (with_reducible assumption) | assumption); first | exact h_ | (have e_ := (Kd.R_reads' HO_12.out).1; omega) | simpa using h_)
                                          obtain rfl := k61_openM hM70
                                          have HP70 := Kd.R_seg HX70.out (x66_3 : Int) (of_decide_eq_true (by first | (with_reducible assumption) | assumption)) (by have h_ : (x66_3 : Int) < ((x12_3.length : Int) : Int) := of_decide_eq_true (by first | (with_reducible assumption) | assumption); first | exact h_ | (have e_ := (Kd.R_reads' HO_12.out).1; omega) | simpa using h_) (seg := [.int .i64 a1]) (j := 1) hcl70 hcc70 (show 2 ≤ 2 from by decide) (x' := (⟨(rd_T61 x12_3 x66_3).f0, a1⟩ : S61)) (k61_mkM _ _ _ (⟨(rd_T61 x12_3 x66_3).f0, a1⟩ : S61) ) (fun _ hk => hk)
                                          have hx70_1 := hcc70 1 _ rfl
                                          (try simp only [show (k61).sz = 2 from rfl, Nat.mul_one, Nat.add_zero] at hx70_1)
                                          have hf70_1 := hfr70 1
                                          (try simp only [show (k61).sz = 2 from rfl, Nat.mul_one, Nat.add_zero] at hf70_1)
                                          clear hcl70 hcc70 hfr70; (try clear hM70)
                                          go_wp2_with (first | ((with_reducible refine gate_store (t := 3) (p := 100) rfl ?_); refine store_event (t := 3) (p := 100) (v := ?vo_w71) (w1 := (wc.setCell ⟨go62, (x66_3 : Int).toNat * 2 + 1, none⟩ (.int .i64 a1))) ?hg ?ho ?hn ?hr ?_; (case ho => rfl); (case hg => rfl); (case hn => rfl); (case hr => first | (go_simp; done) | (go_simp; rfl)); intro w71 hw; have hg : wc.grownBy w71 (some go62) := (by rw [hw]; exact HP70.2); have hp_ : Kd.R k61 61 w71 w.heap.size (fun k_ => k_ ≠ gb733) (.slice (some ⟨go62, 0, none⟩) x12_3.length co62) y736 := (by rw [hw, Ny736.out]; exact HP70.1); clear HP70; have n0_ := Aside0.mk (hp_); have n1_ := Aside0.mk (blk_grown (g := gb733) (o := .cells #[.int .i64 ((rd_T61 l0 x66_3).f0), .int .i64 ((rd_T61 l0 x66_3).f1)] 61 (0, 0)) (by (with_reducible repeat (first | refine blk_drewN ?_ _ | refine blk_drew ?_ | refine blk_alloc ?_ _)); exact BK733.out) hg (Kd.R_away HO_12.out (fun _ hk => hk))); have n2_ := Aside0.mk ((by rw [hw]; exact below_set (HB.out) GB62.out : Below w.heap.size w w71)); clear HO_12; clear BK733; clear HB; have HO_12 := n0_; have BK733 := n1_; have HB := n2_; clear n0_ n1_ n2_; clear hg hw hp_; have hcz72_0 : w71.cell? ⟨gb733, 0, none⟩ = some (.int .i64 ((rd_T61 l0 x66_3).f0)) := (blk_cell BK733.out 0).trans rfl; have hcz72_1 : w71.cell? ⟨gb733, 1, none⟩ = some (.int .i64 ((rd_T61 l0 x66_3).f1)) := (blk_cell BK733.out 1).trans rfl; have hfz72_0 := blk_frozen BK733.out 0; have hfz72_1 := blk_frozen BK733.out 1))
                                          go_roundg kj52
                                          case measure => have := HK1.out; have := HK2.out; have := HK3.out; have := HJ52.out; omega
                                          case rel => exact ⟨(y736), (wrap64 (x66_3 + 1)), (by first | rfl | (simp; done) | (simp [*]; done)), H', ⟨by have := HK1.out; have := HK2.out; have := HK3.out; have := HJ52.out; omega⟩, ⟨by (with_reducible repeat (first | apply Kd.R_alloc | apply Kd.R_drewN | apply Kd.R_drew)); exact Kd.R_mono HO_12.out (fun _ hk => trivial)⟩, ⟨by repeat (first | (with_reducible first | exact HB.out | apply below_alloc | apply pw_below_drewN | apply below_drew1 | refine below_set ?_ GE733.out) | exact HB.out)⟩⟩
                                      · rw [if_neg c61] at H
                                        exact absurd H (by simp)
                                    · rw [if_neg c60] at H
                                      exact absurd H (by simp)
                                  · replace c59 := Bool.eq_false_iff.mpr c59
                                    subst c59
                                    have H1 : (if 0 ≤ x66_3 then (if x66_3 < (x12_3.length : Int) then ((some (x12_3.set (x66_3 : Int).toNat (⟨(rd_T61 x12_3 x66_3).f0, wrap64 (((rd_T61 x12_3 x66_3).f1) + 1)⟩ : S61) : List (S61))).bind fun y740 => (if ((rd_T61 l0 x66_3).f0) ≥ a1 then (impl_build.l2 kj52 a1 (t715.length : Int) (y740.set (x66_3 : Int).toNat (⟨wrap64 (((rd_T61 y740 x66_3).f0) + 1), (rd_T61 y740 x66_3).f1⟩ : S61)) l0 (l0.length : Int) (wrap64 (x66_3 + 1))) else (impl_build.l2 kj52 a1 (t715.length : Int) y740 l0 (l0.length : Int) (wrap64 (x66_3 + 1))))) else (none)) else (none)) = some r := by rw [if_neg (show ¬ (false = true) by decide)] at H; exact H
                                    clear H
                                    have H := H1
                                    clear H1
                                    by_cases c73 : 0 ≤ x66_3
                                    · rw [if_pos c73] at H
                                      have c73b0 : decide (0 ≤ x66_3) = true := decide_eq_true c73
                                      clear c73
                                      by_cases c74 : x66_3 < (x12_3.length : Int)
                                      · rw [if_pos c74] at H
                                        have c74b0 : decide (x66_3 < (x12_3.length : Int)) = true := decide_eq_true c74
                                        clear c74
                                        obtain ⟨y740, hy740⟩ : ∃ y_ : List (S61), y_ = (x12_3.set (x66_3 : Int).toNat (⟨(rd_T61 x12_3 x66_3).f0, wrap64 (((rd_T61 x12_3 x66_3).f1) + 1)⟩ : S61)) := ⟨_, rfl⟩
                                        replace H : (if ((rd_T61 l0 x66_3).f0) ≥ a1 then (impl_build.l2 kj52 a1 (t715.length : Int) (y740.set (x66_3 : Int).toNat (⟨wrap64 (((rd_T61 y740 x66_3).f0) + 1), (rd_T61 y740 x66_3).f1⟩ : S61)) l0 (l0.length : Int) (wrap64 (x66_3 + 1))) else (impl_build.l2 kj52 a1 (t715.length : Int) y740 l0 (l0.length : Int) (wrap64 (x66_3 + 1)))) = some r := by first | (rw [hy740]; with_reducible exact H) | (have H2_ := (Option.bind_some _ _).symm.trans H; rw [hy740]; with_reducible exact H2_) | (have H2_ := (Option.bind_some _ _).symm.trans H; with_reducible exact H2_) | with_reducible exact H | (rw [hy740]; exact H) | exact H
                                        have Ny740 := Aside0.mk hy740
                                        clear hy740
                                        by_cases c76 : ((rd_T61 l0 x66_3).f0) ≥ a1
                                        · rw [if_pos c76] at H
                                          have c76b0 : decide (a1 ≤ ((rd_T61 l0 x66_3).f0)) = true := decide_eq_true c76
                                          clear c76
                                          obtain ⟨y742, hy742⟩ : ∃ y_ : List (S61), y_ = (y740.set (x66_3 : Int).toNat (⟨wrap64 (((rd_T61 y740 x66_3).f0) + 1), (rd_T61 y740 x66_3).f1⟩ : S61)) := ⟨_, rfl⟩
                                          replace H : (impl_build.l2 kj52 a1 (t715.length : Int) y742 l0 (l0.length : Int) (wrap64 (x66_3 + 1))) = some r := by first | (rw [hy742]; with_reducible exact H) | (have H2_ := (Option.bind_some _ _).symm.trans H; rw [hy742]; with_reducible exact H2_) | (have H2_ := (Option.bind_some _ _).symm.trans H; with_reducible exact H2_) | with_reducible exact H | (rw [hy742]; exact H) | exact H
                                          have Ny742 := Aside0.mk hy742
                                          clear hy742
                                          have H' := Aside0.mk H
                                          clear H
                                          obtain ⟨Ao78, co78, eo78⟩ := Kd.R_slice HO_12.out
                                          subst eo78
                                          have p739 : 0 ≤ (x66_3 : Int) := of_decide_eq_true (by first | (with_reducible assumption) | assumption)
                                          have q739 : x66_3 < (x12_3.length : Int) := of_decide_eq_true (by first | (with_reducible assumption) | assumption)
                                          obtain ⟨ad739, e739, hx739_0, hx739_1⟩ := at_T61 (Kd.R_reads' HO_12.out).2.2 x66_3 p739 q739
                                          cases e739
                                          replace p739 := eq_true p739
                                          replace q739 := eq_true q739
                                          have p75 : 0 ≤ (x66_3 : Int) := of_decide_eq_true (by first | (with_reducible assumption) | assumption)
                                          have q75 : (x66_3 : Int) < ((x12_3.length : Int) : Int) := of_decide_eq_true (by first | (with_reducible assumption) | assumption)
                                          obtain ⟨go75, co75, eo75, gb75, gl75, cl75, HG75⟩ := Kd.R_form HO_12.out (by omega)
                                          (first | cases eo75 | (injection eo75 with ea_ en_ ec_; (first | subst ea_ | (injection ea_ with ea_; subst ea_)); subst ec_; clear en_))
                                          have GB75 := Aside0.mk gb75
                                          have GG75 := Aside0.mk HG75
                                          clear gb75 gl75 HG75
                                          (first | simp only [add_plain] at hx739_0 | skip)
                                          (first | simp only [add_plain] at hx739_1 | skip)
                                          obtain ⟨ce75, hcl75, hM75, hcc75, hfr75⟩ := Kd.R_elem HO_12.out z61 (x66_3 : Int) p75 q75
                                          obtain rfl := k61_openM hM75
                                          have hx75_0 : wc.cell? ⟨go75, (x66_3 : Int).toNat * 2, none⟩ = some (.int .i64 ((rd_T61 x12_3 x66_3).f0)) := hcc75 0 _ rfl
                                          have hx75_1 : wc.cell? ⟨go75, (x66_3 : Int).toNat * 2 + 1, none⟩ = some (.int .i64 ((rd_T61 x12_3 x66_3).f1)) := hcc75 1 _ rfl
                                          have hf75_0 : wc.frozen? ⟨go75, (x66_3 : Int).toNat * 2, none⟩ = false := hfr75 0
                                          have hf75_1 : wc.frozen? ⟨go75, (x66_3 : Int).toNat * 2 + 1, none⟩ = false := hfr75 1
                                          clear hcl75 hcc75 hfr75; (try clear hM75)
                                          replace p75 := eq_true p75
                                          replace q75 := eq_true q75
                                          have HX79 := Aside0.mk (show Kd.R k61 61 wc w.heap.size (fun k_ => k_ ≠ gb733) (.slice (some ⟨go75, 0, none⟩) x12_3.length co78) x12_3 from (by (with_reducible repeat (first | apply Kd.R_alloc | apply Kd.R_drewN | apply Kd.R_drew)); exact HO_12.out))
                                          obtain ⟨ce79, hcl79, hM79, hcc79, hfr79⟩ := Kd.R_elem HX79.out z61 (x66_3 : Int) (of_decide_eq_true (by first | (with_reducible assumption) | assumption)) (by have h_ : (x66_3 : Int) < ((x12_3.length : Int) : Int) := of_decide_eq_true (by first | (with_reducible assumption) | assumption); first | exact h_ | (have e_ := (Kd.R_reads' HO_12.out).1; omega) | simpa using h_)
                                          obtain rfl := k61_openM hM79
                                          have HP79 := Kd.R_seg HX79.out (x66_3 : Int) (of_decide_eq_true (by first | (with_reducible assumption) | assumption)) (by have h_ : (x66_3 : Int) < ((x12_3.length : Int) : Int) := of_decide_eq_true (by first | (with_reducible assumption) | assumption); first | exact h_ | (have e_ := (Kd.R_reads' HO_12.out).1; omega) | simpa using h_) (seg := [.int .i64 (wrap64 (((rd_T61 x12_3 x66_3).f1) + 1))]) (j := 1) hcl79 hcc79 (show 2 ≤ 2 from by decide) (x' := (⟨(rd_T61 x12_3 x66_3).f0, wrap64 (((rd_T61 x12_3 x66_3).f1) + 1)⟩ : S61)) (k61_mkM _ _ _ (⟨(rd_T61 x12_3 x66_3).f0, wrap64 (((rd_T61 x12_3 x66_3).f1) + 1)⟩ : S61) ) (fun _ hk => hk)
                                          have hx79_1 := hcc79 1 _ rfl
                                          (try simp only [show (k61).sz = 2 from rfl, Nat.mul_one, Nat.add_zero] at hx79_1)
                                          have hf79_1 := hfr79 1
                                          (try simp only [show (k61).sz = 2 from rfl, Nat.mul_one, Nat.add_zero] at hf79_1)
                                          clear hcl79 hcc79 hfr79; (try clear hM79)
                                          go_wp2_with (first | ((with_reducible refine gate_store (t := 3) (p := 78) rfl ?_); refine store_event (t := 3) (p := 78) (v := ?vo_w80) (w1 := (wc.setCell ⟨go75, (x66_3 : Int).toNat * 2 + 1, none⟩ (.int .i64 (wrap64 (((rd_T61 x12_3 x66_3).f1) + 1))))) ?hg ?ho ?hn ?hr ?_; (case ho => rfl); (case hg => rfl); (case hn => rfl); (case hr => first | (go_simp; done) | (go_simp; rfl)); intro w80 hw; have hg : wc.grownBy w80 (some go75) := (by rw [hw]; exact HP79.2); have hp_ : Kd.R k61 61 w80 w.heap.size (fun k_ => k_ ≠ gb733) (.slice (some ⟨go75, 0, none⟩) x12_3.length co78) y740 := (by rw [hw, Ny740.out]; exact HP79.1); clear HP79; have n0_ := Aside0.mk (hp_); have n1_ := Aside0.mk (blk_grown (g := gb733) (o := .cells #[.int .i64 ((rd_T61 l0 x66_3).f0), .int .i64 ((rd_T61 l0 x66_3).f1)] 61 (0, 0)) (by (with_reducible repeat (first | refine blk_drewN ?_ _ | refine blk_drew ?_ | refine blk_alloc ?_ _)); exact BK733.out) hg (Kd.R_away HO_12.out (fun _ hk => hk))); have n2_ := Aside0.mk ((by rw [hw]; exact below_set (HB.out) GB75.out : Below w.heap.size w w80)); clear HO_12; clear BK733; clear HB; have HO_12 := n0_; have BK733 := n1_; have HB := n2_; clear n0_ n1_ n2_; clear hg hw hp_; have hcz81_0 : w80.cell? ⟨gb733, 0, none⟩ = some (.int .i64 ((rd_T61 l0 x66_3).f0)) := (blk_cell BK733.out 0).trans rfl; have hcz81_1 : w80.cell? ⟨gb733, 1, none⟩ = some (.int .i64 ((rd_T61 l0 x66_3).f1)) := (blk_cell BK733.out 1).trans rfl; have hfz81_0 := blk_frozen BK733.out 0; have hfz81_1 := blk_frozen BK733.out 1; have p741 : 0 ≤ (x66_3 : Int) := of_decide_eq_true (by first | (with_reducible assumption) | assumption); have q741 : x66_3 < (y740.length : Int) := (by have h_ : (x66_3 : Int) < ((x12_3.length : Int) : Int) := of_decide_eq_true (by first | (with_reducible assumption) | assumption); first | (have e_ := (Kd.R_reads' HO_12.out).1; omega) | simpa only [Ny740.out, List.length_set] using h_); have ql741 : ((x66_3 : Int) < ((x12_3.length : Int) : Int)) = True := eq_true (of_decide_eq_true (by first | (with_reducible assumption) | assumption)); obtain ⟨ad741, e741, hx741_0, hx741_1⟩ := at_T61 (Kd.R_reads' HO_12.out).2.2 x66_3 p741 q741; obtain rfl : (⟨go75, 0, none⟩ : Addr) = ad741 := (by injection e741); (first | simp only [add_plain] at hx741_0 | simp only [add_at] at hx741_0 | simp only [Addr.add, Nat.zero_add] at hx741_0 | skip); (first | simp only [add_plain] at hx741_1 | simp only [add_at] at hx741_1 | simp only [Addr.add, Nat.zero_add] at hx741_1 | skip); replace p741 := eq_true p741; replace q741 := eq_true q741; have p77 : 0 ≤ (x66_3 : Int) := of_decide_eq_true (by first | (with_reducible assumption) | assumption); have q77 : (x66_3 : Int) < ((x12_3.length : Int) : Int) := of_decide_eq_true (by first | (with_reducible assumption) | assumption); obtain ⟨ce77, hcl77, hM77, hcc77, hfr77⟩ := Kd.R_elem HO_12.out z61 (x66_3 : Int) p77 q77; obtain rfl := k61_openM hM77; have hx77_0 : w80.cell? ⟨go75, (x66_3 : Int).toNat * 2, none⟩ = some (.int .i64 ((rd_T61 y740 x66_3).f0)) := hcc77 0 _ rfl; have hx77_1 : w80.cell? ⟨go75, (x66_3 : Int).toNat * 2 + 1, none⟩ = some (.int .i64 ((rd_T61 y740 x66_3).f1)) := hcc77 1 _ rfl; have hf77_0 : w80.frozen? ⟨go75, (x66_3 : Int).toNat * 2, none⟩ = false := hfr77 0; have hf77_1 : w80.frozen? ⟨go75, (x66_3 : Int).toNat * 2 + 1, none⟩ = false := hfr77 1; clear hcl77 hcc77 hfr77; (try clear hM77); replace p77 := eq_true p77; replace q77 := eq_true q77; have HX82 := Aside0.mk (show Kd.R k61 61 w80 w.heap.size (fun k_ => k_ ≠ gb733) (.slice (some ⟨go75, 0, none⟩) x12_3.length co78) y740 from (by (with_reducible repeat (first | apply Kd.R_alloc | apply Kd.R_drewN | apply Kd.R_drew)); exact HO_12.out)); obtain ⟨ce82, hcl82, hM82, hcc82, hfr82⟩ := Kd.R_elem HX82.out z61 (x66_3 : Int) (of_decide_eq_true (by first | (with_reducible assumption) | assumption)) (by have h_ : (x66_3 : Int) < ((x12_3.length : Int) : Int) := of_decide_eq_true (by first | (with_reducible assumption) | assumption); first | exact h_ | (have e_ := (Kd.R_reads' HO_12.out).1; omega) | simpa using h_); obtain rfl := k61_openM hM82; have HP82 := Kd.R_seg HX82.out (x66_3 : Int) (of_decide_eq_true (by first | (with_reducible assumption) | assumption)) (by have h_ : (x66_3 : Int) < ((x12_3.length : Int) : Int) := of_decide_eq_true (by first | (with_reducible assumption) | assumption); first | exact h_ | (have e_ := (Kd.R_reads' HO_12.out).1; omega) | simpa using h_) (seg := [.int .i64 (wrap64 (((rd_T61 y740 x66_3).f0) + 1))]) (j := 0) hcl82 hcc82 (show 1 ≤ 2 from by decide) (x' := (⟨wrap64 (((rd_T61 y740 x66_3).f0) + 1), (rd_T61 y740 x66_3).f1⟩ : S61)) (k61_mkM _ _ _ (⟨wrap64 (((rd_T61 y740 x66_3).f0) + 1), (rd_T61 y740 x66_3).f1⟩ : S61) ) (fun _ hk => hk); have hx82_0 := hcc82 0 _ rfl; (try simp only [show (k61).sz = 2 from rfl, Nat.mul_one, Nat.add_zero] at hx82_0); have hf82_0 := hfr82 0; (try simp only [show (k61).sz = 2 from rfl, Nat.mul_one, Nat.add_zero] at hf82_0); clear hcl82 hcc82 hfr82; (try clear hM82)) | ((with_reducible refine gate_store (t := 3) (p := 112) rfl ?_); refine store_event (t := 3) (p := 112) (v := ?vo_w83) (w1 := (w80.setCell ⟨go75, (x66_3 : Int).toNat * 2, none⟩ (.int .i64 (wrap64 (((rd_T61 y740 x66_3).f0) + 1))))) ?hg ?ho ?hn ?hr ?_; (case ho => rfl); (case hg => rfl); (case hn => rfl); (case hr => first | (go_simp; done) | (go_simp; rfl)); intro w83 hw; have hg : w80.grownBy w83 (some go75) := (by rw [hw]; exact HP82.2); have hp_ : Kd.R k61 61 w83 w.heap.size (fun k_ => k_ ≠ gb733) (.slice (some ⟨go75, 0, none⟩) x12_3.length co78) y742 := (by rw [hw, Ny742.out]; exact HP82.1); clear HP82; have n0_ := Aside0.mk (hp_); have n1_ := Aside0.mk (blk_grown (g := gb733) (o := .cells #[.int .i64 ((rd_T61 l0 x66_3).f0), .int .i64 ((rd_T61 l0 x66_3).f1)] 61 (0, 0)) (by (with_reducible repeat (first | refine blk_drewN ?_ _ | refine blk_drew ?_ | refine blk_alloc ?_ _)); exact BK733.out) hg (Kd.R_away HO_12.out (fun _ hk => hk))); have n2_ := Aside0.mk ((by rw [hw]; exact below_set (HB.out) GB75.out : Below w.heap.size w w83)); clear HO_12; clear BK733; clear HB; have HO_12 := n0_; have BK733 := n1_; have HB := n2_; clear n0_ n1_ n2_; clear hg hw hp_))
                                          go_roundg kj52
                                          case measure => have := HK1.out; have := HK2.out; have := HK3.out; have := HJ52.out; omega
                                          case rel => exact ⟨(y742), (wrap64 (x66_3 + 1)), (by first | rfl | (simp; done) | (simp [*]; done)), H', ⟨by have := HK1.out; have := HK2.out; have := HK3.out; have := HJ52.out; omega⟩, ⟨by (with_reducible repeat (first | apply Kd.R_alloc | apply Kd.R_drewN | apply Kd.R_drew)); exact Kd.R_mono HO_12.out (fun _ hk => trivial)⟩, ⟨by repeat (first | (with_reducible first | exact HB.out | apply below_alloc | apply pw_below_drewN | apply below_drew1 | refine below_set ?_ GE733.out) | exact HB.out)⟩⟩
                                        · rw [if_neg c76] at H
                                          have c76b0 : decide (a1 ≤ ((rd_T61 l0 x66_3).f0)) = false := decide_eq_false c76
                                          clear c76
                                          have H' := Aside0.mk H
                                          clear H
                                          obtain ⟨Ao84, co84, eo84⟩ := Kd.R_slice HO_12.out
                                          subst eo84
                                          have p739 : 0 ≤ (x66_3 : Int) := of_decide_eq_true (by first | (with_reducible assumption) | assumption)
                                          have q739 : x66_3 < (x12_3.length : Int) := of_decide_eq_true (by first | (with_reducible assumption) | assumption)
                                          obtain ⟨ad739, e739, hx739_0, hx739_1⟩ := at_T61 (Kd.R_reads' HO_12.out).2.2 x66_3 p739 q739
                                          cases e739
                                          replace p739 := eq_true p739
                                          replace q739 := eq_true q739
                                          have p75 : 0 ≤ (x66_3 : Int) := of_decide_eq_true (by first | (with_reducible assumption) | assumption)
                                          have q75 : (x66_3 : Int) < ((x12_3.length : Int) : Int) := of_decide_eq_true (by first | (with_reducible assumption) | assumption)
                                          obtain ⟨go75, co75, eo75, gb75, gl75, cl75, HG75⟩ := Kd.R_form HO_12.out (by omega)
                                          (first | cases eo75 | (injection eo75 with ea_ en_ ec_; (first | subst ea_ | (injection ea_ with ea_; subst ea_)); subst ec_; clear en_))
                                          have GB75 := Aside0.mk gb75
                                          have GG75 := Aside0.mk HG75
                                          clear gb75 gl75 HG75
                                          (first | simp only [add_plain] at hx739_0 | skip)
                                          (first | simp only [add_plain] at hx739_1 | skip)
                                          obtain ⟨ce75, hcl75, hM75, hcc75, hfr75⟩ := Kd.R_elem HO_12.out z61 (x66_3 : Int) p75 q75
                                          obtain rfl := k61_openM hM75
                                          have hx75_0 : wc.cell? ⟨go75, (x66_3 : Int).toNat * 2, none⟩ = some (.int .i64 ((rd_T61 x12_3 x66_3).f0)) := hcc75 0 _ rfl
                                          have hx75_1 : wc.cell? ⟨go75, (x66_3 : Int).toNat * 2 + 1, none⟩ = some (.int .i64 ((rd_T61 x12_3 x66_3).f1)) := hcc75 1 _ rfl
                                          have hf75_0 : wc.frozen? ⟨go75, (x66_3 : Int).toNat * 2, none⟩ = false := hfr75 0
                                          have hf75_1 : wc.frozen? ⟨go75, (x66_3 : Int).toNat * 2 + 1, none⟩ = false := hfr75 1
                                          clear hcl75 hcc75 hfr75; (try clear hM75)
                                          replace p75 := eq_true p75
                                          replace q75 := eq_true q75
                                          have HX85 := Aside0.mk (show Kd.R k61 61 wc w.heap.size (fun k_ => k_ ≠ gb733) (.slice (some ⟨go75, 0, none⟩) x12_3.length co84) x12_3 from (by (with_reducible repeat (first | apply Kd.R_alloc | apply Kd.R_drewN | apply Kd.R_drew)); exact HO_12.out))
                                          obtain ⟨ce85, hcl85, hM85, hcc85, hfr85⟩ := Kd.R_elem HX85.out z61 (x66_3 : Int) (of_decide_eq_true (by first | (with_reducible assumption) | assumption)) (by have h_ : (x66_3 : Int) < ((x12_3.length : Int) : Int) := of_decide_eq_true (by first | (with_reducible assumption) | assumption); first | exact h_ | (have e_ := (Kd.R_reads' HO_12.out).1; omega) | simpa using h_)
                                          obtain rfl := k61_openM hM85
                                          have HP85 := Kd.R_seg HX85.out (x66_3 : Int) (of_decide_eq_true (by first | (with_reducible assumption) | assumption)) (by have h_ : (x66_3 : Int) < ((x12_3.length : Int) : Int) := of_decide_eq_true (by first | (with_reducible assumption) | assumption); first | exact h_ | (have e_ := (Kd.R_reads' HO_12.out).1; omega) | simpa using h_) (seg := [.int .i64 (wrap64 (((rd_T61 x12_3 x66_3).f1) + 1))]) (j := 1) hcl85 hcc85 (show 2 ≤ 2 from by decide) (x' := (⟨(rd_T61 x12_3 x66_3).f0, wrap64 (((rd_T61 x12_3 x66_3).f1) + 1)⟩ : S61)) (k61_mkM _ _ _ (⟨(rd_T61 x12_3 x66_3).f0, wrap64 (((rd_T61 x12_3 x66_3).f1) + 1)⟩ : S61) ) (fun _ hk => hk)
                                          have hx85_1 := hcc85 1 _ rfl
                                          (try simp only [show (k61).sz = 2 from rfl, Nat.mul_one, Nat.add_zero] at hx85_1)
                                          have hf85_1 := hfr85 1
                                          (try simp only [show (k61).sz = 2 from rfl, Nat.mul_one, Nat.add_zero] at hf85_1)
                                          clear hcl85 hcc85 hfr85; (try clear hM85)
                                          go_wp2_with (first | ((with_reducible refine gate_store (t := 3) (p := 78) rfl ?_); refine store_event (t := 3) (p := 78) (v := ?vo_w86) (w1 := (wc.setCell ⟨go75, (x66_3 : Int).toNat * 2 + 1, none⟩ (.int .i64 (wrap64 (((rd_T61 x12_3 x66_3).f1) + 1))))) ?hg ?ho ?hn ?hr ?_; (case ho => rfl); (case hg => rfl); (case hn => rfl); (case hr => first | (go_simp; done) | (go_simp; rfl)); intro w86 hw; have hg : wc.grownBy w86 (some go75) := (by rw [hw]; exact HP85.2); have hp_ : Kd.R k61 61 w86 w.heap.size (fun k_ => k_ ≠ gb733) (.slice (some ⟨go75, 0, none⟩) x12_3.length co84) y740 := (by rw [hw, Ny740.out]; exact HP85.1); clear HP85; have n0_ := Aside0.mk (hp_); have n1_ := Aside0.mk (blk_grown (g := gb733) (o := .cells #[.int .i64 ((rd_T61 l0 x66_3).f0), .int .i64 ((rd_T61 l0 x66_3).f1)] 61 (0, 0)) (by (with_reducible repeat (first | refine blk_drewN ?_ _ | refine blk_drew ?_ | refine blk_alloc ?_ _)); exact BK733.out) hg (Kd.R_away HO_12.out (fun _ hk => hk))); have n2_ := Aside0.mk ((by rw [hw]; exact below_set (HB.out) GB75.out : Below w.heap.size w w86)); clear HO_12; clear BK733; clear HB; have HO_12 := n0_; have BK733 := n1_; have HB := n2_; clear n0_ n1_ n2_; clear hg hw hp_; have hcz87_0 : w86.cell? ⟨gb733, 0, none⟩ = some (.int .i64 ((rd_T61 l0 x66_3).f0)) := (blk_cell BK733.out 0).trans rfl; have hcz87_1 : w86.cell? ⟨gb733, 1, none⟩ = some (.int .i64 ((rd_T61 l0 x66_3).f1)) := (blk_cell BK733.out 1).trans rfl; have hfz87_0 := blk_frozen BK733.out 0; have hfz87_1 := blk_frozen BK733.out 1))
                                          go_roundg kj52
                                          case measure => have := HK1.out; have := HK2.out; have := HK3.out; have := HJ52.out; omega
                                          case rel => exact ⟨(y740), (wrap64 (x66_3 + 1)), (by first | rfl | (simp; done) | (simp [*]; done)), H', ⟨by have := HK1.out; have := HK2.out; have := HK3.out; have := HJ52.out; omega⟩, ⟨by (with_reducible repeat (first | apply Kd.R_alloc | apply Kd.R_drewN | apply Kd.R_drew)); exact Kd.R_mono HO_12.out (fun _ hk => trivial)⟩, ⟨by repeat (first | (with_reducible first | exact HB.out | apply below_alloc | apply pw_below_drewN | apply below_drew1 | refine below_set ?_ GE733.out) | exact HB.out)⟩⟩
                                      · rw [if_neg c74] at H
                                        exact absurd H (by simp)
                                    · rw [if_neg c73] at H
                                      exact absurd H (by simp)
                          · rw [if_neg c39] at H
                            exact absurd H (by simp)
                        · rw [if_neg c38] at H
                          exact absurd H (by simp)
                      · rw [if_neg c37] at H
                        have c37b0 : decide (x66_3 < (l0.length : Int)) = false := decide_eq_false c37
                        clear c37
                        by_cases c88 : x12_3.length < 8796093022208
                        · rw [if_pos c88] at H
                          have LMc88 := Aside0.mk c88
                          clear c88
                          obtain ⟨y729, hy729⟩ : ∃ y_ : List (S61), y_ = (x12_3 ++ [(⟨a1, (t715.length : Int)⟩ : S61)]) := ⟨_, rfl⟩
                          replace H : (some y729) = some r := by first | (rw [hy729]; with_reducible exact H) | (have H2_ := (Option.bind_some _ _).symm.trans H; rw [hy729]; with_reducible exact H2_) | (have H2_ := (Option.bind_some _ _).symm.trans H; with_reducible exact H2_) | with_reducible exact H | (rw [hy729]; exact H) | exact H
                          have Ny729 := Aside0.mk hy729
                          clear hy729
                          obtain rfl := Option.some.inj H
                          go_wp2_with (first | ((with_reducible refine gate_builtin (b := .append) (xs := #[.tmp 114, .tmp 118]) rfl ?_); at_builtin; refine Kd.R_append k61 (w0 := w) w.heap.size rfl (.tmp 114) (.tmp 118) 40 61 (.agg #[(.int .i64 0), (.int .i64 0)]) 16 rfl Try.underlying40 info61 rfl (by decide) (by omega) v724 x12_3 (⟨a1, (t715.length : Int)⟩ : S61) [.int .i64 a1, .int .i64 (t715.length : Int)] (fun _ => True) (fun _ => False) rfl rfl ?aP (fun _ hk => hk.elim) ?aF ?aO ?aB ?aS ?aL ?_; (case aP => exact k61_mkM _ _ _ (⟨a1, (t715.length : Int)⟩ : S61)); (case aB => exact (by repeat (first | (with_reducible first | exact HB.out | apply below_alloc | apply pw_below_drewN | apply below_drew1) | exact HB.out))); (case aF => exact (fun _ _ => trivial)); (case aO => exact (by (with_reducible repeat (first | apply Kd.R_alloc | apply Kd.R_drewN | apply Kd.R_drew)); exact HO_12.out)); (case aS => exact (below_size (by repeat (first | (with_reducible first | exact HB.out | apply below_alloc | apply pw_below_drewN | apply below_drew1) | exact HB.out)))); (case aL => have := LMc88.out; omega); intro v730 w89 ho hb hg hat; rw [← Ny729.out] at ho; have n0_ := Aside0.mk (hb); have n1_ := Aside0.mk (ho); clear HB; clear HO_12; have HB := n0_; have HO731 := n1_; clear n0_ n1_; clear ho hb hg hat))
                          go_ret
                          exact ⟨_, by first | rfl | (simp [errW_none, errW_some] <;> rfl) | (simp [*, errW_none, errW_some] <;> rfl), by (with_reducible repeat (first | apply Kd.R_alloc | apply Kd.R_drewN | apply Kd.R_drew)); exact HO731.out, by repeat (first | (with_reducible first | exact HB.out | apply below_alloc | apply pw_below_drewN | apply below_drew1) | exact HB.out)⟩
                        · rw [if_neg c88] at H
                          exact absurd H (by simp)

end Go.Proofs.Ytjojalbgpemjoaa.Q
