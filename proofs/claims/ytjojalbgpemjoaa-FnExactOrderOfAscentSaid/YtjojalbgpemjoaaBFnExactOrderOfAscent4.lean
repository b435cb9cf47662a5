import Derived.Test.YtjojalbgpemjoaaBFnExactOrderOfAscent0
import Derived.Test.YtjojalbgpemjoaaBFnExactOrderOfAscent3
-- printed by this project's own program (wip/mp/mp.py) over the kit's print, for this seat; Lean checks it
namespace Go.Proofs.Ytjojalbgpemjoaa.Q
open Go.RowKit Go.Proofs.YtjojalbgpemjoaaW.PrintWords Go.Proofs.YtjojalbgpemjoaaW.PrintLast Go.Proofs.YtjojalbgpemjoaaW.PrintMore
attribute [local go_sem] max2_int min2_int max_two min_two max_three min_three max_four min_four   -- for this text's walks alone
set_option linter.unusedVariables false
set_option linter.unusedSimpArgs false

/-! ### spec_asGrow: function 92 -/
mutual
def spec_asGrow.l0 : Nat → List (S61) → Int → Int → Int → List (S61) → Int → Int → Option ((List (S61)) × Int)
  | 0, _, _, _, _, _, _, _ => none
  | k + 1, x0, x1, x2, x8, x16, x17, x18 => if x18 < x17 then (if 0 ≤ x18 then (if x18 < (x16.length : Int) then (if ((rd_T61 x16 x18).f1) = (wrap64 (x2 - 1)) then ((spec_l1Least.f x8 ((rd_T61 x16 x18).f0)).bind fun t654 => (spec_asGrow.l0 k x0 x1 x2 t654 x16 x17 (wrap64 (x18 + 1)))) else (spec_asGrow.l0 k x0 x1 x2 x8 x16 x17 (wrap64 (x18 + 1)))) else (none)) else (none)) else (if x1 ≤ x8 then (spec_asGrow.j1 k x0 x1 x2 (decide (x2 > 0))) else (spec_asGrow.j1 k x0 x1 x2 false))
def spec_asGrow.j1 : Nat → List (S61) → Int → Int → Bool → Option ((List (S61)) × Int)
  | 0, _, _, _, _ => none
  | k + 1, x0, x1, x2, x38 => if x38 = true then ((some (([] : List (S61)) : List (S61))).bind fun y655 => (if y655.length + x0.length < 8796093022208 then ((some (y655 ++ x0 : List (S61))).bind fun y658 => (if y658.length < 8796093022208 then (some ((y658 ++ [(⟨x1, wrap64 (x2 - 1)⟩ : S61)]), x2)) else (none))) else (none))) else (spec_asGrow.l1 k x1 x2 ([] : List (S61)) x0 (x0.length : Int) 0)
def spec_asGrow.l1 : Nat → Int → Int → List (S61) → List (S61) → Int → Int → Option ((List (S61)) × Int)
  | 0, _, _, _, _, _, _ => none
  | k + 1, x1, x2, x11, x49, x50, x51 => if x51 < x50 then (if 0 ≤ x51 then (if x51 < (x49.length : Int) then (if ((rd_T61 x49 x51).f1) ≥ x1 then (if ((rd_T61 x49 x51).f1) = (wrap64 (x2 - 1)) then (spec_asGrow.j3 k x1 x2 x11 x49 x50 x51 (decide (((rd_T61 x49 x51).f0) < x1)) ((rd_T61 x49 x51).f0) ((rd_T61 x49 x51).f1) ((rd_T61 x49 x51).f0) (wrap64 (((rd_T61 x49 x51).f1) + 1))) else (spec_asGrow.j3 k x1 x2 x11 x49 x50 x51 false ((rd_T61 x49 x51).f0) ((rd_T61 x49 x51).f1) ((rd_T61 x49 x51).f0) (wrap64 (((rd_T61 x49 x51).f1) + 1)))) else (if ((rd_T61 x49 x51).f0) ≥ x1 then (if x11.length < 8796093022208 then (spec_asGrow.l1 k x1 x2 (x11 ++ [(⟨wrap64 (((rd_T61 x49 x51).f0) + 1), (rd_T61 x49 x51).f1⟩ : S61)]) x49 x50 (wrap64 (x51 + 1))) else (none)) else (if x11.length < 8796093022208 then (spec_asGrow.l1 k x1 x2 (x11 ++ [(⟨(rd_T61 x49 x51).f0, (rd_T61 x49 x51).f1⟩ : S61)]) x49 x50 (wrap64 (x51 + 1))) else (none)))) else (none)) else (none)) else (if x11.length < 8796093022208 then (some ((x11 ++ [(⟨x1, x2⟩ : S61)]), wrap64 (x2 + 1))) else (none))
def spec_asGrow.j3 : Nat → Int → Int → List (S61) → List (S61) → Int → Int → Bool → Int → Int → Int → Int → Option ((List (S61)) × Int)
  | 0, _, _, _, _, _, _, _, _, _, _, _ => none
  | k + 1, x1, x2, x11, x49, x50, x51, x74, x669000, x669001, x670000, x670001 => if x74 = true then (if x669000 ≥ x1 then (if x11.length < 8796093022208 then (spec_asGrow.l1 k x1 x2 (x11 ++ [(⟨wrap64 (x669000 + 1), x1⟩ : S61)]) x49 x50 (wrap64 (x51 + 1))) else (none)) else (if x11.length < 8796093022208 then (spec_asGrow.l1 k x1 x2 (x11 ++ [(⟨x670000, x1⟩ : S61)]) x49 x50 (wrap64 (x51 + 1))) else (none))) else (if x669000 ≥ x1 then (if x11.length < 8796093022208 then (spec_asGrow.l1 k x1 x2 (x11 ++ [(⟨wrap64 (x669000 + 1), x670001⟩ : S61)]) x49 x50 (wrap64 (x51 + 1))) else (none)) else (if x11.length < 8796093022208 then (spec_asGrow.l1 k x1 x2 (x11 ++ [(⟨x670000, x670001⟩ : S61)]) x49 x50 (wrap64 (x51 + 1))) else (none)))
end
def spec_asGrow.f (k : Nat) (l0 : List (S61)) (a1 : Int) (a2 : Int) : Option ((List (S61)) × Int) := spec_asGrow.l0 k l0 a1 a2 a2 l0 (l0.length : Int) 0
theorem spec_asGrow.mono_l : ∀ k, (∀ y0 y1 y2 y3 y4 y5 y6, LeO (spec_asGrow.l0 k y0 y1 y2 y3 y4 y5 y6) (spec_asGrow.l0 (k + 1) y0 y1 y2 y3 y4 y5 y6)) ∧ (∀ y0 y1 y2 y3, LeO (spec_asGrow.j1 k y0 y1 y2 y3) (spec_asGrow.j1 (k + 1) y0 y1 y2 y3)) ∧ (∀ y0 y1 y2 y3 y4 y5, LeO (spec_asGrow.l1 k y0 y1 y2 y3 y4 y5) (spec_asGrow.l1 (k + 1) y0 y1 y2 y3 y4 y5)) ∧ (∀ y0 y1 y2 y3 y4 y5 y6 y7 y8 y9 y10, LeO (spec_asGrow.j3 k y0 y1 y2 y3 y4 y5 y6 y7 y8 y9 y10) (spec_asGrow.j3 (k + 1) y0 y1 y2 y3 y4 y5 y6 y7 y8 y9 y10))
  | 0 => ⟨fun _ _ _ _ _ _ _ r h => by simp [spec_asGrow.l0] at h, fun _ _ _ _ r h => by simp [spec_asGrow.j1] at h, fun _ _ _ _ _ _ r h => by simp [spec_asGrow.l1] at h, fun _ _ _ _ _ _ _ _ _ _ _ r h => by simp [spec_asGrow.j3] at h⟩
  | k + 1 => by
    obtain ⟨ih0, ih1, ih2, ih3⟩ := spec_asGrow.mono_l k
    refine ⟨?_, ?_, ?_, ?_⟩
    · intro y0 y1 y2 y3 y4 y5 y6
      unfold spec_asGrow.l0
      repeat' first
      | (with_reducible exact ih0 _ _ _ _ _ _ _)
      | (with_reducible exact ih1 _ _ _ _)
      | (with_reducible exact ih2 _ _ _ _ _ _)
      | (with_reducible exact ih3 _ _ _ _ _ _ _ _ _ _ _)
      | (with_reducible exact LeO.refl _)
      | (with_reducible exact LeO.none _)
      | (with_reducible refine LeO.ite ?_ ?_)
      | (with_reducible refine LeO.bind ?_ (fun _ => ?_))
      | exact ih0 _ _ _ _ _ _ _
      | exact ih1 _ _ _ _
      | exact ih2 _ _ _ _ _ _
      | exact ih3 _ _ _ _ _ _ _ _ _ _ _
      | exact LeO.none _
      | refine LeO.ite ?_ ?_
      | refine LeO.bind ?_ (fun _ => ?_)
    · intro y0 y1 y2 y3
      unfold spec_asGrow.j1
      repeat' first
      | (with_reducible exact ih0 _ _ _ _ _ _ _)
      | (with_reducible exact ih1 _ _ _ _)
      | (with_reducible exact ih2 _ _ _ _ _ _)
      | (with_reducible exact ih3 _ _ _ _ _ _ _ _ _ _ _)
      | (with_reducible exact LeO.refl _)
      | (with_reducible exact LeO.none _)
      | (with_reducible refine LeO.ite ?_ ?_)
      | (with_reducible refine LeO.bind ?_ (fun _ => ?_))
      | exact ih0 _ _ _ _ _ _ _
      | exact ih1 _ _ _ _
      | exact ih2 _ _ _ _ _ _
      | exact ih3 _ _ _ _ _ _ _ _ _ _ _
      | exact LeO.none _
      | refine LeO.ite ?_ ?_
      | refine LeO.bind ?_ (fun _ => ?_)
    · intro y0 y1 y2 y3 y4 y5
      unfold spec_asGrow.l1
      repeat' first
      | (with_reducible exact ih0 _ _ _ _ _ _ _)
      | (with_reducible exact ih1 _ _ _ _)
      | (with_reducible exact ih2 _ _ _ _ _ _)
      | (with_reducible exact ih3 _ _ _ _ _ _ _ _ _ _ _)
      | (with_reducible exact LeO.refl _)
      | (with_reducible exact LeO.none _)
      | (with_reducible refine LeO.ite ?_ ?_)
      | (with_reducible refine LeO.bind ?_ (fun _ => ?_))
      | exact ih0 _ _ _ _ _ _ _
      | exact ih1 _ _ _ _
      | exact ih2 _ _ _ _ _ _
      | exact ih3 _ _ _ _ _ _ _ _ _ _ _
      | exact LeO.none _
      | refine LeO.ite ?_ ?_
      | refine LeO.bind ?_ (fun _ => ?_)
    · intro y0 y1 y2 y3 y4 y5 y6 y7 y8 y9 y10
      unfold spec_asGrow.j3
      repeat' first
      | (with_reducible exact ih0 _ _ _ _ _ _ _)
      | (with_reducible exact ih1 _ _ _ _)
      | (with_reducible exact ih2 _ _ _ _ _ _)
      | (with_reducible exact ih3 _ _ _ _ _ _ _ _ _ _ _)
      | (with_reducible exact LeO.refl _)
      | (with_reducible exact LeO.none _)
      | (with_reducible refine LeO.ite ?_ ?_)
      | (with_reducible refine LeO.bind ?_ (fun _ => ?_))
      | exact ih0 _ _ _ _ _ _ _
      | exact ih1 _ _ _ _
      | exact ih2 _ _ _ _ _ _
      | exact ih3 _ _ _ _ _ _ _ _ _ _ _
      | exact LeO.none _
      | refine LeO.ite ?_ ?_
      | refine LeO.bind ?_ (fun _ => ?_)
theorem spec_asGrow.mono : ∀ a0 a1 a2 k, LeO (spec_asGrow.f k a0 a1 a2) (spec_asGrow.f (k + 1) a0 a1 a2) := by
  intro a0 a1 a2 k
  obtain ⟨ih0, ih1, ih2, ih3⟩ := spec_asGrow.mono_l k
  unfold spec_asGrow.f
  repeat' first
      | (with_reducible exact ih0 _ _ _ _ _ _ _)
      | (with_reducible exact ih1 _ _ _ _)
      | (with_reducible exact ih2 _ _ _ _ _ _)
      | (with_reducible exact ih3 _ _ _ _ _ _ _ _ _ _ _)
      | (with_reducible exact LeO.refl _)
      | (with_reducible exact LeO.none _)
      | (with_reducible refine LeO.ite ?_ ?_)
      | (with_reducible refine LeO.bind ?_ (fun _ => ?_))
      | exact ih0 _ _ _ _ _ _ _
      | exact ih1 _ _ _ _
      | exact ih2 _ _ _ _ _ _
      | exact ih3 _ _ _ _ _ _ _ _ _ _ _
      | exact LeO.none _
      | refine LeO.ite ?_ ?_
      | refine LeO.bind ?_ (fun _ => ?_)
set_option maxHeartbeats 8000000 in
set_option maxRecDepth 100000 in
theorem spec_asGrow.calls (k : Nat) (A0 : Option Addr) (c0 : Nat) (l0 : List (S61)) (a1 : Int) (a2 : Int) (r1 : List (S61)) (r2 : Int) (w : World) (hr0 : Kd.C k61 w A0 l0.length l0) (hc0 : l0.length ≤ c0) (h : spec_asGrow.f k l0 a1 a2 = some (r1, r2)) :
    Calls Try.prog 92 #[.slice A0 l0.length c0, .int .i64 a1, .int .i64 a2] w fun e w' => ∃ v0_ : Value, e = .returned (.tuple #[v0_, .int .i64 r2]) ∧ Kd.R k61 61 w' w.heap.size (fun _ => True) v0_ r1 ∧ Below w.heap.size w w' := by
  have hu61 := Try.underlying61
  have HR0 := Aside0.mk hr0
  have HC0 := Aside0.mk hc0
  clear hr0 hc0
  have HB := Aside0.mk (Below.refl w.heap.size w)
  have H : (spec_asGrow.l0 k l0 a1 a2 a2 l0 (l0.length : Int) 0) = some (r1, r2) := h
  clear h
  have H' := Aside0.mk H
  clear H
  go_enter Try.func92, Try.ntmps92
  go_wp2
  go_loopg [8, 18] k (fun kq v8 v18 w' => ∃ (x8_1 : Int) (x18_1 : Int), v8 = .int .i64 x8_1 ∧ v18 = .int .i64 x18_1 ∧ Aside0 (spec_asGrow.l0 kq l0 a1 a2 x8_1 l0 (l0.length : Int) x18_1 = some (r1, r2)) ∧ Aside0 (kq ≤ k) ∧ Aside0 (Below w.heap.size w w'))
  case atStart => exact ⟨(a2), (0), (by first | rfl | (simp; done) | (simp [*]; done)), (by first | rfl | (simp; done) | (simp [*]; done)), H', ⟨Nat.le_refl _⟩, ⟨by repeat (first | (with_reducible first | exact HB.out | apply below_alloc | apply pw_below_drewN | apply below_drew1) | exact HB.out)⟩⟩
  case round =>
    clear H'
    try clear p2
    obtain ⟨x8_1, x18_1, rfl, rfl, HA, HK1, HB⟩ := hrel
    cases gk with
    | zero => exact absurd HA.out (by simp [spec_asGrow.l0])
    | succ k1 =>
      have H := HA.out
      clear HA
      simp only [spec_asGrow.l0] at H
      by_cases c4 : x18_1 < (l0.length : Int)
      · rw [if_pos c4] at H
        have c4b0 : decide (x18_1 < (l0.length : Int)) = true := decide_eq_true c4
        clear c4
        by_cases c5 : 0 ≤ x18_1
        · rw [if_pos c5] at H
          have c5b0 : decide (0 ≤ x18_1) = true := decide_eq_true c5
          clear c5
          by_cases c6 : x18_1 < (l0.length : Int)
          · rw [if_pos c6] at H
            have c6b0 : decide (x18_1 < (l0.length : Int)) = true := decide_eq_true c6
            clear c6
            by_cases c7 : ((rd_T61 l0 x18_1).f1) = (wrap64 (a2 - 1))
            · rw [if_pos c7] at H
              have c7b0 : (((rd_T61 l0 x18_1).f1) == (wrap64 (a2 - 1))) = true := beq_iff_eq.mpr c7
              have c7b1 : (((rd_T61 l0 x18_1).f1) != (wrap64 (a2 - 1))) = false := bne_eq_false_iff_eq.mpr c7
              clear c7
              replace H := Option.bind_eq_some_iff.mp H
              obtain ⟨t654, A80, H⟩ := H
              replace H : (spec_asGrow.l0 k1 l0 a1 a2 t654 l0 (l0.length : Int) (wrap64 (x18_1 + 1))) = some (r1, r2) := H
              have A8 := Aside0.mk A80
              clear A80
              have H' := Aside0.mk H
              clear H
              have p652 : 0 ≤ (x18_1 : Int) := of_decide_eq_true (by first | (with_reducible assumption) | assumption)
              have q652 : x18_1 < (l0.length : Int) := of_decide_eq_true (by first | (with_reducible assumption) | assumption)
              obtain ⟨ad652, e652, hx652_0, hx652_1⟩ := at_T61 HR0.out x18_1 p652 q652
              cases e652
              replace hx652_0 := (HB.out.cell (World.block_lt_of_cell? w _ hx652_0)).trans hx652_0
              replace hx652_1 := (HB.out.cell (World.block_lt_of_cell? w _ hx652_1)).trans hx652_1
              replace p652 := eq_true p652
              replace q652 := eq_true q652
              go_wp2_with (first | ((with_reducible refine gate_dst (N := 10) rfl ?_); refine box_event ?hg (N := 10) ?hd (cs := #[.int .i64 0, .int .i64 0]) (t := 61) ?hr ?_; (case hd => rfl); (case hg => rfl); (case hr => first | (go_simp; done) | (go_simp; rfl)); intro gb653 hg w9 hbox hb; have n0_ := Aside0.mk (below_step (by repeat (first | (with_reducible first | exact HB.out | apply below_alloc | apply pw_below_drewN | apply below_drew1) | exact HB.out)) hb); have n1_ := Aside0.mk (hbox); have n2_ := Aside0.mk ((by rw [hg]; exact (below_size (by repeat (first | (with_reducible first | exact HB.out | apply below_alloc | apply pw_below_drewN | apply below_drew1) | exact HB.out))) : w.heap.size ≤ gb653)); have n3_ := Aside0.mk ((by rw [hg]; exact (below_size (by repeat (first | (with_reducible first | exact HB.out | apply below_alloc | apply pw_below_drewN | apply below_drew1) | exact HB.out))) : w.heap.size ≤ gb653)); clear HB; have HB := n0_; have BK653 := n1_; have GW653 := n2_; have GE653 := n3_; clear n0_ n1_ n2_ n3_; clear hb hbox hg; have hcz10_0 : w9.cell? ⟨gb653, 0, none⟩ = some (.int .i64 0) := (blk_cell BK653.out 0).trans rfl; have hcz10_1 : w9.cell? ⟨gb653, 1, none⟩ = some (.int .i64 0) := (blk_cell BK653.out 1).trans rfl; have hfz10_0 := blk_frozen BK653.out 0; have hfz10_1 := blk_frozen BK653.out 1) | ((with_reducible refine gate_callee (f := 104) rfl ?_); refine goesL_ (some 30) rfl rfl Try.func104 (by kernel_rfl) rfl #[.int .i64 x8_1, .int .i64 ((rd_T61 l0 x18_1).f0)] rfl (by (try simp only [List.map_toArray, List.map_cons, List.map_nil]); first | done | rfl | (simp only [List.length_drop, List.length_take]; rfl)) ?_; (with_reducible refine (spec_l1Least.calls x8_1 ((rd_T61 l0 x18_1).f0) t654 _ A8.out).mono ?_); rintro e w' ⟨rfl, ⟨nd, rfl⟩⟩; refine ⟨_, rfl, ?_⟩))
              go_roundg k1
              case measure => have := HK1.out; omega
              case rel => exact ⟨(t654), (wrap64 (x18_1 + 1)), (by first | rfl | (simp; done) | (simp [*]; done)), (by first | rfl | (simp; done) | (simp [*]; done)), H', ⟨by have := HK1.out; omega⟩, ⟨by repeat (first | (with_reducible first | exact HB.out | apply below_alloc | apply pw_below_drewN | apply below_drew1 | refine below_set ?_ GE653.out) | exact HB.out)⟩⟩
            · rw [if_neg c7] at H
              have c7b0 : (((rd_T61 l0 x18_1).f1) == (wrap64 (a2 - 1))) = false := beq_eq_false_iff_ne.mpr c7
              have c7b1 : (((rd_T61 l0 x18_1).f1) != (wrap64 (a2 - 1))) = true := bne_iff_ne.mpr c7
              have H' := Aside0.mk H
              clear H
              have p652 : 0 ≤ (x18_1 : Int) := of_decide_eq_true (by first | (with_reducible assumption) | assumption)
              have q652 : x18_1 < (l0.length : Int) := of_decide_eq_true (by first | (with_reducible assumption) | assumption)
              obtain ⟨ad652, e652, hx652_0, hx652_1⟩ := at_T61 HR0.out x18_1 p652 q652
              cases e652
              replace hx652_0 := (HB.out.cell (World.block_lt_of_cell? w _ hx652_0)).trans hx652_0
              replace hx652_1 := (HB.out.cell (World.block_lt_of_cell? w _ hx652_1)).trans hx652_1
              replace p652 := eq_true p652
              replace q652 := eq_true q652
              go_wp2_with (first | ((with_reducible refine gate_dst (N := 10) rfl ?_); refine box_event ?hg (N := 10) ?hd (cs := #[.int .i64 0, .int .i64 0]) (t := 61) ?hr ?_; (case hd => rfl); (case hg => rfl); (case hr => first | (go_simp; done) | (go_simp; rfl)); intro gb653 hg w11 hbox hb; have n0_ := Aside0.mk (below_step (by repeat (first | (with_reducible first | exact HB.out | apply below_alloc | apply pw_below_drewN | apply below_drew1) | exact HB.out)) hb); have n1_ := Aside0.mk (hbox); have n2_ := Aside0.mk ((by rw [hg]; exact (below_size (by repeat (first | (with_reducible first | exact HB.out | apply below_alloc | apply pw_below_drewN | apply below_drew1) | exact HB.out))) : w.heap.size ≤ gb653)); have n3_ := Aside0.mk ((by rw [hg]; exact (below_size (by repeat (first | (with_reducible first | exact HB.out | apply below_alloc | apply pw_below_drewN | apply below_drew1) | exact HB.out))) : w.heap.size ≤ gb653)); clear HB; have HB := n0_; have BK653 := n1_; have GW653 := n2_; have GE653 := n3_; clear n0_ n1_ n2_ n3_; clear hb hbox hg; have hcz12_0 : w11.cell? ⟨gb653, 0, none⟩ = some (.int .i64 0) := (blk_cell BK653.out 0).trans rfl; have hcz12_1 : w11.cell? ⟨gb653, 1, none⟩ = some (.int .i64 0) := (blk_cell BK653.out 1).trans rfl; have hfz12_0 := blk_frozen BK653.out 0; have hfz12_1 := blk_frozen BK653.out 1))
              go_roundg k1
              case measure => have := HK1.out; omega
              case rel => exact ⟨(x8_1), (wrap64 (x18_1 + 1)), (by first | rfl | (simp; done) | (simp [*]; done)), (by first | rfl | (simp; done) | (simp [*]; done)), H', ⟨by have := HK1.out; omega⟩, ⟨by repeat (first | (with_reducible first | exact HB.out | apply below_alloc | apply pw_below_drewN | apply below_drew1 | refine below_set ?_ GE653.out) | exact HB.out)⟩⟩
          · rw [if_neg c6] at H
            exact absurd H (by simp)
        · rw [if_neg c5] at H
          exact absurd H (by simp)
      · rw [if_neg c4] at H
        have c4b0 : decide (x18_1 < (l0.length : Int)) = false := decide_eq_false c4
        clear c4
        have HC13 := Aside0.mk H
        clear H
        go_upto_region 8 with (fail)
        go_cut [38] (fun v38 wc => ∃ (kq : Nat) (x38_12 : Bool), v38 = .bool x38_12 ∧ Aside0 (spec_asGrow.j1 kq l0 a1 a2 x38_12 = some (r1, r2)) ∧ Aside0 (kq ≤ k1) ∧ Aside0 (Below w.heap.size w wc))
        case first =>
          have H := HC13.out
          clear HC13
          by_cases c14 : a1 ≤ x8_1
          · rw [if_pos c14] at H
            have c14b0 : decide (a1 ≤ x8_1) = true := decide_eq_true c14
            clear c14
            (first | rw [c14b0] | (simp only [i64_w, i32_w]; rw [c14b0]) | skip)
            have H' := Aside0.mk H
            clear H
            go_wp2
            go_meet
            case rel => exact ⟨_, (decide (a2 > 0)), (by first | rfl | (simp; done) | (simp [*]; done)), H', ⟨by have := HK1.out; first | omega | exact Nat.le_refl _⟩, ⟨by repeat (first | (with_reducible first | exact HB.out | apply below_alloc | apply pw_below_drewN | apply below_drew1) | exact HB.out)⟩⟩
          · rw [if_neg c14] at H
            have c14b0 : decide (a1 ≤ x8_1) = false := decide_eq_false c14
            clear c14
            (first | rw [c14b0] | (simp only [i64_w, i32_w]; rw [c14b0]) | skip)
            have H' := Aside0.mk H
            clear H
            go_wp2
            go_meet
            case rel => exact ⟨_, (false), (by first | rfl | (simp; done) | (simp [*]; done)), H', ⟨by have := HK1.out; first | omega | exact Nat.le_refl _⟩, ⟨by repeat (first | (with_reducible first | exact HB.out | apply below_alloc | apply pw_below_drewN | apply below_drew1) | exact HB.out)⟩⟩
        case rest =>
          clear HC13
          try clear c1
          try clear p2
          try clear c4
          try clear c4b0
          try clear c5
          try clear c5b0
          try clear c6
          try clear c6b0
          try clear p6
          try clear q6
          try clear hx6
          try clear c7
          try clear c7b0
          try clear c7b1
          try clear c9
          try clear c10
          try clear c14
          try clear c14b0
          try clear hcz10_0
          try clear hcz10_1
          try clear hcz12_0
          try clear hcz12_1
          try clear hfz10_0
          try clear hfz10_1
          try clear hfz12_0
          try clear hfz12_1
          try clear hx652_0
          try clear hx652_1
          try clear p2
          try clear p652
          try clear q652
          obtain ⟨kq, x38_12, rfl, HA, HJ12, HB⟩ := hcut
          cases kq with
          | zero => exact absurd HA.out (by simp [spec_asGrow.j1])
          | succ kj12 =>
            have H := HA.out
            clear HA
            simp only [spec_asGrow.j1] at H
            by_cases c15 : x38_12 = true
            · subst c15
              have H1 : ((some (([] : List (S61)) : List (S61))).bind fun y655 => (if y655.length + l0.length < 8796093022208 then ((some (y655 ++ l0 : List (S61))).bind fun y658 => (if y658.length < 8796093022208 then (some ((y658 ++ [(⟨a1, wrap64 (a2 - 1)⟩ : S61)]), a2)) else (none))) else (none))) = some (r1, r2) := by rw [if_pos rfl] at H; exact H
              clear H
              have H := H1
              clear H1
              obtain ⟨y655, hy655⟩ : ∃ y_ : List (S61), y_ = (([] : List (S61))) := ⟨_, rfl⟩
              replace H : (if y655.length + l0.length < 8796093022208 then ((some (y655 ++ l0 : List (S61))).bind fun y658 => (if y658.length < 8796093022208 then (some ((y658 ++ [(⟨a1, wrap64 (a2 - 1)⟩ : S61)]), a2)) else (none))) else (none)) = some (r1, r2) := by first | (rw [hy655]; with_reducible exact H) | (have H2_ := (Option.bind_some _ _).symm.trans H; rw [hy655]; with_reducible exact H2_) | (have H2_ := (Option.bind_some _ _).symm.trans H; with_reducible exact H2_) | with_reducible exact H | (rw [hy655]; exact H) | exact H
              have Ny655 := Aside0.mk hy655
              clear hy655
              by_cases c16 : y655.length + l0.length < 8796093022208
              · rw [if_pos c16] at H
                have LMc16 := Aside0.mk c16
                clear c16
                obtain ⟨y658, hy658⟩ : ∃ y_ : List (S61), y_ = (y655 ++ l0) := ⟨_, rfl⟩
                replace H : (if y658.length < 8796093022208 then (some ((y658 ++ [(⟨a1, wrap64 (a2 - 1)⟩ : S61)]), a2)) else (none)) = some (r1, r2) := by first | (rw [hy658]; with_reducible exact H) | (have H2_ := (Option.bind_some _ _).symm.trans H; rw [hy658]; with_reducible exact H2_) | (have H2_ := (Option.bind_some _ _).symm.trans H; with_reducible exact H2_) | with_reducible exact H | (rw [hy658]; exact H) | exact H
                have Ny658 := Aside0.mk hy658
                clear hy658
                by_cases c17 : y658.length < 8796093022208
                · rw [if_pos c17] at H
                  have LMc17 := Aside0.mk c17
                  clear c17
                  obtain ⟨y661, hy661⟩ : ∃ y_ : List (S61), y_ = (y658 ++ [(⟨a1, wrap64 (a2 - 1)⟩ : S61)]) := ⟨_, rfl⟩
                  replace H : (some (y661, a2)) = some (r1, r2) := by first | (rw [hy661]; with_reducible exact H) | (have H2_ := (Option.bind_some _ _).symm.trans H; rw [hy661]; with_reducible exact H2_) | (have H2_ := (Option.bind_some _ _).symm.trans H; with_reducible exact H2_) | with_reducible exact H | (rw [hy661]; exact H) | exact H
                  have Ny661 := Aside0.mk hy661
                  clear hy661
                  simp only [Option.some.injEq, Prod.mk.injEq] at H
                  obtain ⟨rfl, rfl⟩ := H
                  go_wp2_with (first | ((with_reducible refine gate_dst (N := 39) rfl ?_); refine Kd.R_lit k61 _ 61 ?hg (N := 39) ?hd (xs := ([] : List (S61))) (inner := []) (ok := fun _ => True) (okp := fun _ => True) ?hr ?hp (fun _ hk => hk) trivial (Below.refl _ _) (Nat.le_refl _) (by simp) ?_; (case hd => rfl); (case hg => rfl); (case hr => first | (go_simp; done) | (go_simp; rfl)); (case hp => exact (Reps.none _ _)); intro v656 w18 ho19 hb hg_ hnew_; clear hg_ hnew_; (first | rw [← Ny655.out] at ho19 | (simp only [Int.reduceToNat] at ho19; rw [← Ny655.out] at ho19)); have n0_ := Aside0.mk (Kd.R_lower ho19 (below_size (by repeat (first | (with_reducible first | exact HB.out | apply below_alloc | apply pw_below_drewN | apply below_drew1) | exact HB.out)))); have n1_ := Aside0.mk (below_step (by repeat (first | (with_reducible first | exact HB.out | apply below_alloc | apply pw_below_drewN | apply below_drew1) | exact HB.out)) hb); clear HB; have HO657 := n0_; have HB := n1_; clear n0_ n1_; clear hb ho19) | ((with_reducible refine gate_builtin (b := .append) (xs := #[.tmp 39, .tmp 40]) rfl ?_); at_builtin; refine Kd.R_append_rows k61 (w0 := w) w.heap.size rfl (.tmp 39) (.tmp 40) 40 61 (.agg #[(.int .i64 0), (.int .i64 0)]) 16 rfl Try.underlying40 info61 rfl (by decide) (by omega) v656 y655 l0 _ _ _ (fun _ => True) (fun _ => False) rfl rfl ?aO ?aR (fun _ _ h => h) (fun _ h => h.elim) ?aF ?aB ?aS ?aL ?_; (case aR => repeat (first | exact (Kd.C_below HR0.out HB.out) | (with_reducible refine Kd.C_alloc ?_ _) | (with_reducible refine Kd.C_drewN ?_ _) | (with_reducible refine Kd.C_drew ?_))); (case aB => exact (by repeat (first | (with_reducible first | exact HB.out | apply below_alloc | apply pw_below_drewN | apply below_drew1) | exact HB.out))); (case aF => exact (fun _ _ => trivial)); (case aO => exact (by (with_reducible repeat (first | apply Kd.R_alloc | apply Kd.R_drewN | apply Kd.R_drew)); exact HO657.out)); (case aS => exact (below_size (by repeat (first | (with_reducible first | exact HB.out | apply below_alloc | apply pw_below_drewN | apply below_drew1) | exact HB.out)))); (case aL => have := LMc16.out; omega); intro v659 w20 ho hb hg hat; rw [← Ny658.out] at ho; have n0_ := Aside0.mk (hb); have n1_ := Aside0.mk (ho); clear HB; clear HO657; have HB := n0_; have HO660 := n1_; clear n0_ n1_; clear ho hb hg hat) | ((with_reducible refine gate_builtin (b := .append) (xs := #[.tmp 41, .tmp 46]) rfl ?_); at_builtin; refine Kd.R_append k61 (w0 := w) w.heap.size rfl (.tmp 41) (.tmp 46) 40 61 (.agg #[(.int .i64 0), (.int .i64 0)]) 16 rfl Try.underlying40 info61 rfl (by decide) (by omega) v659 y658 (⟨a1, wrap64 (a2 - 1)⟩ : S61) [.int .i64 a1, .int .i64 (wrap64 (a2 - 1))] (fun _ => True) (fun _ => False) rfl rfl ?aP (fun _ hk => hk.elim) ?aF ?aO ?aB ?aS ?aL ?_; (case aP => exact k61_mkM _ _ _ (⟨a1, wrap64 (a2 - 1)⟩ : S61)); (case aB => exact (by repeat (first | (with_reducible first | exact HB.out | apply below_alloc | apply pw_below_drewN | apply below_drew1) | exact HB.out))); (case aF => exact (fun _ _ => trivial)); (case aO => exact (by (with_reducible repeat (first | apply Kd.R_alloc | apply Kd.R_drewN | apply Kd.R_drew)); exact HO660.out)); (case aS => exact (below_size (by repeat (first | (with_reducible first | exact HB.out | apply below_alloc | apply pw_below_drewN | apply below_drew1) | exact HB.out)))); (case aL => have := LMc17.out; omega); intro v662 w21 ho hb hg hat; rw [← Ny661.out] at ho; have n0_ := Aside0.mk (hb); have n1_ := Aside0.mk (ho); clear HB; clear HO660; have HB := n0_; have HO663 := n1_; clear n0_ n1_; clear ho hb hg hat))
                  go_ret2
                  exact ⟨_, by first | rfl | (simp [errW_none, errW_some] <;> rfl) | (simp [*, errW_none, errW_some] <;> rfl), by (with_reducible repeat (first | apply Kd.R_alloc | apply Kd.R_drewN | apply Kd.R_drew)); exact HO663.out, by repeat (first | (with_reducible first | exact HB.out | apply below_alloc | apply pw_below_drewN | apply below_drew1) | exact HB.out)⟩
                · rw [if_neg c17] at H
                  exact absurd H (by simp)
              · rw [if_neg c16] at H
                exact absurd H (by simp)
            · replace c15 := Bool.eq_false_iff.mpr c15
              subst c15
              have H1 : (spec_asGrow.l1 kj12 a1 a2 ([] : List (S61)) l0 (l0.length : Int) 0) = some (r1, r2) := by rw [if_neg (show ¬ (false = true) by decide)] at H; exact H
              clear H
              have H := H1
              clear H1
              have H' := Aside0.mk H
              clear H
              go_wp2
              go_loopg [11, 51] kj12 (fun kq v11 v51 w' => ∃ (x11_3 : List (S61)) (x51_3 : Int), v51 = .int .i64 x51_3 ∧ Aside0 (spec_asGrow.l1 kq a1 a2 x11_3 l0 (l0.length : Int) x51_3 = some (r1, r2)) ∧ Aside0 (kq ≤ kj12) ∧ Aside0 (Kd.R k61 61 w' w.heap.size (fun _ => True) v11 x11_3) ∧ Aside0 (Below w.heap.size w w'))
              case atStart => exact ⟨(([] : List (S61))), (0), (by first | rfl | (simp; done) | (simp [*]; done)), H', ⟨Nat.le_refl _⟩, ⟨by first | exact Kd.R_nil _ _ _ _ _ | exact Kd.N_nil _ _ _ _ _ | exact Kd.V_nil _ _ _ _ _ | exact Kd.Q_nil _ _ _ _ _ | exact Kd.S_nil _ _ _ _ _⟩, ⟨by repeat (first | (with_reducible first | exact HB.out | apply below_alloc | apply pw_below_drewN | apply below_drew1) | exact HB.out)⟩⟩
              case round =>
                clear H'
                try clear c1
                try clear p2
                try clear c4
                try clear c4b0
                try clear c5
                try clear c5b0
                try clear c6
                try clear c6b0
                try clear p6
                try clear q6
                try clear hx6
                try clear c7
                try clear c7b0
                try clear c7b1
                try clear c9
                try clear c10
                try clear c14
                try clear c14b0
                try clear c15
                try clear c16
                try clear c17
                try clear hcz10_0
                try clear hcz10_1
                try clear hcz12_0
                try clear hcz12_1
                try clear hfz10_0
                try clear hfz10_1
                try clear hfz12_0
                try clear hfz12_1
                try clear hx652_0
                try clear hx652_1
                try clear p2
                try clear p6
                try clear p652
                try clear q6
                try clear q652
                obtain ⟨x11_3, x51_3, rfl, HA, HK3, HO_11, HB⟩ := hrel
                cases gk with
                | zero => exact absurd HA.out (by simp [spec_asGrow.l1])
                | succ k3 =>
                  have H := HA.out
                  clear HA
                  simp only [spec_asGrow.l1] at H
                  by_cases c22 : x51_3 < (l0.length : Int)
                  · rw [if_pos c22] at H
                    have c22b0 : decide (x51_3 < (l0.length : Int)) = true := decide_eq_true c22
                    clear c22
                    by_cases c23 : 0 ≤ x51_3
                    · rw [if_pos c23] at H
                      have c23b0 : decide (0 ≤ x51_3) = true := decide_eq_true c23
                      clear c23
                      by_cases c24 : x51_3 < (l0.length : Int)
                      · rw [if_pos c24] at H
                        have c24b0 : decide (x51_3 < (l0.length : Int)) = true := decide_eq_true c24
                        clear c24
                        by_cases c25 : ((rd_T61 l0 x51_3).f1) ≥ a1
                        · rw [if_pos c25] at H
                          have c25b0 : decide (a1 ≤ ((rd_T61 l0 x51_3).f1)) = true := decide_eq_true c25
                          clear c25
                          have HC26 := Aside0.mk H
                          clear H
                          have p667 : 0 ≤ (x51_3 : Int) := of_decide_eq_true (by first | (with_reducible assumption) | assumption)
                          have q667 : x51_3 < (l0.length : Int) := of_decide_eq_true (by first | (with_reducible assumption) | assumption)
                          obtain ⟨ad667, e667, hx667_0, hx667_1⟩ := at_T61 HR0.out x51_3 p667 q667
                          cases e667
                          replace hx667_0 := (HB.out.cell (World.block_lt_of_cell? w _ hx667_0)).trans hx667_0
                          replace hx667_1 := (HB.out.cell (World.block_lt_of_cell? w _ hx667_1)).trans hx667_1
                          replace p667 := eq_true p667
                          replace q667 := eq_true q667
                          go_upto_region 17 with (first | ((with_reducible refine gate_dst (N := 13) rfl ?_); refine box_event ?hg (N := 13) ?hd (cs := #[.int .i64 0, .int .i64 0]) (t := 61) ?hr ?_; (case hd => rfl); (case hg => rfl); (case hr => first | (go_simp; done) | (go_simp; rfl)); intro gb668 hg w27 hbox hb; have n0_ := Aside0.mk (Kd.R_below (Kd.R_elderB (by (with_reducible repeat (first | apply Kd.R_alloc | apply Kd.R_drewN | apply Kd.R_drew)); exact HO_11.out) gb668 (Nat.le_of_eq hg.symm)) hb); have n1_ := Aside0.mk (below_step (by repeat (first | (with_reducible first | exact HB.out | apply below_alloc | apply pw_below_drewN | apply below_drew1) | exact HB.out)) hb); have n2_ := Aside0.mk (hbox); have n3_ := Aside0.mk ((by rw [hg]; exact (below_size (by repeat (first | (with_reducible first | exact HB.out | apply below_alloc | apply pw_below_drewN | apply below_drew1) | exact HB.out))) : w.heap.size ≤ gb668)); have n4_ := Aside0.mk ((by rw [hg]; exact (below_size (by repeat (first | (with_reducible first | exact HB.out | apply below_alloc | apply pw_below_drewN | apply below_drew1) | exact HB.out))) : w.heap.size ≤ gb668)); clear HO_11; clear HB; have HO_11 := n0_; have HB := n1_; have BK668 := n2_; have GW668 := n3_; have GE668 := n4_; clear n0_ n1_ n2_ n3_ n4_; clear hb hbox hg; have hcz28_0 : w27.cell? ⟨gb668, 0, none⟩ = some (.int .i64 0) := (blk_cell BK668.out 0).trans rfl; have hcz28_1 : w27.cell? ⟨gb668, 1, none⟩ = some (.int .i64 0) := (blk_cell BK668.out 1).trans rfl; have hfz28_0 := blk_frozen BK668.out 0; have hfz28_1 := blk_frozen BK668.out 1) | ((with_reducible refine gate_dst (N := 14) rfl ?_); refine box_event ?hg (N := 14) ?hd (cs := #[.int .i64 0, .int .i64 0]) (t := 61) ?hr ?_; (case hd => rfl); (case hg => rfl); (case hr => first | (go_simp; done) | (go_simp; rfl)); intro gb669 hg w29 hbox hb; have n0_ := Aside0.mk (Kd.R_below (Kd.R_elderB (by (with_reducible repeat (first | apply Kd.R_alloc | apply Kd.R_drewN | apply Kd.R_drew)); exact (Kd.R_mono (Kd.R_far (p := ⟨gb668, 1, none⟩) (Kd.R_far (p := ⟨gb668, 0, none⟩) (Kd.R_mono HO_11.out (fun k_ hk => (⟨hk, hk.2⟩ : _ ∧ k_ ≠ gb668))) (fun _ hk => hk.2) (.int .i64 ((rd_T61 l0 x51_3).f0))) (fun _ hk => hk.2) (.int .i64 ((rd_T61 l0 x51_3).f1))) (fun _ h_ => h_.1))) gb669 (Nat.le_of_eq hg.symm)) hb); have n1_ := Aside0.mk (blk_below (g := gb668) (o := .cells #[.int .i64 ((rd_T61 l0 x51_3).f0), .int .i64 ((rd_T61 l0 x51_3).f1)] 61 (0, 0)) (by (with_reducible repeat (first | refine blk_drewN ?_ _ | refine blk_drew ?_ | refine blk_alloc ?_ _)); refine blk_put (cs := #[.int .i64 ((rd_T61 l0 x51_3).f0), .int .i64 0]) ?_ 1 _ rfl; (with_reducible repeat (first | refine blk_drewN ?_ _ | refine blk_drew ?_ | refine blk_alloc ?_ _)); refine blk_put (cs := #[.int .i64 0, .int .i64 0]) ?_ 0 _ rfl; (with_reducible repeat (first | refine blk_drewN ?_ _ | refine blk_drew ?_ | refine blk_alloc ?_ _)); exact BK668.out) hb); have n2_ := Aside0.mk (below_step (by repeat (first | (with_reducible first | exact HB.out | apply below_alloc | apply pw_below_drewN | apply below_drew1 | refine below_set ?_ GE668.out) | exact HB.out)) hb); have n3_ := Aside0.mk (hbox); have n4_ := Aside0.mk ((by rw [hg]; exact (below_size (by repeat (first | (with_reducible first | exact HB.out | apply below_alloc | apply pw_below_drewN | apply below_drew1 | refine below_set ?_ GE668.out) | exact HB.out))) : w.heap.size ≤ gb669)); have n5_ := Aside0.mk ((by rw [hg]; exact (below_size (by repeat (first | (with_reducible first | exact HB.out | apply below_alloc | apply pw_below_drewN | apply below_drew1 | refine below_set ?_ GE668.out) | exact HB.out))) : w.heap.size ≤ gb669)); have n6_ := Aside0.mk ((by rw [hg]; exact Nat.ne_of_lt (blk_lt (g := gb668) (o := .cells #[.int .i64 ((rd_T61 l0 x51_3).f0), .int .i64 ((rd_T61 l0 x51_3).f1)] 61 (0, 0)) (by (with_reducible repeat (first | refine blk_drewN ?_ _ | refine blk_drew ?_ | refine blk_alloc ?_ _)); refine blk_put (cs := #[.int .i64 ((rd_T61 l0 x51_3).f0), .int .i64 0]) ?_ 1 _ rfl; (with_reducible repeat (first | refine blk_drewN ?_ _ | refine blk_drew ?_ | refine blk_alloc ?_ _)); refine blk_put (cs := #[.int .i64 0, .int .i64 0]) ?_ 0 _ rfl; (with_reducible repeat (first | refine blk_drewN ?_ _ | refine blk_drew ?_ | refine blk_alloc ?_ _)); exact BK668.out)) : gb668 ≠ gb669)); have n7_ := Aside0.mk ((by rw [hg]; exact Nat.ne_of_gt (blk_lt (g := gb668) (o := .cells #[.int .i64 ((rd_T61 l0 x51_3).f0), .int .i64 ((rd_T61 l0 x51_3).f1)] 61 (0, 0)) (by (with_reducible repeat (first | refine blk_drewN ?_ _ | refine blk_drew ?_ | refine blk_alloc ?_ _)); refine blk_put (cs := #[.int .i64 ((rd_T61 l0 x51_3).f0), .int .i64 0]) ?_ 1 _ rfl; (with_reducible repeat (first | refine blk_drewN ?_ _ | refine blk_drew ?_ | refine blk_alloc ?_ _)); refine blk_put (cs := #[.int .i64 0, .int .i64 0]) ?_ 0 _ rfl; (with_reducible repeat (first | refine blk_drewN ?_ _ | refine blk_drew ?_ | refine blk_alloc ?_ _)); exact BK668.out)) : gb669 ≠ gb668)); clear HO_11; clear BK668; clear HB; have HO_11 := n0_; have BK668 := n1_; have HB := n2_; have BK669 := n3_; have GW669 := n4_; have GE669 := n5_; have NB668_669 := n6_; have NB669_668 := n7_; clear n0_ n1_ n2_ n3_ n4_ n5_ n6_ n7_; clear hb hbox hg; have hnb30 := NB669_668.out; have hnc30 := NB668_669.out; have hcz31_0 : w29.cell? ⟨gb669, 0, none⟩ = some (.int .i64 0) := (blk_cell BK669.out 0).trans rfl; have hcz31_1 : w29.cell? ⟨gb669, 1, none⟩ = some (.int .i64 0) := (blk_cell BK669.out 1).trans rfl; have hfz31_0 := blk_frozen BK669.out 0; have hfz31_1 := blk_frozen BK669.out 1; have hcz32_0 : w29.cell? ⟨gb668, 0, none⟩ = some (.int .i64 ((rd_T61 l0 x51_3).f0)) := (blk_cell BK668.out 0).trans rfl; have hcz32_1 : w29.cell? ⟨gb668, 1, none⟩ = some (.int .i64 ((rd_T61 l0 x51_3).f1)) := (blk_cell BK668.out 1).trans rfl; have hfz32_0 := blk_frozen BK668.out 0; have hfz32_1 := blk_frozen BK668.out 1))
                          (try simp only [Act.put, List.setIfInBounds_toArray, List.set_cons_zero, List.set_cons_succ])
                          go_cut [74] (fun v74 wc => ∃ (kq : Nat) (x74_25 : Bool), v74 = .bool x74_25 ∧ Aside0 (spec_asGrow.j3 kq a1 a2 x11_3 l0 (l0.length : Int) x51_3 x74_25 ((rd_T61 l0 x51_3).f0) ((rd_T61 l0 x51_3).f1) ((rd_T61 l0 x51_3).f0) (wrap64 (((rd_T61 l0 x51_3).f1) + 1)) = some (r1, r2)) ∧ Aside0 (kq ≤ k3) ∧ Aside0 (Kd.R k61 61 wc w.heap.size (fun k_ => k_ ≠ gb668 ∧ k_ ≠ gb669) u11 x11_3) ∧ Aside0 (wc.heap[gb668]? = some (.cells #[.int .i64 ((rd_T61 l0 x51_3).f0), .int .i64 ((rd_T61 l0 x51_3).f1)] 61 (0, 0))) ∧ Aside0 (wc.heap[gb669]? = some (.cells #[.int .i64 ((rd_T61 l0 x51_3).f0), .int .i64 (wrap64 (((rd_T61 l0 x51_3).f1) + 1))] 61 (0, 0))) ∧ Aside0 (Below w.heap.size w wc))
                          case first =>
                            have H := HC26.out
                            clear HC26
                            by_cases c33 : ((rd_T61 l0 x51_3).f1) = (wrap64 (a2 - 1))
                            · rw [if_pos c33] at H
                              have c33b0 : (((rd_T61 l0 x51_3).f1) == (wrap64 (a2 - 1))) = true := beq_iff_eq.mpr c33
                              have c33b1 : (((rd_T61 l0 x51_3).f1) != (wrap64 (a2 - 1))) = false := bne_eq_false_iff_eq.mpr c33
                              clear c33
                              (first | rw [c33b0] | (simp only [i64_w, i32_w]; rw [c33b0]) | skip)
                              have H' := Aside0.mk H
                              clear H
                              have hnb34 := NB668_669.out
                              have hnc34 := NB669_668.out
                              have hcz35_0 : w29.cell? ⟨gb668, 0, none⟩ = some (.int .i64 ((rd_T61 l0 x51_3).f0)) := (blk_cell BK668.out 0).trans rfl
                              have hcz35_1 : w29.cell? ⟨gb668, 1, none⟩ = some (.int .i64 ((rd_T61 l0 x51_3).f1)) := (blk_cell BK668.out 1).trans rfl
                              have hfz35_0 := blk_frozen BK668.out 0
                              have hfz35_1 := blk_frozen BK668.out 1
                              go_wp2
                              go_meet
                              case rel => exact ⟨_, (decide (((rd_T61 l0 x51_3).f0) < a1)), (by first | rfl | (simp; done) | (simp [*]; done)), H', ⟨by have := HK1.out; have := HJ12.out; have := HK3.out; first | omega | exact Nat.le_refl _⟩, ⟨by (with_reducible repeat (first | apply Kd.R_alloc | apply Kd.R_drewN | apply Kd.R_drew)); exact Kd.R_mono (Kd.R_far (p := ⟨gb669, 1, none⟩) (Kd.R_far (p := ⟨gb669, 1, none⟩) (Kd.R_far (p := ⟨gb669, 0, none⟩) (Kd.R_mono HO_11.out (fun k_ hk => (⟨hk, hk.2⟩ : _ ∧ k_ ≠ gb669))) (fun _ hk => hk.2) (.int .i64 ((rd_T61 l0 x51_3).f0))) (fun _ hk => hk.2) (.int .i64 ((rd_T61 l0 x51_3).f1))) (fun _ hk => hk.2) (.int .i64 (wrap64 (((rd_T61 l0 x51_3).f1) + 1)))) (fun _ hk => ⟨hk.1.1.2, hk.1.2⟩)⟩, ⟨by (with_reducible repeat (first | refine blk_drewN ?_ _ | refine blk_drew ?_ | refine blk_alloc ?_ _)); refine blk_far ?_ NB668_669.out _; (with_reducible repeat (first | refine blk_drewN ?_ _ | refine blk_drew ?_ | refine blk_alloc ?_ _)); refine blk_far ?_ NB668_669.out _; (with_reducible repeat (first | refine blk_drewN ?_ _ | refine blk_drew ?_ | refine blk_alloc ?_ _)); refine blk_far ?_ NB668_669.out _; (with_reducible repeat (first | refine blk_drewN ?_ _ | refine blk_drew ?_ | refine blk_alloc ?_ _)); exact BK668.out⟩, ⟨by (with_reducible repeat (first | refine blk_drewN ?_ _ | refine blk_drew ?_ | refine blk_alloc ?_ _)); refine blk_put (cs := #[.int .i64 ((rd_T61 l0 x51_3).f0), .int .i64 ((rd_T61 l0 x51_3).f1)]) ?_ 1 _ rfl; (with_reducible repeat (first | refine blk_drewN ?_ _ | refine blk_drew ?_ | refine blk_alloc ?_ _)); refine blk_put (cs := #[.int .i64 ((rd_T61 l0 x51_3).f0), .int .i64 0]) ?_ 1 _ rfl; (with_reducible repeat (first | refine blk_drewN ?_ _ | refine blk_drew ?_ | refine blk_alloc ?_ _)); refine blk_put (cs := #[.int .i64 0, .int .i64 0]) ?_ 0 _ rfl; (with_reducible repeat (first | refine blk_drewN ?_ _ | refine blk_drew ?_ | refine blk_alloc ?_ _)); exact BK669.out⟩, ⟨by repeat (first | (with_reducible first | exact HB.out | apply below_alloc | apply pw_below_drewN | apply below_drew1 | refine below_set ?_ GE668.out | refine below_set ?_ GE669.out) | exact HB.out)⟩⟩
                            · rw [if_neg c33] at H
                              have c33b0 : (((rd_T61 l0 x51_3).f1) == (wrap64 (a2 - 1))) = false := beq_eq_false_iff_ne.mpr c33
                              have c33b1 : (((rd_T61 l0 x51_3).f1) != (wrap64 (a2 - 1))) = true := bne_iff_ne.mpr c33
                              (first | rw [c33b0] | (simp only [i64_w, i32_w]; rw [c33b0]) | skip)
                              have H' := Aside0.mk H
                              clear H
                              have hnb36 := NB668_669.out
                              have hnc36 := NB669_668.out
                              have hcz37_0 : w29.cell? ⟨gb668, 0, none⟩ = some (.int .i64 ((rd_T61 l0 x51_3).f0)) := (blk_cell BK668.out 0).trans rfl
                              have hcz37_1 : w29.cell? ⟨gb668, 1, none⟩ = some (.int .i64 ((rd_T61 l0 x51_3).f1)) := (blk_cell BK668.out 1).trans rfl
                              have hfz37_0 := blk_frozen BK668.out 0
                              have hfz37_1 := blk_frozen BK668.out 1
                              go_wp2
                              go_meet
                              case rel => exact ⟨_, (false), (by first | rfl | (simp; done) | (simp [*]; done)), H', ⟨by have := HK1.out; have := HJ12.out; have := HK3.out; first | omega | exact Nat.le_refl _⟩, ⟨by (with_reducible repeat (first | apply Kd.R_alloc | apply Kd.R_drewN | apply Kd.R_drew)); exact Kd.R_mono (Kd.R_far (p := ⟨gb669, 1, none⟩) (Kd.R_far (p := ⟨gb669, 1, none⟩) (Kd.R_far (p := ⟨gb669, 0, none⟩) (Kd.R_mono HO_11.out (fun k_ hk => (⟨hk, hk.2⟩ : _ ∧ k_ ≠ gb669))) (fun _ hk => hk.2) (.int .i64 ((rd_T61 l0 x51_3).f0))) (fun _ hk => hk.2) (.int .i64 ((rd_T61 l0 x51_3).f1))) (fun _ hk => hk.2) (.int .i64 (wrap64 (((rd_T61 l0 x51_3).f1) + 1)))) (fun _ hk => ⟨hk.1.1.2, hk.1.2⟩)⟩, ⟨by (with_reducible repeat (first | refine blk_drewN ?_ _ | refine blk_drew ?_ | refine blk_alloc ?_ _)); refine blk_far ?_ NB668_669.out _; (with_reducible repeat (first | refine blk_drewN ?_ _ | refine blk_drew ?_ | refine blk_alloc ?_ _)); refine blk_far ?_ NB668_669.out _; (with_reducible repeat (first | refine blk_drewN ?_ _ | refine blk_drew ?_ | refine blk_alloc ?_ _)); refine blk_far ?_ NB668_669.out _; (with_reducible repeat (first | refine blk_drewN ?_ _ | refine blk_drew ?_ | refine blk_alloc ?_ _)); exact BK668.out⟩, ⟨by (with_reducible repeat (first | refine blk_drewN ?_ _ | refine blk_drew ?_ | refine blk_alloc ?_ _)); refine blk_put (cs := #[.int .i64 ((rd_T61 l0 x51_3).f0), .int .i64 ((rd_T61 l0 x51_3).f1)]) ?_ 1 _ rfl; (with_reducible repeat (first | refine blk_drewN ?_ _ | refine blk_drew ?_ | refine blk_alloc ?_ _)); refine blk_put (cs := #[.int .i64 ((rd_T61 l0 x51_3).f0), .int .i64 0]) ?_ 1 _ rfl; (with_reducible repeat (first | refine blk_drewN ?_ _ | refine blk_drew ?_ | refine blk_alloc ?_ _)); refine blk_put (cs := #[.int .i64 0, .int .i64 0]) ?_ 0 _ rfl; (with_reducible repeat (first | refine blk_drewN ?_ _ | refine blk_drew ?_ | refine blk_alloc ?_ _)); exact BK669.out⟩, ⟨by repeat (first | (with_reducible first | exact HB.out | apply below_alloc | apply pw_below_drewN | apply below_drew1 | refine below_set ?_ GE668.out | refine below_set ?_ GE669.out) | exact HB.out)⟩⟩
                          case rest =>
                            clear HC26
                            try clear c1
                            try clear c2
                            try clear p2
                            try clear c3
                            try clear c4
                            try clear c4b0
                            try clear c5
                            try clear c5b0
                            try clear c6
                            try clear c6b0
                            try clear p6
                            try clear q6
                            try clear hx6
                            try clear c7
                            try clear c7b0
                            try clear c7b1
                            try clear c9
                            try clear c10
                            try clear c14
                            try clear c14b0
                            try clear c15
                            try clear c16
                            try clear c17
                            try clear c22
                            try clear c22b0
                            try clear c23
                            try clear c23b0
                            try clear c24
                            try clear c24b0
                            try clear c25
                            try clear c25b0
                            try clear c30
                            try clear c33
                            try clear c33b0
                            try clear c33b1
                            try clear c34
                            try clear c36
                            try clear hcz10_0
                            try clear hcz10_1
                            try clear hcz12_0
                            try clear hcz12_1
                            try clear hcz28_0
                            try clear hcz28_1
                            try clear hcz31_0
                            try clear hcz31_1
                            try clear hcz32_0
                            try clear hcz32_1
                            try clear hcz35_0
                            try clear hcz35_1
                            try clear hcz37_0
                            try clear hcz37_1
                            try clear hfz10_0
                            try clear hfz10_1
                            try clear hfz12_0
                            try clear hfz12_1
                            try clear hfz28_0
                            try clear hfz28_1
                            try clear hfz31_0
                            try clear hfz31_1
                            try clear hfz32_0
                            try clear hfz32_1
                            try clear hfz35_0
                            try clear hfz35_1
                            try clear hfz37_0
                            try clear hfz37_1
                            try clear hx652_0
                            try clear hx652_1
                            try clear hx667_0
                            try clear hx667_1
                            try clear p2
                            try clear p6
                            try clear p652
                            try clear p667
                            try clear q6
                            try clear q652
                            try clear q667
                            obtain ⟨kq, x74_25, rfl, HA, HJ25, HO_11, BK668, BK669, HB⟩ := hcut
                            cases kq with
                            | zero => exact absurd HA.out (by simp [spec_asGrow.j3])
                            | succ kj25 =>
                              have H := HA.out
                              clear HA
                              simp only [spec_asGrow.j3] at H
                              by_cases c38 : x74_25 = true
                              · subst c38
                                have H1 : (if ((rd_T61 l0 x51_3).f0) ≥ a1 then (if x11_3.length < 8796093022208 then (spec_asGrow.l1 kj25 a1 a2 (x11_3 ++ [(⟨wrap64 (((rd_T61 l0 x51_3).f0) + 1), a1⟩ : S61)]) l0 (l0.length : Int) (wrap64 (x51_3 + 1))) else (none)) else (if x11_3.length < 8796093022208 then (spec_asGrow.l1 kj25 a1 a2 (x11_3 ++ [(⟨((rd_T61 l0 x51_3).f0), a1⟩ : S61)]) l0 (l0.length : Int) (wrap64 (x51_3 + 1))) else (none))) = some (r1, r2) := by rw [if_pos rfl] at H; exact H
                                clear H
                                have H := H1
                                clear H1
                                by_cases c39 : ((rd_T61 l0 x51_3).f0) ≥ a1
                                · rw [if_pos c39] at H
                                  have c39b0 : decide (a1 ≤ ((rd_T61 l0 x51_3).f0)) = true := decide_eq_true c39
                                  clear c39
                                  by_cases c40 : x11_3.length < 8796093022208
                                  · rw [if_pos c40] at H
                                    have LMc40 := Aside0.mk c40
                                    clear c40
                                    obtain ⟨y670, hy670⟩ : ∃ y_ : List (S61), y_ = (x11_3 ++ [(⟨wrap64 (((rd_T61 l0 x51_3).f0) + 1), a1⟩ : S61)]) := ⟨_, rfl⟩
                                    replace H : (spec_asGrow.l1 kj25 a1 a2 y670 l0 (l0.length : Int) (wrap64 (x51_3 + 1))) = some (r1, r2) := by first | (rw [hy670]; with_reducible exact H) | (have H2_ := (Option.bind_some _ _).symm.trans H; rw [hy670]; with_reducible exact H2_) | (have H2_ := (Option.bind_some _ _).symm.trans H; with_reducible exact H2_) | with_reducible exact H | (rw [hy670]; exact H) | exact H
                                    have Ny670 := Aside0.mk hy670
                                    clear hy670
                                    have H' := Aside0.mk H
                                    clear H
                                    have hnb41 := NB669_668.out
                                    have hnc41 := NB668_669.out
                                    have hcz42_0 : wc.cell? ⟨gb669, 0, none⟩ = some (.int .i64 ((rd_T61 l0 x51_3).f0)) := (blk_cell BK669.out 0).trans rfl
                                    have hcz42_1 : wc.cell? ⟨gb669, 1, none⟩ = some (.int .i64 (wrap64 (((rd_T61 l0 x51_3).f1) + 1))) := (blk_cell BK669.out 1).trans rfl
                                    have hfz42_0 := blk_frozen BK669.out 0
                                    have hfz42_1 := blk_frozen BK669.out 1
                                    have hcz43_0 : wc.cell? ⟨gb668, 0, none⟩ = some (.int .i64 ((rd_T61 l0 x51_3).f0)) := (blk_cell BK668.out 0).trans rfl
                                    have hcz43_1 : wc.cell? ⟨gb668, 1, none⟩ = some (.int .i64 ((rd_T61 l0 x51_3).f1)) := (blk_cell BK668.out 1).trans rfl
                                    have hfz43_0 := blk_frozen BK668.out 0
                                    have hfz43_1 := blk_frozen BK668.out 1
                                    go_wp2_with (first | ((with_reducible refine gate_builtin (b := .append) (xs := #[.tmp 85, .tmp 87]) rfl ?_); at_builtin; refine Kd.R_append k61 (w0 := w) w.heap.size rfl (.tmp 85) (.tmp 87) 40 61 (.agg #[(.int .i64 0), (.int .i64 0)]) 16 rfl Try.underlying40 info61 rfl (by decide) (by omega) u11 x11_3 (⟨wrap64 (((rd_T61 l0 x51_3).f0) + 1), a1⟩ : S61) [.int .i64 (wrap64 (((rd_T61 l0 x51_3).f0) + 1)), .int .i64 a1] (fun k_ => k_ ≠ gb668 ∧ k_ ≠ gb669) (fun _ => False) rfl (by first | (go_simp; done) | (go_simp; rfl)) ?aP (fun _ hk => hk.elim) ?aF ?aO ?aB ?aS ?aL ?_; (case aP => exact k61_mkM _ _ _ (⟨wrap64 (((rd_T61 l0 x51_3).f0) + 1), a1⟩ : S61)); (case aB => exact (by repeat (first | (with_reducible first | exact HB.out | apply below_alloc | apply pw_below_drewN | apply below_drew1 | refine below_set ?_ GE668.out | refine below_set ?_ GE669.out) | exact HB.out))); (case aF => exact (fun k_ hk => ⟨Kd.freshB (g := gb668) (o := .cells #[.int .i64 ((rd_T61 l0 x51_3).f0), .int .i64 ((rd_T61 l0 x51_3).f1)] 61 (0, 0)) (by (with_reducible repeat (first | refine blk_drewN ?_ _ | refine blk_drew ?_ | refine blk_alloc ?_ _)); refine blk_far ?_ NB668_669.out _; (with_reducible repeat (first | refine blk_drewN ?_ _ | refine blk_drew ?_ | refine blk_alloc ?_ _)); refine blk_far ?_ NB668_669.out _; (with_reducible repeat (first | refine blk_drewN ?_ _ | refine blk_drew ?_ | refine blk_alloc ?_ _)); exact BK668.out) k_ hk, Kd.freshB (g := gb669) (o := .cells #[.int .i64 (wrap64 (((rd_T61 l0 x51_3).f0) + 1)), .int .i64 a1] 61 (0, 0)) (by (with_reducible repeat (first | refine blk_drewN ?_ _ | refine blk_drew ?_ | refine blk_alloc ?_ _)); refine blk_put (cs := #[.int .i64 ((rd_T61 l0 x51_3).f0), .int .i64 a1]) ?_ 0 _ rfl; (with_reducible repeat (first | refine blk_drewN ?_ _ | refine blk_drew ?_ | refine blk_alloc ?_ _)); refine blk_put (cs := #[.int .i64 ((rd_T61 l0 x51_3).f0), .int .i64 (wrap64 (((rd_T61 l0 x51_3).f1) + 1))]) ?_ 1 _ rfl; (with_reducible repeat (first | refine blk_drewN ?_ _ | refine blk_drew ?_ | refine blk_alloc ?_ _)); exact BK669.out) k_ hk⟩)); (case aO => exact (by (with_reducible repeat (first | apply Kd.R_alloc | apply Kd.R_drewN | apply Kd.R_drew)); exact Kd.R_mono (Kd.R_far (p := ⟨gb669, 0, none⟩) (Kd.R_far (p := ⟨gb669, 1, none⟩) (Kd.R_mono HO_11.out (fun k_ hk => (⟨hk, hk.2⟩ : _ ∧ k_ ≠ gb669))) (fun _ hk => hk.2) (.int .i64 a1)) (fun _ hk => hk.2) (.int .i64 (wrap64 (((rd_T61 l0 x51_3).f0) + 1)))) (fun _ hk => ⟨hk.1.1, hk.1.2⟩))); (case aS => exact (below_size (by repeat (first | (with_reducible first | exact HB.out | apply below_alloc | apply pw_below_drewN | apply below_drew1 | refine below_set ?_ GE668.out | refine below_set ?_ GE669.out) | exact HB.out)))); (case aL => have := LMc40.out; omega); intro v671 w44 ho hb hg hat; rw [← Ny670.out] at ho; have n0_ := Aside0.mk (blk_grown (g := gb668) (o := .cells #[.int .i64 ((rd_T61 l0 x51_3).f0), .int .i64 ((rd_T61 l0 x51_3).f1)] 61 (0, 0)) (by (with_reducible repeat (first | refine blk_drewN ?_ _ | refine blk_drew ?_ | refine blk_alloc ?_ _)); refine blk_far ?_ NB668_669.out _; (with_reducible repeat (first | refine blk_drewN ?_ _ | refine blk_drew ?_ | refine blk_alloc ?_ _)); refine blk_far ?_ NB668_669.out _; (with_reducible repeat (first | refine blk_drewN ?_ _ | refine blk_drew ?_ | refine blk_alloc ?_ _)); exact BK668.out) hg (Kd.R_away HO_11.out (fun _ hk => hk.1))); have n1_ := Aside0.mk (blk_grown (g := gb669) (o := .cells #[.int .i64 (wrap64 (((rd_T61 l0 x51_3).f0) + 1)), .int .i64 a1] 61 (0, 0)) (by (with_reducible repeat (first | refine blk_drewN ?_ _ | refine blk_drew ?_ | refine blk_alloc ?_ _)); refine blk_put (cs := #[.int .i64 ((rd_T61 l0 x51_3).f0), .int .i64 a1]) ?_ 0 _ rfl; (with_reducible repeat (first | refine blk_drewN ?_ _ | refine blk_drew ?_ | refine blk_alloc ?_ _)); refine blk_put (cs := #[.int .i64 ((rd_T61 l0 x51_3).f0), .int .i64 (wrap64 (((rd_T61 l0 x51_3).f1) + 1))]) ?_ 1 _ rfl; (with_reducible repeat (first | refine blk_drewN ?_ _ | refine blk_drew ?_ | refine blk_alloc ?_ _)); exact BK669.out) hg (Kd.R_away HO_11.out (fun _ hk => hk.2))); have n2_ := Aside0.mk (hb); have n3_ := Aside0.mk (ho); clear BK668; clear BK669; clear HB; clear HO_11; have BK668 := n0_; have BK669 := n1_; have HB := n2_; have HO672 := n3_; clear n0_ n1_ n2_ n3_; clear ho hb hg hat))
                                    go_roundg kj25
                                    case measure => have := HK1.out; have := HJ12.out; have := HK3.out; have := HJ25.out; omega
                                    case rel => exact ⟨(y670), (wrap64 (x51_3 + 1)), (by first | rfl | (simp; done) | (simp [*]; done)), H', ⟨by have := HK1.out; have := HJ12.out; have := HK3.out; have := HJ25.out; omega⟩, ⟨by (with_reducible repeat (first | apply Kd.R_alloc | apply Kd.R_drewN | apply Kd.R_drew)); exact Kd.R_mono HO672.out (fun _ hk => trivial)⟩, ⟨by repeat (first | (with_reducible first | exact HB.out | apply below_alloc | apply pw_below_drewN | apply below_drew1 | refine below_set ?_ GE668.out | refine below_set ?_ GE669.out) | exact HB.out)⟩⟩
                                  · rw [if_neg c40] at H
                                    exact absurd H (by simp)
                                · rw [if_neg c39] at H
                                  have c39b0 : decide (a1 ≤ ((rd_T61 l0 x51_3).f0)) = false := decide_eq_false c39
                                  clear c39
                                  by_cases c45 : x11_3.length < 8796093022208
                                  · rw [if_pos c45] at H
                                    have LMc45 := Aside0.mk c45
                                    clear c45
                                    obtain ⟨y673, hy673⟩ : ∃ y_ : List (S61), y_ = (x11_3 ++ [(⟨((rd_T61 l0 x51_3).f0), a1⟩ : S61)]) := ⟨_, rfl⟩
                                    replace H : (spec_asGrow.l1 kj25 a1 a2 y673 l0 (l0.length : Int) (wrap64 (x51_3 + 1))) = some (r1, r2) := by first | (rw [hy673]; with_reducible exact H) | (have H2_ := (Option.bind_some _ _).symm.trans H; rw [hy673]; with_reducible exact H2_) | (have H2_ := (Option.bind_some _ _).symm.trans H; with_reducible exact H2_) | with_reducible exact H | (rw [hy673]; exact H) | exact H
                                    have Ny673 := Aside0.mk hy673
                                    clear hy673
                                    have H' := Aside0.mk H
                                    clear H
                                    have hnb46 := NB669_668.out
                                    have hnc46 := NB668_669.out
                                    have hcz47_0 : wc.cell? ⟨gb669, 0, none⟩ = some (.int .i64 ((rd_T61 l0 x51_3).f0)) := (blk_cell BK669.out 0).trans rfl
                                    have hcz47_1 : wc.cell? ⟨gb669, 1, none⟩ = some (.int .i64 (wrap64 (((rd_T61 l0 x51_3).f1) + 1))) := (blk_cell BK669.out 1).trans rfl
                                    have hfz47_0 := blk_frozen BK669.out 0
                                    have hfz47_1 := blk_frozen BK669.out 1
                                    have hcz48_0 : wc.cell? ⟨gb668, 0, none⟩ = some (.int .i64 ((rd_T61 l0 x51_3).f0)) := (blk_cell BK668.out 0).trans rfl
                                    have hcz48_1 : wc.cell? ⟨gb668, 1, none⟩ = some (.int .i64 ((rd_T61 l0 x51_3).f1)) := (blk_cell BK668.out 1).trans rfl
                                    have hfz48_0 := blk_frozen BK668.out 0
                                    have hfz48_1 := blk_frozen BK668.out 1
                                    go_wp2_with (first | ((with_reducible refine gate_builtin (b := .append) (xs := #[.tmp 85, .tmp 87]) rfl ?_); at_builtin; refine Kd.R_append k61 (w0 := w) w.heap.size rfl (.tmp 85) (.tmp 87) 40 61 (.agg #[(.int .i64 0), (.int .i64 0)]) 16 rfl Try.underlying40 info61 rfl (by decide) (by omega) u11 x11_3 (⟨((rd_T61 l0 x51_3).f0), a1⟩ : S61) [.int .i64 ((rd_T61 l0 x51_3).f0), .int .i64 a1] (fun k_ => k_ ≠ gb668 ∧ k_ ≠ gb669) (fun _ => False) rfl (by first | (go_simp; done) | (go_simp; rfl)) ?aP (fun _ hk => hk.elim) ?aF ?aO ?aB ?aS ?aL ?_; (case aP => exact k61_mkM _ _ _ (⟨((rd_T61 l0 x51_3).f0), a1⟩ : S61)); (case aB => exact (by repeat (first | (with_reducible first | exact HB.out | apply below_alloc | apply pw_below_drewN | apply below_drew1 | refine below_set ?_ GE668.out | refine below_set ?_ GE669.out) | exact HB.out))); (case aF => exact (fun k_ hk => ⟨Kd.freshB (g := gb668) (o := .cells #[.int .i64 ((rd_T61 l0 x51_3).f0), .int .i64 ((rd_T61 l0 x51_3).f1)] 61 (0, 0)) (by (with_reducible repeat (first | refine blk_drewN ?_ _ | refine blk_drew ?_ | refine blk_alloc ?_ _)); refine blk_far ?_ NB668_669.out _; (with_reducible repeat (first | refine blk_drewN ?_ _ | refine blk_drew ?_ | refine blk_alloc ?_ _)); exact BK668.out) k_ hk, Kd.freshB (g := gb669) (o := .cells #[.int .i64 ((rd_T61 l0 x51_3).f0), .int .i64 a1] 61 (0, 0)) (by (with_reducible repeat (first | refine blk_drewN ?_ _ | refine blk_drew ?_ | refine blk_alloc ?_ _)); refine blk_put (cs := #[.int .i64 ((rd_T61 l0 x51_3).f0), .int .i64 (wrap64 (((rd_T61 l0 x51_3).f1) + 1))]) ?_ 1 _ rfl; (with_reducible repeat (first | refine blk_drewN ?_ _ | refine blk_drew ?_ | refine blk_alloc ?_ _)); exact BK669.out) k_ hk⟩)); (case aO => exact (by (with_reducible repeat (first | apply Kd.R_alloc | apply Kd.R_drewN | apply Kd.R_drew)); exact Kd.R_mono (Kd.R_far (p := ⟨gb669, 1, none⟩) (Kd.R_mono HO_11.out (fun k_ hk => (⟨hk, hk.2⟩ : _ ∧ k_ ≠ gb669))) (fun _ hk => hk.2) (.int .i64 a1)) (fun _ hk => ⟨hk.1.1, hk.1.2⟩))); (case aS => exact (below_size (by repeat (first | (with_reducible first | exact HB.out | apply below_alloc | apply pw_below_drewN | apply below_drew1 | refine below_set ?_ GE668.out | refine below_set ?_ GE669.out) | exact HB.out)))); (case aL => have := LMc45.out; omega); intro v674 w49 ho hb hg hat; rw [← Ny673.out] at ho; have n0_ := Aside0.mk (blk_grown (g := gb668) (o := .cells #[.int .i64 ((rd_T61 l0 x51_3).f0), .int .i64 ((rd_T61 l0 x51_3).f1)] 61 (0, 0)) (by (with_reducible repeat (first | refine blk_drewN ?_ _ | refine blk_drew ?_ | refine blk_alloc ?_ _)); refine blk_far ?_ NB668_669.out _; (with_reducible repeat (first | refine blk_drewN ?_ _ | refine blk_drew ?_ | refine blk_alloc ?_ _)); exact BK668.out) hg (Kd.R_away HO_11.out (fun _ hk => hk.1))); have n1_ := Aside0.mk (blk_grown (g := gb669) (o := .cells #[.int .i64 ((rd_T61 l0 x51_3).f0), .int .i64 a1] 61 (0, 0)) (by (with_reducible repeat (first | refine blk_drewN ?_ _ | refine blk_drew ?_ | refine blk_alloc ?_ _)); refine blk_put (cs := #[.int .i64 ((rd_T61 l0 x51_3).f0), .int .i64 (wrap64 (((rd_T61 l0 x51_3).f1) + 1))]) ?_ 1 _ rfl; (with_reducible repeat (first | refine blk_drewN ?_ _ | refine blk_drew ?_ | refine blk_alloc ?_ _)); exact BK669.out) hg (Kd.R_away HO_11.out (fun _ hk => hk.2))); have n2_ := Aside0.mk (hb); have n3_ := Aside0.mk (ho); clear BK668; clear BK669; clear HB; clear HO_11; have BK668 := n0_; have BK669 := n1_; have HB := n2_; have HO675 := n3_; clear n0_ n1_ n2_ n3_; clear ho hb hg hat))
                                    go_roundg kj25
                                    case measure => have := HK1.out; have := HJ12.out; have := HK3.out; have := HJ25.out; omega
                                    case rel => exact ⟨(y673), (wrap64 (x51_3 + 1)), (by first | rfl | (simp; done) | (simp [*]; done)), H', ⟨by have := HK1.out; have := HJ12.out; have := HK3.out; have := HJ25.out; omega⟩, ⟨by (with_reducible repeat (first | apply Kd.R_alloc | apply Kd.R_drewN | apply Kd.R_drew)); exact Kd.R_mono HO675.out (fun _ hk => trivial)⟩, ⟨by repeat (first | (with_reducible first | exact HB.out | apply below_alloc | apply pw_below_drewN | apply below_drew1 | refine below_set ?_ GE668.out | refine below_set ?_ GE669.out) | exact HB.out)⟩⟩
                                  · rw [if_neg c45] at H
                                    exact absurd H (by simp)
                              · replace c38 := Bool.eq_false_iff.mpr c38
                                subst c38
                                have H1 : (if ((rd_T61 l0 x51_3).f0) ≥ a1 then (if x11_3.length < 8796093022208 then (spec_asGrow.l1 kj25 a1 a2 (x11_3 ++ [(⟨wrap64 (((rd_T61 l0 x51_3).f0) + 1), (wrap64 (((rd_T61 l0 x51_3).f1) + 1))⟩ : S61)]) l0 (l0.length : Int) (wrap64 (x51_3 + 1))) else (none)) else (if x11_3.length < 8796093022208 then (spec_asGrow.l1 kj25 a1 a2 (x11_3 ++ [(⟨((rd_T61 l0 x51_3).f0), (wrap64 (((rd_T61 l0 x51_3).f1) + 1))⟩ : S61)]) l0 (l0.length : Int) (wrap64 (x51_3 + 1))) else (none))) = some (r1, r2) := by rw [if_neg (show ¬ (false = true) by decide)] at H; exact H
                                clear H
                                have H := H1
                                clear H1
                                by_cases c50 : ((rd_T61 l0 x51_3).f0) ≥ a1
                                · rw [if_pos c50] at H
                                  have c50b0 : decide (a1 ≤ ((rd_T61 l0 x51_3).f0)) = true := decide_eq_true c50
                                  clear c50
                                  by_cases c51 : x11_3.length < 8796093022208
                                  · rw [if_pos c51] at H
                                    have LMc51 := Aside0.mk c51
                                    clear c51
                                    obtain ⟨y676, hy676⟩ : ∃ y_ : List (S61), y_ = (x11_3 ++ [(⟨wrap64 (((rd_T61 l0 x51_3).f0) + 1), (wrap64 (((rd_T61 l0 x51_3).f1) + 1))⟩ : S61)]) := ⟨_, rfl⟩
                                    replace H : (spec_asGrow.l1 kj25 a1 a2 y676 l0 (l0.length : Int) (wrap64 (x51_3 + 1))) = some (r1, r2) := by first | (rw [hy676]; with_reducible exact H) | (have H2_ := (Option.bind_some _ _).symm.trans H; rw [hy676]; with_reducible exact H2_) | (have H2_ := (Option.bind_some _ _).symm.trans H; with_reducible exact H2_) | with_reducible exact H | (rw [hy676]; exact H) | exact H
                                    have Ny676 := Aside0.mk hy676
                                    clear hy676
                                    have H' := Aside0.mk H
                                    clear H
                                    have hnb52 := NB668_669.out
                                    have hnc52 := NB669_668.out
                                    have hcz53_0 : wc.cell? ⟨gb668, 0, none⟩ = some (.int .i64 ((rd_T61 l0 x51_3).f0)) := (blk_cell BK668.out 0).trans rfl
                                    have hcz53_1 : wc.cell? ⟨gb668, 1, none⟩ = some (.int .i64 ((rd_T61 l0 x51_3).f1)) := (blk_cell BK668.out 1).trans rfl
                                    have hfz53_0 := blk_frozen BK668.out 0
                                    have hfz53_1 := blk_frozen BK668.out 1
                                    have hcz54_0 : wc.cell? ⟨gb669, 0, none⟩ = some (.int .i64 ((rd_T61 l0 x51_3).f0)) := (blk_cell BK669.out 0).trans rfl
                                    have hcz54_1 : wc.cell? ⟨gb669, 1, none⟩ = some (.int .i64 (wrap64 (((rd_T61 l0 x51_3).f1) + 1))) := (blk_cell BK669.out 1).trans rfl
                                    have hfz54_0 := blk_frozen BK669.out 0
                                    have hfz54_1 := blk_frozen BK669.out 1
                                    go_wp2_with (first | ((with_reducible refine gate_builtin (b := .append) (xs := #[.tmp 85, .tmp 87]) rfl ?_); at_builtin; refine Kd.R_append k61 (w0 := w) w.heap.size rfl (.tmp 85) (.tmp 87) 40 61 (.agg #[(.int .i64 0), (.int .i64 0)]) 16 rfl Try.underlying40 info61 rfl (by decide) (by omega) u11 x11_3 (⟨wrap64 (((rd_T61 l0 x51_3).f0) + 1), (wrap64 (((rd_T61 l0 x51_3).f1) + 1))⟩ : S61) [.int .i64 (wrap64 (((rd_T61 l0 x51_3).f0) + 1)), .int .i64 (wrap64 (((rd_T61 l0 x51_3).f1) + 1))] (fun k_ => k_ ≠ gb668 ∧ k_ ≠ gb669) (fun _ => False) rfl (by first | (go_simp; done) | (go_simp; rfl)) ?aP (fun _ hk => hk.elim) ?aF ?aO ?aB ?aS ?aL ?_; (case aP => exact k61_mkM _ _ _ (⟨wrap64 (((rd_T61 l0 x51_3).f0) + 1), (wrap64 (((rd_T61 l0 x51_3).f1) + 1))⟩ : S61)); (case aB => exact (by repeat (first | (with_reducible first | exact HB.out | apply below_alloc | apply pw_below_drewN | apply below_drew1 | refine below_set ?_ GE668.out | refine below_set ?_ GE669.out) | exact HB.out))); (case aF => exact (fun k_ hk => ⟨Kd.freshB (g := gb668) (o := .cells #[.int .i64 ((rd_T61 l0 x51_3).f0), .int .i64 ((rd_T61 l0 x51_3).f1)] 61 (0, 0)) (by (with_reducible repeat (first | refine blk_drewN ?_ _ | refine blk_drew ?_ | refine blk_alloc ?_ _)); refine blk_far ?_ NB668_669.out _; (with_reducible repeat (first | refine blk_drewN ?_ _ | refine blk_drew ?_ | refine blk_alloc ?_ _)); exact BK668.out) k_ hk, Kd.freshB (g := gb669) (o := .cells #[.int .i64 (wrap64 (((rd_T61 l0 x51_3).f0) + 1)), .int .i64 (wrap64 (((rd_T61 l0 x51_3).f1) + 1))] 61 (0, 0)) (by (with_reducible repeat (first | refine blk_drewN ?_ _ | refine blk_drew ?_ | refine blk_alloc ?_ _)); refine blk_put (cs := #[.int .i64 ((rd_T61 l0 x51_3).f0), .int .i64 (wrap64 (((rd_T61 l0 x51_3).f1) + 1))]) ?_ 0 _ rfl; (with_reducible repeat (first | refine blk_drewN ?_ _ | refine blk_drew ?_ | refine blk_alloc ?_ _)); exact BK669.out) k_ hk⟩)); (case aO => exact (by (with_reducible repeat (first | apply Kd.R_alloc | apply Kd.R_drewN | apply Kd.R_drew)); exact Kd.R_mono (Kd.R_far (p := ⟨gb669, 0, none⟩) (Kd.R_mono HO_11.out (fun k_ hk => (⟨hk, hk.2⟩ : _ ∧ k_ ≠ gb669))) (fun _ hk => hk.2) (.int .i64 (wrap64 (((rd_T61 l0 x51_3).f0) + 1)))) (fun _ hk => ⟨hk.1.1, hk.1.2⟩))); (case aS => exact (below_size (by repeat (first | (with_reducible first | exact HB.out | apply below_alloc | apply pw_below_drewN | apply below_drew1 | refine below_set ?_ GE668.out | refine below_set ?_ GE669.out) | exact HB.out)))); (case aL => have := LMc51.out; omega); intro v677 w55 ho hb hg hat; rw [← Ny676.out] at ho; have n0_ := Aside0.mk (blk_grown (g := gb668) (o := .cells #[.int .i64 ((rd_T61 l0 x51_3).f0), .int .i64 ((rd_T61 l0 x51_3).f1)] 61 (0, 0)) (by (with_reducible repeat (first | refine blk_drewN ?_ _ | refine blk_drew ?_ | refine blk_alloc ?_ _)); refine blk_far ?_ NB668_669.out _; (with_reducible repeat (first | refine blk_drewN ?_ _ | refine blk_drew ?_ | refine blk_alloc ?_ _)); exact BK668.out) hg (Kd.R_away HO_11.out (fun _ hk => hk.1))); have n1_ := Aside0.mk (blk_grown (g := gb669) (o := .cells #[.int .i64 (wrap64 (((rd_T61 l0 x51_3).f0) + 1)), .int .i64 (wrap64 (((rd_T61 l0 x51_3).f1) + 1))] 61 (0, 0)) (by (with_reducible repeat (first | refine blk_drewN ?_ _ | refine blk_drew ?_ | refine blk_alloc ?_ _)); refine blk_put (cs := #[.int .i64 ((rd_T61 l0 x51_3).f0), .int .i64 (wrap64 (((rd_T61 l0 x51_3).f1) + 1))]) ?_ 0 _ rfl; (with_reducible repeat (first | refine blk_drewN ?_ _ | refine blk_drew ?_ | refine blk_alloc ?_ _)); exact BK669.out) hg (Kd.R_away HO_11.out (fun _ hk => hk.2))); have n2_ := Aside0.mk (hb); have n3_ := Aside0.mk (ho); clear BK668; clear BK669; clear HB; clear HO_11; have BK668 := n0_; have BK669 := n1_; have HB := n2_; have HO678 := n3_; clear n0_ n1_ n2_ n3_; clear ho hb hg hat))
                                    go_roundg kj25
                                    case measure => have := HK1.out; have := HJ12.out; have := HK3.out; have := HJ25.out; omega
                                    case rel => exact ⟨(y676), (wrap64 (x51_3 + 1)), (by first | rfl | (simp; done) | (simp [*]; done)), H', ⟨by have := HK1.out; have := HJ12.out; have := HK3.out; have := HJ25.out; omega⟩, ⟨by (with_reducible repeat (first | apply Kd.R_alloc | apply Kd.R_drewN | apply Kd.R_drew)); exact Kd.R_mono HO678.out (fun _ hk => trivial)⟩, ⟨by repeat (first | (with_reducible first | exact HB.out | apply below_alloc | apply pw_below_drewN | apply below_drew1 | refine below_set ?_ GE668.out | refine below_set ?_ GE669.out) | exact HB.out)⟩⟩
                                  · rw [if_neg c51] at H
                                    exact absurd H (by simp)
                                · rw [if_neg c50] at H
                                  have c50b0 : decide (a1 ≤ ((rd_T61 l0 x51_3).f0)) = false := decide_eq_false c50
                                  clear c50
                                  by_cases c56 : x11_3.length < 8796093022208
                                  · rw [if_pos c56] at H
                                    have LMc56 := Aside0.mk c56
                                    clear c56
                                    obtain ⟨y679, hy679⟩ : ∃ y_ : List (S61), y_ = (x11_3 ++ [(⟨((rd_T61 l0 x51_3).f0), (wrap64 (((rd_T61 l0 x51_3).f1) + 1))⟩ : S61)]) := ⟨_, rfl⟩
                                    replace H : (spec_asGrow.l1 kj25 a1 a2 y679 l0 (l0.length : Int) (wrap64 (x51_3 + 1))) = some (r1, r2) := by first | (rw [hy679]; with_reducible exact H) | (have H2_ := (Option.bind_some _ _).symm.trans H; rw [hy679]; with_reducible exact H2_) | (have H2_ := (Option.bind_some _ _).symm.trans H; with_reducible exact H2_) | with_reducible exact H | (rw [hy679]; exact H) | exact H
                                    have Ny679 := Aside0.mk hy679
                                    clear hy679
                                    have H' := Aside0.mk H
                                    clear H
                                    have hnb57 := NB668_669.out
                                    have hnc57 := NB669_668.out
                                    have hcz58_0 : wc.cell? ⟨gb668, 0, none⟩ = some (.int .i64 ((rd_T61 l0 x51_3).f0)) := (blk_cell BK668.out 0).trans rfl
                                    have hcz58_1 : wc.cell? ⟨gb668, 1, none⟩ = some (.int .i64 ((rd_T61 l0 x51_3).f1)) := (blk_cell BK668.out 1).trans rfl
                                    have hfz58_0 := blk_frozen BK668.out 0
                                    have hfz58_1 := blk_frozen BK668.out 1
                                    have hcz59_0 : wc.cell? ⟨gb669, 0, none⟩ = some (.int .i64 ((rd_T61 l0 x51_3).f0)) := (blk_cell BK669.out 0).trans rfl
                                    have hcz59_1 : wc.cell? ⟨gb669, 1, none⟩ = some (.int .i64 (wrap64 (((rd_T61 l0 x51_3).f1) + 1))) := (blk_cell BK669.out 1).trans rfl
                                    have hfz59_0 := blk_frozen BK669.out 0
                                    have hfz59_1 := blk_frozen BK669.out 1
                                    go_wp2_with (first | ((with_reducible refine gate_builtin (b := .append) (xs := #[.tmp 85, .tmp 87]) rfl ?_); at_builtin; refine Kd.R_append k61 (w0 := w) w.heap.size rfl (.tmp 85) (.tmp 87) 40 61 (.agg #[(.int .i64 0), (.int .i64 0)]) 16 rfl Try.underlying40 info61 rfl (by decide) (by omega) u11 x11_3 (⟨((rd_T61 l0 x51_3).f0), (wrap64 (((rd_T61 l0 x51_3).f1) + 1))⟩ : S61) [.int .i64 ((rd_T61 l0 x51_3).f0), .int .i64 (wrap64 (((rd_T61 l0 x51_3).f1) + 1))] (fun k_ => k_ ≠ gb668 ∧ k_ ≠ gb669) (fun _ => False) rfl rfl ?aP (fun _ hk => hk.elim) ?aF ?aO ?aB ?aS ?aL ?_; (case aP => exact k61_mkM _ _ _ (⟨((rd_T61 l0 x51_3).f0), (wrap64 (((rd_T61 l0 x51_3).f1) + 1))⟩ : S61)); (case aB => exact (by repeat (first | (with_reducible first | exact HB.out | apply below_alloc | apply pw_below_drewN | apply below_drew1 | refine below_set ?_ GE668.out | refine below_set ?_ GE669.out) | exact HB.out))); (case aF => exact (fun k_ hk => ⟨Kd.freshB (g := gb668) (o := .cells #[.int .i64 ((rd_T61 l0 x51_3).f0), .int .i64 ((rd_T61 l0 x51_3).f1)] 61 (0, 0)) (by (with_reducible repeat (first | refine blk_drewN ?_ _ | refine blk_drew ?_ | refine blk_alloc ?_ _)); exact BK668.out) k_ hk, Kd.freshB (g := gb669) (o := .cells #[.int .i64 ((rd_T61 l0 x51_3).f0), .int .i64 (wrap64 (((rd_T61 l0 x51_3).f1) + 1))] 61 (0, 0)) (by (with_reducible repeat (first | refine blk_drewN ?_ _ | refine blk_drew ?_ | refine blk_alloc ?_ _)); exact BK669.out) k_ hk⟩)); (case aO => exact (by (with_reducible repeat (first | apply Kd.R_alloc | apply Kd.R_drewN | apply Kd.R_drew)); exact HO_11.out)); (case aS => exact (below_size (by repeat (first | (with_reducible first | exact HB.out | apply below_alloc | apply pw_below_drewN | apply below_drew1 | refine below_set ?_ GE668.out | refine below_set ?_ GE669.out) | exact HB.out)))); (case aL => have := LMc56.out; omega); intro v680 w60 ho hb hg hat; rw [← Ny679.out] at ho; have n0_ := Aside0.mk (blk_grown (g := gb668) (o := .cells #[.int .i64 ((rd_T61 l0 x51_3).f0), .int .i64 ((rd_T61 l0 x51_3).f1)] 61 (0, 0)) (by (with_reducible repeat (first | refine blk_drewN ?_ _ | refine blk_drew ?_ | refine blk_alloc ?_ _)); exact BK668.out) hg (Kd.R_away HO_11.out (fun _ hk => hk.1))); have n1_ := Aside0.mk (blk_grown (g := gb669) (o := .cells #[.int .i64 ((rd_T61 l0 x51_3).f0), .int .i64 (wrap64 (((rd_T61 l0 x51_3).f1) + 1))] 61 (0, 0)) (by (with_reducible repeat (first | refine blk_drewN ?_ _ | refine blk_drew ?_ | refine blk_alloc ?_ _)); exact BK669.out) hg (Kd.R_away HO_11.out (fun _ hk => hk.2))); have n2_ := Aside0.mk (hb); have n3_ := Aside0.mk (ho); clear BK668; clear BK669; clear HB; clear HO_11; have BK668 := n0_; have BK669 := n1_; have HB := n2_; have HO681 := n3_; clear n0_ n1_ n2_ n3_; clear ho hb hg hat))
                                    go_roundg kj25
                                    case measure => have := HK1.out; have := HJ12.out; have := HK3.out; have := HJ25.out; omega
                                    case rel => exact ⟨(y679), (wrap64 (x51_3 + 1)), (by first | rfl | (simp; done) | (simp [*]; done)), H', ⟨by have := HK1.out; have := HJ12.out; have := HK3.out; have := HJ25.out; omega⟩, ⟨by (with_reducible repeat (first | apply Kd.R_alloc | apply Kd.R_drewN | apply Kd.R_drew)); exact Kd.R_mono HO681.out (fun _ hk => trivial)⟩, ⟨by repeat (first | (with_reducible first | exact HB.out | apply below_alloc | apply pw_below_drewN | apply below_drew1 | refine below_set ?_ GE668.out | refine below_set ?_ GE669.out) | exact HB.out)⟩⟩
                                  · rw [if_neg c56] at H
                                    exact absurd H (by simp)
                        · rw [if_neg c25] at H
                          have c25b0 : decide (a1 ≤ ((rd_T61 l0 x51_3).f1)) = false := decide_eq_false c25
                          clear c25
                          by_cases c61 : ((rd_T61 l0 x51_3).f0) ≥ a1
                          · rw [if_pos c61] at H
                            have c61b0 : decide (a1 ≤ ((rd_T61 l0 x51_3).f0)) = true := decide_eq_true c61
                            clear c61
                            by_cases c62 : x11_3.length < 8796093022208
                            · rw [if_pos c62] at H
                              have LMc62 := Aside0.mk c62
                              clear c62
                              obtain ⟨y682, hy682⟩ : ∃ y_ : List (S61), y_ = (x11_3 ++ [(⟨wrap64 (((rd_T61 l0 x51_3).f0) + 1), (rd_T61 l0 x51_3).f1⟩ : S61)]) := ⟨_, rfl⟩
                              replace H : (spec_asGrow.l1 k3 a1 a2 y682 l0 (l0.length : Int) (wrap64 (x51_3 + 1))) = some (r1, r2) := by first | (rw [hy682]; with_reducible exact H) | (have H2_ := (Option.bind_some _ _).symm.trans H; rw [hy682]; with_reducible exact H2_) | (have H2_ := (Option.bind_some _ _).symm.trans H; with_reducible exact H2_) | with_reducible exact H | (rw [hy682]; exact H) | exact H
                              have Ny682 := Aside0.mk hy682
                              clear hy682
                              have H' := Aside0.mk H
                              clear H
                              have p667 : 0 ≤ (x51_3 : Int) := of_decide_eq_true (by first | (with_reducible assumption) | assumption)
                              have q667 : x51_3 < (l0.length : Int) := of_decide_eq_true (by first | (with_reducible assumption) | assumption)
                              obtain ⟨ad667, e667, hx667_0, hx667_1⟩ := at_T61 HR0.out x51_3 p667 q667
                              cases e667
                              replace hx667_0 := (HB.out.cell (World.block_lt_of_cell? w _ hx667_0)).trans hx667_0
                              replace hx667_1 := (HB.out.cell (World.block_lt_of_cell? w _ hx667_1)).trans hx667_1
                              replace p667 := eq_true p667
                              replace q667 := eq_true q667
                              go_wp2_with (first | ((with_reducible refine gate_dst (N := 13) rfl ?_); refine box_event ?hg (N := 13) ?hd (cs := #[.int .i64 0, .int .i64 0]) (t := 61) ?hr ?_; (case hd => rfl); (case hg => rfl); (case hr => first | (go_simp; done) | (go_simp; rfl)); intro gb668 hg w63 hbox hb; have n0_ := Aside0.mk (Kd.R_below (Kd.R_elderB (by (with_reducible repeat (first | apply Kd.R_alloc | apply Kd.R_drewN | apply Kd.R_drew)); exact HO_11.out) gb668 (Nat.le_of_eq hg.symm)) hb); have n1_ := Aside0.mk (below_step (by repeat (first | (with_reducible first | exact HB.out | apply below_alloc | apply pw_below_drewN | apply below_drew1) | exact HB.out)) hb); have n2_ := Aside0.mk (hbox); have n3_ := Aside0.mk ((by rw [hg]; exact (below_size (by repeat (first | (with_reducible first | exact HB.out | apply below_alloc | apply pw_below_drewN | apply below_drew1) | exact HB.out))) : w.heap.size ≤ gb668)); have n4_ := Aside0.mk ((by rw [hg]; exact (below_size (by repeat (first | (with_reducible first | exact HB.out | apply below_alloc | apply pw_below_drewN | apply below_drew1) | exact HB.out))) : w.heap.size ≤ gb668)); clear HO_11; clear HB; have HO_11 := n0_; have HB := n1_; have BK668 := n2_; have GW668 := n3_; have GE668 := n4_; clear n0_ n1_ n2_ n3_ n4_; clear hb hbox hg; have hcz64_0 : w63.cell? ⟨gb668, 0, none⟩ = some (.int .i64 0) := (blk_cell BK668.out 0).trans rfl; have hcz64_1 : w63.cell? ⟨gb668, 1, none⟩ = some (.int .i64 0) := (blk_cell BK668.out 1).trans rfl; have hfz64_0 := blk_frozen BK668.out 0; have hfz64_1 := blk_frozen BK668.out 1) | ((with_reducible refine gate_dst (N := 14) rfl ?_); refine box_event ?hg (N := 14) ?hd (cs := #[.int .i64 0, .int .i64 0]) (t := 61) ?hr ?_; (case hd => rfl); (case hg => rfl); (case hr => first | (go_simp; done) | (go_simp; rfl)); intro gb669 hg w65 hbox hb; have n0_ := Aside0.mk (Kd.R_below (Kd.R_elderB (by (with_reducible repeat (first | apply Kd.R_alloc | apply Kd.R_drewN | apply Kd.R_drew)); exact (Kd.R_mono (Kd.R_far (p := ⟨gb668, 1, none⟩) (Kd.R_far (p := ⟨gb668, 0, none⟩) (Kd.R_mono HO_11.out (fun k_ hk => (⟨hk, hk.2⟩ : _ ∧ k_ ≠ gb668))) (fun _ hk => hk.2) (.int .i64 ((rd_T61 l0 x51_3).f0))) (fun _ hk => hk.2) (.int .i64 ((rd_T61 l0 x51_3).f1))) (fun _ h_ => h_.1))) gb669 (Nat.le_of_eq hg.symm)) hb); have n1_ := Aside0.mk (blk_below (g := gb668) (o := .cells #[.int .i64 ((rd_T61 l0 x51_3).f0), .int .i64 ((rd_T61 l0 x51_3).f1)] 61 (0, 0)) (by (with_reducible repeat (first | refine blk_drewN ?_ _ | refine blk_drew ?_ | refine blk_alloc ?_ _)); refine blk_put (cs := #[.int .i64 ((rd_T61 l0 x51_3).f0), .int .i64 0]) ?_ 1 _ rfl; (with_reducible repeat (first | refine blk_drewN ?_ _ | refine blk_drew ?_ | refine blk_alloc ?_ _)); refine blk_put (cs := #[.int .i64 0, .int .i64 0]) ?_ 0 _ rfl; (with_reducible repeat (first | refine blk_drewN ?_ _ | refine blk_drew ?_ | refine blk_alloc ?_ _)); exact BK668.out) hb); have n2_ := Aside0.mk (below_step (by repeat (first | (with_reducible first | exact HB.out | apply below_alloc | apply pw_below_drewN | apply below_drew1 | refine below_set ?_ GE668.out) | exact HB.out)) hb); have n3_ := Aside0.mk (hbox); have n4_ := Aside0.mk ((by rw [hg]; exact (below_size (by repeat (first | (with_reducible first | exact HB.out | apply below_alloc | apply pw_below_drewN | apply below_drew1 | refine below_set ?_ GE668.out) | exact HB.out))) : w.heap.size ≤ gb669)); have n5_ := Aside0.mk ((by rw [hg]; exact (below_size (by repeat (first | (with_reducible first | exact HB.out | apply below_alloc | apply pw_below_drewN | apply below_drew1 | refine below_set ?_ GE668.out) | exact HB.out))) : w.heap.size ≤ gb669)); have n6_ := Aside0.mk ((by rw [hg]; exact Nat.ne_of_lt (blk_lt (g := gb668) (o := .cells #[.int .i64 ((rd_T61 l0 x51_3).f0), .int .i64 ((rd_T61 l0 x51_3).f1)] 61 (0, 0)) (by (with_reducible repeat (first | refine blk_drewN ?_ _ | refine blk_drew ?_ | refine blk_alloc ?_ _)); refine blk_put (cs := #[.int .i64 ((rd_T61 l0 x51_3).f0), .int .i64 0]) ?_ 1 _ rfl; (with_reducible repeat (first | refine blk_drewN ?_ _ | refine blk_drew ?_ | refine blk_alloc ?_ _)); refine blk_put (cs := #[.int .i64 0, .int .i64 0]) ?_ 0 _ rfl; (with_reducible repeat (first | refine blk_drewN ?_ _ | refine blk_drew ?_ | refine blk_alloc ?_ _)); exact BK668.out)) : gb668 ≠ gb669)); have n7_ := Aside0.mk ((by rw [hg]; exact Nat.ne_of_gt (blk_lt (g := gb668) (o := .cells #[.int .i64 ((rd_T61 l0 x51_3).f0), .int .i64 ((rd_T61 l0 x51_3).f1)] 61 (0, 0)) (by (with_reducible repeat (first | refine blk_drewN ?_ _ | refine blk_drew ?_ | refine blk_alloc ?_ _)); refine blk_put (cs := #[.int .i64 ((rd_T61 l0 x51_3).f0), .int .i64 0]) ?_ 1 _ rfl; (with_reducible repeat (first | refine blk_drewN ?_ _ | refine blk_drew ?_ | refine blk_alloc ?_ _)); refine blk_put (cs := #[.int .i64 0, .int .i64 0]) ?_ 0 _ rfl; (with_reducible repeat (first | refine blk_drewN ?_ _ | refine blk_drew ?_ | refine blk_alloc ?_ _)); exact BK668.out)) : gb669 ≠ gb668)); clear HO_11; clear BK668; clear HB; have HO_11 := n0_; have BK668 := n1_; have HB := n2_; have BK669 := n3_; have GW669 := n4_; have GE669 := n5_; have NB668_669 := n6_; have NB669_668 := n7_; clear n0_ n1_ n2_ n3_ n4_ n5_ n6_ n7_; clear hb hbox hg; have hnb66 := NB669_668.out; have hnc66 := NB668_669.out; have hcz67_0 : w65.cell? ⟨gb669, 0, none⟩ = some (.int .i64 0) := (blk_cell BK669.out 0).trans rfl; have hcz67_1 : w65.cell? ⟨gb669, 1, none⟩ = some (.int .i64 0) := (blk_cell BK669.out 1).trans rfl; have hfz67_0 := blk_frozen BK669.out 0; have hfz67_1 := blk_frozen BK669.out 1; have hcz68_0 : w65.cell? ⟨gb668, 0, none⟩ = some (.int .i64 ((rd_T61 l0 x51_3).f0)) := (blk_cell BK668.out 0).trans rfl; have hcz68_1 : w65.cell? ⟨gb668, 1, none⟩ = some (.int .i64 ((rd_T61 l0 x51_3).f1)) := (blk_cell BK668.out 1).trans rfl; have hfz68_0 := blk_frozen BK668.out 0; have hfz68_1 := blk_frozen BK668.out 1) | ((with_reducible refine gate_builtin (b := .append) (xs := #[.tmp 85, .tmp 87]) rfl ?_); at_builtin; refine Kd.R_append k61 (w0 := w) w.heap.size rfl (.tmp 85) (.tmp 87) 40 61 (.agg #[(.int .i64 0), (.int .i64 0)]) 16 rfl Try.underlying40 info61 rfl (by decide) (by omega) u11 x11_3 (⟨wrap64 (((rd_T61 l0 x51_3).f0) + 1), (rd_T61 l0 x51_3).f1⟩ : S61) [.int .i64 (wrap64 (((rd_T61 l0 x51_3).f0) + 1)), .int .i64 ((rd_T61 l0 x51_3).f1)] (fun k_ => k_ ≠ gb668 ∧ k_ ≠ gb669) (fun _ => False) rfl (by first | (go_simp; done) | (go_simp; rfl)) ?aP (fun _ hk => hk.elim) ?aF ?aO ?aB ?aS ?aL ?_; (case aP => exact k61_mkM _ _ _ (⟨wrap64 (((rd_T61 l0 x51_3).f0) + 1), (rd_T61 l0 x51_3).f1⟩ : S61)); (case aB => exact (by repeat (first | (with_reducible first | exact HB.out | apply below_alloc | apply pw_below_drewN | apply below_drew1 | refine below_set ?_ GE668.out | refine below_set ?_ GE669.out) | exact HB.out))); (case aF => exact (fun k_ hk => ⟨Kd.freshB (g := gb668) (o := .cells #[.int .i64 ((rd_T61 l0 x51_3).f0), .int .i64 ((rd_T61 l0 x51_3).f1)] 61 (0, 0)) (by (with_reducible repeat (first | refine blk_drewN ?_ _ | refine blk_drew ?_ | refine blk_alloc ?_ _)); refine blk_far ?_ NB668_669.out _; (with_reducible repeat (first | refine blk_drewN ?_ _ | refine blk_drew ?_ | refine blk_alloc ?_ _)); refine blk_far ?_ NB668_669.out _; (with_reducible repeat (first | refine blk_drewN ?_ _ | refine blk_drew ?_ | refine blk_alloc ?_ _)); refine blk_far ?_ NB668_669.out _; (with_reducible repeat (first | refine blk_drewN ?_ _ | refine blk_drew ?_ | refine blk_alloc ?_ _)); exact BK668.out) k_ hk, Kd.freshB (g := gb669) (o := .cells #[.int .i64 (wrap64 (((rd_T61 l0 x51_3).f0) + 1)), .int .i64 ((rd_T61 l0 x51_3).f1)] 61 (0, 0)) (by (with_reducible repeat (first | refine blk_drewN ?_ _ | refine blk_drew ?_ | refine blk_alloc ?_ _)); refine blk_put (cs := #[.int .i64 ((rd_T61 l0 x51_3).f0), .int .i64 ((rd_T61 l0 x51_3).f1)]) ?_ 0 _ rfl; (with_reducible repeat (first | refine blk_drewN ?_ _ | refine blk_drew ?_ | refine blk_alloc ?_ _)); refine blk_put (cs := #[.int .i64 ((rd_T61 l0 x51_3).f0), .int .i64 0]) ?_ 1 _ rfl; (with_reducible repeat (first | refine blk_drewN ?_ _ | refine blk_drew ?_ | refine blk_alloc ?_ _)); refine blk_put (cs := #[.int .i64 0, .int .i64 0]) ?_ 0 _ rfl; (with_reducible repeat (first | refine blk_drewN ?_ _ | refine blk_drew ?_ | refine blk_alloc ?_ _)); exact BK669.out) k_ hk⟩)); (case aO => exact (by (with_reducible repeat (first | apply Kd.R_alloc | apply Kd.R_drewN | apply Kd.R_drew)); exact Kd.R_mono (Kd.R_far (p := ⟨gb669, 0, none⟩) (Kd.R_far (p := ⟨gb669, 1, none⟩) (Kd.R_far (p := ⟨gb669, 0, none⟩) (Kd.R_mono HO_11.out (fun k_ hk => (⟨hk, hk.2⟩ : _ ∧ k_ ≠ gb669))) (fun _ hk => hk.2) (.int .i64 ((rd_T61 l0 x51_3).f0))) (fun _ hk => hk.2) (.int .i64 ((rd_T61 l0 x51_3).f1))) (fun _ hk => hk.2) (.int .i64 (wrap64 (((rd_T61 l0 x51_3).f0) + 1)))) (fun _ hk => ⟨hk.1.1.2, hk.1.2⟩))); (case aS => exact (below_size (by repeat (first | (with_reducible first | exact HB.out | apply below_alloc | apply pw_below_drewN | apply below_drew1 | refine below_set ?_ GE668.out | refine below_set ?_ GE669.out) | exact HB.out)))); (case aL => have := LMc62.out; omega); intro v683 w69 ho hb hg hat; rw [← Ny682.out] at ho; have n0_ := Aside0.mk (blk_grown (g := gb668) (o := .cells #[.int .i64 ((rd_T61 l0 x51_3).f0), .int .i64 ((rd_T61 l0 x51_3).f1)] 61 (0, 0)) (by (with_reducible repeat (first | refine blk_drewN ?_ _ | refine blk_drew ?_ | refine blk_alloc ?_ _)); refine blk_far ?_ NB668_669.out _; (with_reducible repeat (first | refine blk_drewN ?_ _ | refine blk_drew ?_ | refine blk_alloc ?_ _)); refine blk_far ?_ NB668_669.out _; (with_reducible repeat (first | refine blk_drewN ?_ _ | refine blk_drew ?_ | refine blk_alloc ?_ _)); refine blk_far ?_ NB668_669.out _; (with_reducible repeat (first | refine blk_drewN ?_ _ | refine blk_drew ?_ | refine blk_alloc ?_ _)); exact BK668.out) hg (Kd.R_away HO_11.out (fun _ hk => hk.1.2))); have n1_ := Aside0.mk (blk_grown (g := gb669) (o := .cells #[.int .i64 (wrap64 (((rd_T61 l0 x51_3).f0) + 1)), .int .i64 ((rd_T61 l0 x51_3).f1)] 61 (0, 0)) (by (with_reducible repeat (first | refine blk_drewN ?_ _ | refine blk_drew ?_ | refine blk_alloc ?_ _)); refine blk_put (cs := #[.int .i64 ((rd_T61 l0 x51_3).f0), .int .i64 ((rd_T61 l0 x51_3).f1)]) ?_ 0 _ rfl; (with_reducible repeat (first | refine blk_drewN ?_ _ | refine blk_drew ?_ | refine blk_alloc ?_ _)); refine blk_put (cs := #[.int .i64 ((rd_T61 l0 x51_3).f0), .int .i64 0]) ?_ 1 _ rfl; (with_reducible repeat (first | refine blk_drewN ?_ _ | refine blk_drew ?_ | refine blk_alloc ?_ _)); refine blk_put (cs := #[.int .i64 0, .int .i64 0]) ?_ 0 _ rfl; (with_reducible repeat (first | refine blk_drewN ?_ _ | refine blk_drew ?_ | refine blk_alloc ?_ _)); exact BK669.out) hg (Kd.R_away HO_11.out (fun _ hk => hk.2))); have n2_ := Aside0.mk (hb); have n3_ := Aside0.mk (ho); clear BK668; clear BK669; clear HB; clear HO_11; have BK668 := n0_; have BK669 := n1_; have HB := n2_; have HO684 := n3_; clear n0_ n1_ n2_ n3_; clear ho hb hg hat))
                              go_roundg k3
                              case measure => have := HK1.out; have := HJ12.out; have := HK3.out; omega
                              case rel => exact ⟨(y682), (wrap64 (x51_3 + 1)), (by first | rfl | (simp; done) | (simp [*]; done)), H', ⟨by have := HK1.out; have := HJ12.out; have := HK3.out; omega⟩, ⟨by (with_reducible repeat (first | apply Kd.R_alloc | apply Kd.R_drewN | apply Kd.R_drew)); exact Kd.R_mono HO684.out (fun _ hk => trivial)⟩, ⟨by repeat (first | (with_reducible first | exact HB.out | apply below_alloc | apply pw_below_drewN | apply below_drew1 | refine below_set ?_ GE668.out | refine below_set ?_ GE669.out) | exact HB.out)⟩⟩
                            · rw [if_neg c62] at H
                              exact absurd H (by simp)
                          · rw [if_neg c61] at H
                            have c61b0 : decide (a1 ≤ ((rd_T61 l0 x51_3).f0)) = false := decide_eq_false c61
                            clear c61
                            by_cases c70 : x11_3.length < 8796093022208
                            · rw [if_pos c70] at H
                              have LMc70 := Aside0.mk c70
                              clear c70
                              obtain ⟨y685, hy685⟩ : ∃ y_ : List (S61), y_ = (x11_3 ++ [(⟨(rd_T61 l0 x51_3).f0, (rd_T61 l0 x51_3).f1⟩ : S61)]) := ⟨_, rfl⟩
                              replace H : (spec_asGrow.l1 k3 a1 a2 y685 l0 (l0.length : Int) (wrap64 (x51_3 + 1))) = some (r1, r2) := by first | (rw [hy685]; with_reducible exact H) | (have H2_ := (Option.bind_some _ _).symm.trans H; rw [hy685]; with_reducible exact H2_) | (have H2_ := (Option.bind_some _ _).symm.trans H; with_reducible exact H2_) | with_reducible exact H | (rw [hy685]; exact H) | exact H
                              have Ny685 := Aside0.mk hy685
                              clear hy685
                              have H' := Aside0.mk H
                              clear H
                              have p667 : 0 ≤ (x51_3 : Int) := of_decide_eq_true (by first | (with_reducible assumption) | assumption)
                              have q667 : x51_3 < (l0.length : Int) := of_decide_eq_true (by first | (with_reducible assumption) | assumption)
                              obtain ⟨ad667, e667, hx667_0, hx667_1⟩ := at_T61 HR0.out x51_3 p667 q667
                              cases e667
                              replace hx667_0 := (HB.out.cell (World.block_lt_of_cell? w _ hx667_0)).trans hx667_0
                              replace hx667_1 := (HB.out.cell (World.block_lt_of_cell? w _ hx667_1)).trans hx667_1
                              replace p667 := eq_true p667
                              replace q667 := eq_true q667
                              go_wp2_with (first | ((with_reducible refine gate_dst (N := 13) rfl ?_); refine box_event ?hg (N := 13) ?hd (cs := #[.int .i64 0, .int .i64 0]) (t := 61) ?hr ?_; (case hd => rfl); (case hg => rfl); (case hr => first | (go_simp; done) | (go_simp; rfl)); intro gb668 hg w71 hbox hb; have n0_ := Aside0.mk (Kd.R_below (Kd.R_elderB (by (with_reducible repeat (first | apply Kd.R_alloc | apply Kd.R_drewN | apply Kd.R_drew)); exact HO_11.out) gb668 (Nat.le_of_eq hg.symm)) hb); have n1_ := Aside0.mk (below_step (by repeat (first | (with_reducible first | exact HB.out | apply below_alloc | apply pw_below_drewN | apply below_drew1) | exact HB.out)) hb); have n2_ := Aside0.mk (hbox); have n3_ := Aside0.mk ((by rw [hg]; exact (below_size (by repeat (first | (with_reducible first | exact HB.out | apply below_alloc | apply pw_below_drewN | apply below_drew1) | exact HB.out))) : w.heap.size ≤ gb668)); have n4_ := Aside0.mk ((by rw [hg]; exact (below_size (by repeat (first | (with_reducible first | exact HB.out | apply below_alloc | apply pw_below_drewN | apply below_drew1) | exact HB.out))) : w.heap.size ≤ gb668)); clear HO_11; clear HB; have HO_11 := n0_; have HB := n1_; have BK668 := n2_; have GW668 := n3_; have GE668 := n4_; clear n0_ n1_ n2_ n3_ n4_; clear hb hbox hg; have hcz72_0 : w71.cell? ⟨gb668, 0, none⟩ = some (.int .i64 0) := (blk_cell BK668.out 0).trans rfl; have hcz72_1 : w71.cell? ⟨gb668, 1, none⟩ = some (.int .i64 0) := (blk_cell BK668.out 1).trans rfl; have hfz72_0 := blk_frozen BK668.out 0; have hfz72_1 := blk_frozen BK668.out 1) | ((with_reducible refine gate_dst (N := 14) rfl ?_); refine box_event ?hg (N := 14) ?hd (cs := #[.int .i64 0, .int .i64 0]) (t := 61) ?hr ?_; (case hd => rfl); (case hg => rfl); (case hr => first | (go_simp; done) | (go_simp; rfl)); intro gb669 hg w73 hbox hb; have n0_ := Aside0.mk (Kd.R_below (Kd.R_elderB (by (with_reducible repeat (first | apply Kd.R_alloc | apply Kd.R_drewN | apply Kd.R_drew)); exact (Kd.R_mono (Kd.R_far (p := ⟨gb668, 1, none⟩) (Kd.R_far (p := ⟨gb668, 0, none⟩) (Kd.R_mono HO_11.out (fun k_ hk => (⟨hk, hk.2⟩ : _ ∧ k_ ≠ gb668))) (fun _ hk => hk.2) (.int .i64 ((rd_T61 l0 x51_3).f0))) (fun _ hk => hk.2) (.int .i64 ((rd_T61 l0 x51_3).f1))) (fun _ h_ => h_.1))) gb669 (Nat.le_of_eq hg.symm)) hb); have n1_ := Aside0.mk (blk_below (g := gb668) (o := .cells #[.int .i64 ((rd_T61 l0 x51_3).f0), .int .i64 ((rd_T61 l0 x51_3).f1)] 61 (0, 0)) (by (with_reducible repeat (first | refine blk_drewN ?_ _ | refine blk_drew ?_ | refine blk_alloc ?_ _)); refine blk_put (cs := #[.int .i64 ((rd_T61 l0 x51_3).f0), .int .i64 0]) ?_ 1 _ rfl; (with_reducible repeat (first | refine blk_drewN ?_ _ | refine blk_drew ?_ | refine blk_alloc ?_ _)); refine blk_put (cs := #[.int .i64 0, .int .i64 0]) ?_ 0 _ rfl; (with_reducible repeat (first | refine blk_drewN ?_ _ | refine blk_drew ?_ | refine blk_alloc ?_ _)); exact BK668.out) hb); have n2_ := Aside0.mk (below_step (by repeat (first | (with_reducible first | exact HB.out | apply below_alloc | apply pw_below_drewN | apply below_drew1 | refine below_set ?_ GE668.out) | exact HB.out)) hb); have n3_ := Aside0.mk (hbox); have n4_ := Aside0.mk ((by rw [hg]; exact (below_size (by repeat (first | (with_reducible first | exact HB.out | apply below_alloc | apply pw_below_drewN | apply below_drew1 | refine below_set ?_ GE668.out) | exact HB.out))) : w.heap.size ≤ gb669)); have n5_ := Aside0.mk ((by rw [hg]; exact (below_size (by repeat (first | (with_reducible first | exact HB.out | apply below_alloc | apply pw_below_drewN | apply below_drew1 | refine below_set ?_ GE668.out) | exact HB.out))) : w.heap.size ≤ gb669)); have n6_ := Aside0.mk ((by rw [hg]; exact Nat.ne_of_lt (blk_lt (g := gb668) (o := .cells #[.int .i64 ((rd_T61 l0 x51_3).f0), .int .i64 ((rd_T61 l0 x51_3).f1)] 61 (0, 0)) (by (with_reducible repeat (first | refine blk_drewN ?_ _ | refine blk_drew ?_ | refine blk_alloc ?_ _)); refine blk_put (cs := #[.int .i64 ((rd_T61 l0 x51_3).f0), .int .i64 0]) ?_ 1 _ rfl; (with_reducible repeat (first | refine blk_drewN ?_ _ | refine blk_drew ?_ | refine blk_alloc ?_ _)); refine blk_put (cs := #[.int .i64 0, .int .i64 0]) ?_ 0 _ rfl; (with_reducible repeat (first | refine blk_drewN ?_ _ | refine blk_drew ?_ | refine blk_alloc ?_ _)); exact BK668.out)) : gb668 ≠ gb669)); have n7_ := Aside0.mk ((by rw [hg]; exact Nat.ne_of_gt (blk_lt (g := gb668) (o := .cells #[.int .i64 ((rd_T61 l0 x51_3).f0), .int .i64 ((rd_T61 l0 x51_3).f1)] 61 (0, 0)) (by (with_reducible repeat (first | refine blk_drewN ?_ _ | refine blk_drew ?_ | refine blk_alloc ?_ _)); refine blk_put (cs := #[.int .i64 ((rd_T61 l0 x51_3).f0), .int .i64 0]) ?_ 1 _ rfl; (with_reducible repeat (first | refine blk_drewN ?_ _ | refine blk_drew ?_ | refine blk_alloc ?_ _)); refine blk_put (cs := #[.int .i64 0, .int .i64 0]) ?_ 0 _ rfl; (with_reducible repeat (first | refine blk_drewN ?_ _ | refine blk_drew ?_ | refine blk_alloc ?_ _)); exact BK668.out)) : gb669 ≠ gb668)); clear HO_11; clear BK668; clear HB; have HO_11 := n0_; have BK668 := n1_; have HB := n2_; have BK669 := n3_; have GW669 := n4_; have GE669 := n5_; have NB668_669 := n6_; have NB669_668 := n7_; clear n0_ n1_ n2_ n3_ n4_ n5_ n6_ n7_; clear hb hbox hg; have hnb74 := NB669_668.out; have hnc74 := NB668_669.out; have hcz75_0 : w73.cell? ⟨gb669, 0, none⟩ = some (.int .i64 0) := (blk_cell BK669.out 0).trans rfl; have hcz75_1 : w73.cell? ⟨gb669, 1, none⟩ = some (.int .i64 0) := (blk_cell BK669.out 1).trans rfl; have hfz75_0 := blk_frozen BK669.out 0; have hfz75_1 := blk_frozen BK669.out 1; have hcz76_0 : w73.cell? ⟨gb668, 0, none⟩ = some (.int .i64 ((rd_T61 l0 x51_3).f0)) := (blk_cell BK668.out 0).trans rfl; have hcz76_1 : w73.cell? ⟨gb668, 1, none⟩ = some (.int .i64 ((rd_T61 l0 x51_3).f1)) := (blk_cell BK668.out 1).trans rfl; have hfz76_0 := blk_frozen BK668.out 0; have hfz76_1 := blk_frozen BK668.out 1) | ((with_reducible refine gate_builtin (b := .append) (xs := #[.tmp 85, .tmp 87]) rfl ?_); at_builtin; refine Kd.R_append k61 (w0 := w) w.heap.size rfl (.tmp 85) (.tmp 87) 40 61 (.agg #[(.int .i64 0), (.int .i64 0)]) 16 rfl Try.underlying40 info61 rfl (by decide) (by omega) u11 x11_3 (⟨(rd_T61 l0 x51_3).f0, (rd_T61 l0 x51_3).f1⟩ : S61) [.int .i64 ((rd_T61 l0 x51_3).f0), .int .i64 ((rd_T61 l0 x51_3).f1)] (fun k_ => k_ ≠ gb668 ∧ k_ ≠ gb669) (fun _ => False) rfl (by first | (go_simp; done) | (go_simp; rfl)) ?aP (fun _ hk => hk.elim) ?aF ?aO ?aB ?aS ?aL ?_; (case aP => exact k61_mkM _ _ _ (⟨(rd_T61 l0 x51_3).f0, (rd_T61 l0 x51_3).f1⟩ : S61)); (case aB => exact (by repeat (first | (with_reducible first | exact HB.out | apply below_alloc | apply pw_below_drewN | apply below_drew1 | refine below_set ?_ GE668.out | refine below_set ?_ GE669.out) | exact HB.out))); (case aF => exact (fun k_ hk => ⟨Kd.freshB (g := gb668) (o := .cells #[.int .i64 ((rd_T61 l0 x51_3).f0), .int .i64 ((rd_T61 l0 x51_3).f1)] 61 (0, 0)) (by (with_reducible repeat (first | refine blk_drewN ?_ _ | refine blk_drew ?_ | refine blk_alloc ?_ _)); refine blk_far ?_ NB668_669.out _; (with_reducible repeat (first | refine blk_drewN ?_ _ | refine blk_drew ?_ | refine blk_alloc ?_ _)); refine blk_far ?_ NB668_669.out _; (with_reducible repeat (first | refine blk_drewN ?_ _ | refine blk_drew ?_ | refine blk_alloc ?_ _)); exact BK668.out) k_ hk, Kd.freshB (g := gb669) (o := .cells #[.int .i64 ((rd_T61 l0 x51_3).f0), .int .i64 ((rd_T61 l0 x51_3).f1)] 61 (0, 0)) (by (with_reducible repeat (first | refine blk_drewN ?_ _ | refine blk_drew ?_ | refine blk_alloc ?_ _)); refine blk_put (cs := #[.int .i64 ((rd_T61 l0 x51_3).f0), .int .i64 0]) ?_ 1 _ rfl; (with_reducible repeat (first | refine blk_drewN ?_ _ | refine blk_drew ?_ | refine blk_alloc ?_ _)); refine blk_put (cs := #[.int .i64 0, .int .i64 0]) ?_ 0 _ rfl; (with_reducible repeat (first | refine blk_drewN ?_ _ | refine blk_drew ?_ | refine blk_alloc ?_ _)); exact BK669.out) k_ hk⟩)); (case aO => exact (by (with_reducible repeat (first | apply Kd.R_alloc | apply Kd.R_drewN | apply Kd.R_drew)); exact Kd.R_mono (Kd.R_far (p := ⟨gb669, 1, none⟩) (Kd.R_far (p := ⟨gb669, 0, none⟩) (Kd.R_mono HO_11.out (fun k_ hk => (⟨hk, hk.2⟩ : _ ∧ k_ ≠ gb669))) (fun _ hk => hk.2) (.int .i64 ((rd_T61 l0 x51_3).f0))) (fun _ hk => hk.2) (.int .i64 ((rd_T61 l0 x51_3).f1))) (fun _ hk => ⟨hk.1.1.2, hk.1.2⟩))); (case aS => exact (below_size (by repeat (first | (with_reducible first | exact HB.out | apply below_alloc | apply pw_below_drewN | apply below_drew1 | refine below_set ?_ GE668.out | refine below_set ?_ GE669.out) | exact HB.out)))); (case aL => have := LMc70.out; omega); intro v686 w77 ho hb hg hat; rw [← Ny685.out] at ho; have n0_ := Aside0.mk (blk_grown (g := gb668) (o := .cells #[.int .i64 ((rd_T61 l0 x51_3).f0), .int .i64 ((rd_T61 l0 x51_3).f1)] 61 (0, 0)) (by (with_reducible repeat (first | refine blk_drewN ?_ _ | refine blk_drew ?_ | refine blk_alloc ?_ _)); refine blk_far ?_ NB668_669.out _; (with_reducible repeat (first | refine blk_drewN ?_ _ | refine blk_drew ?_ | refine blk_alloc ?_ _)); refine blk_far ?_ NB668_669.out _; (with_reducible repeat (first | refine blk_drewN ?_ _ | refine blk_drew ?_ | refine blk_alloc ?_ _)); exact BK668.out) hg (Kd.R_away HO_11.out (fun _ hk => hk.1.2))); have n1_ := Aside0.mk (blk_grown (g := gb669) (o := .cells #[.int .i64 ((rd_T61 l0 x51_3).f0), .int .i64 ((rd_T61 l0 x51_3).f1)] 61 (0, 0)) (by (with_reducible repeat (first | refine blk_drewN ?_ _ | refine blk_drew ?_ | refine blk_alloc ?_ _)); refine blk_put (cs := #[.int .i64 ((rd_T61 l0 x51_3).f0), .int .i64 0]) ?_ 1 _ rfl; (with_reducible repeat (first | refine blk_drewN ?_ _ | refine blk_drew ?_ | refine blk_alloc ?_ _)); refine blk_put (cs := #[.int .i64 0, .int .i64 0]) ?_ 0 _ rfl; (with_reducible repeat (first | refine blk_drewN ?_ _ | refine blk_drew ?_ | refine blk_alloc ?_ _)); exact BK669.out) hg (Kd.R_away HO_11.out (fun _ hk => hk.2))); have n2_ := Aside0.mk (hb); have n3_ := Aside0.mk (ho); clear BK668; clear BK669; clear HB; clear HO_11; have BK668 := n0_; have BK669 := n1_; have HB := n2_; have HO687 := n3_; clear n0_ n1_ n2_ n3_; clear ho hb hg hat))
                              go_roundg k3
                              case measure => have := HK1.out; have := HJ12.out; have := HK3.out; omega
                              case rel => exact ⟨(y685), (wrap64 (x51_3 + 1)), (by first | rfl | (simp; done) | (simp [*]; done)), H', ⟨by have := HK1.out; have := HJ12.out; have := HK3.out; omega⟩, ⟨by (with_reducible repeat (first | apply Kd.R_alloc | apply Kd.R_drewN | apply Kd.R_drew)); exact Kd.R_mono HO687.out (fun _ hk => trivial)⟩, ⟨by repeat (first | (with_reducible first | exact HB.out | apply below_alloc | apply pw_below_drewN | apply below_drew1 | refine below_set ?_ GE668.out | refine below_set ?_ GE669.out) | exact HB.out)⟩⟩
                            · rw [if_neg c70] at H
                              exact absurd H (by simp)
                      · rw [if_neg c24] at H
                        exact absurd H (by simp)
                    · rw [if_neg c23] at H
                      exact absurd H (by simp)
                  · rw [if_neg c22] at H
                    have c22b0 : decide (x51_3 < (l0.length : Int)) = false := decide_eq_false c22
                    clear c22
                    by_cases c78 : x11_3.length < 8796093022208
                    · rw [if_pos c78] at H
                      have LMc78 := Aside0.mk c78
                      clear c78
                      obtain ⟨y664, hy664⟩ : ∃ y_ : List (S61), y_ = (x11_3 ++ [(⟨a1, a2⟩ : S61)]) := ⟨_, rfl⟩
                      replace H : (some (y664, wrap64 (a2 + 1))) = some (r1, r2) := by first | (rw [hy664]; with_reducible exact H) | (have H2_ := (Option.bind_some _ _).symm.trans H; rw [hy664]; with_reducible exact H2_) | (have H2_ := (Option.bind_some _ _).symm.trans H; with_reducible exact H2_) | with_reducible exact H | (rw [hy664]; exact H) | exact H
                      have Ny664 := Aside0.mk hy664
                      clear hy664
                      simp only [Option.some.injEq, Prod.mk.injEq] at H
                      obtain ⟨rfl, rfl⟩ := H
                      go_wp2_with (first | ((with_reducible refine gate_builtin (b := .append) (xs := #[.tmp 90, .tmp 94]) rfl ?_); at_builtin; refine Kd.R_append k61 (w0 := w) w.heap.size rfl (.tmp 90) (.tmp 94) 40 61 (.agg #[(.int .i64 0), (.int .i64 0)]) 16 rfl Try.underlying40 info61 rfl (by decide) (by omega) u11 x11_3 (⟨a1, a2⟩ : S61) [.int .i64 a1, .int .i64 a2] (fun _ => True) (fun _ => False) rfl rfl ?aP (fun _ hk => hk.elim) ?aF ?aO ?aB ?aS ?aL ?_; (case aP => exact k61_mkM _ _ _ (⟨a1, a2⟩ : S61)); (case aB => exact (by repeat (first | (with_reducible first | exact HB.out | apply below_alloc | apply pw_below_drewN | apply below_drew1) | exact HB.out))); (case aF => exact (fun _ _ => trivial)); (case aO => exact (by (with_reducible repeat (first | apply Kd.R_alloc | apply Kd.R_drewN | apply Kd.R_drew)); exact HO_11.out)); (case aS => exact (below_size (by repeat (first | (with_reducible first | exact HB.out | apply below_alloc | apply pw_below_drewN | apply below_drew1) | exact HB.out)))); (case aL => have := LMc78.out; omega); intro v665 w79 ho hb hg hat; rw [← Ny664.out] at ho; have n0_ := Aside0.mk (hb); have n1_ := Aside0.mk (ho); clear HB; clear HO_11; have HB := n0_; have HO666 := n1_; clear n0_ n1_; clear ho hb hg hat))
                      go_ret2
                      exact ⟨_, by first | rfl | (simp [errW_none, errW_some] <;> rfl) | (simp [*, errW_none, errW_some] <;> rfl), by (with_reducible repeat (first | apply Kd.R_alloc | apply Kd.R_drewN | apply Kd.R_drew)); exact HO666.out, by repeat (first | (with_reducible first | exact HB.out | apply below_alloc | apply pw_below_drewN | apply below_drew1) | exact HB.out)⟩
                    · rw [if_neg c78] at H
                      exact absurd H (by simp)

end Go.Proofs.Ytjojalbgpemjoaa.Q
