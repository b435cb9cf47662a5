import Derived.Test.YtjojalbgpemjoaaBFnExactMajorityOf0
import Derived.Test.YtjojalbgpemjoaaBFnExactMajorityOf4
import Derived.Test.YtjojalbgpemjoaaBFnExactMajorityOf5
-- printed by this project's own program (wip/mp/mp.py) over the kit's print, for this seat; Lean checks it
namespace Go.Proofs.Ytjojalbgpemjoaa.Q
open Go.RowKit Go.Proofs.YtjojalbgpemjoaaW.PrintWords Go.Proofs.YtjojalbgpemjoaaW.PrintLast Go.Proofs.YtjojalbgpemjoaaW.PrintMore
attribute [local go_sem] max2_int min2_int max_two min_two max_three min_three max_four min_four   -- for this text's walks alone
set_option linter.unusedVariables false
set_option linter.unusedSimpArgs false

/-! ### spec_MajorityOf: function 41 -/
mutual
def spec_MajorityOf.l0 : Nat → List (List Int) → Int → Int → Int → List Int → Option (Int × List Int × Bool)
  | 0, _, _, _, _, _ => none
  | k + 1, x0, x4, x6, x807000, x807001 => if x6 < x4 then (spec_MajorityOf.l1 k x0 x4 x6 0 0 x807000 x807001) else (some (x807000, x807001, true))
def spec_MajorityOf.l1 : Nat → List (List Int) → Int → Int → Int → Int → Int → List Int → Option (Int × List Int × Bool)
  | 0, _, _, _, _, _, _, _ => none
  | k + 1, x0, x4, x6, x7, x8, x807000, x807001 => if x8 < x4 then (spec_MajorityOf.l2 k x0 x4 x6 x7 x8 0 x0 (x0.length : Int) 0 x807000 x807001) else (if x807001.length < 17592186044416 then (spec_MajorityOf.l0 k x0 x4 (wrap64 (x6 + 1)) x807000 (x807001 ++ [x7])) else (none))
def spec_MajorityOf.l2 : Nat → List (List Int) → Int → Int → Int → Int → Int → List (List Int) → Int → Int → Int → List Int → Option (Int × List Int × Bool)
  | 0, _, _, _, _, _, _, _, _, _, _, _ => none
  | k + 1, x0, x4, x6, x7, x8, x9, x32, x33, x34, x807000, x807001 => if x34 < x33 then (if 0 ≤ x34 then (if x34 < (x32.length : Int) then (if 0 ≤ x8 then (if x8 < ((rd_L1 x32 x34).length : Int) then (if 0 ≤ x6 then (if x6 < ((rd_L1 x32 x34).length : Int) then ((spec_l1Sign.f (wrap64 ((rd (rd_L1 x32 x34) x8) - (rd (rd_L1 x32 x34) x6)))).bind fun t813 => (spec_MajorityOf.l2 k x0 x4 x6 x7 x8 (wrap64 (x9 + t813)) x32 x33 (wrap64 (x34 + 1)) x807000 x807001)) else (none)) else (none)) else (none)) else (none)) else (none)) else (none)) else (if x9 > 0 then (if 0 ≤ x8 then (spec_MajorityOf.l1 k x0 x4 x6 (Go.bits .or .i64 x7 (shl .i64 1 x8)) (wrap64 (x8 + 1)) x807000 x807001) else (none)) else (spec_MajorityOf.l1 k x0 x4 x6 x7 (wrap64 (x8 + 1)) x807000 x807001))
end
def spec_MajorityOf.f (k : Nat) (l0 : List (List Int)) : Option (Int × List Int × Bool) := (spec_weVoters.f k l0).bind fun t804 => (if t804 = true then (if 0 < (l0.length : Int) then (spec_MajorityOf.l0 k l0 ((rd_L1 l0 0).length : Int) 0 ((rd_L1 l0 0).length : Int) ([] : List Int)) else (none)) else (some (0, ([] : List Int), false)))
theorem spec_MajorityOf.mono_l : ∀ k, (∀ y0 y1 y2 y3 y4, LeO (spec_MajorityOf.l0 k y0 y1 y2 y3 y4) (spec_MajorityOf.l0 (k + 1) y0 y1 y2 y3 y4)) ∧ (∀ y0 y1 y2 y3 y4 y5 y6, LeO (spec_MajorityOf.l1 k y0 y1 y2 y3 y4 y5 y6) (spec_MajorityOf.l1 (k + 1) y0 y1 y2 y3 y4 y5 y6)) ∧ (∀ y0 y1 y2 y3 y4 y5 y6 y7 y8 y9 y10, LeO (spec_MajorityOf.l2 k y0 y1 y2 y3 y4 y5 y6 y7 y8 y9 y10) (spec_MajorityOf.l2 (k + 1) y0 y1 y2 y3 y4 y5 y6 y7 y8 y9 y10))
  | 0 => ⟨fun _ _ _ _ _ r h => by simp [spec_MajorityOf.l0] at h, fun _ _ _ _ _ _ _ r h => by simp [spec_MajorityOf.l1] at h, fun _ _ _ _ _ _ _ _ _ _ _ r h => by simp [spec_MajorityOf.l2] at h⟩
  | k + 1 => by
    obtain ⟨ih0, ih1, ih2⟩ := spec_MajorityOf.mono_l k
    refine ⟨?_, ?_, ?_⟩
    · intro y0 y1 y2 y3 y4
      unfold spec_MajorityOf.l0
      repeat' first
      | (with_reducible exact ih0 _ _ _ _ _)
      | (with_reducible exact ih1 _ _ _ _ _ _ _)
      | (with_reducible exact ih2 _ _ _ _ _ _ _ _ _ _ _)
      | (with_reducible exact spec_weVoters.mono _ _)
      | (with_reducible exact LeO.refl _)
      | (with_reducible exact LeO.none _)
      | (with_reducible refine LeO.ite ?_ ?_)
      | (with_reducible refine LeO.bind ?_ (fun _ => ?_))
      | exact ih0 _ _ _ _ _
      | exact ih1 _ _ _ _ _ _ _
      | exact ih2 _ _ _ _ _ _ _ _ _ _ _
      | exact spec_weVoters.mono _ _
      | exact LeO.none _
      | refine LeO.ite ?_ ?_
      | refine LeO.bind ?_ (fun _ => ?_)
    · intro y0 y1 y2 y3 y4 y5 y6
      unfold spec_MajorityOf.l1
      repeat' first
      | (with_reducible exact ih0 _ _ _ _ _)
      | (with_reducible exact ih1 _ _ _ _ _ _ _)
      | (with_reducible exact ih2 _ _ _ _ _ _ _ _ _ _ _)
      | (with_reducible exact spec_weVoters.mono _ _)
      | (with_reducible exact LeO.refl _)
      | (with_reducible exact LeO.none _)
      | (with_reducible refine LeO.ite ?_ ?_)
      | (with_reducible refine LeO.bind ?_ (fun _ => ?_))
      | exact ih0 _ _ _ _ _
      | exact ih1 _ _ _ _ _ _ _
      | exact ih2 _ _ _ _ _ _ _ _ _ _ _
      | exact spec_weVoters.mono _ _
      | exact LeO.none _
      | refine LeO.ite ?_ ?_
      | refine LeO.bind ?_ (fun _ => ?_)
    · intro y0 y1 y2 y3 y4 y5 y6 y7 y8 y9 y10
      unfold spec_MajorityOf.l2
      repeat' first
      | (with_reducible exact ih0 _ _ _ _ _)
      | (with_reducible exact ih1 _ _ _ _ _ _ _)
      | (with_reducible exact ih2 _ _ _ _ _ _ _ _ _ _ _)
      | (with_reducible exact spec_weVoters.mono _ _)
      | (with_reducible exact LeO.refl _)
      | (with_reducible exact LeO.none _)
      | (with_reducible refine LeO.ite ?_ ?_)
      | (with_reducible refine LeO.bind ?_ (fun _ => ?_))
      | exact ih0 _ _ _ _ _
      | exact ih1 _ _ _ _ _ _ _
      | exact ih2 _ _ _ _ _ _ _ _ _ _ _
      | exact spec_weVoters.mono _ _
      | exact LeO.none _
      | refine LeO.ite ?_ ?_
      | refine LeO.bind ?_ (fun _ => ?_)
theorem spec_MajorityOf.mono : ∀ a0 k, LeO (spec_MajorityOf.f k a0) (spec_MajorityOf.f (k + 1) a0) := by
  intro a0 k
  obtain ⟨ih0, ih1, ih2⟩ := spec_MajorityOf.mono_l k
  unfold spec_MajorityOf.f
  repeat' first
      | (with_reducible exact ih0 _ _ _ _ _)
      | (with_reducible exact ih1 _ _ _ _ _ _ _)
      | (with_reducible exact ih2 _ _ _ _ _ _ _ _ _ _ _)
      | (with_reducible exact spec_weVoters.mono _ _)
      | (with_reducible exact LeO.refl _)
      | (with_reducible exact LeO.none _)
      | (with_reducible refine LeO.ite ?_ ?_)
      | (with_reducible refine LeO.bind ?_ (fun _ => ?_))
      | exact ih0 _ _ _ _ _
      | exact ih1 _ _ _ _ _ _ _
      | exact ih2 _ _ _ _ _ _ _ _ _ _ _
      | exact spec_weVoters.mono _ _
      | exact LeO.none _
      | refine LeO.ite ?_ ?_
      | refine LeO.bind ?_ (fun _ => ?_)
set_option maxHeartbeats 8000000 in
set_option maxRecDepth 100000 in
theorem spec_MajorityOf.calls (k : Nat) (A0 : Option Addr) (c0 : Nat) (l0 : List (List Int)) (r1 : Int) (r2 : List Int) (r3 : Bool) (w : World) (hr0 : Kd.C (Kd.slice 3 (Kd.int .i64)) w A0 l0.length l0) (hc0 : l0.length ≤ c0) (h : spec_MajorityOf.f k l0 = some (r1, r2, r3)) :
    Calls Try.prog 41 #[.slice A0 l0.length c0] w fun e w' => ∃ v1_ : Value, e = .returned (.tuple #[.agg #[.int .i64 r1, v1_], .bool r3]) ∧ Kd.R (Kd.int .i64) 3 w' w.heap.size (fun _ => True) v1_ r2 ∧ Below w.heap.size w w' := by
  have hu34 := Try.underlying34
  have HR0 := Aside0.mk hr0
  have HC0 := Aside0.mk hc0
  clear hr0 hc0
  have HB := Aside0.mk (Below.refl w.heap.size w)
  have H : ((spec_weVoters.f k l0).bind fun t804 => (if t804 = true then (if 0 < (l0.length : Int) then (spec_MajorityOf.l0 k l0 ((rd_L1 l0 0).length : Int) 0 ((rd_L1 l0 0).length : Int) ([] : List Int)) else (none)) else (some (0, ([] : List Int), false)))) = some (r1, r2, r3) := h
  clear h
  replace H := Option.bind_eq_some_iff.mp H
  obtain ⟨t804, A20, H⟩ := H
  replace H : (if t804 = true then (if 0 < (l0.length : Int) then (spec_MajorityOf.l0 k l0 ((rd_L1 l0 0).length : Int) 0 ((rd_L1 l0 0).length : Int) ([] : List Int)) else (none)) else (some (0, ([] : List Int), false))) = some (r1, r2, r3) := H
  have A2 := Aside0.mk A20
  clear A20
  by_cases c3 : t804 = true
  · subst c3
    have H1 : (if 0 < (l0.length : Int) then (spec_MajorityOf.l0 k l0 ((rd_L1 l0 0).length : Int) 0 ((rd_L1 l0 0).length : Int) ([] : List Int)) else (none)) = some (r1, r2, r3) := by rw [if_pos rfl] at H; exact H
    clear H
    have H := H1
    clear H1
    by_cases c4 : 0 < (l0.length : Int)
    · rw [if_pos c4] at H
      have c4b0 : decide (0 < (l0.length : Int)) = true := decide_eq_true c4
      have c4b1 : decide (0 < l0.length) = true := decide_eq_true (by omega)
      clear c4
      have H' := Aside0.mk H
      clear H
      go_enter Try.func41, Try.ntmps41
      go_wp2_with (first | ((with_reducible refine gate_dst (N := 2) rfl ?_); refine box_event ?hg (N := 2) ?hd (cs := #[.int .i64 0, .slice none 0 0]) (t := 34) ?hr ?_; (case hd => rfl); (case hg => rfl); (case hr => first | (go_simp; done) | (go_simp; rfl)); intro gb803 hg w5 hbox hb; have n0_ := Aside0.mk (below_step (by repeat (first | (with_reducible first | exact HB.out | apply below_alloc | apply pw_below_drewN | apply below_drew1) | exact HB.out)) hb); have n1_ := Aside0.mk (hbox); have n2_ := Aside0.mk ((by rw [hg]; exact (below_size (by repeat (first | (with_reducible first | exact HB.out | apply below_alloc | apply pw_below_drewN | apply below_drew1) | exact HB.out))) : w.heap.size ≤ gb803)); have n3_ := Aside0.mk ((by rw [hg]; exact (below_size (by repeat (first | (with_reducible first | exact HB.out | apply below_alloc | apply pw_below_drewN | apply below_drew1) | exact HB.out))) : w.heap.size ≤ gb803)); clear HB; have HB := n0_; have BK803 := n1_; have GW803 := n2_; have GE803 := n3_; clear n0_ n1_ n2_ n3_; clear hb hbox hg) | (go_at_call 71; (with_reducible refine (spec_weVoters.calls k _ _ l0 true _ ?side1 ?side2 A2.out).mono ?_); (case side1 => repeat (first | exact (Kd.C_below HR0.out HB.out) | (with_reducible refine Kd.C_alloc ?_ _) | (with_reducible refine Kd.C_drewN ?_ _) | (with_reducible refine Kd.C_drew ?_))); (case side2 => exact HC0.out); rintro e w' ⟨rfl, ⟨nd, rfl⟩⟩; (try first | exact ⟨rfl, _, World.drewN_drewN _ _ _⟩ | exact ⟨rfl, _, Eq.trans (World.drewN_drewN _ _ _) (congrArg (World.drewN _) (Nat.add_assoc _ _ _))⟩); have p805 : 0 ≤ (0 : Int) := (by omega); have q805 : 0 < (l0.length : Int) := of_decide_eq_true (by first | (with_reducible assumption) | assumption); obtain ⟨ad805, A805_0, c805_0, e805, hx805_0, hl805_0, hi805_0⟩ := at_L1 HR0.out 0 p805 q805; cases e805; have qi805 : (0 < l0.length) = True := eq_true (by omega); (try rw [show ((0 : Int)).toNat = 0 from rfl] at hx805_0); (try rw [Addr.add_zero'] at hx805_0); replace hx805_0 := (HB.out.cell (World.block_lt_of_cell? w _ hx805_0)).trans hx805_0; have HR805_0 := Aside0.mk hi805_0; have HC805_0 := Aside0.mk hl805_0; clear hi805_0 hl805_0; replace p805 := eq_true p805; replace q805 := eq_true q805) | ((with_reducible refine gate_dst (N := 5) rfl ?_); refine box_event ?hg (N := 5) ?hd (cs := #[.int .i64 0, .slice none 0 0]) (t := 34) ?hr ?_; (case hd => rfl); (case hg => rfl); (case hr => first | (go_simp; done) | (go_simp; rfl)); intro gb806 hg w6 hbox hb; have n0_ := Aside0.mk (blk_below (g := gb803) (o := .cells #[.int .i64 0, .slice none 0 0] 34 (0, 0)) (by (with_reducible repeat (first | refine blk_drewN ?_ _ | refine blk_drew ?_ | refine blk_alloc ?_ _)); exact BK803.out) hb); have n1_ := Aside0.mk (below_step (by repeat (first | (with_reducible first | exact HB.out | apply below_alloc | apply pw_below_drewN | apply below_drew1 | refine below_set ?_ GE803.out) | exact HB.out)) hb); have n2_ := Aside0.mk (hbox); have n3_ := Aside0.mk ((by rw [hg]; exact (below_size (by repeat (first | (with_reducible first | exact HB.out | apply below_alloc | apply pw_below_drewN | apply below_drew1 | refine below_set ?_ GE803.out) | exact HB.out))) : w.heap.size ≤ gb806)); have n4_ := Aside0.mk ((by rw [hg]; exact (below_size (by repeat (first | (with_reducible first | exact HB.out | apply below_alloc | apply pw_below_drewN | apply below_drew1 | refine below_set ?_ GE803.out) | exact HB.out))) : w.heap.size ≤ gb806)); have n5_ := Aside0.mk ((by rw [hg]; exact Nat.ne_of_lt (blk_lt (g := gb803) (o := .cells #[.int .i64 0, .slice none 0 0] 34 (0, 0)) (by (with_reducible repeat (first | refine blk_drewN ?_ _ | refine blk_drew ?_ | refine blk_alloc ?_ _)); exact BK803.out)) : gb803 ≠ gb806)); have n6_ := Aside0.mk ((by rw [hg]; exact Nat.ne_of_gt (blk_lt (g := gb803) (o := .cells #[.int .i64 0, .slice none 0 0] 34 (0, 0)) (by (with_reducible repeat (first | refine blk_drewN ?_ _ | refine blk_drew ?_ | refine blk_alloc ?_ _)); exact BK803.out)) : gb806 ≠ gb803)); clear BK803; clear HB; have BK803 := n0_; have HB := n1_; have BK806 := n2_; have GW806 := n3_; have GE806 := n4_; have NB803_806 := n5_; have NB806_803 := n6_; clear n0_ n1_ n2_ n3_ n4_ n5_ n6_; clear hb hbox hg; have hnb7 := NB806_803.out; have hnc7 := NB803_806.out; have hcz8_0 : w6.cell? ⟨gb806, 0, none⟩ = some (.int .i64 0) := (blk_cell BK806.out 0).trans rfl; have hcz8_1 : w6.cell? ⟨gb806, 1, none⟩ = some (.slice none 0 0) := (blk_cell BK806.out 1).trans rfl; have hfz8_0 := blk_frozen BK806.out 0; have hfz8_1 := blk_frozen BK806.out 1))
      repeat (go_quiet (first | ((with_reducible refine gate_dst (N := 2) rfl ?_); refine box_event ?hg (N := 2) ?hd (cs := #[.int .i64 0, .slice none 0 0]) (t := 34) ?hr ?_; (case hd => rfl); (case hg => rfl); (case hr => first | (go_simp; done) | (go_simp; rfl)); intro gb803 hg w5 hbox hb; have n0_ := Aside0.mk (below_step (by repeat (first | (with_reducible first | exact HB.out | apply below_alloc | apply pw_below_drewN | apply below_drew1) | exact HB.out)) hb); have n1_ := Aside0.mk (hbox); have n2_ := Aside0.mk ((by rw [hg]; exact (below_size (by repeat (first | (with_reducible first | exact HB.out | apply below_alloc | apply pw_below_drewN | apply below_drew1) | exact HB.out))) : w.heap.size ≤ gb803)); have n3_ := Aside0.mk ((by rw [hg]; exact (below_size (by repeat (first | (with_reducible first | exact HB.out | apply below_alloc | apply pw_below_drewN | apply below_drew1) | exact HB.out))) : w.heap.size ≤ gb803)); clear HB; have HB := n0_; have BK803 := n1_; have GW803 := n2_; have GE803 := n3_; clear n0_ n1_ n2_ n3_; clear hb hbox hg) | (go_at_call 71; (with_reducible refine (spec_weVoters.calls k _ _ l0 true _ ?side1 ?side2 A2.out).mono ?_); (case side1 => repeat (first | exact (Kd.C_below HR0.out HB.out) | (with_reducible refine Kd.C_alloc ?_ _) | (with_reducible refine Kd.C_drewN ?_ _) | (with_reducible refine Kd.C_drew ?_))); (case side2 => exact HC0.out); rintro e w' ⟨rfl, ⟨nd, rfl⟩⟩; (try first | exact ⟨rfl, _, World.drewN_drewN _ _ _⟩ | exact ⟨rfl, _, Eq.trans (World.drewN_drewN _ _ _) (congrArg (World.drewN _) (Nat.add_assoc _ _ _))⟩); have p805 : 0 ≤ (0 : Int) := (by omega); have q805 : 0 < (l0.length : Int) := of_decide_eq_true (by first | (with_reducible assumption) | assumption); obtain ⟨ad805, A805_0, c805_0, e805, hx805_0, hl805_0, hi805_0⟩ := at_L1 HR0.out 0 p805 q805; cases e805; have qi805 : (0 < l0.length) = True := eq_true (by omega); (try rw [show ((0 : Int)).toNat = 0 from rfl] at hx805_0); (try rw [Addr.add_zero'] at hx805_0); replace hx805_0 := (HB.out.cell (World.block_lt_of_cell? w _ hx805_0)).trans hx805_0; have HR805_0 := Aside0.mk hi805_0; have HC805_0 := Aside0.mk hl805_0; clear hi805_0 hl805_0; replace p805 := eq_true p805; replace q805 := eq_true q805) | ((with_reducible refine gate_dst (N := 5) rfl ?_); refine box_event ?hg (N := 5) ?hd (cs := #[.int .i64 0, .slice none 0 0]) (t := 34) ?hr ?_; (case hd => rfl); (case hg => rfl); (case hr => first | (go_simp; done) | (go_simp; rfl)); intro gb806 hg w6 hbox hb; have n0_ := Aside0.mk (blk_below (g := gb803) (o := .cells #[.int .i64 0, .slice none 0 0] 34 (0, 0)) (by (with_reducible repeat (first | refine blk_drewN ?_ _ | refine blk_drew ?_ | refine blk_alloc ?_ _)); exact BK803.out) hb); have n1_ := Aside0.mk (below_step (by repeat (first | (with_reducible first | exact HB.out | apply below_alloc | apply pw_below_drewN | apply below_drew1 | refine below_set ?_ GE803.out) | exact HB.out)) hb); have n2_ := Aside0.mk (hbox); have n3_ := Aside0.mk ((by rw [hg]; exact (below_size (by repeat (first | (with_reducible first | exact HB.out | apply below_alloc | apply pw_below_drewN | apply below_drew1 | refine below_set ?_ GE803.out) | exact HB.out))) : w.heap.size ≤ gb806)); have n4_ := Aside0.mk ((by rw [hg]; exact (below_size (by repeat (first | (with_reducible first | exact HB.out | apply below_alloc | apply pw_below_drewN | apply below_drew1 | refine below_set ?_ GE803.out) | exact HB.out))) : w.heap.size ≤ gb806)); have n5_ := Aside0.mk ((by rw [hg]; exact Nat.ne_of_lt (blk_lt (g := gb803) (o := .cells #[.int .i64 0, .slice none 0 0] 34 (0, 0)) (by (with_reducible repeat (first | refine blk_drewN ?_ _ | refine blk_drew ?_ | refine blk_alloc ?_ _)); exact BK803.out)) : gb803 ≠ gb806)); have n6_ := Aside0.mk ((by rw [hg]; exact Nat.ne_of_gt (blk_lt (g := gb803) (o := .cells #[.int .i64 0, .slice none 0 0] 34 (0, 0)) (by (with_reducible repeat (first | refine blk_drewN ?_ _ | refine blk_drew ?_ | refine blk_alloc ?_ _)); exact BK803.out)) : gb806 ≠ gb803)); clear BK803; clear HB; have BK803 := n0_; have HB := n1_; have BK806 := n2_; have GW806 := n3_; have GE806 := n4_; have NB803_806 := n5_; have NB806_803 := n6_; clear n0_ n1_ n2_ n3_ n4_ n5_ n6_; clear hb hbox hg; have hnb7 := NB806_803.out; have hnc7 := NB803_806.out; have hcz8_0 : w6.cell? ⟨gb806, 0, none⟩ = some (.int .i64 0) := (blk_cell BK806.out 0).trans rfl; have hcz8_1 : w6.cell? ⟨gb806, 1, none⟩ = some (.slice none 0 0) := (blk_cell BK806.out 1).trans rfl; have hfz8_0 := blk_frozen BK806.out 0; have hfz8_1 := blk_frozen BK806.out 1)); try go_wp2_with (first | ((with_reducible refine gate_dst (N := 2) rfl ?_); refine box_event ?hg (N := 2) ?hd (cs := #[.int .i64 0, .slice none 0 0]) (t := 34) ?hr ?_; (case hd => rfl); (case hg => rfl); (case hr => first | (go_simp; done) | (go_simp; rfl)); intro gb803 hg w5 hbox hb; have n0_ := Aside0.mk (below_step (by repeat (first | (with_reducible first | exact HB.out | apply below_alloc | apply pw_below_drewN | apply below_drew1) | exact HB.out)) hb); have n1_ := Aside0.mk (hbox); have n2_ := Aside0.mk ((by rw [hg]; exact (below_size (by repeat (first | (with_reducible first | exact HB.out | apply below_alloc | apply pw_below_drewN | apply below_drew1) | exact HB.out))) : w.heap.size ≤ gb803)); have n3_ := Aside0.mk ((by rw [hg]; exact (below_size (by repeat (first | (with_reducible first | exact HB.out | apply below_alloc | apply pw_below_drewN | apply below_drew1) | exact HB.out))) : w.heap.size ≤ gb803)); clear HB; have HB := n0_; have BK803 := n1_; have GW803 := n2_; have GE803 := n3_; clear n0_ n1_ n2_ n3_; clear hb hbox hg) | (go_at_call 71; (with_reducible refine (spec_weVoters.calls k _ _ l0 true _ ?side1 ?side2 A2.out).mono ?_); (case side1 => repeat (first | exact (Kd.C_below HR0.out HB.out) | (with_reducible refine Kd.C_alloc ?_ _) | (with_reducible refine Kd.C_drewN ?_ _) | (with_reducible refine Kd.C_drew ?_))); (case side2 => exact HC0.out); rintro e w' ⟨rfl, ⟨nd, rfl⟩⟩; (try first | exact ⟨rfl, _, World.drewN_drewN _ _ _⟩ | exact ⟨rfl, _, Eq.trans (World.drewN_drewN _ _ _) (congrArg (World.drewN _) (Nat.add_assoc _ _ _))⟩); have p805 : 0 ≤ (0 : Int) := (by omega); have q805 : 0 < (l0.length : Int) := of_decide_eq_true (by first | (with_reducible assumption) | assumption); obtain ⟨ad805, A805_0, c805_0, e805, hx805_0, hl805_0, hi805_0⟩ := at_L1 HR0.out 0 p805 q805; cases e805; have qi805 : (0 < l0.length) = True := eq_true (by omega); (try rw [show ((0 : Int)).toNat = 0 from rfl] at hx805_0); (try rw [Addr.add_zero'] at hx805_0); replace hx805_0 := (HB.out.cell (World.block_lt_of_cell? w _ hx805_0)).trans hx805_0; have HR805_0 := Aside0.mk hi805_0; have HC805_0 := Aside0.mk hl805_0; clear hi805_0 hl805_0; replace p805 := eq_true p805; replace q805 := eq_true q805) | ((with_reducible refine gate_dst (N := 5) rfl ?_); refine box_event ?hg (N := 5) ?hd (cs := #[.int .i64 0, .slice none 0 0]) (t := 34) ?hr ?_; (case hd => rfl); (case hg => rfl); (case hr => first | (go_simp; done) | (go_simp; rfl)); intro gb806 hg w6 hbox hb; have n0_ := Aside0.mk (blk_below (g := gb803) (o := .cells #[.int .i64 0, .slice none 0 0] 34 (0, 0)) (by (with_reducible repeat (first | refine blk_drewN ?_ _ | refine blk_drew ?_ | refine blk_alloc ?_ _)); exact BK803.out) hb); have n1_ := Aside0.mk (below_step (by repeat (first | (with_reducible first | exact HB.out | apply below_alloc | apply pw_below_drewN | apply below_drew1 | refine below_set ?_ GE803.out) | exact HB.out)) hb); have n2_ := Aside0.mk (hbox); have n3_ := Aside0.mk ((by rw [hg]; exact (below_size (by repeat (first | (with_reducible first | exact HB.out | apply below_alloc | apply pw_below_drewN | apply below_drew1 | refine below_set ?_ GE803.out) | exact HB.out))) : w.heap.size ≤ gb806)); have n4_ := Aside0.mk ((by rw [hg]; exact (below_size (by repeat (first | (with_reducible first | exact HB.out | apply below_alloc | apply pw_below_drewN | apply below_drew1 | refine below_set ?_ GE803.out) | exact HB.out))) : w.heap.size ≤ gb806)); have n5_ := Aside0.mk ((by rw [hg]; exact Nat.ne_of_lt (blk_lt (g := gb803) (o := .cells #[.int .i64 0, .slice none 0 0] 34 (0, 0)) (by (with_reducible repeat (first | refine blk_drewN ?_ _ | refine blk_drew ?_ | refine blk_alloc ?_ _)); exact BK803.out)) : gb803 ≠ gb806)); have n6_ := Aside0.mk ((by rw [hg]; exact Nat.ne_of_gt (blk_lt (g := gb803) (o := .cells #[.int .i64 0, .slice none 0 0] 34 (0, 0)) (by (with_reducible repeat (first | refine blk_drewN ?_ _ | refine blk_drew ?_ | refine blk_alloc ?_ _)); exact BK803.out)) : gb806 ≠ gb803)); clear BK803; clear HB; have BK803 := n0_; have HB := n1_; have BK806 := n2_; have GW806 := n3_; have GE806 := n4_; have NB803_806 := n5_; have NB806_803 := n6_; clear n0_ n1_ n2_ n3_ n4_ n5_ n6_; clear hb hbox hg; have hnb7 := NB806_803.out; have hnc7 := NB803_806.out; have hcz8_0 : w6.cell? ⟨gb806, 0, none⟩ = some (.int .i64 0) := (blk_cell BK806.out 0).trans rfl; have hcz8_1 : w6.cell? ⟨gb806, 1, none⟩ = some (.slice none 0 0) := (blk_cell BK806.out 1).trans rfl; have hfz8_0 := blk_frozen BK806.out 0; have hfz8_1 := blk_frozen BK806.out 1)))
      go_loopg [6] k (fun kq v6 w' => ∃ (x6_1 : Int) (x807001_1 : List Int) (u807001 : Value), v6 = .int .i64 x6_1 ∧ Aside0 (spec_MajorityOf.l0 kq l0 ((rd_L1 l0 0).length : Int) x6_1 ((rd_L1 l0 0).length : Int) x807001_1 = some (r1, r2, r3)) ∧ Aside0 (kq ≤ k) ∧ Aside0 (Kd.R (Kd.int .i64) 3 w' w.heap.size (fun _ => True) u807001 x807001_1) ∧ Aside0 (w'.heap[gb803]? = some (.cells #[.int .i64 0, (.slice none 0 0)] 34 (0, 0))) ∧ Aside0 (w'.heap[gb806]? = some (.cells #[.int .i64 ((rd_L1 l0 0).length : Int), u807001] 34 (0, 0))) ∧ Aside0 (Below w.heap.size w w'))
      case atStart => exact ⟨(0), (([] : List Int)), (.slice none 0 0), (by first | rfl | (simp; done) | (simp [*]; done)), H', ⟨Nat.le_refl _⟩, ⟨by first | exact Kd.R_nil _ _ _ _ _ | exact Kd.N_nil _ _ _ _ _ | exact Kd.V_nil _ _ _ _ _ | exact Kd.Q_nil _ _ _ _ _ | exact Kd.S_nil _ _ _ _ _⟩, ⟨by (with_reducible repeat (first | refine blk_drewN ?_ _ | refine blk_drew ?_ | refine blk_alloc ?_ _)); refine blk_far ?_ NB803_806.out _; (with_reducible repeat (first | refine blk_drewN ?_ _ | refine blk_drew ?_ | refine blk_alloc ?_ _)); refine blk_far ?_ NB803_806.out _; (with_reducible repeat (first | refine blk_drewN ?_ _ | refine blk_drew ?_ | refine blk_alloc ?_ _)); exact BK803.out⟩, ⟨by (with_reducible repeat (first | refine blk_drewN ?_ _ | refine blk_drew ?_ | refine blk_alloc ?_ _)); refine blk_put (cs := #[.int .i64 ((rd_L1 l0 0).length : Int), .slice none 0 0]) ?_ 1 _ rfl; (with_reducible repeat (first | refine blk_drewN ?_ _ | refine blk_drew ?_ | refine blk_alloc ?_ _)); refine blk_put (cs := #[.int .i64 0, .slice none 0 0]) ?_ 0 _ rfl; (with_reducible repeat (first | refine blk_drewN ?_ _ | refine blk_drew ?_ | refine blk_alloc ?_ _)); exact BK806.out⟩, ⟨by repeat (first | (with_reducible first | exact HB.out | apply below_alloc | apply pw_below_drewN | apply below_drew1 | refine below_set ?_ GE803.out | refine below_set ?_ GE806.out) | exact HB.out)⟩⟩
      case round =>
        clear H'
        try clear p2
        try clear c3
        try clear c4
        try clear c4b0
        try clear c4b1
        try clear c7
        try clear c8
        try clear p8
        try clear q8
        try clear hx8
        try clear qi8
        try clear hcz8_0
        try clear hcz8_1
        try clear hfz8_0
        try clear hfz8_1
        try clear hx805_0
        try clear p805
        try clear q805
        obtain ⟨x6_1, x807001_1, u807001, rfl, HA, HK1, HO_807001, BK803, BK806, HB⟩ := hrel
        cases gk with
        | zero => exact absurd HA.out (by simp [spec_MajorityOf.l0])
        | succ k1 =>
          have H := HA.out
          clear HA
          simp only [spec_MajorityOf.l0] at H
          by_cases c9 : x6_1 < ((rd_L1 l0 0).length : Int)
          · rw [if_pos c9] at H
            have c9b0 : decide (x6_1 < ((rd_L1 l0 0).length : Int)) = true := decide_eq_true c9
            clear c9
            have H' := Aside0.mk H
            clear H
            go_wp2
            repeat (go_quiet (fail); try go_wp2)
            go_loopg [7, 8] k1 (fun kq v7 v8 w' => ∃ (x7_2 : Int) (x8_2 : Int), v7 = .int .i64 x7_2 ∧ v8 = .int .i64 x8_2 ∧ Aside0 (spec_MajorityOf.l1 kq l0 ((rd_L1 l0 0).length : Int) x6_1 x7_2 x8_2 ((rd_L1 l0 0).length : Int) x807001_1 = some (r1, r2, r3)) ∧ Aside0 (kq ≤ k1) ∧ Aside0 (Kd.R (Kd.int .i64) 3 w' w.heap.size (fun _ => True) u807001 x807001_1) ∧ Aside0 (w'.heap[gb803]? = some (.cells #[.int .i64 0, (.slice none 0 0)] 34 (0, 0))) ∧ Aside0 (w'.heap[gb806]? = some (.cells #[.int .i64 ((rd_L1 l0 0).length : Int), u807001] 34 (0, 0))) ∧ Aside0 (Below w.heap.size w w'))
            case atStart => exact ⟨(0), (0), (by first | rfl | (simp; done) | (simp [*]; done)), (by first | rfl | (simp; done) | (simp [*]; done)), H', ⟨Nat.le_refl _⟩, ⟨by (with_reducible repeat (first | apply Kd.R_alloc | apply Kd.R_drewN | apply Kd.R_drew)); exact HO_807001.out⟩, ⟨by (with_reducible repeat (first | refine blk_drewN ?_ _ | refine blk_drew ?_ | refine blk_alloc ?_ _)); exact BK803.out⟩, ⟨by (with_reducible repeat (first | refine blk_drewN ?_ _ | refine blk_drew ?_ | refine blk_alloc ?_ _)); exact BK806.out⟩, ⟨by repeat (first | (with_reducible first | exact HB.out | apply below_alloc | apply pw_below_drewN | apply below_drew1 | refine below_set ?_ GE803.out | refine below_set ?_ GE806.out) | exact HB.out)⟩⟩
            case round =>
              clear H'
              try clear p2
              try clear c3
              try clear c4
              try clear c4b0
              try clear c4b1
              try clear c7
              try clear c8
              try clear p8
              try clear q8
              try clear hx8
              try clear qi8
              try clear c9
              try clear c9b0
              try clear hcz8_0
              try clear hcz8_1
              try clear hfz8_0
              try clear hfz8_1
              try clear hx805_0
              try clear p2
              try clear p8
              try clear p805
              try clear q8
              try clear q805
              obtain ⟨x7_2, x8_2, rfl, rfl, HA, HK2, HO_807001, BK803, BK806, HB⟩ := hrel
              cases gk with
              | zero => exact absurd HA.out (by simp [spec_MajorityOf.l1])
              | succ k2 =>
                have H := HA.out
                clear HA
                simp only [spec_MajorityOf.l1] at H
                by_cases c10 : x8_2 < ((rd_L1 l0 0).length : Int)
                · rw [if_pos c10] at H
                  have c10b0 : decide (x8_2 < ((rd_L1 l0 0).length : Int)) = true := decide_eq_true c10
                  clear c10
                  have H' := Aside0.mk H
                  clear H
                  go_wp2
                  repeat (go_quiet (fail); try go_wp2)
                  go_loopg [9, 34] k2 (fun kq v9 v34 w' => ∃ (x9_3 : Int) (x34_3 : Int), v9 = .int .i64 x9_3 ∧ v34 = .int .i64 x34_3 ∧ Aside0 (spec_MajorityOf.l2 kq l0 ((rd_L1 l0 0).length : Int) x6_1 x7_2 x8_2 x9_3 l0 (l0.length : Int) x34_3 ((rd_L1 l0 0).length : Int) x807001_1 = some (r1, r2, r3)) ∧ Aside0 (kq ≤ k2) ∧ Aside0 (Kd.R (Kd.int .i64) 3 w' w.heap.size (fun _ => True) u807001 x807001_1) ∧ Aside0 (w'.heap[gb803]? = some (.cells #[.int .i64 0, (.slice none 0 0)] 34 (0, 0))) ∧ Aside0 (w'.heap[gb806]? = some (.cells #[.int .i64 ((rd_L1 l0 0).length : Int), u807001] 34 (0, 0))) ∧ Aside0 (Below w.heap.size w w'))
                  case atStart => exact ⟨(0), (0), (by first | rfl | (simp; done) | (simp [*]; done)), (by first | rfl | (simp; done) | (simp [*]; done)), H', ⟨Nat.le_refl _⟩, ⟨by (with_reducible repeat (first | apply Kd.R_alloc | apply Kd.R_drewN | apply Kd.R_drew)); exact HO_807001.out⟩, ⟨by (with_reducible repeat (first | refine blk_drewN ?_ _ | refine blk_drew ?_ | refine blk_alloc ?_ _)); exact BK803.out⟩, ⟨by (with_reducible repeat (first | refine blk_drewN ?_ _ | refine blk_drew ?_ | refine blk_alloc ?_ _)); exact BK806.out⟩, ⟨by repeat (first | (with_reducible first | exact HB.out | apply below_alloc | apply pw_below_drewN | apply below_drew1 | refine below_set ?_ GE803.out | refine below_set ?_ GE806.out) | exact HB.out)⟩⟩
                  case round =>
                    clear H'
                    try clear c1
                    try clear p2
                    try clear c3
                    try clear c4
                    try clear c4b0
                    try clear c4b1
                    try clear c7
                    try clear c8
                    try clear p8
                    try clear q8
                    try clear hx8
                    try clear qi8
                    try clear c9
                    try clear c9b0
                    try clear c10
                    try clear c10b0
                    try clear hcz8_0
                    try clear hcz8_1
                    try clear hfz8_0
                    try clear hfz8_1
                    try clear hx805_0
                    try clear p2
                    try clear p8
                    try clear p805
                    try clear q8
                    try clear q805
                    obtain ⟨x9_3, x34_3, rfl, rfl, HA, HK3, HO_807001, BK803, BK806, HB⟩ := hrel
                    cases gk with
                    | zero => exact absurd HA.out (by simp [spec_MajorityOf.l2])
                    | succ k3 =>
                      have H := HA.out
                      clear HA
                      simp only [spec_MajorityOf.l2] at H
                      by_cases c11 : x34_3 < (l0.length : Int)
                      · rw [if_pos c11] at H
                        have c11b0 : decide (x34_3 < (l0.length : Int)) = true := decide_eq_true c11
                        clear c11
                        by_cases c12 : 0 ≤ x34_3
                        · rw [if_pos c12] at H
                          have c12b0 : decide (0 ≤ x34_3) = true := decide_eq_true c12
                          clear c12
                          by_cases c13 : x34_3 < (l0.length : Int)
                          · rw [if_pos c13] at H
                            have c13b0 : decide (x34_3 < (l0.length : Int)) = true := decide_eq_true c13
                            clear c13
                            by_cases c14 : 0 ≤ x8_2
                            · rw [if_pos c14] at H
                              have c14b0 : decide (0 ≤ x8_2) = true := decide_eq_true c14
                              clear c14
                              by_cases c15 : x8_2 < ((rd_L1 l0 x34_3).length : Int)
                              · rw [if_pos c15] at H
                                have c15b0 : decide (x8_2 < ((rd_L1 l0 x34_3).length : Int)) = true := decide_eq_true c15
                                clear c15
                                by_cases c16 : 0 ≤ x6_1
                                · rw [if_pos c16] at H
                                  have c16b0 : decide (0 ≤ x6_1) = true := decide_eq_true c16
                                  clear c16
                                  by_cases c17 : x6_1 < ((rd_L1 l0 x34_3).length : Int)
                                  · rw [if_pos c17] at H
                                    have c17b0 : decide (x6_1 < ((rd_L1 l0 x34_3).length : Int)) = true := decide_eq_true c17
                                    clear c17
                                    replace H := Option.bind_eq_some_iff.mp H
                                    obtain ⟨t813, A180, H⟩ := H
                                    replace H : (spec_MajorityOf.l2 k3 l0 ((rd_L1 l0 0).length : Int) x6_1 x7_2 x8_2 (wrap64 (x9_3 + t813)) l0 (l0.length : Int) (wrap64 (x34_3 + 1)) ((rd_L1 l0 0).length : Int) x807001_1) = some (r1, r2, r3) := H
                                    have A18 := Aside0.mk A180
                                    clear A180
                                    have H' := Aside0.mk H
                                    clear H
                                    have p810 : 0 ≤ (x34_3 : Int) := of_decide_eq_true (by first | (with_reducible assumption) | assumption)
                                    have q810 : x34_3 < (l0.length : Int) := of_decide_eq_true (by first | (with_reducible assumption) | assumption)
                                    obtain ⟨ad810, A810_0, c810_0, e810, hx810_0, hl810_0, hi810_0⟩ := at_L1 HR0.out x34_3 p810 q810
                                    obtain rfl : ad805 = ad810 := (by injection e810)
                                    replace hx810_0 := (HB.out.cell (World.block_lt_of_cell? w _ hx810_0)).trans hx810_0
                                    have HR810_0 := Aside0.mk hi810_0
                                    have HC810_0 := Aside0.mk hl810_0
                                    clear hi810_0 hl810_0
                                    replace p810 := eq_true p810
                                    replace q810 := eq_true q810
                                    have p811 : 0 ≤ (x8_2 : Int) := of_decide_eq_true (by first | (with_reducible assumption) | assumption)
                                    have q811 : x8_2 < ((rd_L1 l0 x34_3).length : Int) := of_decide_eq_true (by first | (with_reducible assumption) | assumption)
                                    obtain ⟨ad811, e811, hx811_0⟩ := Kd.at_int HR810_0.out x8_2 p811 q811
                                    cases e811
                                    replace hx811_0 := (HB.out.cell (World.block_lt_of_cell? w _ hx811_0)).trans hx811_0
                                    replace p811 := eq_true p811
                                    replace q811 := eq_true q811
                                    have p812 : 0 ≤ (x6_1 : Int) := of_decide_eq_true (by first | (with_reducible assumption) | assumption)
                                    have q812 : x6_1 < ((rd_L1 l0 x34_3).length : Int) := of_decide_eq_true (by first | (with_reducible assumption) | assumption)
                                    obtain ⟨ad812, e812, hx812_0⟩ := Kd.at_int HR810_0.out x6_1 p812 q812
                                    obtain rfl : ad811 = ad812 := (by injection e812)
                                    replace hx812_0 := (HB.out.cell (World.block_lt_of_cell? w _ hx812_0)).trans hx812_0
                                    replace p812 := eq_true p812
                                    replace q812 := eq_true q812
                                    go_wp2_with (first | (go_at_call 72; (with_reducible refine (spec_l1Sign.calls (wrap64 ((rd (rd_L1 l0 x34_3) x8_2) - (rd (rd_L1 l0 x34_3) x6_1))) t813 _ A18.out).mono ?_); rintro e w' ⟨rfl, ⟨nd, rfl⟩⟩; (try first | exact ⟨rfl, _, World.drewN_drewN _ _ _⟩ | exact ⟨rfl, _, Eq.trans (World.drewN_drewN _ _ _) (congrArg (World.drewN _) (Nat.add_assoc _ _ _))⟩)))
                                    repeat (go_quiet (first | (go_at_call 72; (with_reducible refine (spec_l1Sign.calls (wrap64 ((rd (rd_L1 l0 x34_3) x8_2) - (rd (rd_L1 l0 x34_3) x6_1))) t813 _ A18.out).mono ?_); rintro e w' ⟨rfl, ⟨nd, rfl⟩⟩; (try first | exact ⟨rfl, _, World.drewN_drewN _ _ _⟩ | exact ⟨rfl, _, Eq.trans (World.drewN_drewN _ _ _) (congrArg (World.drewN _) (Nat.add_assoc _ _ _))⟩))); try go_wp2_with (first | (go_at_call 72; (with_reducible refine (spec_l1Sign.calls (wrap64 ((rd (rd_L1 l0 x34_3) x8_2) - (rd (rd_L1 l0 x34_3) x6_1))) t813 _ A18.out).mono ?_); rintro e w' ⟨rfl, ⟨nd, rfl⟩⟩; (try first | exact ⟨rfl, _, World.drewN_drewN _ _ _⟩ | exact ⟨rfl, _, Eq.trans (World.drewN_drewN _ _ _) (congrArg (World.drewN _) (Nat.add_assoc _ _ _))⟩))))
                                    go_roundg k3
                                    case measure => have := HK1.out; have := HK2.out; have := HK3.out; omega
                                    case rel => exact ⟨(wrap64 (x9_3 + t813)), (wrap64 (x34_3 + 1)), (by first | rfl | (simp; done) | (simp [*]; done)), (by first | rfl | (simp; done) | (simp [*]; done)), H', ⟨by have := HK1.out; have := HK2.out; have := HK3.out; omega⟩, ⟨by (with_reducible repeat (first | apply Kd.R_alloc | apply Kd.R_drewN | apply Kd.R_drew)); exact HO_807001.out⟩, ⟨by (with_reducible repeat (first | refine blk_drewN ?_ _ | refine blk_drew ?_ | refine blk_alloc ?_ _)); exact BK803.out⟩, ⟨by (with_reducible repeat (first | refine blk_drewN ?_ _ | refine blk_drew ?_ | refine blk_alloc ?_ _)); exact BK806.out⟩, ⟨by repeat (first | (with_reducible first | exact HB.out | apply below_alloc | apply pw_below_drewN | apply below_drew1 | refine below_set ?_ GE803.out | refine below_set ?_ GE806.out) | exact HB.out)⟩⟩
                                  · rw [if_neg c17] at H
                                    exact absurd H (by simp)
                                · rw [if_neg c16] at H
                                  exact absurd H (by simp)
                              · rw [if_neg c15] at H
                                exact absurd H (by simp)
                            · rw [if_neg c14] at H
                              exact absurd H (by simp)
                          · rw [if_neg c13] at H
                            exact absurd H (by simp)
                        · rw [if_neg c12] at H
                          exact absurd H (by simp)
                      · rw [if_neg c11] at H
                        have c11b0 : decide (x34_3 < (l0.length : Int)) = false := decide_eq_false c11
                        clear c11
                        by_cases c19 : x9_3 > 0
                        · rw [if_pos c19] at H
                          have c19b0 : decide (0 < x9_3) = true := decide_eq_true c19
                          clear c19
                          by_cases c20 : 0 ≤ x8_2
                          · rw [if_pos c20] at H
                            have c20b0 := eq_true c20
                            have c20b1 : decide (0 ≤ x8_2) = true := decide_eq_true c20
                            clear c20
                            obtain ⟨ji21, hji21⟩ : ∃ j_ : Int, (shl .i64 1 x8_2) = j_ := ⟨_, rfl⟩
                            replace H : (spec_MajorityOf.l1 k3 l0 ((rd_L1 l0 0).length : Int) x6_1 (Go.bits .or .i64 x7_2 (ji21)) (wrap64 (x8_2 + 1)) ((rd_L1 l0 0).length : Int) x807001_1) = some (r1, r2, r3) := by first | (rw [hji21] at H; exact H) | (simp only [hji21] at H ⊢; exact H)
                            have hji21_ : (IntKind.i64.wrap (1 * 2 ^ min x8_2.toNat 64)) = ji21 := hji21
                            have hji21z : x8_2 ≤ 64 → (IntKind.i64.wrap (1 * 2 ^ x8_2.toNat)) = ji21 := shl_small hji21
                            have hji21u : (IntKind.i64.wrap (2 ^ min x8_2.toNat 64)) = ji21 := by have h_ := hji21_; rw [Int.one_mul] at h_; exact h_
                            have hji21v : x8_2 ≤ 64 → (IntKind.i64.wrap (2 ^ x8_2.toNat)) = ji21 := fun hle_ => by have h_ := hji21z hle_; rw [Int.one_mul] at h_; exact h_
                            have hji21y : (wrap64 (1 * 2 ^ min x8_2.toNat 64)) = ji21 := (i64_w _).symm.trans hji21_
                            have hji21x : x8_2 ≤ 64 → (wrap64 (1 * 2 ^ x8_2.toNat)) = ji21 := fun h_ => (i64_w _).symm.trans (hji21z h_)
                            have H' := Aside0.mk H
                            clear H
                            go_wp2
                            repeat (go_quiet (fail); try go_wp2)
                            go_roundg k3
                            case measure => have := HK1.out; have := HK2.out; have := HK3.out; omega
                            case rel => exact ⟨(Go.bits .or .i64 x7_2 (ji21)), (wrap64 (x8_2 + 1)), (by first | rfl | (simp; done) | (simp only [← hji21] <;> (first | rfl | simp)) | (simp [*]; done)), (by first | rfl | (simp; done) | (simp [*]; done)), H', ⟨by have := HK1.out; have := HK2.out; have := HK3.out; omega⟩, ⟨by (with_reducible repeat (first | apply Kd.R_alloc | apply Kd.R_drewN | apply Kd.R_drew)); exact HO_807001.out⟩, ⟨by (with_reducible repeat (first | refine blk_drewN ?_ _ | refine blk_drew ?_ | refine blk_alloc ?_ _)); exact BK803.out⟩, ⟨by (with_reducible repeat (first | refine blk_drewN ?_ _ | refine blk_drew ?_ | refine blk_alloc ?_ _)); exact BK806.out⟩, ⟨by repeat (first | (with_reducible first | exact HB.out | apply below_alloc | apply pw_below_drewN | apply below_drew1 | refine below_set ?_ GE803.out | refine below_set ?_ GE806.out) | exact HB.out)⟩⟩
                          · rw [if_neg c20] at H
                            exact absurd H (by simp)
                        · rw [if_neg c19] at H
                          have c19b0 : decide (0 < x9_3) = false := decide_eq_false c19
                          clear c19
                          have H' := Aside0.mk H
                          clear H
                          go_wp2
                          repeat (go_quiet (fail); try go_wp2)
                          go_roundg k3
                          case measure => have := HK1.out; have := HK2.out; have := HK3.out; omega
                          case rel => exact ⟨(x7_2), (wrap64 (x8_2 + 1)), (by first | rfl | (simp; done) | (simp [*]; done)), (by first | rfl | (simp; done) | (simp [*]; done)), H', ⟨by have := HK1.out; have := HK2.out; have := HK3.out; omega⟩, ⟨by (with_reducible repeat (first | apply Kd.R_alloc | apply Kd.R_drewN | apply Kd.R_drew)); exact HO_807001.out⟩, ⟨by (with_reducible repeat (first | refine blk_drewN ?_ _ | refine blk_drew ?_ | refine blk_alloc ?_ _)); exact BK803.out⟩, ⟨by (with_reducible repeat (first | refine blk_drewN ?_ _ | refine blk_drew ?_ | refine blk_alloc ?_ _)); exact BK806.out⟩, ⟨by repeat (first | (with_reducible first | exact HB.out | apply below_alloc | apply pw_below_drewN | apply below_drew1 | refine below_set ?_ GE803.out | refine below_set ?_ GE806.out) | exact HB.out)⟩⟩
                · rw [if_neg c10] at H
                  have c10b0 : decide (x8_2 < ((rd_L1 l0 0).length : Int)) = false := decide_eq_false c10
                  clear c10
                  by_cases c22 : x807001_1.length < 17592186044416
                  · rw [if_pos c22] at H
                    have LMc22 := Aside0.mk c22
                    clear c22
                    obtain ⟨y807, hy807⟩ : ∃ y_ : List Int, y_ = (x807001_1 ++ [x7_2]) := ⟨_, rfl⟩
                    replace H : (spec_MajorityOf.l0 k2 l0 ((rd_L1 l0 0).length : Int) (wrap64 (x6_1 + 1)) ((rd_L1 l0 0).length : Int) y807) = some (r1, r2, r3) := by first | (rw [hy807]; with_reducible exact H) | (have H2_ := (Option.bind_some _ _).symm.trans H; rw [hy807]; with_reducible exact H2_) | (have H2_ := (Option.bind_some _ _).symm.trans H; with_reducible exact H2_) | with_reducible exact H | (rw [hy807]; exact H) | exact H
                    have Ny807 := Aside0.mk hy807
                    clear hy807
                    have H' := Aside0.mk H
                    clear H
                    have hnb23 := NB806_803.out
                    have hnc23 := NB803_806.out
                    have hcz24_0 : wr.cell? ⟨gb806, 0, none⟩ = some (.int .i64 ((rd_L1 l0 0).length : Int)) := (blk_cell BK806.out 0).trans rfl
                    have hcz24_1 : wr.cell? ⟨gb806, 1, none⟩ = some (u807001) := (blk_cell BK806.out 1).trans rfl
                    have hfz24_0 := blk_frozen BK806.out 0
                    have hfz24_1 := blk_frozen BK806.out 1
                    go_wp2_with (first | ((with_reducible refine gate_builtin (b := .append) (xs := #[.tmp 58, .tmp 60]) rfl ?_); at_builtin; refine Kd.R_append (Kd.int .i64) (w0 := w) w.heap.size rfl (.tmp 58) (.tmp 60) 22 3 (.int .i64 0) 8 rfl Try.underlying22 info3 rfl (by decide) (by omega) u807001 x807001_1 x7_2 [.int .i64 x7_2] (fun _ => True) (fun _ => False) rfl rfl ?aP (fun _ hk => hk.elim) ?aF ?aO ?aB ?aS ?aL ?_; (case aP => exact rfl); (case aB => exact (by repeat (first | (with_reducible first | exact HB.out | apply below_alloc | apply pw_below_drewN | apply below_drew1 | refine below_set ?_ GE803.out | refine below_set ?_ GE806.out) | exact HB.out))); (case aF => exact (fun _ _ => trivial)); (case aO => exact (by (with_reducible repeat (first | apply Kd.R_alloc | apply Kd.R_drewN | apply Kd.R_drew)); exact HO_807001.out)); (case aS => exact (below_size (by repeat (first | (with_reducible first | exact HB.out | apply below_alloc | apply pw_below_drewN | apply below_drew1 | refine below_set ?_ GE803.out | refine below_set ?_ GE806.out) | exact HB.out)))); (case aL => have := LMc22.out; omega); intro v808 w25 ho hb hg hat; rw [← Ny807.out] at ho; have n0_ := Aside0.mk (blk_grown (g := gb803) (o := .cells #[.int .i64 0, .slice none 0 0] 34 (0, 0)) (by (with_reducible repeat (first | refine blk_drewN ?_ _ | refine blk_drew ?_ | refine blk_alloc ?_ _)); exact BK803.out) hg (Kd.R_ne HO_807001.out BK803.out (by decide))); have n1_ := Aside0.mk (blk_grown (g := gb806) (o := .cells #[.int .i64 ((rd_L1 l0 0).length : Int), u807001] 34 (0, 0)) (by (with_reducible repeat (first | refine blk_drewN ?_ _ | refine blk_drew ?_ | refine blk_alloc ?_ _)); exact BK806.out) hg (Kd.R_ne HO_807001.out BK806.out (by decide))); have n2_ := Aside0.mk (hb); have n3_ := Aside0.mk (ho); clear BK803; clear BK806; clear HB; clear HO_807001; have BK803 := n0_; have BK806 := n1_; have HB := n2_; have HO809 := n3_; clear n0_ n1_ n2_ n3_; clear ho hb hg hat; obtain ⟨Ao26, co26, eo26⟩ := Kd.R_slice HO809.out; subst eo26; have hcz27_0 : w25.cell? ⟨gb806, 0, none⟩ = some (.int .i64 ((rd_L1 l0 0).length : Int)) := (blk_cell BK806.out 0).trans rfl; have hcz27_1 : w25.cell? ⟨gb806, 1, none⟩ = some (u807001) := (blk_cell BK806.out 1).trans rfl; have hfz27_0 := blk_frozen BK806.out 0; have hfz27_1 := blk_frozen BK806.out 1))
                    repeat (go_quiet (first | ((with_reducible refine gate_builtin (b := .append) (xs := #[.tmp 58, .tmp 60]) rfl ?_); at_builtin; refine Kd.R_append (Kd.int .i64) (w0 := w) w.heap.size rfl (.tmp 58) (.tmp 60) 22 3 (.int .i64 0) 8 rfl Try.underlying22 info3 rfl (by decide) (by omega) u807001 x807001_1 x7_2 [.int .i64 x7_2] (fun _ => True) (fun _ => False) rfl rfl ?aP (fun _ hk => hk.elim) ?aF ?aO ?aB ?aS ?aL ?_; (case aP => exact rfl); (case aB => exact (by repeat (first | (with_reducible first | exact HB.out | apply below_alloc | apply pw_below_drewN | apply below_drew1 | refine below_set ?_ GE803.out | refine below_set ?_ GE806.out) | exact HB.out))); (case aF => exact (fun _ _ => trivial)); (case aO => exact (by (with_reducible repeat (first | apply Kd.R_alloc | apply Kd.R_drewN | apply Kd.R_drew)); exact HO_807001.out)); (case aS => exact (below_size (by repeat (first | (with_reducible first | exact HB.out | apply below_alloc | apply pw_below_drewN | apply below_drew1 | refine below_set ?_ GE803.out | refine below_set ?_ GE806.out) | exact HB.out)))); (case aL => have := LMc22.out; omega); intro v808 w25 ho hb hg hat; rw [← Ny807.out] at ho; have n0_ := Aside0.mk (blk_grown (g := gb803) (o := .cells #[.int .i64 0, .slice none 0 0] 34 (0, 0)) (by (with_reducible repeat (first | refine blk_drewN ?_ _ | refine blk_drew ?_ | refine blk_alloc ?_ _)); exact BK803.out) hg (Kd.R_ne HO_807001.out BK803.out (by decide))); have n1_ := Aside0.mk (blk_grown (g := gb806) (o := .cells #[.int .i64 ((rd_L1 l0 0).length : Int), u807001] 34 (0, 0)) (by (with_reducible repeat (first | refine blk_drewN ?_ _ | refine blk_drew ?_ | refine blk_alloc ?_ _)); exact BK806.out) hg (Kd.R_ne HO_807001.out BK806.out (by decide))); have n2_ := Aside0.mk (hb); have n3_ := Aside0.mk (ho); clear BK803; clear BK806; clear HB; clear HO_807001; have BK803 := n0_; have BK806 := n1_; have HB := n2_; have HO809 := n3_; clear n0_ n1_ n2_ n3_; clear ho hb hg hat; obtain ⟨Ao26, co26, eo26⟩ := Kd.R_slice HO809.out; subst eo26; have hcz27_0 : w25.cell? ⟨gb806, 0, none⟩ = some (.int .i64 ((rd_L1 l0 0).length : Int)) := (blk_cell BK806.out 0).trans rfl; have hcz27_1 : w25.cell? ⟨gb806, 1, none⟩ = some (u807001) := (blk_cell BK806.out 1).trans rfl; have hfz27_0 := blk_frozen BK806.out 0; have hfz27_1 := blk_frozen BK806.out 1)); try go_wp2_with (first | ((with_reducible refine gate_builtin (b := .append) (xs := #[.tmp 58, .tmp 60]) rfl ?_); at_builtin; refine Kd.R_append (Kd.int .i64) (w0 := w) w.heap.size rfl (.tmp 58) (.tmp 60) 22 3 (.int .i64 0) 8 rfl Try.underlying22 info3 rfl (by decide) (by omega) u807001 x807001_1 x7_2 [.int .i64 x7_2] (fun _ => True) (fun _ => False) rfl rfl ?aP (fun _ hk => hk.elim) ?aF ?aO ?aB ?aS ?aL ?_; (case aP => exact rfl); (case aB => exact (by repeat (first | (with_reducible first | exact HB.out | apply below_alloc | apply pw_below_drewN | apply below_drew1 | refine below_set ?_ GE803.out | refine below_set ?_ GE806.out) | exact HB.out))); (case aF => exact (fun _ _ => trivial)); (case aO => exact (by (with_reducible repeat (first | apply Kd.R_alloc | apply Kd.R_drewN | apply Kd.R_drew)); exact HO_807001.out)); (case aS => exact (below_size (by repeat (first | (with_reducible first | exact HB.out | apply below_alloc | apply pw_below_drewN | apply below_drew1 | refine below_set ?_ GE803.out | refine below_set ?_ GE806.out) | exact HB.out)))); (case aL => have := LMc22.out; omega); intro v808 w25 ho hb hg hat; rw [← Ny807.out] at ho; have n0_ := Aside0.mk (blk_grown (g := gb803) (o := .cells #[.int .i64 0, .slice none 0 0] 34 (0, 0)) (by (with_reducible repeat (first | refine blk_drewN ?_ _ | refine blk_drew ?_ | refine blk_alloc ?_ _)); exact BK803.out) hg (Kd.R_ne HO_807001.out BK803.out (by decide))); have n1_ := Aside0.mk (blk_grown (g := gb806) (o := .cells #[.int .i64 ((rd_L1 l0 0).length : Int), u807001] 34 (0, 0)) (by (with_reducible repeat (first | refine blk_drewN ?_ _ | refine blk_drew ?_ | refine blk_alloc ?_ _)); exact BK806.out) hg (Kd.R_ne HO_807001.out BK806.out (by decide))); have n2_ := Aside0.mk (hb); have n3_ := Aside0.mk (ho); clear BK803; clear BK806; clear HB; clear HO_807001; have BK803 := n0_; have BK806 := n1_; have HB := n2_; have HO809 := n3_; clear n0_ n1_ n2_ n3_; clear ho hb hg hat; obtain ⟨Ao26, co26, eo26⟩ := Kd.R_slice HO809.out; subst eo26; have hcz27_0 : w25.cell? ⟨gb806, 0, none⟩ = some (.int .i64 ((rd_L1 l0 0).length : Int)) := (blk_cell BK806.out 0).trans rfl; have hcz27_1 : w25.cell? ⟨gb806, 1, none⟩ = some (u807001) := (blk_cell BK806.out 1).trans rfl; have hfz27_0 := blk_frozen BK806.out 0; have hfz27_1 := blk_frozen BK806.out 1)))
                    go_roundg k2
                    case measure => have := HK1.out; have := HK2.out; omega
                    case rel => exact ⟨(wrap64 (x6_1 + 1)), (y807), (.slice Ao26 y807.length co26), (by first | rfl | (simp; done) | (simp [*]; done)), H', ⟨by have := HK1.out; have := HK2.out; omega⟩, ⟨by (with_reducible repeat (first | apply Kd.R_alloc | apply Kd.R_drewN | apply Kd.R_drew)); exact Kd.R_mono (Kd.R_far (p := ⟨gb806, 1, none⟩) (Kd.R_types HO809.out BK806.out (by decide)) (fun _ hk => hk.2) (.slice Ao26 y807.length co26)) (fun _ hk => trivial)⟩, ⟨by (with_reducible repeat (first | refine blk_drewN ?_ _ | refine blk_drew ?_ | refine blk_alloc ?_ _)); refine blk_far ?_ NB803_806.out _; (with_reducible repeat (first | refine blk_drewN ?_ _ | refine blk_drew ?_ | refine blk_alloc ?_ _)); exact BK803.out⟩, ⟨by (with_reducible repeat (first | refine blk_drewN ?_ _ | refine blk_drew ?_ | refine blk_alloc ?_ _)); refine blk_put (cs := #[.int .i64 ((rd_L1 l0 0).length : Int), u807001]) ?_ 1 _ rfl; (with_reducible repeat (first | refine blk_drewN ?_ _ | refine blk_drew ?_ | refine blk_alloc ?_ _)); exact BK806.out⟩, ⟨by repeat (first | (with_reducible first | exact HB.out | apply below_alloc | apply pw_below_drewN | apply below_drew1 | refine below_set ?_ GE803.out | refine below_set ?_ GE806.out) | exact HB.out)⟩⟩
                  · rw [if_neg c22] at H
                    exact absurd H (by simp)
          · rw [if_neg c9] at H
            have c9b0 : decide (x6_1 < ((rd_L1 l0 0).length : Int)) = false := decide_eq_false c9
            clear c9
            simp only [Option.some.injEq, Prod.mk.injEq] at H
            obtain ⟨rfl, rfl, rfl⟩ := H
            have hnb28 := NB806_803.out
            have hnc28 := NB803_806.out
            have hcz29_0 : wr.cell? ⟨gb806, 0, none⟩ = some (.int .i64 ((rd_L1 l0 0).length : Int)) := (blk_cell BK806.out 0).trans rfl
            have hcz29_1 : wr.cell? ⟨gb806, 1, none⟩ = some (u807001) := (blk_cell BK806.out 1).trans rfl
            have hfz29_0 := blk_frozen BK806.out 0
            have hfz29_1 := blk_frozen BK806.out 1
            have hcz30_0 : wr.cell? ⟨gb803, 0, none⟩ = some (.int .i64 0) := (blk_cell BK803.out 0).trans rfl
            have hcz30_1 : wr.cell? ⟨gb803, 1, none⟩ = some (.slice none 0 0) := (blk_cell BK803.out 1).trans rfl
            have hfz30_0 := blk_frozen BK803.out 0
            have hfz30_1 := blk_frozen BK803.out 1
            obtain ⟨Ao31, co31, eo31⟩ := Kd.R_slice HO_807001.out
            subst eo31
            go_wp2
            repeat (go_quiet (fail); try go_wp2)
            refine bodyPost_ret (results_ct rfl _ _ gb803 34 #[.int .i64 ((rd_L1 l0 0).length : Int), .slice Ao31 x807001_1.length co31] (0, 0) _ rfl (by (with_reducible repeat (first | refine blk_drewN ?_ _ | refine blk_drew ?_ | refine blk_alloc ?_ _)); refine blk_put (cs := #[.int .i64 ((rd_L1 l0 0).length : Int), .slice none 0 0]) ?_ 1 _ rfl; (with_reducible repeat (first | refine blk_drewN ?_ _ | refine blk_drew ?_ | refine blk_alloc ?_ _)); refine blk_put (cs := #[.int .i64 0, .slice none 0 0]) ?_ 0 _ rfl; (with_reducible repeat (first | refine blk_drewN ?_ _ | refine blk_drew ?_ | refine blk_alloc ?_ _)); exact BK803.out) Try.underlying34 rfl (by kernel_rfl)) rfl ?_
            exact ⟨_, by first | rfl | (simp [errW_none, errW_some] <;> rfl) | (simp [*, errW_none, errW_some] <;> rfl), by (with_reducible repeat (first | apply Kd.R_alloc | apply Kd.R_drewN | apply Kd.R_drew)); exact Kd.R_mono (Kd.R_far (p := ⟨gb803, 1, none⟩) (Kd.R_far (p := ⟨gb803, 0, none⟩) (Kd.R_types HO_807001.out BK803.out (by decide)) (fun _ hk => hk.2) (.int .i64 ((rd_L1 l0 0).length : Int))) (fun _ hk => hk.2) (.slice Ao31 x807001_1.length co31)) (fun _ hk => trivial), by repeat (first | (with_reducible first | exact HB.out | apply below_alloc | apply pw_below_drewN | apply below_drew1 | refine below_set ?_ GE803.out | refine below_set ?_ GE806.out) | exact HB.out)⟩
    · rw [if_neg c4] at H
      exact absurd H (by simp)
  · replace c3 := Bool.eq_false_iff.mpr c3
    subst c3
    have H1 : (some (0, ([] : List Int), false)) = some (r1, r2, r3) := by rw [if_neg (show ¬ (false = true) by decide)] at H; exact H
    clear H
    have H := H1
    clear H1
    simp only [Option.some.injEq, Prod.mk.injEq] at H
    obtain ⟨rfl, rfl, rfl⟩ := H
    go_enter Try.func41, Try.ntmps41
    go_wp2_with (first | ((with_reducible refine gate_dst (N := 2) rfl ?_); refine box_event ?hg (N := 2) ?hd (cs := #[.int .i64 0, .slice none 0 0]) (t := 34) ?hr ?_; (case hd => rfl); (case hg => rfl); (case hr => first | (go_simp; done) | (go_simp; rfl)); intro gb803 hg w32 hbox hb; have n0_ := Aside0.mk (below_step (by repeat (first | (with_reducible first | exact HB.out | apply below_alloc | apply pw_below_drewN | apply below_drew1) | exact HB.out)) hb); have n1_ := Aside0.mk (hbox); have n2_ := Aside0.mk ((by rw [hg]; exact (below_size (by repeat (first | (with_reducible first | exact HB.out | apply below_alloc | apply pw_below_drewN | apply below_drew1) | exact HB.out))) : w.heap.size ≤ gb803)); have n3_ := Aside0.mk ((by rw [hg]; exact (below_size (by repeat (first | (with_reducible first | exact HB.out | apply below_alloc | apply pw_below_drewN | apply below_drew1) | exact HB.out))) : w.heap.size ≤ gb803)); clear HB; have HB := n0_; have BK803 := n1_; have GW803 := n2_; have GE803 := n3_; clear n0_ n1_ n2_ n3_; clear hb hbox hg) | (go_at_call 71; (with_reducible refine (spec_weVoters.calls k _ _ l0 false _ ?side1 ?side2 A2.out).mono ?_); (case side1 => repeat (first | exact (Kd.C_below HR0.out HB.out) | (with_reducible refine Kd.C_alloc ?_ _) | (with_reducible refine Kd.C_drewN ?_ _) | (with_reducible refine Kd.C_drew ?_))); (case side2 => exact HC0.out); rintro e w' ⟨rfl, ⟨nd, rfl⟩⟩; (try first | exact ⟨rfl, _, World.drewN_drewN _ _ _⟩ | exact ⟨rfl, _, Eq.trans (World.drewN_drewN _ _ _) (congrArg (World.drewN _) (Nat.add_assoc _ _ _))⟩); have hcz33_0 : w32.cell? ⟨gb803, 0, none⟩ = some (.int .i64 0) := (blk_cell BK803.out 0).trans rfl; have hcz33_1 : w32.cell? ⟨gb803, 1, none⟩ = some (.slice none 0 0) := (blk_cell BK803.out 1).trans rfl; have hfz33_0 := blk_frozen BK803.out 0; have hfz33_1 := blk_frozen BK803.out 1))
    repeat (go_quiet (first | ((with_reducible refine gate_dst (N := 2) rfl ?_); refine box_event ?hg (N := 2) ?hd (cs := #[.int .i64 0, .slice none 0 0]) (t := 34) ?hr ?_; (case hd => rfl); (case hg => rfl); (case hr => first | (go_simp; done) | (go_simp; rfl)); intro gb803 hg w32 hbox hb; have n0_ := Aside0.mk (below_step (by repeat (first | (with_reducible first | exact HB.out | apply below_alloc | apply pw_below_drewN | apply below_drew1) | exact HB.out)) hb); have n1_ := Aside0.mk (hbox); have n2_ := Aside0.mk ((by rw [hg]; exact (below_size (by repeat (first | (with_reducible first | exact HB.out | apply below_alloc | apply pw_below_drewN | apply below_drew1) | exact HB.out))) : w.heap.size ≤ gb803)); have n3_ := Aside0.mk ((by rw [hg]; exact (below_size (by repeat (first | (with_reducible first | exact HB.out | apply below_alloc | apply pw_below_drewN | apply below_drew1) | exact HB.out))) : w.heap.size ≤ gb803)); clear HB; have HB := n0_; have BK803 := n1_; have GW803 := n2_; have GE803 := n3_; clear n0_ n1_ n2_ n3_; clear hb hbox hg) | (go_at_call 71; (with_reducible refine (spec_weVoters.calls k _ _ l0 false _ ?side1 ?side2 A2.out).mono ?_); (case side1 => repeat (first | exact (Kd.C_below HR0.out HB.out) | (with_reducible refine Kd.C_alloc ?_ _) | (with_reducible refine Kd.C_drewN ?_ _) | (with_reducible refine Kd.C_drew ?_))); (case side2 => exact HC0.out); rintro e w' ⟨rfl, ⟨nd, rfl⟩⟩; (try first | exact ⟨rfl, _, World.drewN_drewN _ _ _⟩ | exact ⟨rfl, _, Eq.trans (World.drewN_drewN _ _ _) (congrArg (World.drewN _) (Nat.add_assoc _ _ _))⟩); have hcz33_0 : w32.cell? ⟨gb803, 0, none⟩ = some (.int .i64 0) := (blk_cell BK803.out 0).trans rfl; have hcz33_1 : w32.cell? ⟨gb803, 1, none⟩ = some (.slice none 0 0) := (blk_cell BK803.out 1).trans rfl; have hfz33_0 := blk_frozen BK803.out 0; have hfz33_1 := blk_frozen BK803.out 1)); try go_wp2_with (first | ((with_reducible refine gate_dst (N := 2) rfl ?_); refine box_event ?hg (N := 2) ?hd (cs := #[.int .i64 0, .slice none 0 0]) (t := 34) ?hr ?_; (case hd => rfl); (case hg => rfl); (case hr => first | (go_simp; done) | (go_simp; rfl)); intro gb803 hg w32 hbox hb; have n0_ := Aside0.mk (below_step (by repeat (first | (with_reducible first | exact HB.out | apply below_alloc | apply pw_below_drewN | apply below_drew1) | exact HB.out)) hb); have n1_ := Aside0.mk (hbox); have n2_ := Aside0.mk ((by rw [hg]; exact (below_size (by repeat (first | (with_reducible first | exact HB.out | apply below_alloc | apply pw_below_drewN | apply below_drew1) | exact HB.out))) : w.heap.size ≤ gb803)); have n3_ := Aside0.mk ((by rw [hg]; exact (below_size (by repeat (first | (with_reducible first | exact HB.out | apply below_alloc | apply pw_below_drewN | apply below_drew1) | exact HB.out))) : w.heap.size ≤ gb803)); clear HB; have HB := n0_; have BK803 := n1_; have GW803 := n2_; have GE803 := n3_; clear n0_ n1_ n2_ n3_; clear hb hbox hg) | (go_at_call 71; (with_reducible refine (spec_weVoters.calls k _ _ l0 false _ ?side1 ?side2 A2.out).mono ?_); (case side1 => repeat (first | exact (Kd.C_below HR0.out HB.out) | (with_reducible refine Kd.C_alloc ?_ _) | (with_reducible refine Kd.C_drewN ?_ _) | (with_reducible refine Kd.C_drew ?_))); (case side2 => exact HC0.out); rintro e w' ⟨rfl, ⟨nd, rfl⟩⟩; (try first | exact ⟨rfl, _, World.drewN_drewN _ _ _⟩ | exact ⟨rfl, _, Eq.trans (World.drewN_drewN _ _ _) (congrArg (World.drewN _) (Nat.add_assoc _ _ _))⟩); have hcz33_0 : w32.cell? ⟨gb803, 0, none⟩ = some (.int .i64 0) := (blk_cell BK803.out 0).trans rfl; have hcz33_1 : w32.cell? ⟨gb803, 1, none⟩ = some (.slice none 0 0) := (blk_cell BK803.out 1).trans rfl; have hfz33_0 := blk_frozen BK803.out 0; have hfz33_1 := blk_frozen BK803.out 1)))
    refine bodyPost_ret (results_ct rfl _ _ gb803 34 #[.int .i64 0, .slice none 0 0] (0, 0) _ rfl (by (with_reducible repeat (first | refine blk_drewN ?_ _ | refine blk_drew ?_ | refine blk_alloc ?_ _)); refine blk_put (cs := #[.int .i64 0, .slice none 0 0]) ?_ 1 _ rfl; (with_reducible repeat (first | refine blk_drewN ?_ _ | refine blk_drew ?_ | refine blk_alloc ?_ _)); refine blk_put (cs := #[.int .i64 0, .slice none 0 0]) ?_ 0 _ rfl; (with_reducible repeat (first | refine blk_drewN ?_ _ | refine blk_drew ?_ | refine blk_alloc ?_ _)); exact BK803.out) Try.underlying34 rfl (by kernel_rfl)) rfl ?_
    exact ⟨_, by first | rfl | (simp [errW_none, errW_some] <;> rfl) | (simp [*, errW_none, errW_some] <;> rfl), by first | exact Kd.R_nil _ _ _ _ _ | exact Kd.N_nil _ _ _ _ _ | exact Kd.V_nil _ _ _ _ _ | exact Kd.Q_nil _ _ _ _ _ | exact Kd.S_nil _ _ _ _ _, by repeat (first | (with_reducible first | exact HB.out | apply below_alloc | apply pw_below_drewN | apply below_drew1 | refine below_set ?_ GE803.out) | exact HB.out)⟩

end Go.Proofs.Ytjojalbgpemjoaa.Q
