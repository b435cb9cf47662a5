import Derived.Test.YtjojalbgpemjoaaBFnExactMeanLevels0
import Derived.Test.YtjojalbgpemjoaaBFnExactMeanLevels13
import Derived.Test.YtjojalbgpemjoaaBFnExactMeanLevels16
import Derived.Test.YtjojalbgpemjoaaBFnExactMeanLevels17
-- printed by this project's own program (wip/mp/mp.py) over the kit's print, for this seat; Lean checks it
namespace Go.Proofs.Ytjojalbgpemjoaa.Q
open Go.RowKit Go.Proofs.YtjojalbgpemjoaaW.PrintWords Go.Proofs.YtjojalbgpemjoaaW.PrintLast Go.Proofs.YtjojalbgpemjoaaW.PrintMore
attribute [local go_sem] max2_int min2_int max_two min_two max_three min_three max_four min_four   -- for this text's walks alone
set_option linter.unusedVariables false
set_option linter.unusedSimpArgs false

/-! ### impl_MajorityOf_1: function 75 -/
def impl_MajorityOf_1.f (k : Nat) (a0 : Int) (a1 : Int) (l2_0 : List (List Int)) : Option (Bool) := (impl_majority.f k l2_0 a0 a1).bind fun t835 => (some (decide (t835 > 0)))
theorem impl_MajorityOf_1.mono : ∀ a0 a1 a2 k, LeO (impl_MajorityOf_1.f k a0 a1 a2) (impl_MajorityOf_1.f (k + 1) a0 a1 a2) := by
  intro a0 a1 a2 k
  unfold impl_MajorityOf_1.f
  repeat' first
      | (with_reducible exact impl_majority.mono _ _ _ _)
      | (with_reducible exact LeO.refl _)
      | (with_reducible exact LeO.none _)
      | (with_reducible refine LeO.ite ?_ ?_)
      | (with_reducible refine LeO.bind ?_ (fun _ => ?_))
      | exact impl_majority.mono _ _ _ _
      | exact LeO.none _
      | refine LeO.ite ?_ ?_
      | refine LeO.bind ?_ (fun _ => ?_)
set_option maxHeartbeats 8000000 in
set_option maxRecDepth 100000 in
theorem impl_MajorityOf_1.calls (k : Nat) (a0 : Int) (a1 : Int) (gB2 : Nat) (A2_0 : Option Addr) (c2_0 : Nat) (l2_0 : List (List Int)) (r : Bool) (w : World) (hb2 : w.heap[gB2]? = some (.cells #[.slice A2_0 l2_0.length c2_0] 45 (0, 0))) (hr2_0 : Kd.C (Kd.slice 3 (Kd.int .i64)) w A2_0 l2_0.length l2_0) (hc2_0 : l2_0.length ≤ c2_0) (h : impl_MajorityOf_1.f k a0 a1 l2_0 = some r) :
    Calls Try.prog 75 #[.int .i64 a0, .int .i64 a1, .pointer (some ⟨gB2, 0, none⟩)] w fun e w' => e = .returned (.bool r) ∧ Drawn0 w w' := by
  have BK834 := Aside0.mk hb2
  clear hb2
  have HR2_0 := Aside0.mk hr2_0
  have HC2_0 := Aside0.mk hc2_0
  clear hr2_0 hc2_0
  have H : ((impl_majority.f k l2_0 a0 a1).bind fun t835 => (some (decide (t835 > 0)))) = some r := h
  clear h
  replace H := Option.bind_eq_some_iff.mp H
  obtain ⟨t835, A40, H⟩ := H
  replace H : (some (decide (t835 > 0))) = some r := H
  have A4 := Aside0.mk A40
  clear A40
  obtain rfl := Option.some.inj H
  have hcz5_0 : w.cell? ⟨gB2, 0, none⟩ = some (.slice A2_0 l2_0.length c2_0) := (blk_cell BK834.out 0).trans rfl
  have hfz5_0 := blk_frozen BK834.out 0
  go_enter Try.func75, Try.ntmps75
  go_wp2_with (first | ((with_reducible refine gate_callee (f := 76) rfl ?_); refine goesL_ (some 9) rfl rfl Try.func76 (by kernel_rfl) rfl #[.slice A2_0 l2_0.length c2_0, .int .i64 a0, .int .i64 a1] rfl (by (try simp only [List.map_toArray, List.map_cons, List.map_nil]); first | done | rfl | (simp only [List.length_drop, List.length_take]; rfl)) ?_; (with_reducible refine (impl_majority.calls k _ _ l2_0 a0 a1 t835 _ ?side1 ?side2 A4.out).mono ?_); (case side1 => repeat (first | exact HR2_0.out | (with_reducible refine Kd.C_alloc ?_ _) | (with_reducible refine Kd.C_drewN ?_ _) | (with_reducible refine Kd.C_drew ?_))); (case side2 => exact HC2_0.out); rintro e w' ⟨rfl, ⟨nd, rfl⟩⟩; refine ⟨_, rfl, ?_⟩))
  go_ret
  exact ⟨by first | rfl | (simp; done) | (simp [*]; done), by repeat (first | exact Drawn0.refl _ | apply Drawn0.step)⟩

end Go.Proofs.Ytjojalbgpemjoaa.Q

-- printed by this project's own program (wip/mp/mp.py) over the kit's print, for this seat; Lean checks it
namespace Go.Proofs.Ytjojalbgpemjoaa.Q
open Go.RowKit Go.Proofs.YtjojalbgpemjoaaW.PrintWords Go.Proofs.YtjojalbgpemjoaaW.PrintLast Go.Proofs.YtjojalbgpemjoaaW.PrintMore
attribute [local go_sem] max2_int min2_int max_two min_two max_three min_three max_four min_four   -- for this text's walks alone
set_option linter.unusedVariables false
set_option linter.unusedSimpArgs false

/-! ### impl_MajorityOf: function 43 -/
def impl_MajorityOf.f (k : Nat) (l0 : List (List Int)) : Option (Int × List Int × Bool) := (impl_areVoters.f k l0).bind fun t838 => (if t838 = true then (if 0 < (l0.length : Int) then ((impl_relation.f k ((rd_L1 l0 0).length : Int) (fun u0_ u1_ => impl_MajorityOf_1.f k u0_ u1_ l0)).bind fun bt840 => (some (bt840.1, bt840.2, true))) else (none)) else (some (0, ([] : List Int), false)))
theorem impl_MajorityOf.mono : ∀ a0 k, LeO (impl_MajorityOf.f k a0) (impl_MajorityOf.f (k + 1) a0) := by
  intro a0 k
  unfold impl_MajorityOf.f
  repeat' first
      | (with_reducible exact impl_relation.mono _ _ _)
      | (refine impl_relation.monoF ?_ _ _; intros)
      | (with_reducible exact impl_MajorityOf_1.mono _ _ _ _)
      | (with_reducible exact impl_areVoters.mono _ _)
      | (with_reducible exact impl_relation.mono _ _ _)
      | (with_reducible exact LeO.refl _)
      | (with_reducible exact LeO.none _)
      | (with_reducible refine LeO.ite ?_ ?_)
      | (with_reducible refine LeO.bind ?_ (fun _ => ?_))
      | exact impl_MajorityOf_1.mono _ _ _ _
      | exact impl_areVoters.mono _ _
      | exact impl_relation.mono _ _ _
      | exact LeO.none _
      | refine LeO.ite ?_ ?_
      | refine LeO.bind ?_ (fun _ => ?_)
set_option maxHeartbeats 8000000 in
set_option maxRecDepth 100000 in
theorem impl_MajorityOf.calls (k : Nat) (A0 : Option Addr) (c0 : Nat) (l0 : List (List Int)) (r1 : Int) (r2 : List Int) (r3 : Bool) (w : World) (hr0 : Kd.C (Kd.slice 3 (Kd.int .i64)) w A0 l0.length l0) (hc0 : l0.length ≤ c0) (h : impl_MajorityOf.f k l0 = some (r1, r2, r3)) :
    Calls Try.prog 43 #[.slice A0 l0.length c0] w fun e w' => ∃ v1_ : Value, e = .returned (.tuple #[.agg #[.int .i64 r1, v1_], .bool r3]) ∧ Kd.R (Kd.int .i64) 3 w' w.heap.size (fun _ => True) v1_ r2 ∧ Below w.heap.size w w' := by
  have hu34 := Try.underlying34
  have HR0 := Aside0.mk hr0
  have HC0 := Aside0.mk hc0
  clear hr0 hc0
  have HB := Aside0.mk (Below.refl w.heap.size w)
  have H : ((impl_areVoters.f k l0).bind fun t838 => (if t838 = true then (if 0 < (l0.length : Int) then ((impl_relation.f k ((rd_L1 l0 0).length : Int) (fun u0_ u1_ => impl_MajorityOf_1.f k u0_ u1_ l0)).bind fun bt840 => (some (bt840.1, bt840.2, true))) else (none)) else (some (0, ([] : List Int), false)))) = some (r1, r2, r3) := h
  clear h
  replace H := Option.bind_eq_some_iff.mp H
  obtain ⟨t838, A20, H⟩ := H
  replace H : (if t838 = true then (if 0 < (l0.length : Int) then ((impl_relation.f k ((rd_L1 l0 0).length : Int) (fun u0_ u1_ => impl_MajorityOf_1.f k u0_ u1_ l0)).bind fun bt840 => (some (bt840.1, bt840.2, true))) else (none)) else (some (0, ([] : List Int), false))) = some (r1, r2, r3) := H
  have A2 := Aside0.mk A20
  clear A20
  by_cases c3 : t838 = true
  · subst c3
    have H1 : (if 0 < (l0.length : Int) then ((impl_relation.f k ((rd_L1 l0 0).length : Int) (fun u0_ u1_ => impl_MajorityOf_1.f k u0_ u1_ l0)).bind fun bt840 => (some (bt840.1, bt840.2, true))) else (none)) = some (r1, r2, r3) := by rw [if_pos rfl] at H; exact H
    clear H
    have H := H1
    clear H1
    by_cases c4 : 0 < (l0.length : Int)
    · rw [if_pos c4] at H
      have c4b0 : decide (0 < (l0.length : Int)) = true := decide_eq_true c4
      have c4b1 : decide (0 < l0.length) = true := decide_eq_true (by omega)
      clear c4
      replace H := Option.bind_eq_some_iff.mp H
      obtain ⟨⟨t840, t841⟩, A50, H⟩ := H
      replace H : (some (t840, t841, true)) = some (r1, r2, r3) := H
      have A5 := Aside0.mk A50
      clear A50
      simp only [Option.some.injEq, Prod.mk.injEq] at H
      obtain ⟨rfl, rfl, rfl⟩ := H
      go_enter Try.func43, Try.ntmps43
      go_wp2_with (first | ((with_reducible refine gate_dst (N := 1) rfl ?_); refine box_event ?hg (N := 1) ?hd (cs := #[.slice A0 l0.length c0]) (t := 45) ?hr ?_; (case hd => rfl); (case hg => rfl); (case hr => first | (go_simp; done) | (go_simp; rfl)); intro gb836 hg w6 hbox hb; have n0_ := Aside0.mk (below_step (by repeat (first | (with_reducible first | exact HB.out | apply below_alloc | apply pw_below_drewN | apply below_drew1) | exact HB.out)) hb); have n1_ := Aside0.mk (hbox); have n2_ := Aside0.mk ((by rw [hg]; exact (below_size (by repeat (first | (with_reducible first | exact HB.out | apply below_alloc | apply pw_below_drewN | apply below_drew1) | exact HB.out))) : w.heap.size ≤ gb836)); have n3_ := Aside0.mk ((by rw [hg]; exact (below_size (by repeat (first | (with_reducible first | exact HB.out | apply below_alloc | apply pw_below_drewN | apply below_drew1) | exact HB.out))) : w.heap.size ≤ gb836)); clear HB; have HB := n0_; have BK836 := n1_; have GW836 := n2_; have GE836 := n3_; clear n0_ n1_ n2_ n3_; clear hb hbox hg) | ((with_reducible refine gate_dst (N := 2) rfl ?_); refine box_event ?hg (N := 2) ?hd (cs := #[.int .i64 0, .slice none 0 0]) (t := 34) ?hr ?_; (case hd => rfl); (case hg => rfl); (case hr => first | (go_simp; done) | (go_simp; rfl)); intro gb837 hg w7 hbox hb; have n0_ := Aside0.mk (blk_below (g := gb836) (o := .cells #[.slice A0 l0.length c0] 45 (0, 0)) (by (with_reducible repeat (first | refine blk_drewN ?_ _ | refine blk_drew ?_ | refine blk_alloc ?_ _)); exact BK836.out) hb); have n1_ := Aside0.mk (below_step (by repeat (first | (with_reducible first | exact HB.out | apply below_alloc | apply pw_below_drewN | apply below_drew1 | refine below_set ?_ GE836.out) | exact HB.out)) hb); have n2_ := Aside0.mk (hbox); have n3_ := Aside0.mk ((by rw [hg]; exact (below_size (by repeat (first | (with_reducible first | exact HB.out | apply below_alloc | apply pw_below_drewN | apply below_drew1 | refine below_set ?_ GE836.out) | exact HB.out))) : w.heap.size ≤ gb837)); have n4_ := Aside0.mk ((by rw [hg]; exact (below_size (by repeat (first | (with_reducible first | exact HB.out | apply below_alloc | apply pw_below_drewN | apply below_drew1 | refine below_set ?_ GE836.out) | exact HB.out))) : w.heap.size ≤ gb837)); have n5_ := Aside0.mk ((by rw [hg]; exact Nat.ne_of_lt (blk_lt (g := gb836) (o := .cells #[.slice A0 l0.length c0] 45 (0, 0)) (by (with_reducible repeat (first | refine blk_drewN ?_ _ | refine blk_drew ?_ | refine blk_alloc ?_ _)); exact BK836.out)) : gb836 ≠ gb837)); have n6_ := Aside0.mk ((by rw [hg]; exact Nat.ne_of_gt (blk_lt (g := gb836) (o := .cells #[.slice A0 l0.length c0] 45 (0, 0)) (by (with_reducible repeat (first | refine blk_drewN ?_ _ | refine blk_drew ?_ | refine blk_alloc ?_ _)); exact BK836.out)) : gb837 ≠ gb836)); clear BK836; clear HB; have BK836 := n0_; have HB := n1_; have BK837 := n2_; have GW837 := n3_; have GE837 := n4_; have NB836_837 := n5_; have NB837_836 := n6_; clear n0_ n1_ n2_ n3_ n4_ n5_ n6_; clear hb hbox hg; have hnb8 := NB836_837.out; have hnc8 := NB837_836.out; have hcz9_0 : w7.cell? ⟨gb836, 0, none⟩ = some (.slice A0 l0.length c0) := (blk_cell BK836.out 0).trans rfl; have hfz9_0 := blk_frozen BK836.out 0) | ((with_reducible refine gate_callee (f := 73) rfl ?_); refine goesL_ (some 5) rfl rfl Try.func73 (by kernel_rfl) rfl #[.slice A0 l0.length c0] rfl (by (try simp only [List.map_toArray, List.map_cons, List.map_nil]); first | done | rfl | (simp only [List.length_drop, List.length_take]; rfl)) ?_; (with_reducible refine (impl_areVoters.calls k _ _ l0 true _ ?side1 ?side2 A2.out).mono ?_); (case side1 => repeat (first | exact (Kd.C_below HR0.out HB.out) | (with_reducible refine Kd.C_alloc ?_ _) | (with_reducible refine Kd.C_drewN ?_ _) | (with_reducible refine Kd.C_drew ?_))); (case side2 => exact HC0.out); rintro e w10 ⟨rfl, hb⟩; refine ⟨_, rfl, ?_⟩; have n0_ := Aside0.mk (blk_below (g := gb836) (o := .cells #[.slice A0 l0.length c0] 45 (0, 0)) (by (with_reducible repeat (first | refine blk_drewN ?_ _ | refine blk_drew ?_ | refine blk_alloc ?_ _)); exact BK836.out) hb); have n1_ := Aside0.mk (blk_below (g := gb837) (o := .cells #[.int .i64 0, .slice none 0 0] 34 (0, 0)) (by (with_reducible repeat (first | refine blk_drewN ?_ _ | refine blk_drew ?_ | refine blk_alloc ?_ _)); exact BK837.out) hb); have n2_ := Aside0.mk (below_step (by repeat (first | (with_reducible first | exact HB.out | apply below_alloc | apply pw_below_drewN | apply below_drew1 | refine below_set ?_ GE836.out | refine below_set ?_ GE837.out) | exact HB.out)) hb); clear BK836; clear BK837; clear HB; have BK836 := n0_; have BK837 := n1_; have HB := n2_; clear n0_ n1_ n2_; (try clear hb); (try clear hb2); (try clear hk); (try clear hi); have hcz11_0 : w10.cell? ⟨gb836, 0, none⟩ = some (.slice A0 l0.length c0) := (blk_cell BK836.out 0).trans rfl; have hfz11_0 := blk_frozen BK836.out 0; have p839 : 0 ≤ (0 : Int) := (by omega); have q839 : 0 < (l0.length : Int) := of_decide_eq_true (by first | (with_reducible assumption) | assumption); obtain ⟨ad839, A839_0, c839_0, e839, hx839_0, hl839_0, hi839_0⟩ := at_L1 HR0.out 0 p839 q839; cases e839; have qi839 : (0 < l0.length) = True := eq_true (by omega); (try rw [show ((0 : Int)).toNat = 0 from rfl] at hx839_0); (try rw [Addr.add_zero'] at hx839_0); replace hx839_0 := (HB.out.cell (World.block_lt_of_cell? w _ hx839_0)).trans hx839_0; have HR839_0 := Aside0.mk hi839_0; have HC839_0 := Aside0.mk hl839_0; clear hi839_0 hl839_0; replace p839 := eq_true p839; replace q839 := eq_true q839) | ((with_reducible refine gate_callee (f := 74) rfl ?_); refine goesL_ (some 13) rfl rfl Try.func74 (by kernel_rfl) rfl #[.int .i64 ((rd_L1 l0 0).length : Int), .func (.func 75) #[] #[.pointer (some ⟨gb836, 0, none⟩)]] rfl (by (try simp only [List.map_toArray, List.map_cons, List.map_nil]); first | done | rfl | (simp only [List.length_drop, List.length_take]; rfl)) ?_; (with_reducible refine (impl_relation.calls k ((rd_L1 l0 0).length : Int) (fun u0_ u1_ => impl_MajorityOf_1.f k u0_ u1_ l0) 75 #[.pointer (some ⟨gb836, 0, none⟩)] (fun args_ W_ => enters_ Try.func75 (by kernel_rfl) rfl args_ W_) t840 t841 _ ?side1 A5.out).mono ?_); (case side1 => exact fun u0_ u1_ q_ W_ hb_ hq_ => (impl_MajorityOf_1.calls k u0_ u1_ gb836 (some ad839) c0 l0 q_ W_ (blk_below (show _ = some (Obj.cells #[.slice (some ad839) l0.length c0] 45 (0, 0)) from by (with_reducible repeat (first | refine blk_drewN ?_ _ | refine blk_drew ?_ | refine blk_alloc ?_ _)); exact BK836.out) hb_) (Kd.C_below (show Kd.C (Kd.slice 3 (Kd.int .i64)) _ (some ad839) l0.length l0 from by repeat (first | exact (Kd.C_below HR0.out HB.out) | (with_reducible refine Kd.C_alloc ?_ _) | (with_reducible refine Kd.C_drewN ?_ _) | (with_reducible refine Kd.C_drew ?_))) hb_) (by exact HC0.out) hq_).mono (fun _ _ h_ => ⟨h_.1, h_.2.below⟩)); rintro e w12 ⟨v842, rfl, ho0, hb⟩; refine ⟨_, rfl, ?_⟩; have n0_ := Aside0.mk (Kd.R_lower ho0 (below_size (by repeat (first | (with_reducible first | exact HB.out | apply below_alloc | apply pw_below_drewN | apply below_drew1 | refine below_set ?_ GE836.out | refine below_set ?_ GE837.out) | exact HB.out)))); have n1_ := Aside0.mk (blk_below (g := gb836) (o := .cells #[.slice (some ad839) l0.length c0] 45 (0, 0)) (by (with_reducible repeat (first | refine blk_drewN ?_ _ | refine blk_drew ?_ | refine blk_alloc ?_ _)); exact BK836.out) hb); have n2_ := Aside0.mk (blk_below (g := gb837) (o := .cells #[.int .i64 0, .slice none 0 0] 34 (0, 0)) (by (with_reducible repeat (first | refine blk_drewN ?_ _ | refine blk_drew ?_ | refine blk_alloc ?_ _)); exact BK837.out) hb); have n3_ := Aside0.mk (below_step (by repeat (first | (with_reducible first | exact HB.out | apply below_alloc | apply pw_below_drewN | apply below_drew1 | refine below_set ?_ GE836.out | refine below_set ?_ GE837.out) | exact HB.out)) hb); clear BK836; clear BK837; clear HB; have HO843 := n0_; have BK836 := n1_; have BK837 := n2_; have HB := n3_; clear n0_ n1_ n2_ n3_; (try clear hb); (try clear hb2); (try clear hk); (try clear hi); (try clear ho0); have hcz13_0 : w12.cell? ⟨gb837, 0, none⟩ = some (.int .i64 0) := (blk_cell BK837.out 0).trans rfl; have hcz13_1 : w12.cell? ⟨gb837, 1, none⟩ = some (.slice none 0 0) := (blk_cell BK837.out 1).trans rfl; have hfz13_0 := blk_frozen BK837.out 0; have hfz13_1 := blk_frozen BK837.out 1; obtain ⟨Ao14, co14, eo14⟩ := Kd.R_slice HO843.out; subst eo14))
      refine bodyPost_ret (results_ct rfl _ _ gb837 34 #[.int .i64 t840, .slice Ao14 t841.length co14] (0, 0) _ rfl (by (with_reducible repeat (first | refine blk_drewN ?_ _ | refine blk_drew ?_ | refine blk_alloc ?_ _)); refine blk_put (cs := #[.int .i64 t840, .slice none 0 0]) ?_ 1 _ rfl; (with_reducible repeat (first | refine blk_drewN ?_ _ | refine blk_drew ?_ | refine blk_alloc ?_ _)); refine blk_put (cs := #[.int .i64 0, .slice none 0 0]) ?_ 0 _ rfl; (with_reducible repeat (first | refine blk_drewN ?_ _ | refine blk_drew ?_ | refine blk_alloc ?_ _)); exact BK837.out) Try.underlying34 rfl (by kernel_rfl)) rfl ?_
      exact ⟨_, by first | rfl | (simp [errW_none, errW_some] <;> rfl) | (simp [*, errW_none, errW_some] <;> rfl), by (with_reducible repeat (first | apply Kd.R_alloc | apply Kd.R_drewN | apply Kd.R_drew)); exact Kd.R_mono (Kd.R_far (p := ⟨gb837, 1, none⟩) (Kd.R_far (p := ⟨gb837, 0, none⟩) (Kd.R_types HO843.out BK837.out (by decide)) (fun _ hk => hk.2) (.int .i64 t840)) (fun _ hk => hk.2) (.slice Ao14 t841.length co14)) (fun _ hk => trivial), by repeat (first | (with_reducible first | exact HB.out | apply below_alloc | apply pw_below_drewN | apply below_drew1 | refine below_set ?_ GE836.out | refine below_set ?_ GE837.out) | exact HB.out)⟩
    · rw [if_neg c4] at H
      exact absurd H (by simp)
  · replace c3 := Bool.eq_false_iff.mpr c3
    subst c3
    have H1 : (some (0, ([] : List Int), false)) = some (r1, r2, r3) := by rw [if_neg (show ¬ (false = true) by decide)] at H; exact H
    clear H
    have H := H1
    clear H1
    simp only [Option.some.injEq, Prod.mk.injEq] at H
    obtain ⟨rfl, rfl, rfl⟩ := H
    go_enter Try.func43, Try.ntmps43
    go_wp2_with (first | ((with_reducible refine gate_dst (N := 1) rfl ?_); refine box_event ?hg (N := 1) ?hd (cs := #[.slice A0 l0.length c0]) (t := 45) ?hr ?_; (case hd => rfl); (case hg => rfl); (case hr => first | (go_simp; done) | (go_simp; rfl)); intro gb836 hg w15 hbox hb; have n0_ := Aside0.mk (below_step (by repeat (first | (with_reducible first | exact HB.out | apply below_alloc | apply pw_below_drewN | apply below_drew1) | exact HB.out)) hb); have n1_ := Aside0.mk (hbox); have n2_ := Aside0.mk ((by rw [hg]; exact (below_size (by repeat (first | (with_reducible first | exact HB.out | apply below_alloc | apply pw_below_drewN | apply below_drew1) | exact HB.out))) : w.heap.size ≤ gb836)); have n3_ := Aside0.mk ((by rw [hg]; exact (below_size (by repeat (first | (with_reducible first | exact HB.out | apply below_alloc | apply pw_below_drewN | apply below_drew1) | exact HB.out))) : w.heap.size ≤ gb836)); clear HB; have HB := n0_; have BK836 := n1_; have GW836 := n2_; have GE836 := n3_; clear n0_ n1_ n2_ n3_; clear hb hbox hg) | ((with_reducible refine gate_dst (N := 2) rfl ?_); refine box_event ?hg (N := 2) ?hd (cs := #[.int .i64 0, .slice none 0 0]) (t := 34) ?hr ?_; (case hd => rfl); (case hg => rfl); (case hr => first | (go_simp; done) | (go_simp; rfl)); intro gb837 hg w16 hbox hb; have n0_ := Aside0.mk (blk_below (g := gb836) (o := .cells #[.slice A0 l0.length c0] 45 (0, 0)) (by (with_reducible repeat (first | refine blk_drewN ?_ _ | refine blk_drew ?_ | refine blk_alloc ?_ _)); exact BK836.out) hb); have n1_ := Aside0.mk (below_step (by repeat (first | (with_reducible first | exact HB.out | apply below_alloc | apply pw_below_drewN | apply below_drew1 | refine below_set ?_ GE836.out) | exact HB.out)) hb); have n2_ := Aside0.mk (hbox); have n3_ := Aside0.mk ((by rw [hg]; exact (below_size (by repeat (first | (with_reducible first | exact HB.out | apply below_alloc | apply pw_below_drewN | apply below_drew1 | refine below_set ?_ GE836.out) | exact HB.out))) : w.heap.size ≤ gb837)); have n4_ := Aside0.mk ((by rw [hg]; exact (below_size (by repeat (first | (with_reducible first | exact HB.out | apply below_alloc | apply pw_below_drewN | apply below_drew1 | refine below_set ?_ GE836.out) | exact HB.out))) : w.heap.size ≤ gb837)); have n5_ := Aside0.mk ((by rw [hg]; exact Nat.ne_of_lt (blk_lt (g := gb836) (o := .cells #[.slice A0 l0.length c0] 45 (0, 0)) (by (with_reducible repeat (first | refine blk_drewN ?_ _ | refine blk_drew ?_ | refine blk_alloc ?_ _)); exact BK836.out)) : gb836 ≠ gb837)); have n6_ := Aside0.mk ((by rw [hg]; exact Nat.ne_of_gt (blk_lt (g := gb836) (o := .cells #[.slice A0 l0.length c0] 45 (0, 0)) (by (with_reducible repeat (first | refine blk_drewN ?_ _ | refine blk_drew ?_ | refine blk_alloc ?_ _)); exact BK836.out)) : gb837 ≠ gb836)); clear BK836; clear HB; have BK836 := n0_; have HB := n1_; have BK837 := n2_; have GW837 := n3_; have GE837 := n4_; have NB836_837 := n5_; have NB837_836 := n6_; clear n0_ n1_ n2_ n3_ n4_ n5_ n6_; clear hb hbox hg; have hnb17 := NB836_837.out; have hnc17 := NB837_836.out; have hcz18_0 : w16.cell? ⟨gb836, 0, none⟩ = some (.slice A0 l0.length c0) := (blk_cell BK836.out 0).trans rfl; have hfz18_0 := blk_frozen BK836.out 0) | ((with_reducible refine gate_callee (f := 73) rfl ?_); refine goesL_ (some 5) rfl rfl Try.func73 (by kernel_rfl) rfl #[.slice A0 l0.length c0] rfl (by (try simp only [List.map_toArray, List.map_cons, List.map_nil]); first | done | rfl | (simp only [List.length_drop, List.length_take]; rfl)) ?_; (with_reducible refine (impl_areVoters.calls k _ _ l0 false _ ?side1 ?side2 A2.out).mono ?_); (case side1 => repeat (first | exact (Kd.C_below HR0.out HB.out) | (with_reducible refine Kd.C_alloc ?_ _) | (with_reducible refine Kd.C_drewN ?_ _) | (with_reducible refine Kd.C_drew ?_))); (case side2 => exact HC0.out); rintro e w19 ⟨rfl, hb⟩; refine ⟨_, rfl, ?_⟩; have n0_ := Aside0.mk (blk_below (g := gb836) (o := .cells #[.slice A0 l0.length c0] 45 (0, 0)) (by (with_reducible repeat (first | refine blk_drewN ?_ _ | refine blk_drew ?_ | refine blk_alloc ?_ _)); exact BK836.out) hb); have n1_ := Aside0.mk (blk_below (g := gb837) (o := .cells #[.int .i64 0, .slice none 0 0] 34 (0, 0)) (by (with_reducible repeat (first | refine blk_drewN ?_ _ | refine blk_drew ?_ | refine blk_alloc ?_ _)); exact BK837.out) hb); have n2_ := Aside0.mk (below_step (by repeat (first | (with_reducible first | exact HB.out | apply below_alloc | apply pw_below_drewN | apply below_drew1 | refine below_set ?_ GE836.out | refine below_set ?_ GE837.out) | exact HB.out)) hb); clear BK836; clear BK837; clear HB; have BK836 := n0_; have BK837 := n1_; have HB := n2_; clear n0_ n1_ n2_; (try clear hb); (try clear hb2); (try clear hk); (try clear hi); have hcz20_0 : w19.cell? ⟨gb837, 0, none⟩ = some (.int .i64 0) := (blk_cell BK837.out 0).trans rfl; have hcz20_1 : w19.cell? ⟨gb837, 1, none⟩ = some (.slice none 0 0) := (blk_cell BK837.out 1).trans rfl; have hfz20_0 := blk_frozen BK837.out 0; have hfz20_1 := blk_frozen BK837.out 1))
    refine bodyPost_ret (results_ct rfl _ _ gb837 34 #[.int .i64 0, .slice none 0 0] (0, 0) _ rfl (by (with_reducible repeat (first | refine blk_drewN ?_ _ | refine blk_drew ?_ | refine blk_alloc ?_ _)); refine blk_put (cs := #[.int .i64 0, .slice none 0 0]) ?_ 1 _ rfl; (with_reducible repeat (first | refine blk_drewN ?_ _ | refine blk_drew ?_ | refine blk_alloc ?_ _)); refine blk_put (cs := #[.int .i64 0, .slice none 0 0]) ?_ 0 _ rfl; (with_reducible repeat (first | refine blk_drewN ?_ _ | refine blk_drew ?_ | refine blk_alloc ?_ _)); exact BK837.out) Try.underlying34 rfl (by kernel_rfl)) rfl ?_
    exact ⟨_, by first | rfl | (simp [errW_none, errW_some] <;> rfl) | (simp [*, errW_none, errW_some] <;> rfl), by first | exact Kd.R_nil _ _ _ _ _ | exact Kd.N_nil _ _ _ _ _ | exact Kd.V_nil _ _ _ _ _ | exact Kd.Q_nil _ _ _ _ _ | exact Kd.S_nil _ _ _ _ _, by repeat (first | (with_reducible first | exact HB.out | apply below_alloc | apply pw_below_drewN | apply below_drew1 | refine below_set ?_ GE836.out | refine below_set ?_ GE837.out) | exact HB.out)⟩

end Go.Proofs.Ytjojalbgpemjoaa.Q

-- printed by this project's own program (wip/mp/mp.py) over the kit's print, for this seat; Lean checks it
namespace Go.Proofs.Ytjojalbgpemjoaa.Q
open Go.RowKit Go.Proofs.YtjojalbgpemjoaaW.PrintWords Go.Proofs.YtjojalbgpemjoaaW.PrintLast Go.Proofs.YtjojalbgpemjoaaW.PrintMore
attribute [local go_sem] max2_int min2_int max_two min_two max_three min_three max_four min_four   -- for this text's walks alone
set_option linter.unusedVariables false
set_option linter.unusedSimpArgs false

/-! ### spec_l1Sign: function 72 -/
def spec_l1Sign.f (a0 : Int) : Option (Int) := if a0 > 0 then (some 1) else (if a0 < 0 then (some (-1)) else (some 0))
set_option maxHeartbeats 8000000 in
set_option maxRecDepth 100000 in
theorem spec_l1Sign.calls (a0 : Int) (r : Int) (w : World) (h : spec_l1Sign.f a0 = some r) :
    Calls Try.prog 72 #[.int .i64 a0] w fun e w' => e = .returned (.int .i64 r) ∧ Drawn0 w w' := by
  have H : (if a0 > 0 then (some 1) else (if a0 < 0 then (some (-1)) else (some 0))) = some r := h
  clear h
  by_cases c2 : a0 > 0
  · rw [if_pos c2] at H
    have c2b0 : decide (0 < a0) = true := decide_eq_true c2
    clear c2
    obtain rfl := Option.some.inj H
    go_enter Try.func72, Try.ntmps72
    go_wp2
    go_ret
    exact ⟨by first | rfl | (simp; done) | (simp [*]; done), by repeat (first | exact Drawn0.refl _ | apply Drawn0.step)⟩
  · rw [if_neg c2] at H
    have c2b0 : decide (0 < a0) = false := decide_eq_false c2
    clear c2
    by_cases c3 : a0 < 0
    · rw [if_pos c3] at H
      have c3b0 : decide (a0 < 0) = true := decide_eq_true c3
      clear c3
      obtain rfl := Option.some.inj H
      go_enter Try.func72, Try.ntmps72
      go_wp2
      go_ret
      exact ⟨by first | rfl | (simp; done) | (simp [*]; done), by repeat (first | exact Drawn0.refl _ | apply Drawn0.step)⟩
    · rw [if_neg c3] at H
      have c3b0 : decide (a0 < 0) = false := decide_eq_false c3
      clear c3
      obtain rfl := Option.some.inj H
      go_enter Try.func72, Try.ntmps72
      go_wp2
      go_ret
      exact ⟨by first | rfl | (simp; done) | (simp [*]; done), by repeat (first | exact Drawn0.refl _ | apply Drawn0.step)⟩

end Go.Proofs.Ytjojalbgpemjoaa.Q
