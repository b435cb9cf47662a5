import Derived.Test.YtgbdjchdfcodcaaDoorBFnRefinements3
namespace Go.Proofs.YtgbdjchdfcodcaaDoor.Q
open Go.RowKit Go.Proofs.YtgbdjchdfcodcaaDoorW.PrintWords Go.Proofs.YtgbdjchdfcodcaaDoorW.PrintLast Go.Proofs.YtgbdjchdfcodcaaDoorW.PrintMore
attribute [local go_sem] max2_int min2_int max_two min_two max_three min_three max_four min_four neB_f
set_option linter.unusedVariables false
set_option maxHeartbeats 8000000
set_option maxRecDepth 100000
set_option linter.unusedSimpArgs false
mutual
def spec_MeetOrders.j0 : Nat → Bool → Int → List Int → Int → List Int → Option (Int × List Int × Bool)
 | 0, _, _, _, _, _ => none
 | k + 1, x23, x464000, x464001, x465000, x465001 => if x23 = true then (some (0, ([] : List Int), false)) else (spec_MeetOrders.l0 k x464001 (x464001.length : Int) 0 x465000 x465001 x464000 ([] : List Int))
def spec_MeetOrders.l0 : Nat → List Int → Int → Int → Int → List Int → Int → List Int → Option (Int × List Int × Bool)
 | 0, _, _, _, _, _, _, _ => none
 | k + 1, x29, x30, x31, x465000, x465001, x469000, x469001 => if x31 < x30 then (if 0 ≤ x31 then (if x31 < (x29.length : Int) then (if x31 < (x465001.length : Int) then (if x469001.length < 17592186044416 then (spec_MeetOrders.l0 k x29 x30 (wrap64 (x31 + 1)) x465000 x465001 x469000 (x469001 ++ [Go.bits .and .i64 (rd x29 x31) (rd x465001 x31)])) else (none)) else (none)) else (none)) else (none)) else (some (x469000, x469001, true))
end
def spec_MeetOrders.f (k : Nat) (a0_0 : Int) (l0_1 : List Int) (a1_0 : Int) (l1_1 : List Int) : Option (Int × List Int × Bool) := (spec_orGood.f k a0_0 l0_1).bind fun t466 => (if t466 = true then ((spec_orGood.f k a1_0 l1_1).bind fun t467 => (if t467 = true then (spec_MeetOrders.j0 k (a0_0 != a1_0) a0_0 l0_1 a1_0 l1_1) else (spec_MeetOrders.j0 k true a0_0 l0_1 a1_0 l1_1))) else (spec_MeetOrders.j0 k true a0_0 l0_1 a1_0 l1_1))
theorem spec_MeetOrders.mono_l : ∀ k, (∀ y0 y1 y2 y3 y4, LeO (spec_MeetOrders.j0 k y0 y1 y2 y3 y4) (spec_MeetOrders.j0 (k + 1) y0 y1 y2 y3 y4)) ∧ (∀ y0 y1 y2 y3 y4 y5 y6, LeO (spec_MeetOrders.l0 k y0 y1 y2 y3 y4 y5 y6) (spec_MeetOrders.l0 (k + 1) y0 y1 y2 y3 y4 y5 y6))
 | 0 => ⟨fun _ _ _ _ _ r h => by simp [spec_MeetOrders.j0] at h, fun _ _ _ _ _ _ _ r h => by simp [spec_MeetOrders.l0] at h⟩
 | k + 1 => by
  obtain ⟨ih0, ih1⟩ := spec_MeetOrders.mono_l k
  refine ⟨?_, ?_⟩ <;> intros
  unfold spec_MeetOrders.j0
  rotate_left
  unfold spec_MeetOrders.l0
  rotate_left
  all_goals repeat' (with_reducible first|exact ih0 _ _ _ _ _|exact ih1 _ _ _ _ _ _ _|exact spec_orGood.mono _ _ _|exact LeO.refl _|exact LeO.none _|refine LeO.ite ?_ ?_|refine LeO.bind ?_ (fun _ => ?_))
theorem spec_MeetOrders.mono : ∀ a0 a1 a2 a3 k, LeO (spec_MeetOrders.f k a0 a1 a2 a3) (spec_MeetOrders.f (k + 1) a0 a1 a2 a3) := by
 intro a0 a1 a2 a3 k
 obtain ⟨ih0, ih1⟩ := spec_MeetOrders.mono_l k
 unfold spec_MeetOrders.f
 repeat' (with_reducible first|exact ih0 _ _ _ _ _|exact ih1 _ _ _ _ _ _ _|exact spec_orGood.mono _ _ _|exact LeO.refl _|exact LeO.none _|refine LeO.ite ?_ ?_|refine LeO.bind ?_ (fun _ => ?_))
def spec_MeetOrders.T7 : Bool × List (List Nat × List Nat) := (true, [([], []), ([0], [0]), ([], []), ([], []), ([3], [3]), ([], []), ([4, 5], [4, 5]), ([6], [6]), ([2, 7], [2, 7]), ([8], [8]), ([1, 9], [1, 9]), ([0, 1, 2, 3, 4, 5, 6, 7, 8, 9, 10], []), ([11, 10, 10, 0, 1, 2, 3, 4, 5, 6, 7, 8, 9, 10], [10, 11])])
def spec_MeetOrders.B7 : List Nat := [0, 1, 0, 0, 8, 0, 56, 120, 252, 508, 1023, 2047, 4095]
theorem spec_MeetOrders.tab7 : rtab .any (opsOf Tryd.f7 7) = spec_MeetOrders.T7 := by kernel_rfl
theorem spec_MeetOrders.bits7 : waitsOk spec_MeetOrders.T7.2 spec_MeetOrders.B7 = true := by kernel_rfl
theorem spec_MeetOrders.calls (k : Nat) (a0_0 : Int) (A0_1 : Option Addr) (c0_1 : Nat) (l0_1 : List Int) (a1_0 : Int) (A1_1 : Option Addr) (c1_1 : Nat) (l1_1 : List Int) (r1 : Int) (r2 : List Int) (r3 : Bool) (w : World) (hr0_1 : Kd.C (Kd.int .i64) w A0_1 l0_1.length l0_1) (hc0_1 : l0_1.length ≤ c0_1) (hr1_1 : Kd.C (Kd.int .i64) w A1_1 l1_1.length l1_1) (hc1_1 : l1_1.length ≤ c1_1) (h : spec_MeetOrders.f k a0_0 l0_1 a1_0 l1_1 = some (r1, r2, r3)) :
  Calls Tryd.prog 7 #[.agg #[.int .i64 a0_0, .slice A0_1 l0_1.length c0_1], .agg #[.int .i64 a1_0, .slice A1_1 l1_1.length c1_1]] w fun e w' => ∃ v1_ : Value, e = .returned (.tuple #[.agg #[.int .i64 r1, v1_], .bool r3]) ∧ Kd.R (Kd.int .i64) 3 w' w.heap.size (fun _ => True) v1_ r2 ∧ Below w.heap.size w w' := by
 have hu26 := Tryd.underlying26
 have HR0_1 := mkA hr0_1
 have HC0_1 := mkA hc0_1
 clear hr0_1 hc0_1
 have HR1_1 := mkA hr1_1
 have HC1_1 := mkA hc1_1
 clear hr1_1 hc1_1
 have HB := mkA (Below.refl w.heap.size w)
 have H := h
 clear h
 unfold spec_MeetOrders.f at H
 have HC3 := mkA H
 clear H
 go_enter Tryd.func7, Tryd.ntmps7
 go_upto_region 1 with (first | ((with_reducible refine gate_dst (N := 2) rfl ?_); refine boxE (N := 2) (cs := #[.int .i64 a0_0, .slice A0_1 l0_1.length c0_1]) (t := 26) ?_; intro gb463 hg w4 hbox hb; have BK463 := mkA (hbox); have GE463 := geB HB hg; replace HB := bst HB hb; clear hb hbox hg) | ((with_reducible refine gate_dst (N := 3) rfl ?_); refine boxE (N := 3) (cs := #[.int .i64 a1_0, .slice A1_1 l1_1.length c1_1]) (t := 26) ?_; intro gb464 hg w5 hbox hb; have BK464 := mkA (hbox); have GE464 := geB HB hg; have NB463_464 := neL7 BK463 hg; have NB464_463 := neR7 BK463 hg; replace BK463 := blkB BK463 hb; replace HB := bst HB hb; clear hb hbox hg) | ((with_reducible refine gate_dst (N := 4) rfl ?_); refine boxE (N := 4) (cs := #[.int .i64 0, .slice none 0 0]) (t := 26) ?_; intro gb465 hg w6 hbox hb; have BK465 := mkA (hbox); have GE465 := geB HB hg; have NB463_465 := neL7 BK463 hg; have NB465_463 := neR7 BK463 hg; replace BK463 := blkB BK463 hb; have NB464_465 := neL7 BK464 hg; have NB465_464 := neR7 BK464 hg; replace BK464 := blkB BK464 hb; replace HB := bst HB hb; clear hb hbox hg))
 (try simp only [Act.put, List.setIfInBounds_toArray, List.set_cons_zero, List.set_cons_succ])
 go_cut [23] (fun v23 wc => ∃ (kq : Nat) (x23_2 : Bool), v23 = .bool x23_2 ∧ Fc (spec_MeetOrders.j0 kq x23_2 a0_0 l0_1 a1_0 l1_1 = some (r1, r2, r3)) ∧ Fc (kq ≤ k) ∧ Fc (wc.heap[gb463]? = some (.cells #[.int .i64 a0_0, (.slice A0_1 l0_1.length c0_1)] 26 (0, 0))) ∧ Fc (wc.heap[gb464]? = some (.cells #[.int .i64 a1_0, (.slice A1_1 l1_1.length c1_1)] 26 (0, 0))) ∧ Fc (wc.heap[gb465]? = some (.cells #[.int .i64 0, (.slice none 0 0)] 26 (0, 0))) ∧ Fc (Below w.heap.size w wc))
 case first =>
  have H := HC3.out
  clear HC3
  obtain ⟨t466, A7, H⟩ := obE H
  by_cases c8 : t466 = true
  ·subst c8
   replace H := ifT H
   obtain ⟨t467, A9, H⟩ := obE H
   by_cases c10 : t467 = true
   ·subst c10
    replace H := ifT H
    have H' := mkA H
    clear H
    obtain ⟨_, _, _, _⟩ := blk2 BK463
    go_wp2_with (first | ((with_reducible refine gate_callee (f := 22) rfl ?_); refine goesQ (some 10) Tryd.func22 #[.agg #[.int .i64 a0_0, .slice A0_1 l0_1.length c0_1]] ?_; (with_reducible refine (spec_orGood.calls k a0_0 _ _ l0_1 true _ ?s1 ?s2 A7.out).mono ?_); (case s1 => exact C_g HR0_1 HB); (case s2 => exact HC0_1.out); rintro e w14 ⟨rfl, hb⟩; refine ⟨_, rfl, ?_⟩; replace BK463 := blkB BK463 hb; replace BK464 := blkB BK464 hb; replace BK465 := blkB BK465 hb; replace HB := bst HB hb; (try clear hb); (try clear hk); obtain ⟨_, _, _, _⟩ := blk2 BK464) | (go_at_call 22; (with_reducible refine (spec_orGood.calls k a1_0 _ _ l1_1 true _ ?s1 ?s2 A9.out).mono ?_); (case s1 => exact C_g HR1_1 HB); (case s2 => exact HC1_1.out); rintro e w17 ⟨rfl, hb⟩; replace BK463 := blkB BK463 hb; replace BK464 := blkB BK464 hb; replace BK465 := blkB BK465 hb; replace HB := bst HB hb; (try clear hb); (try clear hk); obtain ⟨_, _, _, _⟩ := blk2 BK463; obtain ⟨_, _, _, _⟩ := blk2 BK464))
    go_meet
    case rel => exact ⟨_, ((a0_0 != a1_0)), eqS, H', ⟨by first | omega | exact Nat.le_refl _⟩, ⟨blk_g BK463.out⟩, ⟨blk_g BK464.out⟩, ⟨blk_g BK465.out⟩, ⟨bel_g HB.out⟩⟩
   ·replace c10 := Bool.eq_false_iff.mpr c10
    subst c10
    replace H := ifF H
    have H' := mkA H
    clear H
    obtain ⟨_, _, _, _⟩ := blk2 BK463
    go_wp2_with (first | ((with_reducible refine gate_callee (f := 22) rfl ?_); refine goesQ (some 10) Tryd.func22 #[.agg #[.int .i64 a0_0, .slice A0_1 l0_1.length c0_1]] ?_; (with_reducible refine (spec_orGood.calls k a0_0 _ _ l0_1 true _ ?s1 ?s2 A7.out).mono ?_); (case s1 => exact C_g HR0_1 HB); (case s2 => exact HC0_1.out); rintro e w23 ⟨rfl, hb⟩; refine ⟨_, rfl, ?_⟩; replace BK463 := blkB BK463 hb; replace BK464 := blkB BK464 hb; replace BK465 := blkB BK465 hb; replace HB := bst HB hb; (try clear hb); (try clear hk); obtain ⟨_, _, _, _⟩ := blk2 BK464) | (go_at_call 22; (with_reducible refine (spec_orGood.calls k a1_0 _ _ l1_1 false _ ?s1 ?s2 A9.out).mono ?_); (case s1 => exact C_g HR1_1 HB); (case s2 => exact HC1_1.out); rintro e w26 ⟨rfl, hb⟩; replace BK463 := blkB BK463 hb; replace BK464 := blkB BK464 hb; replace BK465 := blkB BK465 hb; replace HB := bst HB hb; (try clear hb); (try clear hk)))
    go_meet
    case rel => exact ⟨_, (true), eqS, H', ⟨by first | omega | exact Nat.le_refl _⟩, ⟨blk_g BK463.out⟩, ⟨blk_g BK464.out⟩, ⟨blk_g BK465.out⟩, ⟨bel_g HB.out⟩⟩
  ·replace c8 := Bool.eq_false_iff.mpr c8
   subst c8
   replace H := ifF H
   have H' := mkA H
   clear H
   obtain ⟨_, _, _, _⟩ := blk2 BK463
   go_wp2_with (first | ((with_reducible refine gate_callee (f := 22) rfl ?_); refine goesQ (some 10) Tryd.func22 #[.agg #[.int .i64 a0_0, .slice A0_1 l0_1.length c0_1]] ?_; (with_reducible refine (spec_orGood.calls k a0_0 _ _ l0_1 false _ ?s1 ?s2 A7.out).mono ?_); (case s1 => exact C_g HR0_1 HB); (case s2 => exact HC0_1.out); rintro e w30 ⟨rfl, hb⟩; refine ⟨_, rfl, ?_⟩; replace BK463 := blkB BK463 hb; replace BK464 := blkB BK464 hb; replace BK465 := blkB BK465 hb; replace HB := bst HB hb; (try clear hb); (try clear hk)))
   go_meet
   case rel => exact ⟨_, (true), eqS, H', ⟨by first | omega | exact Nat.le_refl _⟩, ⟨blk_g BK463.out⟩, ⟨blk_g BK464.out⟩, ⟨blk_g BK465.out⟩, ⟨bel_g HB.out⟩⟩
 case rest =>
  clear HC3
  try clear c8
  try clear c10
  obtain ⟨kq, x23_2, rfl, HA, HJ2, BK463, BK464, BK465, HB⟩ := hcut
  cases kq with
  | zero => exact absurd HA.out (by simp [spec_MeetOrders.j0])
  | succ kj2 =>
   have H := HA.out
   clear HA
   simp only [spec_MeetOrders.j0] at H
   by_cases c31 : x23_2 = true
   ·subst c31
    replace H := ifT H
    simp only [Option.some.injEq, Prod.mk.injEq] at H
    obtain ⟨rfl, rfl, rfl⟩ := H
    obtain ⟨_, _, _, _⟩ := blk2 BK465
    go_wp2
    refine bodyPost_ret (results_ct rfl _ _ gb465 26 #[.int .i64 0, .slice none 0 0] (0, 0) _ rfl (blkT BK465) Tryd.underlying26 rfl (by kernel_rfl)) rfl ?_
    exact ⟨_, eqE, by first | exact Kd.R_nil _ _ _ _ _ | exact Kd.N_nil _ _ _ _ _ | exact Kd.V_nil _ _ _ _ _ | exact Kd.Q_nil _ _ _ _ _ | exact Kd.S_nil _ _ _ _ _, bel_g HB.out⟩
   ·replace c31 := Bool.eq_false_iff.mpr c31
    subst c31
    replace H := ifF H
    have H' := mkA H
    clear H
    obtain ⟨_, _, _, _⟩ := blk2 BK463
    go_wp2_with (first | ((with_reducible refine gate_dst (N := 6) rfl ?_); refine boxE (N := 6) (cs := #[.int .i64 0, .slice none 0 0]) (t := 26) ?_; intro gb468 hg w38 hbox hb; have BK468 := mkA (hbox); have GE468 := geB HB hg; have NB463_468 := neL7 BK463 hg; have NB468_463 := neR7 BK463 hg; replace BK463 := blkB BK463 hb; have NB464_468 := neL7 BK464 hg; have NB468_464 := neR7 BK464 hg; replace BK464 := blkB BK464 hb; have NB465_468 := neL7 BK465 hg; have NB468_465 := neR7 BK465 hg; replace BK465 := blkB BK465 hb; replace HB := bst HB hb; clear hb hbox hg; obtain ⟨_, _, _, _⟩ := blk2 BK468; obtain ⟨_, _, _, _⟩ := blk2 BK463))
    go_loopg [31] kj2 (fun kq v31 w' => ∃ (x31_2 : Int) (x469001_2 : List Int) (u469001 : Value), v31 = .int .i64 x31_2 ∧ Fc (spec_MeetOrders.l0 kq l0_1 (l0_1.length : Int) x31_2 a1_0 l1_1 a0_0 x469001_2 = some (r1, r2, r3)) ∧ Fc (kq ≤ kj2) ∧ Fc (Kd.R (Kd.int .i64) 3 w' w.heap.size (fun _ => True) u469001 x469001_2) ∧ Fc (w'.heap[gb463]? = some (.cells #[.int .i64 a0_0, (.slice A0_1 l0_1.length c0_1)] 26 (0, 0))) ∧ Fc (w'.heap[gb464]? = some (.cells #[.int .i64 a1_0, (.slice A1_1 l1_1.length c1_1)] 26 (0, 0))) ∧ Fc (w'.heap[gb465]? = some (.cells #[.int .i64 0, (.slice none 0 0)] 26 (0, 0))) ∧ Fc (w'.heap[gb468]? = some (.cells #[.int .i64 a0_0, u469001] 26 (0, 0))) ∧ Fc (Below w.heap.size w w'))
    case atStart => exact ⟨(0), (([] : List Int)), (.slice none 0 0), eqS, H', ⟨Nat.le_refl _⟩, ⟨by first | exact Kd.R_nil _ _ _ _ _ | exact Kd.N_nil _ _ _ _ _ | exact Kd.V_nil _ _ _ _ _ | exact Kd.Q_nil _ _ _ _ _ | exact Kd.S_nil _ _ _ _ _⟩, ⟨blkT BK463⟩, ⟨blkT BK464⟩, ⟨blkT BK465⟩, ⟨blkT BK468⟩, ⟨bel_g HB.out⟩⟩
    case round =>
     clear H'
     try clear c8
     try clear c10
     try clear c31
     obtain ⟨x31_2, x469001_2, u469001, rfl, HA, HK2, HO_469001, BK463, BK464, BK465, BK468, HB⟩ := hrel
     cases gk with
     | zero => exact absurd HA.out (by simp [spec_MeetOrders.l0])
     | succ k2 =>
      have H := HA.out
      clear HA
      simp only [spec_MeetOrders.l0] at H
      rcases iteE H with ⟨c44b0, H⟩ | ⟨c44b0, H⟩
      ·obtain ⟨c45, H⟩ := itNP H
       have c45b0 : decide (0 ≤ x31_2) = true := decide_eq_true c45
       clear c45
       obtain ⟨c46, H⟩ := itNP H
       have c46b0 : decide (x31_2 < (l0_1.length : Int)) = true := decide_eq_true c46
       clear c46
       obtain ⟨c47, H⟩ := itNP H
       have c47b0 : decide (x31_2 < (l1_1.length : Int)) = true := decide_eq_true c47
       clear c47
       obtain ⟨c48, H⟩ := itNP H
       have LMc48 := mkA c48
       clear c48
       obtain ⟨y471, hy471⟩ : ∃ y_ : List Int, y_ = (x469001_2 ++ [Go.bits .and .i64 (rd l0_1 x31_2) (rd l1_1 x31_2)]) := ⟨_, rfl⟩
       replace H : (spec_MeetOrders.l0 k2 l0_1 (l0_1.length : Int) (wrap64 (x31_2 + 1)) a1_0 l1_1 a0_0 y471) = some (r1, r2, r3) := by first | (rw [hy471]; with_reducible exact H) | (have H2_ := (Option.bind_some _ _).symm.trans H; rw [hy471]; with_reducible exact H2_) | (have H2_ := (Option.bind_some _ _).symm.trans H; with_reducible exact H2_) | with_reducible exact H | (rw [hy471]; exact H) | exact H
       have Ny471 := mkA hy471
       clear hy471
       have H' := mkA H
       clear H
       have p469 : 0 ≤ (x31_2 : Int) := ofd
       have q469 : x31_2 < (l0_1.length : Int) := ofd
       obtain ⟨ad469, e469, hx469_0⟩ := Kd.at_int HR0_1.out x31_2 p469 q469
       cases e469
       replace hx469_0 := (HB.out.cell (World.block_lt_of_cell? w _ hx469_0)).trans hx469_0
       replace p469 := eq_true p469
       replace q469 := eq_true q469
       try go_wp2
       replace HO_469001 := mkA (Kd.R_drew HO_469001.out)
       replace BK463 := mkA (blk_drew BK463.out)
       replace BK464 := mkA (blk_drew BK464.out)
       replace BK465 := mkA (blk_drew BK465.out)
       replace BK468 := mkA (blk_drew BK468.out)
       replace HB := mkA (below_drew1 HB.out)
       have p470 : 0 ≤ (x31_2 : Int) := ofd
       have q470 : x31_2 < (l1_1.length : Int) := ofd
       obtain ⟨ad470, e470, hx470_0⟩ := Kd.at_int HR1_1.out x31_2 p470 q470
       have hw470_0 := hx470_0
       cases e470
       replace hx470_0 := (HB.out.cell (World.block_lt_of_cell? w _ hx470_0)).trans hx470_0
       replace p470 := eq_true p470
       replace q470 := eq_true q470
       refine start_ (n := 13) (S := fun w' => w'.cell? ⟨gb468, 0, none⟩ = some (.int .i64 a0_0) ∧ w'.cell? ⟨gb468, 1, none⟩ = some (u469001) ∧ w'.cell? ⟨gb464, 0, none⟩ = some (.int .i64 a1_0) ∧ w'.cell? ⟨gb464, 1, none⟩ = some (.slice (some ad470) l1_1.length c1_1) ∧ w'.cell? (ad470.add (x31_2).toNat) = some (.int .i64 (rd l1_1 x31_2))) (ds := [12]) (bm 13 0) (by kernel_rfl) rfl rfl ⟨(blk_cell BK468.out 0).trans rfl, (blk_cell BK468.out 1).trans rfl, (blk_cell BK464.out 0).trans rfl, (blk_cell BK464.out 1).trans rfl, ((HB.out.cell (World.block_lt_of_cell? w _ hw470_0)).trans hw470_0)⟩ (fun hHeld => ?_); refine with_tabW spec_MeetOrders.tab7 spec_MeetOrders.bits7 (fun HT_ HW_ => ?_)
       generalize wr.drew = w49 at HO_469001 BK463 BK464 BK465 BK468 HB hx470_0 hHeld ⊢
       refine purW 0 36 13 1 HT_ ?_
       refine purW 2 38 13 5 HT_ ?_
       refine purW 3 39 13 13 HT_ ?_
       refine purW 5 41 13 45 HT_ ?_
       refine takeW 1 (some 37) (bm 13 47) HT_ HW_ hHeld ?_
       refine takeW 4 (some 40) (bm 13 63) HT_ HW_ hHeld ?_
       refine purW 6 42 13 127 HT_ ?_
       refine takeW 7 (some 43) (bm 13 255) HT_ HW_ hHeld ?_
       refine purW 8 44 13 511 HT_ ?_
       refine oneW 9 (some 45) (bm 13 1023) HT_ (fun K hK => ?_)
       refine value_ (w1 := ?_) (v := ?_) (by rfl) rfl ?_ ?_
       rotate_left 2
       ·go_simp
        constructor
        ·rfl
        ·rfl
       refine hK.out _ _ ⟨(blk_cell (blk_alloc BK468.out _) 0).trans rfl, (blk_cell (blk_alloc BK468.out _) 1).trans rfl, (blk_cell (blk_alloc BK464.out _) 0).trans rfl, (blk_cell (blk_alloc BK464.out _) 1).trans rfl, (World.cell?_alloc_lt _ _ _ (World.block_lt_of_cell? _ _ (((HB.out.cell (World.block_lt_of_cell? w _ hw470_0)).trans hw470_0)))).trans (((HB.out.cell (World.block_lt_of_cell? w _ hw470_0)).trans hw470_0))⟩ (fun hHeld => ?_)
       clear hK K
       refine normW 45 ?_
       refine oneW 10 (some 46) (bm 13 2047) HT_ (fun K hK => ?_)
       refine Kd.R_append_step (Kd.int .i64) (w0 := w) w.heap.size (by rfl) (.tmp 37) (.tmp 45) 24 3 (.int .i64 0) 8 rfl Tryd.underlying24 info3 rfl (by decide) (by omega) u469001 x469001_2 (Go.bits .and .i64 (rd l0_1 x31_2) (rd l1_1 x31_2)) [.int .i64 (Go.bits .and .i64 (rd l0_1 x31_2) (rd l1_1 x31_2))] (fun _ => True) (fun _ => False) rfl rfl ?aP (fun _ hk => hk.elim) ?aF ?aO ?aB ?aS ?aL ?_
       (case aP => exact rfl)
       (case aB => exact (bel_g HB.out))
       (case aF => exact (fun _ _ => trivial))
       (case aO => exact (Kd.R_g HO_469001.out))
       (case aS => exact (below_size (bel_g HB.out)))
       (case aL => have := LMc48.out; omega)
       intro v472 w50 ho hb hg hat
       rw [← Ny471.out] at ho
       replace BK463 := mkA (blk_grown (g := gb463) (o := .cells #[.int .i64 a0_0, .slice (some ad469) l0_1.length c0_1] 26 (0, 0)) (blk_g BK463.out) hg (Kd.R_ne HO_469001.out BK463.out (by decide)))
       replace BK464 := mkA (blk_grown (g := gb464) (o := .cells #[.int .i64 a1_0, .slice (some ad470) l1_1.length c1_1] 26 (0, 0)) (blk_g BK464.out) hg (Kd.R_ne HO_469001.out BK464.out (by decide)))
       replace BK465 := mkA (blk_grown (g := gb465) (o := .cells #[.int .i64 0, .slice none 0 0] 26 (0, 0)) (blk_g BK465.out) hg (Kd.R_ne HO_469001.out BK465.out (by decide)))
       replace BK468 := mkA (blk_grown (g := gb468) (o := .cells #[.int .i64 a0_0, u469001] 26 (0, 0)) (blk_g BK468.out) hg (Kd.R_ne HO_469001.out BK468.out (by decide)))
       have HO473 := mkA (ho)
       replace HB := mkA (hb)
       clear HO_469001
       clear ho hb hg hat
       obtain ⟨Ao51, co51, eo51⟩ := Kd.R_slice HO473.out
       (first | subst eo51 | (injection eo51 with f1_ f2_ f3_; have f4_ := f1_.symm; have f5_ := f3_.symm; clear f1_ f2_ f3_; subst f4_; subst f5_))
       refine hK.out _ _ ⟨(blk_cell BK468.out 0).trans rfl, (blk_cell BK468.out 1).trans rfl, (blk_cell BK464.out 0).trans rfl, (blk_cell BK464.out 1).trans rfl, ((HB.out.cell (World.block_lt_of_cell? w _ hw470_0)).trans hw470_0)⟩ (fun hHeld => ?_)
       clear hK K
       refine normW 46 ?_
       refine purW 11 47 13 4095 HT_ ?_
       refine last_ (i := 12) (N := none) (bm 13 8191) rfl rfl (one_of HT_.out (by kernel_rfl)) (by decide) (fun K hK => ?_)
       have hs52 : w50.cell? ⟨gb468, 1, none⟩ = some (u469001) := (blk_cell BK468.out 1).trans rfl
       have hfs52 := blk_frozen BK468.out 1
       refine skip_ (w1 := ?_) (by rfl) rfl ?_ ?_
       rotate_left
       ·go_simp
        rfl
       refine hK.out _ _ ?_
       clear hK K
       refine doneW HT_ ?_
       try go_wp2
       go_roundg k2
       case measure => have := HJ2.out; have := HK2.out; omega
       case rel => exact ⟨(wrap64 (x31_2 + 1)), (y471), (.slice Ao51 y471.length co51), eqS, H', ⟨by have := HJ2.out; have := HK2.out; omega⟩, ⟨Kd.R_g (Kd.R_mono (Kd.R_far (p := ⟨gb468, 1, none⟩) (Kd.R_types HO473.out BK468.out (by decide)) (fun _ hk => hk.2) (.slice Ao51 y471.length co51)) (fun _ hk => trivial))⟩, ⟨blkT BK463⟩, ⟨blkT BK464⟩, ⟨blkT BK465⟩, ⟨blkT BK468⟩, ⟨bel_g HB.out⟩⟩
      ·simp only [Option.some.injEq, Prod.mk.injEq] at H
       obtain ⟨rfl, rfl, rfl⟩ := H
       obtain ⟨_, _, _, _⟩ := blk2 BK468
       obtain ⟨_, _, _, _⟩ := blk2 BK465
       obtain ⟨Ao60, co60, eo60⟩ := Kd.R_slice HO_469001.out
       subst eo60
       go_wp2
       refine bodyPost_ret (results_ct rfl _ _ gb465 26 #[.int .i64 a0_0, .slice Ao60 x469001_2.length co60] (0, 0) _ rfl (blkT BK465) Tryd.underlying26 rfl (by kernel_rfl)) rfl ?_
       exact ⟨_, eqE, by (with_reducible repeat (first | apply Kd.R_alloc | apply Kd.R_drewN | apply Kd.R_drew)); exact Kd.R_mono (rF HO_469001 BK465) (fun _ _ => trivial), bel_g HB.out⟩
end Go.Proofs.YtgbdjchdfcodcaaDoor.Q
