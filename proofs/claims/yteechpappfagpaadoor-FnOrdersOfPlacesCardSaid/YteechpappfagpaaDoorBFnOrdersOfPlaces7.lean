import Derived.Test.YteechpappfagpaaDoorBFnOrdersOfPlaces0
import Derived.Test.YteechpappfagpaaDoorBFnOrdersOfPlaces6
-- printed by this project's own program (wip/mp/mp.py) over the kit's print, for this seat; Lean checks it
namespace Go.Proofs.YteechpappfagpaaDoor.Q
open Go.RowKit Go.Proofs.YteechpappfagpaaDoorW.PrintWords Go.Proofs.YteechpappfagpaaDoorW.PrintLast Go.Proofs.YteechpappfagpaaDoorW.PrintMore
attribute [local go_sem] max2_int min2_int max_two min_two max_three min_three max_four min_four   -- for this text's walks alone
set_option linter.unusedVariables false
set_option maxHeartbeats 8000000
set_option maxRecDepth 100000
set_option linter.unusedSimpArgs false

/-! ### spec_OrderOfPlaces: function 36 -/
mutual
def spec_OrderOfPlaces.j0 : Nat → Int → List Int → Bool → Option (Int × List Int × Bool)
 | 0, _, _, _ => none
 | k + 1, x0, x1, x24 => if x24 = true then (some (0, ([] : List Int), false)) else (spec_OrderOfPlaces.l0 k x0 x1 x1 (x1.length : Int) 0 (x1.length : Int) ([] : List Int))
def spec_OrderOfPlaces.l0 : Nat → Int → List Int → List Int → Int → Int → Int → List Int → Option (Int × List Int × Bool)
 | 0, _, _, _, _, _, _, _ => none
 | k + 1, x0, x1, x29, x30, x31, x615000, x615001 => if x31 < x30 then (if 0 ≤ x31 then (if x31 < (x29.length : Int) then (spec_OrderOfPlaces.l1 k x0 x1 (rd x29 x31) 0 x29 x30 x31 x1 (x1.length : Int) 0 x615000 x615001) else (none)) else (none)) else (some (x615000, x615001, true))
def spec_OrderOfPlaces.l1 : Nat → Int → List Int → Int → Int → List Int → Int → Int → List Int → Int → Int → Int → List Int → Option (Int × List Int × Bool)
 | 0, _, _, _, _, _, _, _, _, _, _, _, _ => none
 | k + 1, x0, x1, x8, x9, x29, x30, x31, x35, x36, x37, x615000, x615001 => if x37 < x36 then (if 0 ≤ x37 then (if x37 < (x35.length : Int) then (if (rd x35 x37) ≥ (wrap64 (x8 + x0)) then (spec_OrderOfPlaces.l1 k x0 x1 x8 (Go.bits .or .i64 x9 (shl .i64 1 x37)) x29 x30 x31 x35 x36 (wrap64 (x37 + 1)) x615000 x615001) else (spec_OrderOfPlaces.l1 k x0 x1 x8 x9 x29 x30 x31 x35 x36 (wrap64 (x37 + 1)) x615000 x615001)) else (none)) else (none)) else (if x615001.length < 17592186044416 then (spec_OrderOfPlaces.l0 k x0 x1 x29 x30 (wrap64 (x31 + 1)) x615000 (x615001 ++ [x9])) else (none))
end
def spec_OrderOfPlaces.f (k : Nat) (a0 : Int) (l1 : List Int) : Option (Int × List Int × Bool) := (spec_seThreshold.f a0).bind fun t612 => (if t612 = true then (if (l1.length : Int) > 10 then (spec_OrderOfPlaces.j0 k a0 l1 true) else ((spec_l1All.f k l1 0 1000).bind fun t613 => (spec_OrderOfPlaces.j0 k a0 l1 (!t613)))) else (spec_OrderOfPlaces.j0 k a0 l1 true))
theorem spec_OrderOfPlaces.mono_l : ∀ k, (∀ y0 y1 y2, LeO (spec_OrderOfPlaces.j0 k y0 y1 y2) (spec_OrderOfPlaces.j0 (k + 1) y0 y1 y2)) ∧ (∀ y0 y1 y2 y3 y4 y5 y6, LeO (spec_OrderOfPlaces.l0 k y0 y1 y2 y3 y4 y5 y6) (spec_OrderOfPlaces.l0 (k + 1) y0 y1 y2 y3 y4 y5 y6)) ∧ (∀ y0 y1 y2 y3 y4 y5 y6 y7 y8 y9 y10 y11, LeO (spec_OrderOfPlaces.l1 k y0 y1 y2 y3 y4 y5 y6 y7 y8 y9 y10 y11) (spec_OrderOfPlaces.l1 (k + 1) y0 y1 y2 y3 y4 y5 y6 y7 y8 y9 y10 y11))
 | 0 => ⟨fun _ _ _ r h => by simp [spec_OrderOfPlaces.j0] at h, fun _ _ _ _ _ _ _ r h => by simp [spec_OrderOfPlaces.l0] at h, fun _ _ _ _ _ _ _ _ _ _ _ _ r h => by simp [spec_OrderOfPlaces.l1] at h⟩
 | k + 1 => by
  obtain ⟨ih0, ih1, ih2⟩ := spec_OrderOfPlaces.mono_l k
  refine ⟨?_, ?_, ?_⟩
  ·intro y0 y1 y2
   unfold spec_OrderOfPlaces.j0
   repeat' (with_reducible first|exact ih0 _ _ _|exact ih1 _ _ _ _ _ _ _|exact ih2 _ _ _ _ _ _ _ _ _ _ _ _|exact spec_l1All.mono _ _ _ _|exact LeO.refl _|exact LeO.none _|refine LeO.ite ?_ ?_|refine LeO.bind ?_ (fun _ => ?_))
  ·intro y0 y1 y2 y3 y4 y5 y6
   unfold spec_OrderOfPlaces.l0
   repeat' (with_reducible first|exact ih0 _ _ _|exact ih1 _ _ _ _ _ _ _|exact ih2 _ _ _ _ _ _ _ _ _ _ _ _|exact spec_l1All.mono _ _ _ _|exact LeO.refl _|exact LeO.none _|refine LeO.ite ?_ ?_|refine LeO.bind ?_ (fun _ => ?_))
  ·intro y0 y1 y2 y3 y4 y5 y6 y7 y8 y9 y10 y11
   unfold spec_OrderOfPlaces.l1
   repeat' (with_reducible first|exact ih0 _ _ _|exact ih1 _ _ _ _ _ _ _|exact ih2 _ _ _ _ _ _ _ _ _ _ _ _|exact spec_l1All.mono _ _ _ _|exact LeO.refl _|exact LeO.none _|refine LeO.ite ?_ ?_|refine LeO.bind ?_ (fun _ => ?_))
theorem spec_OrderOfPlaces.mono : ∀ a0 a1 k, LeO (spec_OrderOfPlaces.f k a0 a1) (spec_OrderOfPlaces.f (k + 1) a0 a1) := by
 intro a0 a1 k
 obtain ⟨ih0, ih1, ih2⟩ := spec_OrderOfPlaces.mono_l k
 unfold spec_OrderOfPlaces.f
 repeat' (with_reducible first|exact ih0 _ _ _|exact ih1 _ _ _ _ _ _ _|exact ih2 _ _ _ _ _ _ _ _ _ _ _ _|exact spec_l1All.mono _ _ _ _|exact LeO.refl _|exact LeO.none _|refine LeO.ite ?_ ?_|refine LeO.bind ?_ (fun _ => ?_))
theorem spec_OrderOfPlaces.calls (k : Nat) (a0 : Int) (A1 : Option Addr) (c1 : Nat) (l1 : List Int) (r1 : Int) (r2 : List Int) (r3 : Bool) (w : World) (hr1 : Kd.C (Kd.int .i64) w A1 l1.length l1) (hc1 : l1.length ≤ c1) (h : spec_OrderOfPlaces.f k a0 l1 = some (r1, r2, r3)) :
  Calls Tryd.prog 36 #[.int .i64 a0, .slice A1 l1.length c1] w fun e w' => ∃ v1_ : Value, e = .returned (.tuple #[.agg #[.int .i64 r1, v1_], .bool r3]) ∧ Kd.R (Kd.int .i64) 3 w' w.heap.size (fun _ => True) v1_ r2 ∧ Below w.heap.size w w' := by
 have hu28 := Tryd.underlying28
 have HR1 := Aside0.mk hr1
 have HC1 := Aside0.mk hc1
 clear hr1 hc1
 have HB := Aside0.mk (Below.refl w.heap.size w)
 have H : ((spec_seThreshold.f a0).bind fun t612 => (if t612 = true then (if (l1.length : Int) > 10 then (spec_OrderOfPlaces.j0 k a0 l1 true) else ((spec_l1All.f k l1 0 1000).bind fun t613 => (spec_OrderOfPlaces.j0 k a0 l1 (!t613)))) else (spec_OrderOfPlaces.j0 k a0 l1 true))) = some (r1, r2, r3) := h
 clear h
 have HC3 := Aside0.mk H
 clear H
 go_enter Tryd.func36, Tryd.ntmps36
 go_upto_region 1 with (first | ((with_reducible refine gate_dst (N := 4) rfl ?_); (try (refine gate_guard (by rfl) ?_; dsimp only)); refine boxE (N := 4) (cs := #[.int .i64 0, .slice none 0 0]) (t := 28) ?_; intro gb611 hg w4 hbox hb; have BK611 := Aside0.mk (hbox); have GE611 := geB HB hg; replace HB := bst HB hb; clear hb hbox hg))
 (try simp only [Act.put, List.setIfInBounds_toArray, List.set_cons_zero, List.set_cons_succ])
 go_cut [24] (fun v24 wc => ∃ (kq : Nat) (x24_2 : Bool), v24 = .bool x24_2 ∧ Aside0 (spec_OrderOfPlaces.j0 kq a0 l1 x24_2 = some (r1, r2, r3)) ∧ Aside0 (kq ≤ k) ∧ Aside0 (wc.heap[gb611]? = some (.cells #[.int .i64 0, (.slice none 0 0)] 28 (0, 0))) ∧ Aside0 (Below w.heap.size w wc))
 case first =>
  have H := HC3.out
  clear HC3
  obtain ⟨t612, A5, H⟩ := obE H
  by_cases c6 : t612 = true
  ·subst c6
   replace H := ifT H
   rcases iteP H with ⟨c7, H⟩ | ⟨c7, H⟩
   ·have c7b0 : decide (10 < (l1.length : Int)) = true := decide_eq_true c7
    have c7b1 : decide (10 < l1.length) = true := decide_eq_true (by omega)
    clear c7
    (first | rw [c7b0] | (simp only [i64_w, i32_w]; rw [c7b0]) | skip)
    have H' := Aside0.mk H
    clear H
    go_wp2_with (first | ((with_reducible refine gate_callee (f := 102) rfl ?_); refine goesQ (some 13) Tryd.func102 #[.int .i64 a0] ?_; (with_reducible refine (spec_seThreshold.calls a0 true _ A5.out).mono ?_); rintro e w' ⟨rfl, ⟨nd, rfl⟩⟩; refine ⟨_, rfl, ?_⟩))
    go_meet
    case rel => exact ⟨_, (true), eqS, H', ⟨by first | omega | exact Nat.le_refl _⟩, ⟨blk_g BK611.out⟩, ⟨bel_g HB.out⟩⟩
   ·have c7b0 : decide (10 < (l1.length : Int)) = false := decide_eq_false c7
    have c7b1 : decide (10 < l1.length) = false := decide_eq_false (by omega)
    clear c7
    (first | rw [c7b0] | (simp only [i64_w, i32_w]; rw [c7b0]) | skip)
    obtain ⟨t613, A8, H⟩ := obE H
    have H' := Aside0.mk H
    clear H
    go_wp2_with (first | ((with_reducible refine gate_callee (f := 102) rfl ?_); refine goesQ (some 13) Tryd.func102 #[.int .i64 a0] ?_; (with_reducible refine (spec_seThreshold.calls a0 true _ A5.out).mono ?_); rintro e w' ⟨rfl, ⟨nd, rfl⟩⟩; refine ⟨_, rfl, ?_⟩) | (go_at_call 103; (with_reducible refine (spec_l1All.calls k _ _ l1 0 1000 t613 _ ?side1 ?side2 A8.out).mono ?_); (case side1 => repeat (first | exact (Kd.C_below HR1.out (bel_g HB.out)) | (with_reducible refine Kd.C_alloc ?_ _) | (with_reducible refine Kd.C_drewN ?_ _) | (with_reducible refine Kd.C_drew ?_))); (case side2 => exact HC1.out); rintro e w' ⟨rfl, ⟨nd, rfl⟩⟩))
    go_meet
    case rel => exact ⟨_, (!t613), eqS, H', ⟨by first | omega | exact Nat.le_refl _⟩, ⟨blk_g BK611.out⟩, ⟨bel_g HB.out⟩⟩
  ·replace c6 := Bool.eq_false_iff.mpr c6
   subst c6
   replace H := ifF H
   have H' := Aside0.mk H
   clear H
   go_wp2_with (first | ((with_reducible refine gate_callee (f := 102) rfl ?_); refine goesQ (some 13) Tryd.func102 #[.int .i64 a0] ?_; (with_reducible refine (spec_seThreshold.calls a0 false _ A5.out).mono ?_); rintro e w' ⟨rfl, ⟨nd, rfl⟩⟩; refine ⟨_, rfl, ?_⟩))
   go_meet
   case rel => exact ⟨_, (true), eqS, H', ⟨by first | omega | exact Nat.le_refl _⟩, ⟨blk_g BK611.out⟩, ⟨bel_g HB.out⟩⟩
 case rest =>
  clear HC3
  try clear c1
  try clear c6
  try clear c7
  try clear c7b0
  try clear c7b1
  obtain ⟨kq, x24_2, rfl, HA, HJ2, BK611, HB⟩ := hcut
  cases kq with
  | zero => exact absurd HA.out (by simp [spec_OrderOfPlaces.j0])
  | succ kj2 =>
   have H := HA.out
   clear HA
   simp only [spec_OrderOfPlaces.j0] at H
   by_cases c9 : x24_2 = true
   ·subst c9
    replace H := ifT H
    simp only [Option.some.injEq, Prod.mk.injEq] at H
    obtain ⟨rfl, rfl, rfl⟩ := H
    obtain ⟨hcz10_0, hcz10_1, hfz10_0, hfz10_1⟩ := blk2 BK611
    go_wp2
    refine bodyPost_ret (results_ct rfl _ _ gb611 28 #[.int .i64 0, .slice none 0 0] (0, 0) _ rfl (by (with_reducible repeat (first | refine blk_drewN ?_ _ | refine blk_drew ?_ | refine blk_alloc ?_ _)); refine blk_put (cs := #[.int .i64 0, .slice none 0 0]) ?_ 1 _ rfl; (with_reducible repeat (first | refine blk_drewN ?_ _ | refine blk_drew ?_ | refine blk_alloc ?_ _)); refine blk_put (cs := #[.int .i64 0, .slice none 0 0]) ?_ 0 _ rfl; (with_reducible repeat (first | refine blk_drewN ?_ _ | refine blk_drew ?_ | refine blk_alloc ?_ _)); exact BK611.out) Tryd.underlying28 rfl (by kernel_rfl)) rfl ?_
    exact ⟨_, eqE, by first | exact Kd.R_nil _ _ _ _ _ | exact Kd.N_nil _ _ _ _ _ | exact Kd.V_nil _ _ _ _ _ | exact Kd.Q_nil _ _ _ _ _ | exact Kd.S_nil _ _ _ _ _, bel_g HB.out⟩
   ·replace c9 := Bool.eq_false_iff.mpr c9
    subst c9
    replace H := ifF H
    have H' := Aside0.mk H
    clear H
    go_wp2_with (first | ((with_reducible refine gate_dst (N := 6) rfl ?_); (try (refine gate_guard (by rfl) ?_; dsimp only)); refine boxE (N := 6) (cs := #[.int .i64 0, .slice none 0 0]) (t := 28) ?_; intro gb614 hg w11 hbox hb; have BK614 := Aside0.mk (hbox); have GE614 := geB HB hg; have NB611_614 := neL BK611 hg; have NB614_611 := neR BK611 hg; replace BK611 := blkB BK611 hb; replace HB := bst HB hb; clear hb hbox hg; have hnb12 := NB614_611.out; have hnc12 := NB611_614.out; obtain ⟨hcz13_0, hcz13_1, hfz13_0, hfz13_1⟩ := blk2 BK614))
    go_loopg [31] kj2 (fun kq v31 w' => ∃ (x31_2 : Int) (x615001_2 : List Int) (u615001 : Value), v31 = .int .i64 x31_2 ∧ Aside0 (spec_OrderOfPlaces.l0 kq a0 l1 l1 (l1.length : Int) x31_2 (l1.length : Int) x615001_2 = some (r1, r2, r3)) ∧ Aside0 (kq ≤ kj2) ∧ Aside0 (Kd.R (Kd.int .i64) 3 w' w.heap.size (fun _ => True) u615001 x615001_2) ∧ Aside0 (w'.heap[gb611]? = some (.cells #[.int .i64 0, (.slice none 0 0)] 28 (0, 0))) ∧ Aside0 (w'.heap[gb614]? = some (.cells #[.int .i64 (l1.length : Int), u615001] 28 (0, 0))) ∧ Aside0 (Below w.heap.size w w'))
    case atStart => exact ⟨(0), (([] : List Int)), (.slice none 0 0), eqS, H', ⟨Nat.le_refl _⟩, ⟨by first | exact Kd.R_nil _ _ _ _ _ | exact Kd.N_nil _ _ _ _ _ | exact Kd.V_nil _ _ _ _ _ | exact Kd.Q_nil _ _ _ _ _ | exact Kd.S_nil _ _ _ _ _⟩, ⟨by (with_reducible repeat (first | refine blk_drewN ?_ _ | refine blk_drew ?_ | refine blk_alloc ?_ _)); refine blk_far ?_ NB611_614.out _; (with_reducible repeat (first | refine blk_drewN ?_ _ | refine blk_drew ?_ | refine blk_alloc ?_ _)); refine blk_far ?_ NB611_614.out _; (with_reducible repeat (first | refine blk_drewN ?_ _ | refine blk_drew ?_ | refine blk_alloc ?_ _)); exact BK611.out⟩, ⟨by (with_reducible repeat (first | refine blk_drewN ?_ _ | refine blk_drew ?_ | refine blk_alloc ?_ _)); refine blk_put (cs := #[.int .i64 (l1.length : Int), .slice none 0 0]) ?_ 1 _ rfl; (with_reducible repeat (first | refine blk_drewN ?_ _ | refine blk_drew ?_ | refine blk_alloc ?_ _)); refine blk_put (cs := #[.int .i64 0, .slice none 0 0]) ?_ 0 _ rfl; (with_reducible repeat (first | refine blk_drewN ?_ _ | refine blk_drew ?_ | refine blk_alloc ?_ _)); exact BK614.out⟩, ⟨bel_g HB.out⟩⟩
    case round =>
     clear H'
     try clear c1
     try clear c6
     try clear c7
     try clear c7b0
     try clear c7b1
     try clear c9
     try clear hcz10_0
     try clear hcz10_1
     try clear hcz13_0
     try clear hcz13_1
     try clear hfz10_0
     try clear hfz10_1
     try clear hfz13_0
     try clear hfz13_1
     obtain ⟨x31_2, x615001_2, u615001, rfl, HA, HK2, HO_615001, BK611, BK614, HB⟩ := hrel
     cases gk with
     | zero => exact absurd HA.out (by simp [spec_OrderOfPlaces.l0])
     | succ k2 =>
      have H := HA.out
      clear HA
      simp only [spec_OrderOfPlaces.l0] at H
      rcases iteE H with ⟨c14b0, H⟩ | ⟨c14b0, H⟩
      ·rcases iteP H with ⟨c15, H⟩ | ⟨c15, H⟩
       ·have c15b0 : decide (0 ≤ x31_2) = true := decide_eq_true c15
        clear c15
        rcases iteP H with ⟨c16, H⟩ | ⟨c16, H⟩
        ·have c16b0 : decide (x31_2 < (l1.length : Int)) = true := decide_eq_true c16
         clear c16
         have H' := Aside0.mk H
         clear H
         have p615 : 0 ≤ (x31_2 : Int) := ofd
         have q615 : x31_2 < (l1.length : Int) := ofd
         obtain ⟨ad615, e615, hx615_0⟩ := Kd.at_int HR1.out x31_2 p615 q615
         cases e615
         replace hx615_0 := (HB.out.cell (World.block_lt_of_cell? w _ hx615_0)).trans hx615_0
         replace p615 := eq_true p615
         replace q615 := eq_true q615
         go_wp2
         go_loopg [9, 37] k2 (fun kq v9 v37 w' => ∃ (x9_3 : Int) (x37_3 : Int), v9 = .int .i64 x9_3 ∧ v37 = .int .i64 x37_3 ∧ Aside0 (spec_OrderOfPlaces.l1 kq a0 l1 (rd l1 x31_2) x9_3 l1 (l1.length : Int) x31_2 l1 (l1.length : Int) x37_3 (l1.length : Int) x615001_2 = some (r1, r2, r3)) ∧ Aside0 (kq ≤ k2) ∧ Aside0 (Kd.R (Kd.int .i64) 3 w' w.heap.size (fun _ => True) u615001 x615001_2) ∧ Aside0 (w'.heap[gb611]? = some (.cells #[.int .i64 0, (.slice none 0 0)] 28 (0, 0))) ∧ Aside0 (w'.heap[gb614]? = some (.cells #[.int .i64 (l1.length : Int), u615001] 28 (0, 0))) ∧ Aside0 (Below w.heap.size w w'))
         case atStart => exact ⟨(0), (0), eqS, eqS, H', ⟨Nat.le_refl _⟩, ⟨Kd.R_g HO_615001.out⟩, ⟨blk_g BK611.out⟩, ⟨blk_g BK614.out⟩, ⟨bel_g HB.out⟩⟩
         case round =>
          clear H'
          try clear c1
          try clear c6
          try clear c7
          try clear c7b0
          try clear c7b1
          try clear c9
          try clear c14b0
          try clear c15
          try clear c15b0
          try clear c16
          try clear c16b0
          try clear hcz10_0
          try clear hcz10_1
          try clear hcz13_0
          try clear hcz13_1
          try clear hfz10_0
          try clear hfz10_1
          try clear hfz13_0
          try clear hfz13_1
          try clear hx615_0
          try clear p615
          try clear q615
          obtain ⟨x9_3, x37_3, rfl, rfl, HA, HK3, HO_615001, BK611, BK614, HB⟩ := hrel
          cases gk with
          | zero => exact absurd HA.out (by simp [spec_OrderOfPlaces.l1])
          | succ k3 =>
           have H := HA.out
           clear HA
           simp only [spec_OrderOfPlaces.l1] at H
           rcases iteE H with ⟨c17b0, H⟩ | ⟨c17b0, H⟩
           ·rcases iteP H with ⟨c18, H⟩ | ⟨c18, H⟩
            ·have c18b0 : decide (0 ≤ x37_3) = true := decide_eq_true c18
             clear c18
             rcases iteP H with ⟨c19, H⟩ | ⟨c19, H⟩
             ·have c19b0 : decide (x37_3 < (l1.length : Int)) = true := decide_eq_true c19
              clear c19
              rcases iteP H with ⟨c20, H⟩ | ⟨c20, H⟩
              ·have c20b0 : decide ((wrap64 ((rd l1 x31_2) + a0)) ≤ (rd l1 x37_3)) = true := decide_eq_true c20
               clear c20
               have c21b0 := eq_true (ofd : 0 ≤ x37_3)
               obtain ⟨ji22, hji22⟩ : ∃ j_ : Int, (shl .i64 1 x37_3) = j_ := ⟨_, rfl⟩
               replace H : (spec_OrderOfPlaces.l1 k3 a0 l1 (rd l1 x31_2) (Go.bits .or .i64 x9_3 (ji22)) l1 (l1.length : Int) x31_2 l1 (l1.length : Int) (wrap64 (x37_3 + 1)) (l1.length : Int) x615001_2) = some (r1, r2, r3) := by first | (rw [hji22] at H; exact H) | (simp only [hji22] at H ⊢; exact H)
               have hji22_ : (IntKind.i64.wrap (1 * 2 ^ min x37_3.toNat 64)) = ji22 := hji22
               have hji22z : x37_3 ≤ 64 → (IntKind.i64.wrap (1 * 2 ^ x37_3.toNat)) = ji22 := shl_small hji22
               have hji22u : (IntKind.i64.wrap (2 ^ min x37_3.toNat 64)) = ji22 := by have h_ := hji22_; rw [Int.one_mul] at h_; exact h_
               have hji22v : x37_3 ≤ 64 → (IntKind.i64.wrap (2 ^ x37_3.toNat)) = ji22 := fun hle_ => by have h_ := hji22z hle_; rw [Int.one_mul] at h_; exact h_
               have hji22y : (wrap64 (1 * 2 ^ min x37_3.toNat 64)) = ji22 := (i64_w _).symm.trans hji22_
               have hji22x : x37_3 ≤ 64 → (wrap64 (1 * 2 ^ x37_3.toNat)) = ji22 := fun h_ => (i64_w _).symm.trans (hji22z h_)
               have H' := Aside0.mk H
               clear H
               have p616 : 0 ≤ (x37_3 : Int) := ofd
               have q616 : x37_3 < (l1.length : Int) := ofd
               obtain ⟨ad616, e616, hx616_0⟩ := Kd.at_int HR1.out x37_3 p616 q616
               obtain rfl : ad615 = ad616 := (by injection e616)
               replace hx616_0 := (HB.out.cell (World.block_lt_of_cell? w _ hx616_0)).trans hx616_0
               replace p616 := eq_true p616
               replace q616 := eq_true q616
               go_wp2
               go_roundg k3
               case measure => have := HJ2.out; have := HK2.out; have := HK3.out; omega
               case rel => exact ⟨(Go.bits .or .i64 x9_3 (ji22)), (wrap64 (x37_3 + 1)), (by first | rfl | (simp; done) | (simp only [← hji22] <;> (first | rfl | simp)) | (simp [*]; done)), eqS, H', ⟨by have := HJ2.out; have := HK2.out; have := HK3.out; omega⟩, ⟨Kd.R_g HO_615001.out⟩, ⟨blk_g BK611.out⟩, ⟨blk_g BK614.out⟩, ⟨bel_g HB.out⟩⟩
              ·have c20b0 : decide ((wrap64 ((rd l1 x31_2) + a0)) ≤ (rd l1 x37_3)) = false := decide_eq_false c20
               clear c20
               have H' := Aside0.mk H
               clear H
               have p616 : 0 ≤ (x37_3 : Int) := ofd
               have q616 : x37_3 < (l1.length : Int) := ofd
               obtain ⟨ad616, e616, hx616_0⟩ := Kd.at_int HR1.out x37_3 p616 q616
               obtain rfl : ad615 = ad616 := (by injection e616)
               replace hx616_0 := (HB.out.cell (World.block_lt_of_cell? w _ hx616_0)).trans hx616_0
               replace p616 := eq_true p616
               replace q616 := eq_true q616
               go_wp2
               go_roundg k3
               case measure => have := HJ2.out; have := HK2.out; have := HK3.out; omega
               case rel => exact ⟨(x9_3), (wrap64 (x37_3 + 1)), eqS, eqS, H', ⟨by have := HJ2.out; have := HK2.out; have := HK3.out; omega⟩, ⟨Kd.R_g HO_615001.out⟩, ⟨blk_g BK611.out⟩, ⟨blk_g BK614.out⟩, ⟨bel_g HB.out⟩⟩
             ·exact absurd H (by simp)
            ·exact absurd H (by simp)
           ·rcases iteP H with ⟨c23, H⟩ | ⟨c23, H⟩
            ·have LMc23 := Aside0.mk c23
             clear c23
             obtain ⟨y617, hy617⟩ : ∃ y_ : List Int, y_ = (x615001_2 ++ [x9_3]) := ⟨_, rfl⟩
             replace H : (spec_OrderOfPlaces.l0 k3 a0 l1 l1 (l1.length : Int) (wrap64 (x31_2 + 1)) (l1.length : Int) y617) = some (r1, r2, r3) := by first | (rw [hy617]; with_reducible exact H) | (have H2_ := (Option.bind_some _ _).symm.trans H; rw [hy617]; with_reducible exact H2_) | (have H2_ := (Option.bind_some _ _).symm.trans H; with_reducible exact H2_) | with_reducible exact H | (rw [hy617]; exact H) | exact H
             have Ny617 := Aside0.mk hy617
             clear hy617
             have H' := Aside0.mk H
             clear H
             have hnb24 := NB614_611.out
             have hnc24 := NB611_614.out
             obtain ⟨hcz25_0, hcz25_1, hfz25_0, hfz25_1⟩ := blk2 BK614
             go_wp2_with (first | ((with_reducible refine gate_builtin (b := .append) (xs := #[.tmp 53, .tmp 55]) rfl ?_); (try (refine gate_guard (by rfl) ?_; dsimp only)); at_builtin; refine Kd.R_append (Kd.int .i64) (w0 := w) w.heap.size rfl (.tmp 53) (.tmp 55) 22 3 (.int .i64 0) 8 rfl Tryd.underlying22 info3 rfl (by decide) (by omega) u615001 x615001_2 x9_3 [.int .i64 x9_3] (fun _ => True) (fun _ => False) rfl rfl ?aP (fun _ hk => hk.elim) ?aF ?aO ?aB ?aS ?aL ?_; (case aP => exact rfl); (case aB => exact (bel_g HB.out)); (case aF => exact (fun _ _ => trivial)); (case aO => exact (Kd.R_g HO_615001.out)); (case aS => exact (below_size (bel_g HB.out))); (case aL => have := LMc23.out; omega); intro v618 w26 ho hb hg hat; rw [← Ny617.out] at ho; replace BK611 := Aside0.mk (blk_grown (g := gb611) (o := .cells #[.int .i64 0, .slice none 0 0] 28 (0, 0)) (blk_g BK611.out) hg (Kd.R_ne HO_615001.out BK611.out (by decide))); replace BK614 := Aside0.mk (blk_grown (g := gb614) (o := .cells #[.int .i64 (l1.length : Int), u615001] 28 (0, 0)) (blk_g BK614.out) hg (Kd.R_ne HO_615001.out BK614.out (by decide))); have HO619 := Aside0.mk (ho); replace HB := Aside0.mk (hb); clear HO_615001; clear ho hb hg hat; obtain ⟨Ao27, co27, eo27⟩ := Kd.R_slice HO619.out; subst eo27; obtain ⟨hcz28_0, hcz28_1, hfz28_0, hfz28_1⟩ := blk2 BK614))
             go_roundg k3
             case measure => have := HJ2.out; have := HK2.out; have := HK3.out; omega
             case rel => exact ⟨(wrap64 (x31_2 + 1)), (y617), (.slice Ao27 y617.length co27), eqS, H', ⟨by have := HJ2.out; have := HK2.out; have := HK3.out; omega⟩, ⟨Kd.R_g (Kd.R_mono (Kd.R_far (p := ⟨gb614, 1, none⟩) (Kd.R_types HO619.out BK614.out (by decide)) (fun _ hk => hk.2) (.slice Ao27 y617.length co27)) (fun _ hk => trivial))⟩, ⟨by (with_reducible repeat (first | refine blk_drewN ?_ _ | refine blk_drew ?_ | refine blk_alloc ?_ _)); refine blk_far ?_ NB611_614.out _; (with_reducible repeat (first | refine blk_drewN ?_ _ | refine blk_drew ?_ | refine blk_alloc ?_ _)); exact BK611.out⟩, ⟨by (with_reducible repeat (first | refine blk_drewN ?_ _ | refine blk_drew ?_ | refine blk_alloc ?_ _)); refine blk_put (cs := #[.int .i64 (l1.length : Int), u615001]) ?_ 1 _ rfl; (with_reducible repeat (first | refine blk_drewN ?_ _ | refine blk_drew ?_ | refine blk_alloc ?_ _)); exact BK614.out⟩, ⟨bel_g HB.out⟩⟩
            ·exact absurd H (by simp)
        ·exact absurd H (by simp)
       ·exact absurd H (by simp)
      ·simp only [Option.some.injEq, Prod.mk.injEq] at H
       obtain ⟨rfl, rfl, rfl⟩ := H
       have hnb29 := NB614_611.out
       have hnc29 := NB611_614.out
       obtain ⟨hcz30_0, hcz30_1, hfz30_0, hfz30_1⟩ := blk2 BK614
       obtain ⟨hcz31_0, hcz31_1, hfz31_0, hfz31_1⟩ := blk2 BK611
       obtain ⟨Ao32, co32, eo32⟩ := Kd.R_slice HO_615001.out
       subst eo32
       go_wp2
       refine bodyPost_ret (results_ct rfl _ _ gb611 28 #[.int .i64 (l1.length : Int), .slice Ao32 x615001_2.length co32] (0, 0) _ rfl (by (with_reducible repeat (first | refine blk_drewN ?_ _ | refine blk_drew ?_ | refine blk_alloc ?_ _)); refine blk_put (cs := #[.int .i64 (l1.length : Int), .slice none 0 0]) ?_ 1 _ rfl; (with_reducible repeat (first | refine blk_drewN ?_ _ | refine blk_drew ?_ | refine blk_alloc ?_ _)); refine blk_put (cs := #[.int .i64 0, .slice none 0 0]) ?_ 0 _ rfl; (with_reducible repeat (first | refine blk_drewN ?_ _ | refine blk_drew ?_ | refine blk_alloc ?_ _)); exact BK611.out) Tryd.underlying28 rfl (by kernel_rfl)) rfl ?_
       exact ⟨_, eqE, by (with_reducible repeat (first | apply Kd.R_alloc | apply Kd.R_drewN | apply Kd.R_drew)); exact Kd.R_mono (Kd.R_far (p := ⟨gb611, 1, none⟩) (Kd.R_far (p := ⟨gb611, 0, none⟩) (Kd.R_types HO_615001.out BK611.out (by decide)) (fun _ hk => hk.2) (.int .i64 (l1.length : Int))) (fun _ hk => hk.2) (.slice Ao32 x615001_2.length co32)) (fun _ hk => trivial), bel_g HB.out⟩

end Go.Proofs.YteechpappfagpaaDoor.Q
