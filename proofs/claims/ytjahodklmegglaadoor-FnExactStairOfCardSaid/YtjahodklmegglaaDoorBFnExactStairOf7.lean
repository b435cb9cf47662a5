import Derived.Test.YtjahodklmegglaaDoorBFnExactStairOf0
import Derived.Test.YtjahodklmegglaaDoorBFnExactStairOf2
import Derived.Test.YtjahodklmegglaaDoorBFnExactStairOf5
-- printed by this project's own program (wip/mp/mp.py) over the kit's print, for this seat; Lean checks it
namespace Go.Proofs.YtjahodklmegglaaDoor.Q
open Go.RowKit Go.Proofs.YtjahodklmegglaaDoorW.PrintWords Go.Proofs.YtjahodklmegglaaDoorW.PrintLast Go.Proofs.YtjahodklmegglaaDoorW.PrintMore
attribute [local go_sem] max2_int min2_int max_two min_two max_three min_three max_four min_four   -- for this text's walks alone
set_option linter.unusedVariables false
set_option maxHeartbeats 8000000
set_option maxRecDepth 100000
set_option linter.unusedSimpArgs false

/-! ### spec_seIndifferent: function 65 -/
def spec_seIndifferent.f (k : Nat) (a0_0 : Int) (l0_1 : List Int) (a1 : Int) (a2 : Int) : Option (Bool) := (spec_orFree.f k a0_0 l0_1 a1).bind fun t485 => ((spec_orHas.f t485 a2).bind fun t486 => (some t486))
theorem spec_seIndifferent.mono : ∀ a0 a1 a2 a3 k, LeO (spec_seIndifferent.f k a0 a1 a2 a3) (spec_seIndifferent.f (k + 1) a0 a1 a2 a3) := by
 intro a0 a1 a2 a3 k
 unfold spec_seIndifferent.f
 repeat' (with_reducible first|exact spec_orFree.mono _ _ _ _|exact LeO.refl _|exact LeO.none _|refine LeO.ite ?_ ?_|refine LeO.bind ?_ (fun _ => ?_))
theorem spec_seIndifferent.calls (k : Nat) (a0_0 : Int) (A0_1 : Option Addr) (c0_1 : Nat) (l0_1 : List Int) (a1 : Int) (a2 : Int) (r : Bool) (w : World) (hr0_1 : Kd.C (Kd.int .i64) w A0_1 l0_1.length l0_1) (hc0_1 : l0_1.length ≤ c0_1) (h : spec_seIndifferent.f k a0_0 l0_1 a1 a2 = some r) :
  Calls Tryd.prog 65 #[.agg #[.int .i64 a0_0, .slice A0_1 l0_1.length c0_1], .int .i64 a1, .int .i64 a2] w fun e w' => e = .returned (.bool r) ∧ Below w.heap.size w w' := by
 have hu28 := Tryd.underlying28
 have HR0_1 := Aside0.mk hr0_1
 have HC0_1 := Aside0.mk hc0_1
 clear hr0_1 hc0_1
 have HB := Aside0.mk (Below.refl w.heap.size w)
 have H : ((spec_orFree.f k a0_0 l0_1 a1).bind fun t485 => ((spec_orHas.f t485 a2).bind fun t486 => (some t486))) = some r := h
 clear h
 obtain ⟨t485, A4, H⟩ := obE H
 obtain ⟨t486, A5, H⟩ := obE H
 obtain rfl := Option.some.inj H
 go_enter Tryd.func65, Tryd.ntmps65
 go_wp2_with (first | ((with_reducible refine gate_dst (N := 3) rfl ?_); refine boxE (N := 3) (cs := #[.int .i64 a0_0, .slice A0_1 l0_1.length c0_1]) (t := 28) ?_; intro gb484 hg w6 hbox hb; have BK484 := Aside0.mk (hbox); have GE484 := geB HB hg; replace HB := bst HB hb; clear hb hbox hg; obtain ⟨hcz7_0, hcz7_1, hfz7_0, hfz7_1⟩ := blk2 BK484) | ((with_reducible refine gate_callee (f := 56) rfl ?_); refine goesQ (some 9) Tryd.func56 #[.agg #[.int .i64 a0_0, .slice A0_1 l0_1.length c0_1], .int .i64 a1] ?_; (with_reducible refine (spec_orFree.calls k a0_0 _ _ l0_1 a1 t485 _ ?side1 ?side2 A4.out).mono ?_); (case side1 => exact C_g HR0_1 HB); (case side2 => exact HC0_1.out); rintro e w8 ⟨rfl, hb⟩; refine ⟨_, rfl, ?_⟩; replace BK484 := blkB BK484 hb; replace HB := bst HB hb; (try clear hb)) | ((with_reducible refine gate_callee (f := 52) rfl ?_); refine goesQ (some 11) Tryd.func52 #[.int .i64 t485, .int .i64 a2] ?_; (with_reducible refine (spec_orHas.calls t485 a2 t486 _ A5.out).mono ?_); rintro e w' ⟨rfl, ⟨nd, rfl⟩⟩; refine ⟨_, rfl, ?_⟩))
 go_ret
 exact ⟨eqE, bel_g HB.out⟩

end Go.Proofs.YtjahodklmegglaaDoor.Q

-- printed by this project's own program (wip/mp/mp.py) over the kit's print, for this seat; Lean checks it
namespace Go.Proofs.YtjahodklmegglaaDoor.Q
open Go.RowKit Go.Proofs.YtjahodklmegglaaDoorW.PrintWords Go.Proofs.YtjahodklmegglaaDoorW.PrintLast Go.Proofs.YtjahodklmegglaaDoorW.PrintMore
attribute [local go_sem] max2_int min2_int max_two min_two max_three min_three max_four min_four   -- for this text's walks alone
set_option linter.unusedVariables false
set_option maxHeartbeats 8000000
set_option maxRecDepth 100000
set_option linter.unusedSimpArgs false

/-! ### spec_seTwoTwo: function 46 -/
mutual
def spec_seTwoTwo.l0 : Nat → Int → Int → List Int → Option (Bool)
 | 0, _, _, _ => none
 | k + 1, x3, x488000, x488001 => if x3 < x488000 then (if 0 ≤ x3 then (if x3 < (x488001.length : Int) then ((spec_orList.f k (rd x488001 x3)).bind fun t489 => (spec_seTwoTwo.l1 k x3 t489 (t489.length : Int) 0 x488000 x488001)) else (none)) else (none)) else (some false)
def spec_seTwoTwo.l1 : Nat → Int → List Int → Int → Int → Int → List Int → Option (Bool)
 | 0, _, _, _, _, _, _ => none
 | k + 1, x3, x20, x21, x22, x488000, x488001 => if x22 < x21 then (if 0 ≤ x22 then (if x22 < (x20.length : Int) then (spec_seTwoTwo.l2 k x3 (rd x20 x22) 0 x20 x21 x22 x488000 x488001) else (none)) else (none)) else (spec_seTwoTwo.l0 k (wrap64 (x3 + 1)) x488000 x488001)
def spec_seTwoTwo.l2 : Nat → Int → Int → Int → List Int → Int → Int → Int → List Int → Option (Bool)
 | 0, _, _, _, _, _, _, _, _ => none
 | k + 1, x3, x5, x6, x20, x21, x22, x488000, x488001 => if x6 < x488000 then (if 0 ≤ x6 then (if x6 < (x488001.length : Int) then ((spec_orList.f k (rd x488001 x6)).bind fun t494 => (spec_seTwoTwo.l3 k x3 x5 x6 x20 x21 x22 t494 (t494.length : Int) 0 x488000 x488001)) else (none)) else (none)) else (spec_seTwoTwo.l1 k x3 x20 x21 (wrap64 (x22 + 1)) x488000 x488001)
def spec_seTwoTwo.l3 : Nat → Int → Int → Int → List Int → Int → Int → List Int → Int → Int → Int → List Int → Option (Bool)
 | 0, _, _, _, _, _, _, _, _, _, _, _ => none
 | k + 1, x3, x5, x6, x20, x21, x22, x37, x38, x39, x488000, x488001 => if x39 < x38 then (if 0 ≤ x39 then (if x39 < (x37.length : Int) then ((spec_seIndifferent.f k x488000 x488001 x3 (rd x37 x39)).bind fun t498 => (if t498 = true then ((spec_seIndifferent.f k x488000 x488001 x6 x5).bind fun t499 => (if t499 = true then (some true) else (spec_seTwoTwo.l3 k x3 x5 x6 x20 x21 x22 x37 x38 (wrap64 (x39 + 1)) x488000 x488001))) else (spec_seTwoTwo.l3 k x3 x5 x6 x20 x21 x22 x37 x38 (wrap64 (x39 + 1)) x488000 x488001))) else (none)) else (none)) else (spec_seTwoTwo.l2 k x3 x5 (wrap64 (x6 + 1)) x20 x21 x22 x488000 x488001)
end
def spec_seTwoTwo.f (k : Nat) (a0_0 : Int) (l0_1 : List Int) : Option (Bool) := spec_seTwoTwo.l0 k 0 a0_0 l0_1
theorem spec_seTwoTwo.mono_l : ∀ k, (∀ y0 y1 y2, LeO (spec_seTwoTwo.l0 k y0 y1 y2) (spec_seTwoTwo.l0 (k + 1) y0 y1 y2)) ∧ (∀ y0 y1 y2 y3 y4 y5, LeO (spec_seTwoTwo.l1 k y0 y1 y2 y3 y4 y5) (spec_seTwoTwo.l1 (k + 1) y0 y1 y2 y3 y4 y5)) ∧ (∀ y0 y1 y2 y3 y4 y5 y6 y7, LeO (spec_seTwoTwo.l2 k y0 y1 y2 y3 y4 y5 y6 y7) (spec_seTwoTwo.l2 (k + 1) y0 y1 y2 y3 y4 y5 y6 y7)) ∧ (∀ y0 y1 y2 y3 y4 y5 y6 y7 y8 y9 y10, LeO (spec_seTwoTwo.l3 k y0 y1 y2 y3 y4 y5 y6 y7 y8 y9 y10) (spec_seTwoTwo.l3 (k + 1) y0 y1 y2 y3 y4 y5 y6 y7 y8 y9 y10))
 | 0 => ⟨fun _ _ _ r h => by simp [spec_seTwoTwo.l0] at h, fun _ _ _ _ _ _ r h => by simp [spec_seTwoTwo.l1] at h, fun _ _ _ _ _ _ _ _ r h => by simp [spec_seTwoTwo.l2] at h, fun _ _ _ _ _ _ _ _ _ _ _ r h => by simp [spec_seTwoTwo.l3] at h⟩
 | k + 1 => by
  obtain ⟨ih0, ih1, ih2, ih3⟩ := spec_seTwoTwo.mono_l k
  refine ⟨?_, ?_, ?_, ?_⟩
  ·intro y0 y1 y2
   unfold spec_seTwoTwo.l0
   repeat' (with_reducible first|exact ih0 _ _ _|exact ih1 _ _ _ _ _ _|exact ih2 _ _ _ _ _ _ _ _|exact ih3 _ _ _ _ _ _ _ _ _ _ _|exact spec_orList.mono _ _|exact spec_seIndifferent.mono _ _ _ _ _|exact LeO.refl _|exact LeO.none _|refine LeO.ite ?_ ?_|refine LeO.bind ?_ (fun _ => ?_))
  ·intro y0 y1 y2 y3 y4 y5
   unfold spec_seTwoTwo.l1
   repeat' (with_reducible first|exact ih0 _ _ _|exact ih1 _ _ _ _ _ _|exact ih2 _ _ _ _ _ _ _ _|exact ih3 _ _ _ _ _ _ _ _ _ _ _|exact spec_orList.mono _ _|exact spec_seIndifferent.mono _ _ _ _ _|exact LeO.refl _|exact LeO.none _|refine LeO.ite ?_ ?_|refine LeO.bind ?_ (fun _ => ?_))
  ·intro y0 y1 y2 y3 y4 y5 y6 y7
   unfold spec_seTwoTwo.l2
   repeat' (with_reducible first|exact ih0 _ _ _|exact ih1 _ _ _ _ _ _|exact ih2 _ _ _ _ _ _ _ _|exact ih3 _ _ _ _ _ _ _ _ _ _ _|exact spec_orList.mono _ _|exact spec_seIndifferent.mono _ _ _ _ _|exact LeO.refl _|exact LeO.none _|refine LeO.ite ?_ ?_|refine LeO.bind ?_ (fun _ => ?_))
  ·intro y0 y1 y2 y3 y4 y5 y6 y7 y8 y9 y10
   unfold spec_seTwoTwo.l3
   repeat' (with_reducible first|exact ih0 _ _ _|exact ih1 _ _ _ _ _ _|exact ih2 _ _ _ _ _ _ _ _|exact ih3 _ _ _ _ _ _ _ _ _ _ _|exact spec_orList.mono _ _|exact spec_seIndifferent.mono _ _ _ _ _|exact LeO.refl _|exact LeO.none _|refine LeO.ite ?_ ?_|refine LeO.bind ?_ (fun _ => ?_))
theorem spec_seTwoTwo.mono : ∀ a0 a1 k, LeO (spec_seTwoTwo.f k a0 a1) (spec_seTwoTwo.f (k + 1) a0 a1) := by
 intro a0 a1 k
 obtain ⟨ih0, ih1, ih2, ih3⟩ := spec_seTwoTwo.mono_l k
 unfold spec_seTwoTwo.f
 repeat' (with_reducible first|exact ih0 _ _ _|exact ih1 _ _ _ _ _ _|exact ih2 _ _ _ _ _ _ _ _|exact ih3 _ _ _ _ _ _ _ _ _ _ _|exact spec_orList.mono _ _|exact spec_seIndifferent.mono _ _ _ _ _|exact LeO.refl _|exact LeO.none _|refine LeO.ite ?_ ?_|refine LeO.bind ?_ (fun _ => ?_))
theorem spec_seTwoTwo.calls (k : Nat) (a0_0 : Int) (A0_1 : Option Addr) (c0_1 : Nat) (l0_1 : List Int) (r : Bool) (w : World) (hr0_1 : Kd.C (Kd.int .i64) w A0_1 l0_1.length l0_1) (hc0_1 : l0_1.length ≤ c0_1) (h : spec_seTwoTwo.f k a0_0 l0_1 = some r) :
  Calls Tryd.prog 46 #[.agg #[.int .i64 a0_0, .slice A0_1 l0_1.length c0_1]] w fun e w' => e = .returned (.bool r) ∧ Below w.heap.size w w' := by
 have hu28 := Tryd.underlying28
 have HR0_1 := Aside0.mk hr0_1
 have HC0_1 := Aside0.mk hc0_1
 clear hr0_1 hc0_1
 have HB := Aside0.mk (Below.refl w.heap.size w)
 have H : (spec_seTwoTwo.l0 k 0 a0_0 l0_1) = some r := h
 clear h
 have H' := Aside0.mk H
 clear H
 go_enter Tryd.func46, Tryd.ntmps46
 go_wp2_with (first | ((with_reducible refine gate_dst (N := 1) rfl ?_); refine boxE (N := 1) (cs := #[.int .i64 a0_0, .slice A0_1 l0_1.length c0_1]) (t := 28) ?_; intro gb487 hg w2 hbox hb; have BK487 := Aside0.mk (hbox); have GE487 := geB HB hg; replace HB := bst HB hb; clear hb hbox hg))
 go_loopg [3] k (fun kq v3 w' => ∃ (x3_1 : Int), v3 = .int .i64 x3_1 ∧ Aside0 (spec_seTwoTwo.l0 kq x3_1 a0_0 l0_1 = some r) ∧ Aside0 (kq ≤ k) ∧ Aside0 (w'.heap[gb487]? = some (.cells #[.int .i64 a0_0, (.slice A0_1 l0_1.length c0_1)] 28 (0, 0))) ∧ Aside0 (Below w.heap.size w w'))
 case atStart => exact ⟨(0), eqS, H', ⟨Nat.le_refl _⟩, ⟨blk_g BK487.out⟩, ⟨bel_g HB.out⟩⟩
 case round =>
  clear H'
  obtain ⟨x3_1, rfl, HA, HK1, BK487, HB⟩ := hrel
  cases gk with
  | zero => exact absurd HA.out (by simp [spec_seTwoTwo.l0])
  | succ k1 =>
   have H := HA.out
   clear HA
   simp only [spec_seTwoTwo.l0] at H
   rcases iteE H with ⟨c3b0, H⟩ | ⟨c3b0, H⟩
   ·rcases iteP H with ⟨c4, H⟩ | ⟨c4, H⟩
    ·have c4b0 : decide (0 ≤ x3_1) = true := decide_eq_true c4
     clear c4
     rcases iteP H with ⟨c5, H⟩ | ⟨c5, H⟩
     ·have c5b0 : decide (x3_1 < (l0_1.length : Int)) = true := decide_eq_true c5
      clear c5
      obtain ⟨t489, A6, H⟩ := obE H
      have H' := Aside0.mk H
      clear H
      obtain ⟨hcz7_0, hcz7_1, hfz7_0, hfz7_1⟩ := blk2 BK487
      have p488 : 0 ≤ (x3_1 : Int) := ofd
      have q488 : x3_1 < (l0_1.length : Int) := ofd
      obtain ⟨ad488, e488, hx488_0⟩ := Kd.at_int HR0_1.out x3_1 p488 q488
      cases e488
      replace hx488_0 := (HB.out.cell (World.block_lt_of_cell? w _ hx488_0)).trans hx488_0
      replace p488 := eq_true p488
      replace q488 := eq_true q488
      go_wp2_with (first | ((with_reducible refine gate_callee (f := 38) rfl ?_); refine goesQ (some 20) Tryd.func38 #[.int .i64 (rd l0_1 x3_1)] ?_; (with_reducible refine (spec_orList.calls k1 (rd l0_1 x3_1) t489 _ A6.out).mono ?_); rintro e w8 ⟨v490, rfl, ho0, hb⟩; refine ⟨_, rfl, ?_⟩; have HO491 := Aside0.mk (Kd.R_lower ho0 (below_size (bel_g HB.out))); replace BK487 := blkB BK487 hb; replace HB := bst HB hb; (try clear hb); (try clear hk); (try clear ho0); obtain ⟨Ao9, co9, eo9⟩ := Kd.R_slice HO491.out; subst eo9))
      go_loopg [22] k1 (fun kq v22 w' => ∃ (x22_2 : Int), v22 = .int .i64 x22_2 ∧ Aside0 (spec_seTwoTwo.l1 kq x3_1 t489 (t489.length : Int) x22_2 a0_0 l0_1 = some r) ∧ Aside0 (kq ≤ k1) ∧ Aside0 (Kd.R (Kd.int .i64) 3 w' w.heap.size (fun _ => True) (.slice Ao9 t489.length co9) t489) ∧ Aside0 (w'.heap[gb487]? = some (.cells #[.int .i64 a0_0, (.slice (some ad488) l0_1.length c0_1)] 28 (0, 0))) ∧ Aside0 (Below w.heap.size w w'))
      case atStart => exact ⟨(0), eqS, H', ⟨Nat.le_refl _⟩, ⟨Kd.R_g HO491.out⟩, ⟨blk_g BK487.out⟩, ⟨bel_g HB.out⟩⟩
      case round =>
       clear H'
       try clear c3b0
       try clear c4
       try clear c4b0
       try clear c5
       try clear c5b0
       try clear hcz7_0
       try clear hcz7_1
       try clear hfz7_0
       try clear hfz7_1
       try clear hx488_0
       try clear p488
       try clear q488
       obtain ⟨x22_2, rfl, HA, HK2, HO_20, BK487, HB⟩ := hrel
       cases gk with
       | zero => exact absurd HA.out (by simp [spec_seTwoTwo.l1])
       | succ k2 =>
        have H := HA.out
        clear HA
        simp only [spec_seTwoTwo.l1] at H
        rcases iteE H with ⟨c10b0, H⟩ | ⟨c10b0, H⟩
        ·rcases iteP H with ⟨c11, H⟩ | ⟨c11, H⟩
         ·have c11b0 : decide (0 ≤ x22_2) = true := decide_eq_true c11
          clear c11
          rcases iteP H with ⟨c12, H⟩ | ⟨c12, H⟩
          ·have c12b0 : decide (x22_2 < (t489.length : Int)) = true := decide_eq_true c12
           clear c12
           have H' := Aside0.mk H
           clear H
           have p492 : 0 ≤ (x22_2 : Int) := ofd
           have q492 : x22_2 < (t489.length : Int) := ofd
           obtain ⟨ad492, e492, hx492_0⟩ := Kd.at_int (Kd.R_reads' HO_20.out).2.2 x22_2 p492 q492
           cases e492
           replace p492 := eq_true p492
           replace q492 := eq_true q492
           go_wp2
           go_loopg [6] k2 (fun kq v6 w' => ∃ (x6_3 : Int), v6 = .int .i64 x6_3 ∧ Aside0 (spec_seTwoTwo.l2 kq x3_1 (rd t489 x22_2) x6_3 t489 (t489.length : Int) x22_2 a0_0 l0_1 = some r) ∧ Aside0 (kq ≤ k2) ∧ Aside0 (Kd.R (Kd.int .i64) 3 w' w.heap.size (fun _ => True) (.slice (some ad492) t489.length co9) t489) ∧ Aside0 (w'.heap[gb487]? = some (.cells #[.int .i64 a0_0, (.slice (some ad488) l0_1.length c0_1)] 28 (0, 0))) ∧ Aside0 (Below w.heap.size w w'))
           case atStart => exact ⟨(0), eqS, H', ⟨Nat.le_refl _⟩, ⟨Kd.R_g HO_20.out⟩, ⟨blk_g BK487.out⟩, ⟨bel_g HB.out⟩⟩
           case round =>
            clear H'
            try clear c3b0
            try clear c4
            try clear c4b0
            try clear c5
            try clear c5b0
            try clear c10b0
            try clear c11
            try clear c11b0
            try clear c12
            try clear c12b0
            try clear hcz7_0
            try clear hcz7_1
            try clear hfz7_0
            try clear hfz7_1
            try clear hx488_0
            try clear hx492_0
            try clear p488
            try clear p492
            try clear q488
            try clear q492
            obtain ⟨x6_3, rfl, HA, HK3, HO_20, BK487, HB⟩ := hrel
            cases gk with
            | zero => exact absurd HA.out (by simp [spec_seTwoTwo.l2])
            | succ k3 =>
             have H := HA.out
             clear HA
             simp only [spec_seTwoTwo.l2] at H
             rcases iteE H with ⟨c13b0, H⟩ | ⟨c13b0, H⟩
             ·rcases iteP H with ⟨c14, H⟩ | ⟨c14, H⟩
              ·have c14b0 : decide (0 ≤ x6_3) = true := decide_eq_true c14
               clear c14
               rcases iteP H with ⟨c15, H⟩ | ⟨c15, H⟩
               ·have c15b0 : decide (x6_3 < (l0_1.length : Int)) = true := decide_eq_true c15
                clear c15
                obtain ⟨t494, A16, H⟩ := obE H
                have H' := Aside0.mk H
                clear H
                obtain ⟨hcz17_0, hcz17_1, hfz17_0, hfz17_1⟩ := blk2 BK487
                have p493 : 0 ≤ (x6_3 : Int) := ofd
                have q493 : x6_3 < (l0_1.length : Int) := ofd
                obtain ⟨ad493, e493, hx493_0⟩ := Kd.at_int HR0_1.out x6_3 p493 q493
                obtain rfl : ad488 = ad493 := (by injection e493)
                replace hx493_0 := (HB.out.cell (World.block_lt_of_cell? w _ hx493_0)).trans hx493_0
                replace p493 := eq_true p493
                replace q493 := eq_true q493
                go_wp2_with (first | ((with_reducible refine gate_callee (f := 38) rfl ?_); refine goesQ (some 37) Tryd.func38 #[.int .i64 (rd l0_1 x6_3)] ?_; (with_reducible refine (spec_orList.calls k3 (rd l0_1 x6_3) t494 _ A16.out).mono ?_); rintro e w18 ⟨v495, rfl, ho0, hb⟩; refine ⟨_, rfl, ?_⟩; have HO496 := Aside0.mk (Kd.R_lower (Kd.R_new' ho0 (Kd.R_lt (Kd.R_g HO_20.out))) (below_size (bel_g HB.out))); replace HO_20 := Aside0.mk (Kd.R_elder' (Kd.R_g HO_20.out) (Kd.R_base ho0) hb); replace BK487 := blkB BK487 hb; replace HB := bst HB hb; (try clear hb); (try clear hk); (try clear ho0); obtain ⟨Ao19, co19, eo19⟩ := Kd.R_slice HO496.out; subst eo19))
                go_loopg [39] k3 (fun kq v39 w' => ∃ (x39_4 : Int), v39 = .int .i64 x39_4 ∧ Aside0 (spec_seTwoTwo.l3 kq x3_1 (rd t489 x22_2) x6_3 t489 (t489.length : Int) x22_2 t494 (t494.length : Int) x39_4 a0_0 l0_1 = some r) ∧ Aside0 (kq ≤ k3) ∧ Aside0 (Kd.R (Kd.int .i64) 3 w' w.heap.size (fun k_ => some k_ ≠ ((.slice Ao19 t494.length co19) : Value).ownBlock) (.slice (some ad492) t489.length co9) t489) ∧ Aside0 (Kd.R (Kd.int .i64) 3 w' w.heap.size (fun k_ => some k_ ≠ ((.slice (some ad492) t489.length co9) : Value).ownBlock) (.slice Ao19 t494.length co19) t494) ∧ Aside0 (w'.heap[gb487]? = some (.cells #[.int .i64 a0_0, (.slice (some ad488) l0_1.length c0_1)] 28 (0, 0))) ∧ Aside0 (Below w.heap.size w w'))
                case atStart => exact ⟨(0), eqS, H', ⟨Nat.le_refl _⟩, ⟨Kd.R_g (Kd.R_mono HO_20.out (fun _ hk => hk.2))⟩, ⟨Kd.R_g (Kd.R_mono HO496.out (fun _ hk => hk.2))⟩, ⟨blk_g BK487.out⟩, ⟨bel_g HB.out⟩⟩
                case round =>
                 clear H'
                 try clear c3b0
                 try clear c4
                 try clear c4b0
                 try clear c5
                 try clear c5b0
                 try clear c10b0
                 try clear c11
                 try clear c11b0
                 try clear c12
                 try clear c12b0
                 try clear c13b0
                 try clear c14
                 try clear c14b0
                 try clear c15
                 try clear c15b0
                 try clear hcz17_0
                 try clear hcz17_1
                 try clear hcz7_0
                 try clear hcz7_1
                 try clear hfz17_0
                 try clear hfz17_1
                 try clear hfz7_0
                 try clear hfz7_1
                 try clear hx488_0
                 try clear hx492_0
                 try clear hx493_0
                 try clear p488
                 try clear p492
                 try clear p493
                 try clear q488
                 try clear q492
                 try clear q493
                 obtain ⟨x39_4, rfl, HA, HK4, HO_20, HO_37, BK487, HB⟩ := hrel
                 cases gk with
                 | zero => exact absurd HA.out (by simp [spec_seTwoTwo.l3])
                 | succ k4 =>
                  have H := HA.out
                  clear HA
                  simp only [spec_seTwoTwo.l3] at H
                  rcases iteE H with ⟨c20b0, H⟩ | ⟨c20b0, H⟩
                  ·rcases iteP H with ⟨c21, H⟩ | ⟨c21, H⟩
                   ·have c21b0 : decide (0 ≤ x39_4) = true := decide_eq_true c21
                    clear c21
                    rcases iteP H with ⟨c22, H⟩ | ⟨c22, H⟩
                    ·have c22b0 : decide (x39_4 < (t494.length : Int)) = true := decide_eq_true c22
                     clear c22
                     obtain ⟨t498, A23, H⟩ := obE H
                     by_cases c24 : t498 = true
                     ·subst c24
                      replace H := ifT H
                      obtain ⟨t499, A25, H⟩ := obE H
                      by_cases c26 : t499 = true
                      ·subst c26
                       replace H := ifT H
                       obtain rfl := Option.some.inj H
                       have p497 : 0 ≤ (x39_4 : Int) := ofd
                       have q497 : x39_4 < (t494.length : Int) := ofd
                       obtain ⟨ad497, e497, hx497_0⟩ := Kd.at_int (Kd.R_reads' HO_37.out).2.2 x39_4 p497 q497
                       cases e497
                       replace p497 := eq_true p497
                       replace q497 := eq_true q497
                       obtain ⟨hcz27_0, hcz27_1, hfz27_0, hfz27_1⟩ := blk2 BK487
                       go_wp2_with (first | ((with_reducible refine gate_callee (f := 65) rfl ?_); refine goesQ (some 46) Tryd.func65 #[.agg #[.int .i64 a0_0, .slice (some ad488) l0_1.length c0_1], .int .i64 x3_1, .int .i64 (rd t494 x39_4)] ?_; (with_reducible refine (spec_seIndifferent.calls k4 a0_0 _ _ l0_1 x3_1 (rd t494 x39_4) true _ ?side1 ?side2 A23.out).mono ?_); (case side1 => exact C_g HR0_1 HB); (case side2 => exact HC0_1.out); rintro e w28 ⟨rfl, hb⟩; refine ⟨_, rfl, ?_⟩; replace HO_20 := Aside0.mk (Kd.R_below (Kd.R_g HO_20.out) hb); replace HO_37 := Aside0.mk (Kd.R_below (Kd.R_g HO_37.out) hb); replace BK487 := blkB BK487 hb; replace HB := bst HB hb; (try clear hb); (try clear hk); obtain ⟨hcz29_0, hcz29_1, hfz29_0, hfz29_1⟩ := blk2 BK487) | (go_at_call 65; (with_reducible refine (spec_seIndifferent.calls k4 a0_0 _ _ l0_1 x6_3 (rd t489 x22_2) true _ ?side1 ?side2 A25.out).mono ?_); (case side1 => exact C_g HR0_1 HB); (case side2 => exact HC0_1.out); rintro e w30 ⟨rfl, hb⟩; replace HO_20 := Aside0.mk (Kd.R_below (Kd.R_g HO_20.out) hb); replace HO_37 := Aside0.mk (Kd.R_below (Kd.R_g HO_37.out) hb); replace BK487 := blkB BK487 hb; replace HB := bst HB hb; (try clear hb); (try clear hk)))
                       go_ret
                       exact ⟨eqE, bel_g HB.out⟩
                      ·replace c26 := Bool.eq_false_iff.mpr c26
                       subst c26
                       replace H := ifF H
                       have H' := Aside0.mk H
                       clear H
                       have p497 : 0 ≤ (x39_4 : Int) := ofd
                       have q497 : x39_4 < (t494.length : Int) := ofd
                       obtain ⟨ad497, e497, hx497_0⟩ := Kd.at_int (Kd.R_reads' HO_37.out).2.2 x39_4 p497 q497
                       cases e497
                       replace p497 := eq_true p497
                       replace q497 := eq_true q497
                       obtain ⟨hcz31_0, hcz31_1, hfz31_0, hfz31_1⟩ := blk2 BK487
                       go_wp2_with (first | ((with_reducible refine gate_callee (f := 65) rfl ?_); refine goesQ (some 46) Tryd.func65 #[.agg #[.int .i64 a0_0, .slice (some ad488) l0_1.length c0_1], .int .i64 x3_1, .int .i64 (rd t494 x39_4)] ?_; (with_reducible refine (spec_seIndifferent.calls k4 a0_0 _ _ l0_1 x3_1 (rd t494 x39_4) true _ ?side1 ?side2 A23.out).mono ?_); (case side1 => exact C_g HR0_1 HB); (case side2 => exact HC0_1.out); rintro e w32 ⟨rfl, hb⟩; refine ⟨_, rfl, ?_⟩; replace HO_20 := Aside0.mk (Kd.R_below (Kd.R_g HO_20.out) hb); replace HO_37 := Aside0.mk (Kd.R_below (Kd.R_g HO_37.out) hb); replace BK487 := blkB BK487 hb; replace HB := bst HB hb; (try clear hb); (try clear hk); obtain ⟨hcz33_0, hcz33_1, hfz33_0, hfz33_1⟩ := blk2 BK487) | (go_at_call 65; (with_reducible refine (spec_seIndifferent.calls k4 a0_0 _ _ l0_1 x6_3 (rd t489 x22_2) false _ ?side1 ?side2 A25.out).mono ?_); (case side1 => exact C_g HR0_1 HB); (case side2 => exact HC0_1.out); rintro e w34 ⟨rfl, hb⟩; replace HO_20 := Aside0.mk (Kd.R_below (Kd.R_g HO_20.out) hb); replace HO_37 := Aside0.mk (Kd.R_below (Kd.R_g HO_37.out) hb); replace BK487 := blkB BK487 hb; replace HB := bst HB hb; (try clear hb); (try clear hk)))
                       go_roundg k4
                       case measure => have := HK1.out; have := HK2.out; have := HK3.out; have := HK4.out; omega
                       case rel => exact ⟨(wrap64 (x39_4 + 1)), eqS, H', ⟨by have := HK1.out; have := HK2.out; have := HK3.out; have := HK4.out; omega⟩, ⟨Kd.R_g HO_20.out⟩, ⟨Kd.R_g HO_37.out⟩, ⟨blk_g BK487.out⟩, ⟨bel_g HB.out⟩⟩
                     ·replace c24 := Bool.eq_false_iff.mpr c24
                      subst c24
                      replace H := ifF H
                      have H' := Aside0.mk H
                      clear H
                      have p497 : 0 ≤ (x39_4 : Int) := ofd
                      have q497 : x39_4 < (t494.length : Int) := ofd
                      obtain ⟨ad497, e497, hx497_0⟩ := Kd.at_int (Kd.R_reads' HO_37.out).2.2 x39_4 p497 q497
                      cases e497
                      replace p497 := eq_true p497
                      replace q497 := eq_true q497
                      obtain ⟨hcz35_0, hcz35_1, hfz35_0, hfz35_1⟩ := blk2 BK487
                      go_wp2_with (first | ((with_reducible refine gate_callee (f := 65) rfl ?_); refine goesQ (some 46) Tryd.func65 #[.agg #[.int .i64 a0_0, .slice (some ad488) l0_1.length c0_1], .int .i64 x3_1, .int .i64 (rd t494 x39_4)] ?_; (with_reducible refine (spec_seIndifferent.calls k4 a0_0 _ _ l0_1 x3_1 (rd t494 x39_4) false _ ?side1 ?side2 A23.out).mono ?_); (case side1 => exact C_g HR0_1 HB); (case side2 => exact HC0_1.out); rintro e w36 ⟨rfl, hb⟩; refine ⟨_, rfl, ?_⟩; replace HO_20 := Aside0.mk (Kd.R_below (Kd.R_g HO_20.out) hb); replace HO_37 := Aside0.mk (Kd.R_below (Kd.R_g HO_37.out) hb); replace BK487 := blkB BK487 hb; replace HB := bst HB hb; (try clear hb); (try clear hk)))
                      go_roundg k4
                      case measure => have := HK1.out; have := HK2.out; have := HK3.out; have := HK4.out; omega
                      case rel => exact ⟨(wrap64 (x39_4 + 1)), eqS, H', ⟨by have := HK1.out; have := HK2.out; have := HK3.out; have := HK4.out; omega⟩, ⟨Kd.R_g HO_20.out⟩, ⟨Kd.R_g HO_37.out⟩, ⟨blk_g BK487.out⟩, ⟨bel_g HB.out⟩⟩
                    ·exact absurd H (by simp)
                   ·exact absurd H (by simp)
                  ·have H' := Aside0.mk H
                   clear H
                   go_wp2
                   go_roundg k4
                   case measure => have := HK1.out; have := HK2.out; have := HK3.out; have := HK4.out; omega
                   case rel => exact ⟨(wrap64 (x6_3 + 1)), eqS, H', ⟨by have := HK1.out; have := HK2.out; have := HK3.out; have := HK4.out; omega⟩, ⟨Kd.R_g (Kd.R_mono HO_20.out (fun _ hk => trivial))⟩, ⟨blk_g BK487.out⟩, ⟨bel_g HB.out⟩⟩
               ·exact absurd H (by simp)
              ·exact absurd H (by simp)
             ·have H' := Aside0.mk H
              clear H
              obtain ⟨hcz37_0, hcz37_1, hfz37_0, hfz37_1⟩ := blk2 BK487
              go_wp2
              go_roundg k3
              case measure => have := HK1.out; have := HK2.out; have := HK3.out; omega
              case rel => exact ⟨(wrap64 (x22_2 + 1)), eqS, H', ⟨by have := HK1.out; have := HK2.out; have := HK3.out; omega⟩, ⟨Kd.R_g HO_20.out⟩, ⟨blk_g BK487.out⟩, ⟨bel_g HB.out⟩⟩
          ·exact absurd H (by simp)
         ·exact absurd H (by simp)
        ·have H' := Aside0.mk H
         clear H
         go_wp2
         go_roundg k2
         case measure => have := HK1.out; have := HK2.out; omega
         case rel => exact ⟨(wrap64 (x3_1 + 1)), eqS, H', ⟨by have := HK1.out; have := HK2.out; omega⟩, ⟨blk_g BK487.out⟩, ⟨bel_g HB.out⟩⟩
     ·exact absurd H (by simp)
    ·exact absurd H (by simp)
   ·obtain rfl := Option.some.inj H
    obtain ⟨hcz38_0, hcz38_1, hfz38_0, hfz38_1⟩ := blk2 BK487
    go_wp2
    go_ret
    exact ⟨eqE, bel_g HB.out⟩

end Go.Proofs.YtjahodklmegglaaDoor.Q
