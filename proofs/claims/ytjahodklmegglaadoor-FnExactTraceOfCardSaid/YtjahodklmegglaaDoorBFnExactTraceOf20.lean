import Derived.WalkSpells
import Derived.Test.YtjahodklmegglaaDoorBFnExactTraceOf0
import Derived.Test.YtjahodklmegglaaDoorBFnExactTraceOf11
import Derived.Test.YtjahodklmegglaaDoorBFnExactTraceOf12
import Derived.Test.YtjahodklmegglaaDoorBFnExactTraceOf14
import Derived.Test.YtjahodklmegglaaDoorBFnExactTraceOf18
import Derived.Test.YtjahodklmegglaaDoorBFnExactTraceOf19
-- printed by this project's own program (wip/mp/mp.py) over the kit's print, for this seat; Lean checks it
namespace Go.Proofs.YtjahodklmegglaaDoor.Q
open Go.RowKit Go.Proofs.YtjahodklmegglaaDoorW.PrintWords Go.Proofs.YtjahodklmegglaaDoorW.PrintLast Go.Proofs.YtjahodklmegglaaDoorW.PrintMore
attribute [local go_sem] max2_int min2_int max_two min_two max_three min_three max_four min_four   -- for this text's walks alone
set_option linter.unusedVariables false
set_option maxHeartbeats 8000000
set_option maxRecDepth 100000
set_option linter.unusedSimpArgs false

/-! ### impl_isSemi: function 28 -/
theorem impl_isSemi.nilEql_ {P : Program} (W : World) {t e : TypeId} {A : Option Addr} {n c : Nat} {xs : List Int} {Z : Nat → Nat → Prop} (hu : P.underlying t = some (.slice e)) (h : xs = [] → Value.slice A n c = .slice none 0 0) (h2 : 0 < xs.length → ∃ g c', Value.slice A n c = .slice (some ⟨g, 0, none⟩) xs.length c' ∧ Z g c') :
  (binOp .eql t (.slice A n c) (.slice none 0 0)).run P W = .ok (.bool (xs == ([] : List Int))) W := by
 rw [Lib.run_eql_slice_nil W t e A n c 0 0 hu]
 cases xs with
 | nil => injection h rfl with h1 _ _; subst h1; rfl
 | cons x l => obtain ⟨g, c', h1, _⟩ := h2 (by simp); injection h1 with h1 _ _; subst h1; rfl
theorem impl_isSemi.nilNeq_ {P : Program} (W : World) {t e : TypeId} {A : Option Addr} {n c : Nat} {xs : List Int} {Z : Nat → Nat → Prop} (hu : P.underlying t = some (.slice e)) (h : xs = [] → Value.slice A n c = .slice none 0 0) (h2 : 0 < xs.length → ∃ g c', Value.slice A n c = .slice (some ⟨g, 0, none⟩) xs.length c' ∧ Z g c') :
  (binOp .neq t (.slice A n c) (.slice none 0 0)).run P W = .ok (.bool (xs != ([] : List Int))) W := by
 rw [run_neq_slice_nil_any W t e A n c 0 0 hu]
 cases xs with
 | nil => injection h rfl with h1 _ _; subst h1; rfl
 | cons x l => obtain ⟨g, c', h1, _⟩ := h2 (by simp); injection h1 with h1 _ _; subst h1; rfl
def impl_isSemi.f (k : Nat) (a0_0 : Int) (l0_1 : List Int) : Option (Bool) := (impl_isInterval.f k a0_0 l0_1).bind fun t615 => (if t615 = true then ((impl_Order_threeOne.f k a0_0 l0_1).bind fun t616 => (some (t616 == ([] : List Int)))) else (some false))
theorem impl_isSemi.mono : ∀ a0 a1 k, LeO (impl_isSemi.f k a0 a1) (impl_isSemi.f (k + 1) a0 a1) := by
 intro a0 a1 k
 unfold impl_isSemi.f
 repeat' (with_reducible first|exact impl_Order_threeOne.mono _ _ _|exact impl_isInterval.mono _ _ _|exact LeO.refl _|exact LeO.none _|refine LeO.ite ?_ ?_|refine LeO.bind ?_ (fun _ => ?_))
theorem impl_isSemi.calls (k : Nat) (a0_0 : Int) (A0_1 : Option Addr) (c0_1 : Nat) (l0_1 : List Int) (r : Bool) (w : World) (hr0_1 : Kd.C (Kd.int .i64) w A0_1 l0_1.length l0_1) (hc0_1 : l0_1.length ≤ c0_1) (hTAB : Tab w) (h : impl_isSemi.f k a0_0 l0_1 = some r) :
  Calls Tryd.prog 28 #[.agg #[.int .i64 a0_0, .slice A0_1 l0_1.length c0_1]] w fun e w' => e = .returned (.bool r) ∧ Below w.heap.size w w' := by
 have HTAB := Aside0.mk hTAB
 clear hTAB
 have hu28 := Tryd.underlying28
 have HR0_1 := Aside0.mk hr0_1
 have HC0_1 := Aside0.mk hc0_1
 clear hr0_1 hc0_1
 have HB := Aside0.mk (Below.refl w.heap.size w)
 have H : ((impl_isInterval.f k a0_0 l0_1).bind fun t615 => (if t615 = true then ((impl_Order_threeOne.f k a0_0 l0_1).bind fun t616 => (some (t616 == ([] : List Int)))) else (some false))) = some r := h
 clear h
 obtain ⟨t615, A2, H⟩ := obE H
 by_cases c3 : t615 = true
 ·subst c3
  replace H := ifT H
  obtain ⟨t616, A4, H⟩ := obE H
  obtain rfl := Option.some.inj H
  go_enter Tryd.func28, Tryd.ntmps28
  go_wp2_with (first | ((with_reducible refine gate_dst (N := 1) rfl ?_); refine boxE (N := 1) (cs := #[.int .i64 a0_0, .slice A0_1 l0_1.length c0_1]) (t := 28) ?_; intro gb614 hg w5 hbox hb; have BK614 := Aside0.mk (hbox); have GE614 := geB HB hg; replace HB := bst HB hb; clear hb hbox hg; obtain ⟨hcz6_0, hcz6_1, hfz6_0, hfz6_1⟩ := blk2 BK614) | ((with_reducible refine gate_callee (f := 48) rfl ?_); refine goesQ (some 4) Tryd.func48 #[.agg #[.int .i64 a0_0, .slice A0_1 l0_1.length c0_1]] ?_; (with_reducible refine (impl_isInterval.calls k a0_0 _ _ l0_1 true _ ?side1 ?side2 ?side3 A2.out).mono ?_); (case side1 => exact C_g HR0_1 HB); (case side2 => exact HC0_1.out); (case side3 => first | exact HTAB.out | exact Tab.drewN HTAB.out _ | exact Tab.below HTAB.out (bel_g HB.out) | exact Tab.below HTAB.out (by repeat (first | exact Below.refl _ _ | apply below_alloc | apply pw_below_drewN | apply below_drew1))); rintro e w7 ⟨rfl, hb⟩; refine ⟨_, rfl, ?_⟩; replace BK614 := blkB BK614 hb; replace HB := bst HB hb; (try clear hb); obtain ⟨hcz8_0, hcz8_1, hfz8_0, hfz8_1⟩ := blk2 BK614) | (go_at_call 49; (with_reducible refine (impl_Order_threeOne.calls k a0_0 _ _ l0_1 t616 _ ?side1 ?side2 ?side3 A4.out).mono ?_); (case side1 => exact C_g HR0_1 HB); (case side2 => exact HC0_1.out); (case side3 => first | exact HTAB.out | exact Tab.drewN HTAB.out _ | exact Tab.below HTAB.out (bel_g HB.out) | exact Tab.below HTAB.out (by repeat (first | exact Below.refl _ _ | apply below_alloc | apply pw_below_drewN | apply below_drew1))); rintro e w9 ⟨v617, rfl, ho0, hb, hnl0⟩; have HO618 := Aside0.mk (Kd.R_lower ho0 (below_size (bel_g HB.out))); replace BK614 := blkB BK614 hb; replace HB := bst HB hb; (try clear hb); (try clear ho0); have NL_HO618 := Aside0.mk hnl0; clear hnl0; obtain ⟨Ao10, co10, eo10⟩ := Kd.R_slice HO618.out; subst eo10; have nq11 := fun (W_ : World) => impl_isSemi.nilEql_ (P := Tryd.prog) W_ (t := 22) (e := 3) (c := co10) Tryd.underlying22 NL_HO618.out (fun h_ => Kd.R_form HO618.out h_)))
  go_ret
  exact ⟨eqE, bel_g HB.out⟩
 ·replace c3 := Bool.eq_false_iff.mpr c3
  subst c3
  replace H := ifF H
  obtain rfl := Option.some.inj H
  go_enter Tryd.func28, Tryd.ntmps28
  go_wp2_with (first | ((with_reducible refine gate_dst (N := 1) rfl ?_); refine boxE (N := 1) (cs := #[.int .i64 a0_0, .slice A0_1 l0_1.length c0_1]) (t := 28) ?_; intro gb614 hg w12 hbox hb; have BK614 := Aside0.mk (hbox); have GE614 := geB HB hg; replace HB := bst HB hb; clear hb hbox hg; obtain ⟨hcz13_0, hcz13_1, hfz13_0, hfz13_1⟩ := blk2 BK614) | ((with_reducible refine gate_callee (f := 48) rfl ?_); refine goesQ (some 4) Tryd.func48 #[.agg #[.int .i64 a0_0, .slice A0_1 l0_1.length c0_1]] ?_; (with_reducible refine (impl_isInterval.calls k a0_0 _ _ l0_1 false _ ?side1 ?side2 ?side3 A2.out).mono ?_); (case side1 => exact C_g HR0_1 HB); (case side2 => exact HC0_1.out); (case side3 => first | exact HTAB.out | exact Tab.drewN HTAB.out _ | exact Tab.below HTAB.out (bel_g HB.out) | exact Tab.below HTAB.out (by repeat (first | exact Below.refl _ _ | apply below_alloc | apply pw_below_drewN | apply below_drew1))); rintro e w14 ⟨rfl, hb⟩; refine ⟨_, rfl, ?_⟩; replace BK614 := blkB BK614 hb; replace HB := bst HB hb; (try clear hb)))
  go_ret
  exact ⟨eqE, bel_g HB.out⟩

end Go.Proofs.YtjahodklmegglaaDoor.Q

-- printed by this project's own program (wip/mp/mp.py) over the kit's print, for this seat; Lean checks it
namespace Go.Proofs.YtjahodklmegglaaDoor.Q
open Go.RowKit Go.Proofs.YtjahodklmegglaaDoorW.PrintWords Go.Proofs.YtjahodklmegglaaDoorW.PrintLast Go.Proofs.YtjahodklmegglaaDoorW.PrintMore
attribute [local go_sem] max2_int min2_int max_two min_two max_three min_three max_four min_four   -- for this text's walks alone
set_option linter.unusedVariables false
set_option maxHeartbeats 8000000
set_option maxRecDepth 100000
set_option linter.unusedSimpArgs false

/-! ### impl_TraceOf_1: function 35 -/
def impl_TraceOf_1.f (a0 : Int) (a1 : Int) (a2_0 : Int) (l2_1 : List Int) (a3_0 : Int) (l3_1 : List Int) : Option (Bool) := if 0 ≤ a1 then (if a1 < (l2_1.length : Int) then (if 0 ≤ a0 then (if a0 < (l2_1.length : Int) then (if (Go.bits .andNot .i64 (rd l2_1 a1) (rd l2_1 a0)) = 0 then (if a0 < (l3_1.length : Int) then (if a1 < (l3_1.length : Int) then (some ((Go.bits .andNot .i64 (rd l3_1 a0) (rd l3_1 a1)) != 0)) else (none)) else (none)) else (some true)) else (none)) else (none)) else (none)) else (none)
theorem impl_TraceOf_1.calls (a0 : Int) (a1 : Int) (gB2 : Nat) (a2_0 : Int) (A2_1 : Option Addr) (c2_1 : Nat) (l2_1 : List Int) (gB3 : Nat) (a3_0 : Int) (A3_1 : Option Addr) (c3_1 : Nat) (l3_1 : List Int) (r : Bool) (w : World) (hb2 : w.heap[gB2]? = some (.cells #[.int .i64 a2_0, .slice A2_1 l2_1.length c2_1] 28 (0, 0))) (hr2_1 : Kd.C (Kd.int .i64) w A2_1 l2_1.length l2_1) (hc2_1 : l2_1.length ≤ c2_1) (hb3 : w.heap[gB3]? = some (.cells #[.int .i64 a3_0, .slice A3_1 l3_1.length c3_1] 28 (0, 0))) (hr3_1 : Kd.C (Kd.int .i64) w A3_1 l3_1.length l3_1) (hc3_1 : l3_1.length ≤ c3_1) (h : impl_TraceOf_1.f a0 a1 a2_0 l2_1 a3_0 l3_1 = some r) :
  Calls Tryd.prog 35 #[.int .i64 a0, .int .i64 a1, .pointer (some ⟨gB2, 0, none⟩), .pointer (some ⟨gB3, 0, none⟩)] w fun e w' => e = .returned (.bool r) ∧ Drawn0 w w' := by
 have BK745 := Aside0.mk hb2
 clear hb2
 have BK746 := Aside0.mk hb3
 clear hb3
 have HR2_1 := Aside0.mk hr2_1
 have HC2_1 := Aside0.mk hc2_1
 clear hr2_1 hc2_1
 have HR3_1 := Aside0.mk hr3_1
 have HC3_1 := Aside0.mk hc3_1
 clear hr3_1 hc3_1
 have H : (if 0 ≤ a1 then (if a1 < (l2_1.length : Int) then (if 0 ≤ a0 then (if a0 < (l2_1.length : Int) then (if (Go.bits .andNot .i64 (rd l2_1 a1) (rd l2_1 a0)) = 0 then (if a0 < (l3_1.length : Int) then (if a1 < (l3_1.length : Int) then (some ((Go.bits .andNot .i64 (rd l3_1 a0) (rd l3_1 a1)) != 0)) else (none)) else (none)) else (some true)) else (none)) else (none)) else (none)) else (none)) = some r := h
 clear h
 rcases iteP H with ⟨c5, H⟩ | ⟨c5, H⟩
 ·have c5b0 : decide (0 ≤ a1) = true := decide_eq_true c5
  clear c5
  rcases iteP H with ⟨c6, H⟩ | ⟨c6, H⟩
  ·have c6b0 : decide (a1 < (l2_1.length : Int)) = true := decide_eq_true c6
   clear c6
   rcases iteP H with ⟨c7, H⟩ | ⟨c7, H⟩
   ·have c7b0 : decide (0 ≤ a0) = true := decide_eq_true c7
    clear c7
    rcases iteP H with ⟨c8, H⟩ | ⟨c8, H⟩
    ·have c8b0 : decide (a0 < (l2_1.length : Int)) = true := decide_eq_true c8
     clear c8
     rcases iteP H with ⟨c9, H⟩ | ⟨c9, H⟩
     ·have c9b0 : ((Go.bits .andNot .i64 (rd l2_1 a1) (rd l2_1 a0)) == 0) = true := beq_iff_eq.mpr c9
      have c9b1 : ((Go.bits .andNot .i64 (rd l2_1 a1) (rd l2_1 a0)) != 0) = false := bne_eq_false_iff_eq.mpr c9
      clear c9
      rcases iteP H with ⟨c10, H⟩ | ⟨c10, H⟩
      ·have c10b0 : decide (a0 < (l3_1.length : Int)) = true := decide_eq_true c10
       clear c10
       rcases iteP H with ⟨c11, H⟩ | ⟨c11, H⟩
       ·have c11b0 : decide (a1 < (l3_1.length : Int)) = true := decide_eq_true c11
        clear c11
        obtain rfl := Option.some.inj H
        obtain ⟨hcz12_0, hcz12_1, hfz12_0, hfz12_1⟩ := blk2 BK745
        have p747 : 0 ≤ (a1 : Int) := ofd
        have q747 : a1 < (l2_1.length : Int) := ofd
        obtain ⟨ad747, e747, hx747_0⟩ := Kd.at_int HR2_1.out a1 p747 q747
        cases e747
        replace p747 := eq_true p747
        replace q747 := eq_true q747
        have p748 : 0 ≤ (a0 : Int) := ofd
        have q748 : a0 < (l2_1.length : Int) := ofd
        obtain ⟨ad748, e748, hx748_0⟩ := Kd.at_int HR2_1.out a0 p748 q748
        obtain rfl : ad747 = ad748 := (by injection e748)
        replace p748 := eq_true p748
        replace q748 := eq_true q748
        obtain ⟨hcz13_0, hcz13_1, hfz13_0, hfz13_1⟩ := blk2 BK746
        have p749 : 0 ≤ (a0 : Int) := ofd
        have q749 : a0 < (l3_1.length : Int) := ofd
        obtain ⟨ad749, e749, hx749_0⟩ := Kd.at_int HR3_1.out a0 p749 q749
        cases e749
        replace p749 := eq_true p749
        replace q749 := eq_true q749
        have p750 : 0 ≤ (a1 : Int) := ofd
        have q750 : a1 < (l3_1.length : Int) := ofd
        obtain ⟨ad750, e750, hx750_0⟩ := Kd.at_int HR3_1.out a1 p750 q750
        obtain rfl : ad749 = ad750 := (by injection e750)
        replace p750 := eq_true p750
        replace q750 := eq_true q750
        go_enter Tryd.func35, Tryd.ntmps35
        go_wp2
        repeat (go_quiet (fail); try go_wp2)
        go_ret
        exact ⟨by first | rfl | (simp; done) | (simp [*]; done), by repeat (first | exact Drawn0.refl _ | apply Drawn0.step)⟩
       ·exact absurd H (by simp)
      ·exact absurd H (by simp)
     ·have c9b0 : ((Go.bits .andNot .i64 (rd l2_1 a1) (rd l2_1 a0)) == 0) = false := beq_eq_false_iff_ne.mpr c9
      have c9b1 : ((Go.bits .andNot .i64 (rd l2_1 a1) (rd l2_1 a0)) != 0) = true := bne_iff_ne.mpr c9
      obtain rfl := Option.some.inj H
      obtain ⟨hcz14_0, hcz14_1, hfz14_0, hfz14_1⟩ := blk2 BK745
      have p747 : 0 ≤ (a1 : Int) := ofd
      have q747 : a1 < (l2_1.length : Int) := ofd
      obtain ⟨ad747, e747, hx747_0⟩ := Kd.at_int HR2_1.out a1 p747 q747
      cases e747
      replace p747 := eq_true p747
      replace q747 := eq_true q747
      have p748 : 0 ≤ (a0 : Int) := ofd
      have q748 : a0 < (l2_1.length : Int) := ofd
      obtain ⟨ad748, e748, hx748_0⟩ := Kd.at_int HR2_1.out a0 p748 q748
      obtain rfl : ad747 = ad748 := (by injection e748)
      replace p748 := eq_true p748
      replace q748 := eq_true q748
      go_enter Tryd.func35, Tryd.ntmps35
      go_wp2
      repeat (go_quiet (fail); try go_wp2)
      go_ret
      exact ⟨by first | rfl | (simp; done) | (simp [*]; done), by repeat (first | exact Drawn0.refl _ | apply Drawn0.step)⟩
    ·exact absurd H (by simp)
   ·exact absurd H (by simp)
  ·exact absurd H (by simp)
 ·exact absurd H (by simp)

end Go.Proofs.YtjahodklmegglaaDoor.Q

-- printed by this project's own program (wip/mp/mp.py) over the kit's print, for this seat; Lean checks it
namespace Go.Proofs.YtjahodklmegglaaDoor.Q
open Go.RowKit Go.Proofs.YtjahodklmegglaaDoorW.PrintWords Go.Proofs.YtjahodklmegglaaDoorW.PrintLast Go.Proofs.YtjahodklmegglaaDoorW.PrintMore
attribute [local go_sem] max2_int min2_int max_two min_two max_three min_three max_four min_four   -- for this text's walks alone
set_option linter.unusedVariables false
set_option maxHeartbeats 8000000
set_option maxRecDepth 100000
set_option linter.unusedSimpArgs false

/-! ### impl_TraceOf: function 18 -/
def impl_TraceOf.f (k : Nat) (a0_0 : Int) (l0_1 : List Int) : Option (List Int × Bool) := (impl_isSemi.f k a0_0 l0_1).bind fun t752 => (if t752 = true then ((impl_Order_mirror.f k a0_0 l0_1).bind fun bt753 => ((impl_relation.f k a0_0 (fun u0_ u1_ => impl_TraceOf_1.f u0_ u1_ bt753.1 bt753.2 a0_0 l0_1)).bind fun bt758 => ((impl_Order_levels.f k bt758.1 bt758.2).bind fun t762 => (some (t762, true))))) else (some (([] : List Int), false)))
theorem impl_TraceOf.mono : ∀ a0 a1 k, LeO (impl_TraceOf.f k a0 a1) (impl_TraceOf.f (k + 1) a0 a1) := by
 intro a0 a1 k
 unfold impl_TraceOf.f
 repeat' first
   | (with_reducible exact impl_relation.mono _ _ _)
   | (refine impl_relation.monoF ?_ _ _; intros)
   | (with_reducible exact impl_Order_levels.mono _ _ _)
   | (with_reducible exact impl_Order_mirror.mono _ _ _)
   | (with_reducible exact impl_isSemi.mono _ _ _)
   | (with_reducible exact impl_relation.mono _ _ _)
   | (with_reducible exact LeO.refl _)
   | (with_reducible exact LeO.none _)
   | (with_reducible refine LeO.ite ?_ ?_)
   | (with_reducible refine LeO.bind ?_ (fun _ => ?_))
   | exact impl_Order_levels.mono _ _ _
   | exact impl_Order_mirror.mono _ _ _
   | exact impl_isSemi.mono _ _ _
   | exact impl_relation.mono _ _ _
   | exact LeO.none _
   | refine LeO.ite ?_ ?_
   | refine LeO.bind ?_ (fun _ => ?_)
theorem impl_TraceOf.calls (k : Nat) (a0_0 : Int) (A0_1 : Option Addr) (c0_1 : Nat) (l0_1 : List Int) (r1 : List Int) (r2 : Bool) (w : World) (hr0_1 : Kd.C (Kd.int .i64) w A0_1 l0_1.length l0_1) (hc0_1 : l0_1.length ≤ c0_1) (hTAB : Tab w) (h : impl_TraceOf.f k a0_0 l0_1 = some (r1, r2)) :
  Calls Tryd.prog 18 #[.agg #[.int .i64 a0_0, .slice A0_1 l0_1.length c0_1]] w fun e w' => ∃ v0_ : Value, e = .returned (.tuple #[v0_, .bool r2]) ∧ Kd.R (Kd.int .i64) 3 w' w.heap.size (fun _ => True) v0_ r1 ∧ Below w.heap.size w w' := by
 have HTAB := Aside0.mk hTAB
 clear hTAB
 have hu28 := Tryd.underlying28
 have HR0_1 := Aside0.mk hr0_1
 have HC0_1 := Aside0.mk hc0_1
 clear hr0_1 hc0_1
 have HB := Aside0.mk (Below.refl w.heap.size w)
 have H : ((impl_isSemi.f k a0_0 l0_1).bind fun t752 => (if t752 = true then ((impl_Order_mirror.f k a0_0 l0_1).bind fun bt753 => ((impl_relation.f k a0_0 (fun u0_ u1_ => impl_TraceOf_1.f u0_ u1_ bt753.1 bt753.2 a0_0 l0_1)).bind fun bt758 => ((impl_Order_levels.f k bt758.1 bt758.2).bind fun t762 => (some (t762, true))))) else (some (([] : List Int), false)))) = some (r1, r2) := h
 clear h
 obtain ⟨t752, A2, H⟩ := obE H
 by_cases c3 : t752 = true
 ·subst c3
  replace H := ifT H
  obtain ⟨⟨t753, t754⟩, A4, H⟩ := obE H
  dsimp only at H
  obtain ⟨⟨t758, t759⟩, A5, H⟩ := obE H
  dsimp only at H
  obtain ⟨t762, A6, H⟩ := obE H
  simp only [Option.some.injEq, Prod.mk.injEq] at H
  obtain ⟨rfl, rfl⟩ := H
  go_enter Tryd.func18, Tryd.ntmps18
  go_wp2_with (first | ((with_reducible refine gate_dst (N := 1) rfl ?_); refine boxE (N := 1) (cs := #[.int .i64 a0_0, .slice A0_1 l0_1.length c0_1]) (t := 28) ?_; intro gb751 hg w7 hbox hb; have BK751 := Aside0.mk (hbox); have GE751 := geB HB hg; replace HB := bst HB hb; clear hb hbox hg; obtain ⟨hcz8_0, hcz8_1, hfz8_0, hfz8_1⟩ := blk2 BK751) | ((with_reducible refine gate_callee (f := 28) rfl ?_); refine goesQ (some 6) Tryd.func28 #[.agg #[.int .i64 a0_0, .slice A0_1 l0_1.length c0_1]] ?_; (with_reducible refine (impl_isSemi.calls k a0_0 _ _ l0_1 true _ ?side1 ?side2 ?side3 A2.out).mono ?_); (case side1 => exact C_g HR0_1 HB); (case side2 => exact HC0_1.out); (case side3 => first | exact HTAB.out | exact Tab.drewN HTAB.out _ | exact Tab.below HTAB.out (bel_g HB.out) | exact Tab.below HTAB.out (by repeat (first | exact Below.refl _ _ | apply below_alloc | apply pw_below_drewN | apply below_drew1))); rintro e w9 ⟨rfl, hb⟩; refine ⟨_, rfl, ?_⟩; replace BK751 := blkB BK751 hb; replace HB := bst HB hb; (try clear hb); (try clear hk); obtain ⟨hcz10_0, hcz10_1, hfz10_0, hfz10_1⟩ := blk2 BK751) | ((with_reducible refine gate_callee (f := 33) rfl ?_); refine goesQ (some 9) Tryd.func33 #[.agg #[.int .i64 a0_0, .slice A0_1 l0_1.length c0_1]] ?_; (with_reducible refine (impl_Order_mirror.calls k a0_0 _ _ l0_1 t753 t754 _ ?side1 ?side2 A4.out).mono ?_); (case side1 => exact C_g HR0_1 HB); (case side2 => exact HC0_1.out); rintro e w11 ⟨v755, rfl, ho0, hb⟩; refine ⟨_, rfl, ?_⟩; have HO756 := Aside0.mk (Kd.R_lower ho0 (below_size (bel_g HB.out))); replace BK751 := blkB BK751 hb; replace HB := bst HB hb; (try clear hb); (try clear hk); (try clear ho0)) | ((with_reducible refine gate_dst (N := 4) rfl ?_); refine boxE (N := 4) (cs := #[.int .i64 0, .slice none 0 0]) (t := 28) ?_; intro gb757 hg w12 hbox hb; replace HO756 := Aside0.mk (Kd.R_below (Kd.R_g HO756.out) hb); have BK757 := Aside0.mk (hbox); have GE757 := geB HB hg; have NB751_757 := neL BK751 hg; have NB757_751 := neR BK751 hg; replace BK751 := blkB BK751 hb; replace HB := bst HB hb; clear hb hbox hg; have hnb13 := NB757_751.out; have hnc13 := NB751_757.out; obtain ⟨hcz14_0, hcz14_1, hfz14_0, hfz14_1⟩ := blk2 BK757; obtain ⟨Ao15, co15, eo15⟩ := Kd.R_slice HO756.out; subst eo15; obtain ⟨hcz16_0, hcz16_1, hfz16_0, hfz16_1⟩ := blk2 BK751) | ((with_reducible refine gate_callee (f := 34) rfl ?_); refine goesQ (some 13) Tryd.func34 #[.int .i64 a0_0, .func (.func 35) #[] #[.pointer (some ⟨gb757, 0, none⟩), .pointer (some ⟨gb751, 0, none⟩)]] ?_; (with_reducible refine (impl_relation.calls k a0_0 (fun u0_ u1_ => impl_TraceOf_1.f u0_ u1_ t753 t754 a0_0 l0_1) 35 #[.pointer (some ⟨gb757, 0, none⟩), .pointer (some ⟨gb751, 0, none⟩)] (fun args_ W_ => enters_ Tryd.func35 (by kernel_rfl) rfl args_ W_) t758 t759 _ ?side1 A5.out).mono ?_); (case side1 => exact fun u0_ u1_ q_ W_ hb_ hq_ => (impl_TraceOf_1.calls u0_ u1_ gb757 t753 Ao15 co15 t754 gb751 a0_0 A0_1 c0_1 l0_1 q_ W_ (blk_below (show _ = some (Obj.cells #[.int .i64 t753, .slice Ao15 t754.length co15] 28 (0, 0)) from by (with_reducible repeat (first | refine blk_drewN ?_ _ | refine blk_drew ?_ | refine blk_alloc ?_ _)); refine blk_put (cs := #[.int .i64 t753, .slice none 0 0]) ?_ 1 _ rfl; (with_reducible repeat (first | refine blk_drewN ?_ _ | refine blk_drew ?_ | refine blk_alloc ?_ _)); refine blk_put (cs := #[.int .i64 0, .slice none 0 0]) ?_ 0 _ rfl; (with_reducible repeat (first | refine blk_drewN ?_ _ | refine blk_drew ?_ | refine blk_alloc ?_ _)); exact BK757.out) hb_) (Kd.C_below (show Kd.C (Kd.int .i64) _ Ao15 t754.length t754 from by refine (Kd.R_reads' (e := 3) (base := w.heap.size) (ok := fun k_ => True) (n := t754.length) (c := co15) ?_).2.2; exact (Kd.R_g ((Kd.R_mono (Kd.R_far (p := ⟨gb757, 1, none⟩) (Kd.R_far (p := ⟨gb757, 0, none⟩) (Kd.R_types HO756.out BK757.out (by decide)) (fun _ hk => hk.2) (.int .i64 t753)) (fun _ hk => hk.2) (.slice Ao15 t754.length co15)) (fun _ h_ => h_.1))))) hb_) (by exact (Kd.R_reads' HO756.out).2.1) (blk_below (show _ = some (Obj.cells #[.int .i64 a0_0, .slice A0_1 l0_1.length c0_1] 28 (0, 0)) from by (with_reducible repeat (first | refine blk_drewN ?_ _ | refine blk_drew ?_ | refine blk_alloc ?_ _)); refine blk_far ?_ NB751_757.out _; (with_reducible repeat (first | refine blk_drewN ?_ _ | refine blk_drew ?_ | refine blk_alloc ?_ _)); refine blk_far ?_ NB751_757.out _; (with_reducible repeat (first | refine blk_drewN ?_ _ | refine blk_drew ?_ | refine blk_alloc ?_ _)); exact BK751.out) hb_) (Kd.C_below (show Kd.C (Kd.int .i64) _ A0_1 l0_1.length l0_1 from by exact C_g HR0_1 HB) hb_) (by exact HC0_1.out) hq_).mono (fun _ _ h_ => ⟨h_.1, h_.2.below⟩)); rintro e w17 ⟨v760, rfl, ho0, hb⟩; refine ⟨_, rfl, ?_⟩; have HO761 := Aside0.mk (Kd.R_lower (Kd.R_new' ho0 (Kd.R_lt (Kd.R_g ((Kd.R_mono (Kd.R_far (p := ⟨gb757, 1, none⟩) (Kd.R_far (p := ⟨gb757, 0, none⟩) (Kd.R_types HO756.out BK757.out (by decide)) (fun _ hk => hk.2) (.int .i64 t753)) (fun _ hk => hk.2) (.slice Ao15 t754.length co15)) (fun _ h_ => h_.1)))))) (below_size (bel_g HB.out))); replace HO756 := Aside0.mk (Kd.R_elder' (Kd.R_g ((Kd.R_mono (Kd.R_far (p := ⟨gb757, 1, none⟩) (Kd.R_far (p := ⟨gb757, 0, none⟩) (Kd.R_types HO756.out BK757.out (by decide)) (fun _ hk => hk.2) (.int .i64 t753)) (fun _ hk => hk.2) (.slice Ao15 t754.length co15)) (fun _ h_ => h_.1)))) (Kd.R_base ho0) hb); replace BK751 := Aside0.mk (blk_below (g := gb751) (o := .cells #[.int .i64 a0_0, .slice A0_1 l0_1.length c0_1] 28 (0, 0)) (by (with_reducible repeat (first | refine blk_drewN ?_ _ | refine blk_drew ?_ | refine blk_alloc ?_ _)); refine blk_far ?_ NB751_757.out _; (with_reducible repeat (first | refine blk_drewN ?_ _ | refine blk_drew ?_ | refine blk_alloc ?_ _)); refine blk_far ?_ NB751_757.out _; (with_reducible repeat (first | refine blk_drewN ?_ _ | refine blk_drew ?_ | refine blk_alloc ?_ _)); exact BK751.out) hb); replace BK757 := Aside0.mk (blk_below (g := gb757) (o := .cells #[.int .i64 t753, .slice Ao15 t754.length co15] 28 (0, 0)) (by (with_reducible repeat (first | refine blk_drewN ?_ _ | refine blk_drew ?_ | refine blk_alloc ?_ _)); refine blk_put (cs := #[.int .i64 t753, .slice none 0 0]) ?_ 1 _ rfl; (with_reducible repeat (first | refine blk_drewN ?_ _ | refine blk_drew ?_ | refine blk_alloc ?_ _)); refine blk_put (cs := #[.int .i64 0, .slice none 0 0]) ?_ 0 _ rfl; (with_reducible repeat (first | refine blk_drewN ?_ _ | refine blk_drew ?_ | refine blk_alloc ?_ _)); exact BK757.out) hb); replace HB := bst HB hb; (try clear hb); (try clear hk); (try clear ho0); obtain ⟨Ao18, co18, eo18⟩ := Kd.R_slice HO761.out; subst eo18) | ((with_reducible refine gate_callee (f := 25) rfl ?_); refine goesQ (some 14) Tryd.func25 #[.agg #[.int .i64 t758, .slice Ao18 t759.length co18]] ?_; (with_reducible refine (impl_Order_levels.calls k t758 _ _ t759 t762 _ ?side1 ?side2 A6.out).mono ?_); (case side1 => repeat (first | exact (Kd.R_reads' HO761.out).2.2 | (with_reducible refine Kd.C_alloc ?_ _) | (with_reducible refine Kd.C_drewN ?_ _) | (with_reducible refine Kd.C_drew ?_))); (case side2 => exact (Kd.R_reads' HO761.out).2.1); rintro e w19 ⟨v763, rfl, ho0, hb⟩; refine ⟨_, rfl, ?_⟩; have HO764 := Aside0.mk (Kd.R_lower (Kd.R_new' (Kd.R_new' ho0 (Kd.R_lt (Kd.R_g HO756.out))) (Kd.R_lt (Kd.R_g HO761.out))) (below_size (bel_g HB.out))); replace HO756 := Aside0.mk (Kd.R_elder' (Kd.R_g HO756.out) (Kd.R_base ho0) hb); replace HO761 := Aside0.mk (Kd.R_elder' (Kd.R_g HO761.out) (Kd.R_base ho0) hb); replace BK751 := blkB BK751 hb; replace BK757 := blkB BK757 hb; replace HB := bst HB hb; (try clear hb); (try clear hk); (try clear ho0)))
  go_ret2
  exact ⟨_, eqE, by (with_reducible repeat (first | apply Kd.R_alloc | apply Kd.R_drewN | apply Kd.R_drew)); exact Kd.R_mono HO764.out (fun _ hk => trivial), bel_g HB.out⟩
 ·replace c3 := Bool.eq_false_iff.mpr c3
  subst c3
  replace H := ifF H
  simp only [Option.some.injEq, Prod.mk.injEq] at H
  obtain ⟨rfl, rfl⟩ := H
  go_enter Tryd.func18, Tryd.ntmps18
  go_wp2_with (first | ((with_reducible refine gate_dst (N := 1) rfl ?_); refine boxE (N := 1) (cs := #[.int .i64 a0_0, .slice A0_1 l0_1.length c0_1]) (t := 28) ?_; intro gb751 hg w20 hbox hb; have BK751 := Aside0.mk (hbox); have GE751 := geB HB hg; replace HB := bst HB hb; clear hb hbox hg; obtain ⟨hcz21_0, hcz21_1, hfz21_0, hfz21_1⟩ := blk2 BK751) | ((with_reducible refine gate_callee (f := 28) rfl ?_); refine goesQ (some 6) Tryd.func28 #[.agg #[.int .i64 a0_0, .slice A0_1 l0_1.length c0_1]] ?_; (with_reducible refine (impl_isSemi.calls k a0_0 _ _ l0_1 false _ ?side1 ?side2 ?side3 A2.out).mono ?_); (case side1 => exact C_g HR0_1 HB); (case side2 => exact HC0_1.out); (case side3 => first | exact HTAB.out | exact Tab.drewN HTAB.out _ | exact Tab.below HTAB.out (bel_g HB.out) | exact Tab.below HTAB.out (by repeat (first | exact Below.refl _ _ | apply below_alloc | apply pw_below_drewN | apply below_drew1))); rintro e w22 ⟨rfl, hb⟩; refine ⟨_, rfl, ?_⟩; replace BK751 := blkB BK751 hb; replace HB := bst HB hb; (try clear hb); (try clear hk)))
  go_ret2
  exact ⟨_, eqE, by first | exact Kd.R_nil _ _ _ _ _ | exact Kd.N_nil _ _ _ _ _ | exact Kd.V_nil _ _ _ _ _ | exact Kd.Q_nil _ _ _ _ _ | exact Kd.S_nil _ _ _ _ _, bel_g HB.out⟩

end Go.Proofs.YtjahodklmegglaaDoor.Q
