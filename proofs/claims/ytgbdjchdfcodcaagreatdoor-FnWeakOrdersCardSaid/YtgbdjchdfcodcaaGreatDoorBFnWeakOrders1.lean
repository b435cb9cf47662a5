import Derived.Test.YtgbdjchdfcodcaaGreatDoorTie
import Derived.ProofKit
import Derived.LaidMore
import Derived.LaidOnce
import Derived.OpenShut
import Derived.MakeChecks
import Derived.Test.YtgbdjchdfcodcaaGreatDoorBFnWeakOrders0
namespace Go.Proofs.YtgbdjchdfcodcaaGreatDoor.Q
open Go.RowKit Go.Proofs.YtgbdjchdfcodcaaGreatDoorW.PrintWords Go.Proofs.YtgbdjchdfcodcaaGreatDoorW.PrintLast Go.Proofs.YtgbdjchdfcodcaaGreatDoorW.PrintMore
attribute [local go_sem] max2_int min2_int max_two min_two max_three min_three max_four min_four neB_f
set_option linter.unusedVariables false
set_option maxHeartbeats 8000000
set_option maxRecDepth 100000
set_option linter.unusedSimpArgs false
-- the table of a 64 bit number's last set bit, as the variable holds it
def dbtab : List Int := [0, 1, 56, 2, 57, 49, 28, 3, 61, 58, 42, 50, 38, 29, 17, 4, 62, 47, 59, 36, 45, 43, 51, 22, 53, 39, 33, 30, 24, 18, 12, 5, 63, 55, 48, 27, 60, 41, 37, 16, 46, 35, 44, 21, 52, 32, 23, 11, 54, 26, 40, 15, 34, 20, 31, 10, 25, 14, 19, 9, 13, 8, 7, 6]
def Tab (w : World) : Prop := 1 < w.heap.size ∧ ∀ i : Nat, i < 64 → w.cell? ⟨1, i, none⟩ = some (.int .u8 (dbtab.getD i 0))
theorem Tab.below {w W : World} (h : Tab w) (hb : Below w.heap.size w W) : Tab W := ⟨Nat.lt_of_lt_of_le h.1 hb.size, fun i hi => (hb.cell h.1).trans (h.2 i hi)⟩
theorem Tab.drewN {w : World} (h : Tab w) (m : Nat) : Tab (w.drewN m) := h.below (pw_below_drewN (Below.refl _ _) m)
def tzIdx (x : Int) : Int := IntKind.u64.wrap (Go.bits .and .u64 x (IntKind.u64.wrap (-x)) * 285870213051353865) / 288230376151711744
theorem tzIdx_range (x : Int) : 0 ≤ tzIdx x ∧ tzIdx x < 64 := by
 unfold tzIdx
 have : ∀ y : Int, 0 ≤ IntKind.u64.wrap y ∧ IntKind.u64.wrap y < 18446744073709551616 := by
  intro y; simp [IntKind.wrap, IntKind.signed, IntKind.bits]; omega
 have := this (Go.bits .and .u64 x (IntKind.u64.wrap (-x)) * 285870213051353865)
 omega
def bits_TrailingZeros64.f (a0 : Int) : Option Int := some (if a0 = 0 then 64 else wrap64 (dbtab.getD (tzIdx a0).toNat 0))
set_option maxHeartbeats 8000000 in
theorem bits_TrailingZeros64.calls (a0 : Int) (r : Int) (w : World) (hG : Tab w) (h : bits_TrailingZeros64.f a0 = some r) :
  Calls Tryz.prog 74 #[.int .u64 a0] w fun e w' => e = .returned (.int .i64 r) ∧ Drawn0 w w' := by
 obtain rfl := Option.some.inj h
 by_cases h0 : a0 = 0
 ·subst h0
  go_enter Tryz.func74, Tryz.ntmps74
  go_wp2
  go_ret
  exact ⟨rfl, Drawn0.refl _⟩
 ·rw [if_neg h0]
  have c1 : (a0 == 0) = false := beq_eq_false_iff_ne.mpr h0
  have hp := tzIdx_range a0
  have hx := hG.2 (tzIdx a0).toNat (by omega)
  unfold tzIdx at hp hx ⊢
  have hp1 := eq_true hp.1
  have hp2 := eq_true hp.2
  clear hp h hG h0
  go_enter Tryz.func74, Tryz.ntmps74
  go_wp2
  go_ret
  exact ⟨rfl, Drawn0.refl _⟩
end Go.Proofs.YtgbdjchdfcodcaaGreatDoor.Q
/- What the listed variables' condition gives: the table of last set bits lies in its variable; and a world that meets the condition. -/
namespace Go.Proofs.YtgbdjchdfcodcaaGreatDoor.Tied
open Go Go.ChangeShapes Go.WideShapes Go.ChangeAt Go.RowKit
theorem own : ownKnob Tryz.prog.godebug = none := by kernel_rfl
theorem laidOut : laidOutB Tryz.prog = true := by kernel_rfl
abbrev laid : List (String × DataW Unit) := [("math/bits.deBruijn32tab", Rows.laid_math_bits_deBruijn32tab), ("math/bits.deBruijn64tab", Rows.laid_math_bits_deBruijn64tab)]
theorem door_met (os : Os) (args : Array Value) : laidMetH Tryz.prog laid ((World.doorLaid Tryz.prog 19 os).forCall (fun _ _ => 0) ⟨#[], args, []⟩).memory :=
  laidMetH_of_parts3 (fuel := 8) (laidMet_of_run' 8 (by kernel_rfl) (by kernel_rfl)) (by kernel_rfl) (by kernel_rfl)
theorem table {H : Type} : (Rows.laid_math_bits_deBruijn64tab : DataW H) = .agg (Q.dbtab.map fun n => .lit (.int .u8 n)) := rfl
theorem tab_of_laid {W : World} (h : laidMetH Tryz.prog laid W) : Q.Tab W := by
  replace h : laidMet Tryz.prog laid W := h
  obtain ⟨ps, ⟨g0, t0, cs0, f0, p0, q0, hg0, ht0, hv0, hd0, ⟨g1, t1, cs1, f1, p1, q1, hg1, ht1, hv1, hd1, hrest, _⟩, _⟩, _, _⟩ := h
  obtain rfl := Option.some.inj ((show Tryz.prog.globalNamed "math/bits.deBruijn64tab" = some 1 by kernel_rfl).symm.trans hg1)
  obtain rfl := Option.some.inj ((show (Tryz.prog.globals[1]?).map (·.type) = some 77 by kernel_rfl).symm.trans ht1)
  rw [table] at hd1
  obtain ⟨xs, m, _, hx, hl, hlen, hf⟩ := DataW.trod_array (n := 64) (e := 5) (by kernel_rfl) hd1
  simp only [Prod.mk.injEq, DataW.agg.injEq] at hx
  have hc : Tryz.prog.cellsOf 5 = 1 := by kernel_rfl
  have key : ∀ i : Nat, i < 64 → W.cell? ⟨1, i, none⟩ = some (.int .u8 (Q.dbtab.getD i 0)) := by
    intro i hi
    have h1 := hf i hi
    rw [hc, Nat.mul_one, List.getElem?_eq_getElem (by omega)] at h1
    obtain ⟨n, e1, e2, _⟩ := DataW.trod_int (k := .u8) Tryz.underlying5 h1
    have h2 := congrArg (fun l : List (DataW Unit) => l[i]?) hx.1
    simp only [List.getElem?_map, List.getElem?_eq_getElem (show i < xs.length by omega), Option.map_some, e2] at h2
    have hb : i < Q.dbtab.length := hi
    rw [List.getElem?_eq_getElem hb] at h2
    simp only [Option.map_some, Option.some.injEq, DataW.lit.injEq, Lit.int.injEq, true_and] at h2
    have h3 := World.var?_cell hg1 hv1 i
    rw [h3, List.getD_eq_getElem?_getD, List.getElem?_eq_getElem hb, Option.getD_some, h2]
    have h4 : (cs1.toList.drop i)[0]? = some (.int .u8 n) := by
      have := congrArg (fun l : List Value => l[0]?) e1
      simpa using this
    simpa using h4
  exact ⟨World.block_lt_of_cell? W _ (key 0 (by omega)), key⟩
end Go.Proofs.YtgbdjchdfcodcaaGreatDoor.Tied
namespace Go.Proofs.YtgbdjchdfcodcaaGreatDoor.Q
open Go.RowKit Go.Proofs.YtgbdjchdfcodcaaGreatDoorW.PrintWords Go.Proofs.YtgbdjchdfcodcaaGreatDoorW.PrintLast Go.Proofs.YtgbdjchdfcodcaaGreatDoorW.PrintMore
attribute [local go_sem] max2_int min2_int max_two min_two max_three min_three max_four min_four neB_f
set_option linter.unusedVariables false
set_option maxHeartbeats 8000000
set_option maxRecDepth 100000
set_option linter.unusedSimpArgs false
def laws_big.f (l0 : List Int) (l1 : List Int) : Option (Bool) := if (l0.length : Int) > 1048576 then (some true) else (some (decide ((l1.length : Int) > (wrap64 (1048576 - (l0.length : Int))))))
theorem laws_big.calls (A0 : Option Addr) (c0 : Nat) (l0 : List Int) (A1 : Option Addr) (c1 : Nat) (l1 : List Int) (r : Bool) (w : World) (hr0 : Kd.C (Kd.int .u8) w A0 l0.length l0) (hc0 : l0.length ≤ c0) (hr1 : Kd.C (Kd.int .u8) w A1 l1.length l1) (hc1 : l1.length ≤ c1) (h : laws_big.f l0 l1 = some r) :
  Calls Tryz.prog 4 #[.slice A0 l0.length c0, .slice A1 l1.length c1] w fun e w' => e = .returned (.bool r) ∧ Drawn0 w w' := by
 have HR0 := mkA hr0
 have HC0 := mkA hc0
 clear hr0 hc0
 have HR1 := mkA hr1
 have HC1 := mkA hc1
 clear hr1 hc1
 have H := h
 clear h
 unfold laws_big.f at H
 rcases iteP H with ⟨c3, H⟩ | ⟨c3, H⟩
 ·have c3b0 := decide_eq_true c3
  have c3b1 : decide (1048576 < l0.length) = true := decide_eq_true (by omega)
  clear c3
  obtain rfl := Option.some.inj H
  go_enter Tryz.func4, Tryz.ntmps4
  go_wp2
  go_ret
  exact ⟨eqS, drE⟩
 ·have c3b0 := decide_eq_false c3
  have c3b1 : decide (1048576 < l0.length) = false := decide_eq_false (by omega)
  clear c3
  obtain rfl := Option.some.inj H
  go_enter Tryz.func4, Tryz.ntmps4
  go_wp2
  go_ret
  exact ⟨eqS, drE⟩
mutual
def spec_weOrder.l0 : Nat → List Int → List Int → Int → Int → Int → List Int → Option (Int × List Int)
 | 0, _, _, _, _, _, _ => none
 | k + 1, x0, x12, x13, x14, x103000, x103001 => if x14 < x13 then (if 0 ≤ x14 then (if x14 < (x12.length : Int) then (spec_weOrder.l1 k x0 (rd x12 x14) 0 x12 x13 x14 x0 (x0.length : Int) 0 x103000 x103001) else (none)) else (none)) else (some (x103000, x103001))
def spec_weOrder.l1 : Nat → List Int → Int → Int → List Int → Int → Int → List Int → Int → Int → Int → List Int → Option (Int × List Int)
 | 0, _, _, _, _, _, _, _, _, _, _, _ => none
 | k + 1, x0, x5, x6, x12, x13, x14, x18, x19, x20, x103000, x103001 => if x20 < x19 then (if 0 ≤ x20 then (if x20 < (x18.length : Int) then (if (rd x18 x20) > x5 then (spec_weOrder.l1 k x0 x5 (Go.bits .or .i64 x6 (shl .i64 1 x20)) x12 x13 x14 x18 x19 (wrap64 (x20 + 1)) x103000 x103001) else (spec_weOrder.l1 k x0 x5 x6 x12 x13 x14 x18 x19 (wrap64 (x20 + 1)) x103000 x103001)) else (none)) else (none)) else (if x103001.length < 17592186044416 then (spec_weOrder.l0 k x0 x12 x13 (wrap64 (x14 + 1)) x103000 (x103001 ++ [x6])) else (none))
end
def spec_weOrder.f (k : Nat) (l0 : List Int) : Option (Int × List Int) := spec_weOrder.l0 k l0 l0 (l0.length : Int) 0 (l0.length : Int) ([] : List Int)
theorem spec_weOrder.mono_l : ∀ k, (∀ y0 y1 y2 y3 y4 y5, LeO (spec_weOrder.l0 k y0 y1 y2 y3 y4 y5) (spec_weOrder.l0 (k + 1) y0 y1 y2 y3 y4 y5)) ∧ (∀ y0 y1 y2 y3 y4 y5 y6 y7 y8 y9 y10, LeO (spec_weOrder.l1 k y0 y1 y2 y3 y4 y5 y6 y7 y8 y9 y10) (spec_weOrder.l1 (k + 1) y0 y1 y2 y3 y4 y5 y6 y7 y8 y9 y10))
 | 0 => ⟨fun _ _ _ _ _ _ r h => by simp [spec_weOrder.l0] at h, fun _ _ _ _ _ _ _ _ _ _ _ r h => by simp [spec_weOrder.l1] at h⟩
 | k + 1 => by
  obtain ⟨ih0, ih1⟩ := spec_weOrder.mono_l k
  refine ⟨?_, ?_⟩ <;> intros
  unfold spec_weOrder.l0
  rotate_left
  unfold spec_weOrder.l1
  rotate_left
  all_goals repeat' (with_reducible first|apply ih0|apply ih1|apply LeO.refl|apply LeO.none|apply LeO.ite|apply LeO.bind|intro)
theorem spec_weOrder.mono : ∀ a0 k, LeO (spec_weOrder.f k a0) (spec_weOrder.f (k + 1) a0) := by
 intro a0 k
 obtain ⟨ih0, ih1⟩ := spec_weOrder.mono_l k
 unfold spec_weOrder.f
 repeat' (with_reducible first|apply ih0|apply ih1|apply LeO.refl|apply LeO.none|apply LeO.ite|apply LeO.bind|intro)
theorem spec_weOrder.calls (k : Nat) (A0 : Option Addr) (c0 : Nat) (l0 : List Int) (r1 : Int) (r2 : List Int) (w : World) (hr0 : Kd.C (Kd.int .i64) w A0 l0.length l0) (hc0 : l0.length ≤ c0) (h : spec_weOrder.f k l0 = some (r1, r2)) :
  Calls Tryz.prog 40 #[.slice A0 l0.length c0] w fun e w' => ∃ v1_ : Value, e = .returned (.agg #[.int .i64 r1, v1_]) ∧ Kd.R (Kd.int .i64) 3 w' w.heap.size (fun _ => True) v1_ r2 ∧ Below w.heap.size w w' := by
 have hu26 := Tryz.underlying26
 have HR0 := mkA hr0
 have HC0 := mkA hc0
 clear hr0 hc0
 have HB := mkA (Below.refl w.heap.size w)
 have H := h
 clear h
 unfold spec_weOrder.f at H
 have H' := mkA H
 clear H
 go_enter Tryz.func40, Tryz.ntmps40
 go_wp2_with (first | ((with_reducible refine gate_dst (N := 2) rfl ?_); refine boxG HB #[.int .i64 0, .slice none 0 0] 26 ?_; intro gb101 hg w2 BK101 GE101 hb; replace HB := bst HB hb; clear hb hg) | ((with_reducible refine gate_dst (N := 3) rfl ?_); refine boxG HB #[.int .i64 0, .slice none 0 0] 26 ?_; intro gb102 hg w3 BK102 GE102 hb; have NB101_102 := neL7 BK101 hg; have NB102_101 := neR7 BK101 hg; replace BK101 := blkB BK101 hb; replace HB := bst HB hb; clear hb hg; obtain ⟨_, _, _, _⟩ := blk2 BK102))
 go_loopg [14] k (fun kq v14 w' => ∃ (x14_1 : Int) (x103001_1 : List Int) (u103001 : Value), v14 = .int .i64 x14_1 ∧ Fc (spec_weOrder.l0 kq l0 l0 (l0.length : Int) x14_1 (l0.length : Int) x103001_1 = some (r1, r2)) ∧ Fc (kq ≤ k) ∧ Fc (Kd.R (Kd.int .i64) 3 w' w.heap.size (fun _ => True) u103001 x103001_1) ∧ Fc (w'.heap[gb101]? = some (.cells #[.int .i64 0, (.slice none 0 0)] 26 (0, 0))) ∧ Fc (w'.heap[gb102]? = some (.cells #[.int .i64 (l0.length : Int), u103001] 26 (0, 0))) ∧ Fc (Below w.heap.size w w'))
 case atStart => exact ⟨(0), (([] : List Int)), (.slice none 0 0), eqS, H', ⟨Nat.le_refl _⟩, ⟨nilE⟩, ⟨blkT BK101⟩, ⟨blkT BK102⟩, hbg HB⟩
 case round =>
  clear H'
  obtain ⟨x14_1, x103001_1, u103001, rfl, HA, HK1, HO_103001, BK101, BK102, HB⟩ := hrel
  cases gk with
  | zero => exact absurd HA.out (by simp [spec_weOrder.l0])
  | succ k1 =>
   have H := HA.out
   clear HA
   simp only [spec_weOrder.l0] at H
   rcases iteE H with ⟨c6b0, H⟩ | ⟨c6b0, H⟩
   ·obtain ⟨c7b0, H⟩ := itND H
    obtain ⟨c8b0, H⟩ := itND H
    have H' := mkA H
    clear H
    obtain ⟨p103, q103, ad103, e103, hx103_0⟩ := atI HR0.out x14_1
    cases e103
    replace hx103_0 := (HB.out.cell (World.block_lt_of_cell? w _ hx103_0)).trans hx103_0
    go_wp2
    go_loopg [6, 20] k1 (fun kq v6 v20 w' => ∃ (x6_2 : Int) (x20_2 : Int), v6 = .int .i64 x6_2 ∧ v20 = .int .i64 x20_2 ∧ Fc (spec_weOrder.l1 kq l0 (rd l0 x14_1) x6_2 l0 (l0.length : Int) x14_1 l0 (l0.length : Int) x20_2 (l0.length : Int) x103001_1 = some (r1, r2)) ∧ Fc (kq ≤ k1) ∧ Fc (Kd.R (Kd.int .i64) 3 w' w.heap.size (fun _ => True) u103001 x103001_1) ∧ Fc (w'.heap[gb101]? = some (.cells #[.int .i64 0, (.slice none 0 0)] 26 (0, 0))) ∧ Fc (w'.heap[gb102]? = some (.cells #[.int .i64 (l0.length : Int), u103001] 26 (0, 0))) ∧ Fc (Below w.heap.size w w'))
    case atStart => exact ⟨(0), (0), eqS, eqS, H', ⟨Nat.le_refl _⟩, rg HO_103001, bg BK101, bg BK102, hbg HB⟩
    case round =>
     clear H'
     try clear c6b0
     try clear c7
     try clear c7b0
     try clear c8
     try clear c8b0
     try clear hx103_0
     try clear p103
     try clear q103
     obtain ⟨x6_2, x20_2, rfl, rfl, HA, HK2, HO_103001, BK101, BK102, HB⟩ := hrel
     cases gk with
     | zero => exact absurd HA.out (by simp [spec_weOrder.l1])
     | succ k2 =>
      have H := HA.out
      clear HA
      simp only [spec_weOrder.l1] at H
      rcases iteE H with ⟨c9b0, H⟩ | ⟨c9b0, H⟩
      ·obtain ⟨c10b0, H⟩ := itND H
       obtain ⟨c11b0, H⟩ := itND H
       rcases iteP H with ⟨c12, H⟩ | ⟨c12, H⟩
       ·have c12b0 := decide_eq_true c12
        clear c12
        have c13b0 := eq_true (ofd : 0 ≤ x20_2)
        obtain ⟨ji14, hji14⟩ : ∃ j_ : Int, (shl .i64 1 x20_2) = j_ := ⟨_, rfl⟩
        first | rw [hji14] at H | simp only [hji14] at H
        have hji14_ : (IntKind.i64.wrap (1 * 2 ^ min x20_2.toNat 64)) = ji14 := hji14
        have hji14z : x20_2 ≤ 64 → (IntKind.i64.wrap (1 * 2 ^ x20_2.toNat)) = ji14 := shl_small hji14
        have hji14u : (IntKind.i64.wrap (2 ^ min x20_2.toNat 64)) = ji14 := by have h_ := hji14_; rw [Int.one_mul] at h_; exact h_
        have hji14v : x20_2 ≤ 64 → (IntKind.i64.wrap (2 ^ x20_2.toNat)) = ji14 := fun hle_ => by have h_ := hji14z hle_; rw [Int.one_mul] at h_; exact h_
        have hji14y : (wrap64 (1 * 2 ^ min x20_2.toNat 64)) = ji14 := (i64_w _).symm.trans hji14_
        have hji14x : x20_2 ≤ 64 → (wrap64 (1 * 2 ^ x20_2.toNat)) = ji14 := fun h_ => (i64_w _).symm.trans (hji14z h_)
        have H' := mkA H
        clear H
        obtain ⟨p104, q104, ad104, e104, hx104_0⟩ := atI HR0.out x20_2
        obtain rfl : ad103 = ad104 := (by injection e104)
        replace hx104_0 := (HB.out.cell (World.block_lt_of_cell? w _ hx104_0)).trans hx104_0
        go_wp2
        go_roundg k2
        case measure => have := HK1.out; have := HK2.out; omega
        case rel => exact ⟨(Go.bits .or .i64 x6_2 (ji14)), (wrap64 (x20_2 + 1)), (by first | rfl | (simp; done) | (simp only [← hji14] <;> (first | rfl | simp)) | (simp [*]; done)), eqS, H', ⟨by have := HK1.out; have := HK2.out; omega⟩, rg HO_103001, bg BK101, bg BK102, hbg HB⟩
       ·have c12b0 := decide_eq_false c12
        clear c12
        have H' := mkA H
        clear H
        obtain ⟨p104, q104, ad104, e104, hx104_0⟩ := atI HR0.out x20_2
        obtain rfl : ad103 = ad104 := (by injection e104)
        replace hx104_0 := (HB.out.cell (World.block_lt_of_cell? w _ hx104_0)).trans hx104_0
        go_wp2
        go_roundg k2
        case measure => have := HK1.out; have := HK2.out; omega
        case rel => exact ⟨(x6_2), (wrap64 (x20_2 + 1)), eqS, eqS, H', ⟨by have := HK1.out; have := HK2.out; omega⟩, rg HO_103001, bg BK101, bg BK102, hbg HB⟩
      ·obtain ⟨c15, H⟩ := itNP H
       have LMc15 := mkA c15
       clear c15
       obtain ⟨y105, hy105⟩ : ∃ y_ : List Int, y_ = (x103001_1 ++ [x6_2]) := ⟨_, rfl⟩
       rw [← hy105] at H
       have Ny105 := mkA hy105
       clear hy105
       have H' := mkA H
       clear H
       obtain ⟨_, _, _, _⟩ := blk2 BK102
       go_wp2_with (first | ((with_reducible refine gate_builtin (b := .append) (xs := #[.tmp 34, .tmp 36]) rfl ?_); at_builtin; refine Kd.R_append (Kd.int .i64) (w0 := w) w.heap.size rfl (.tmp 34) (.tmp 36) 24 3 (.int .i64 0) 8 rfl Tryz.underlying24 info3 rfl (by decide) (by omega) u103001 x103001_1 x6_2 [.int .i64 x6_2] (fun _ => True) (fun _ => False) rfl rfl ?aP (fun _ hk => hk.elim) ?aF ?aO ?aB ?aS ?aL ?_; (case aP => exact rfl); (case aB => exact (bel_g HB.out)); (case aF => exact (fun _ _ => trivial)); (case aO => exact (Kd.R_g HO_103001.out)); (case aS => exact (below_size (bel_g HB.out))); (case aL => have := LMc15.out; omega); intro v106 w18 ho hb hg hat; rw [← Ny105.out] at ho; replace BK101 := mkA (blk_grown (g := gb101) (o := .cells #[.int .i64 0, .slice none 0 0] 26 (0, 0)) (blk_g BK101.out) hg (Kd.R_ne HO_103001.out BK101.out (by decide))); replace BK102 := mkA (blk_grown (g := gb102) (o := .cells #[.int .i64 (l0.length : Int), u103001] 26 (0, 0)) (blk_g BK102.out) hg (Kd.R_ne HO_103001.out BK102.out (by decide))); have HO107 := mkA (ho); replace HB := mkA (hb); clear HO_103001; clear ho hb hg hat; obtain ⟨Ao19, co19, rfl⟩ := Kd.R_slice HO107.out; obtain ⟨_, _, _, _⟩ := blk2 BK102))
       go_roundg k2
       case measure => have := HK1.out; have := HK2.out; omega
       case rel => exact ⟨(wrap64 (x14_1 + 1)), (y105), (.slice Ao19 y105.length co19), eqS, H', ⟨by have := HK1.out; have := HK2.out; omega⟩, ⟨Kd.R_g (Kd.R_mono (Kd.R_far (p := ⟨gb102, 1, none⟩) (Kd.R_types HO107.out BK102.out (by decide)) (fun _ hk => hk.2) (.slice Ao19 y105.length co19)) (fun _ hk => trivial))⟩, ⟨blkT BK101⟩, ⟨blkT BK102⟩, hbg HB⟩
   ·simp only [Option.some.injEq, Prod.mk.injEq] at H
    obtain ⟨rfl, rfl⟩ := H
    obtain ⟨_, _, _, _⟩ := blk2 BK102
    obtain ⟨_, _, _, _⟩ := blk2 BK101
    obtain ⟨Ao24, co24, rfl⟩ := Kd.R_slice HO_103001.out
    go_wp2
    refine bodyPost_ret (results_cell_row rfl _ _ gb101 26 #[.int .i64 (l0.length : Int), .slice Ao24 x103001_1.length co24] (0, 0) _ rfl (blkT BK101) Tryz.underlying26 rfl (by kernel_rfl)) rfl ?_
    exact ⟨_, eqE, Kd.R_g (Kd.R_mono (rF HO_103001 BK101) (fun _ _ => trivial)), bel_g HB.out⟩
end Go.Proofs.YtgbdjchdfcodcaaGreatDoor.Q
