import Derived.Test.YtgdnljpallpjiaaDoorBFnExtensions8
import Derived.Test.YtgdnljpallpjiaaDoorBFnExtensions15
namespace Go.Proofs.YtgdnljpallpjiaaDoor.Q
open Go.RowKit Go.Proofs.YtgdnljpallpjiaaDoorW.PrintWords Go.Proofs.YtgdnljpallpjiaaDoorW.PrintLast Go.Proofs.YtgdnljpallpjiaaDoorW.PrintMore
attribute [local go_sem] max2_int min2_int max_two min_two max_three min_three max_four min_four neB_f
set_option linter.unusedVariables false
set_option maxHeartbeats 8000000
set_option maxRecDepth 100000
set_option linter.unusedSimpArgs false
def impl_isNaming.l0 : Nat → List Int → Int → Int → List Int → Int → Int → Option (Bool)
 | 0, _, _, _, _, _, _ => none
 | k + 1, x0, x1, x5, x13, x14, x15 => if x15 < x14 then (if 0 ≤ x15 then (if x15 < (x13.length : Int) then (if 0 ≤ (rd x13 x15) then (impl_isNaming.l0 k x0 x1 (Go.bits .or .i64 x5 (shl .i64 1 (rd x13 x15))) x13 x14 (wrap64 (x15 + 1))) else (none)) else (none)) else (none)) else (if (x0.length : Int) = x1 then (if 0 ≤ x1 then (some (x5 == (wrap64 ((shl .i64 1 x1) - 1)))) else (none)) else (some false))
def impl_isNaming.f (k : Nat) (l0 : List Int) (a1 : Int) : Option (Bool) := (impl_allWithin.f k l0 0 (wrap64 (a1 - 1))).bind fun t419 => (if t419 = true then (impl_isNaming.l0 k l0 a1 0 l0 (l0.length : Int) 0) else (some false))
theorem impl_isNaming.mono_l : ∀ k, (∀ y0 y1 y2 y3 y4 y5, LeO (impl_isNaming.l0 k y0 y1 y2 y3 y4 y5) (impl_isNaming.l0 (k + 1) y0 y1 y2 y3 y4 y5))
 | 0 => fun _ _ _ _ _ _ r h => by simp [impl_isNaming.l0] at h
 | k + 1 => by
  have ih0 := impl_isNaming.mono_l k
  ·intro y0 y1 y2 y3 y4 y5
   unfold impl_isNaming.l0
   repeat' (with_reducible first|exact ih0 _ _ _ _ _ _|exact impl_allWithin.mono _ _ _ _|exact LeO.refl _|exact LeO.none _|refine LeO.ite ?_ ?_|refine LeO.bind ?_ (fun _ => ?_))
theorem impl_isNaming.mono : ∀ a0 a1 k, LeO (impl_isNaming.f k a0 a1) (impl_isNaming.f (k + 1) a0 a1) := by
 intro a0 a1 k
 have ih0 := impl_isNaming.mono_l k
 unfold impl_isNaming.f
 repeat' (with_reducible first|exact ih0 _ _ _ _ _ _|exact impl_allWithin.mono _ _ _ _|exact LeO.refl _|exact LeO.none _|refine LeO.ite ?_ ?_|refine LeO.bind ?_ (fun _ => ?_))
theorem impl_isNaming.calls (k : Nat) (A0 : Option Addr) (c0 : Nat) (l0 : List Int) (a1 : Int) (r : Bool) (w : World) (hr0 : Kd.C (Kd.int .i64) w A0 l0.length l0) (hc0 : l0.length ≤ c0) (h : impl_isNaming.f k l0 a1 = some r) :
  Calls Tryd.prog 39 #[.slice A0 l0.length c0, .int .i64 a1] w fun e w' => e = .returned (.bool r) ∧ Drawn0 w w' := by
 have HR0 := mkA hr0
 have HC0 := mkA hc0
 clear hr0 hc0
 have H := h
 clear h
 unfold impl_isNaming.f at H
 obtain ⟨t419, A3, H⟩ := obE H
 by_cases c4 : t419 = true
 ·subst c4
  replace H := ifT H
  have H' := mkA H
  clear H
  go_enter Tryd.func39, Tryd.ntmps39
  go_wp2_with (first | ((with_reducible refine gate_callee (f := 46) rfl ?_); refine goesQ (some 11) Tryd.func46 #[.slice A0 l0.length c0, .int .i64 0, .int .i64 (wrap64 (a1 - 1))] ?_; (with_reducible refine (impl_allWithin.calls k _ _ l0 0 (wrap64 (a1 - 1)) true _ ?s1 ?s2 A3.out).mono ?_); (case s1 => repeat (first | exact HR0.out | (with_reducible refine Kd.C_alloc ?_ _) | (with_reducible refine Kd.C_drewN ?_ _) | (with_reducible refine Kd.C_drew ?_))); (case s2 => exact HC0.out); rintro e w' ⟨rfl, ⟨nd, rfl⟩⟩; refine ⟨_, rfl, ?_⟩))
  go_loopg [5, 15] k (fun kq v5 v15 w' => ∃ (x5_1 : Int) (x15_1 : Int), v5 = .int .i64 x5_1 ∧ v15 = .int .i64 x15_1 ∧ Fc (impl_isNaming.l0 kq l0 a1 x5_1 l0 (l0.length : Int) x15_1 = some r) ∧ Fc (kq ≤ k) ∧ Drawn0 w w')
  case atStart => exact ⟨(0), (0), eqS, eqS, H', ⟨Nat.le_refl _⟩, by repeat (first | exact Drawn0.refl _ | apply Drawn0.step)⟩
  case round =>
   clear H'
   try clear c4
   obtain ⟨x5_1, x15_1, rfl, rfl, HA, HK1, ⟨m1, rfl⟩⟩ := hrel
   cases gk with
   | zero => exact absurd HA.out (by simp [impl_isNaming.l0])
   | succ k1 =>
    have H := HA.out
    clear HA
    simp only [impl_isNaming.l0] at H
    rcases iteE H with ⟨c5b0, H⟩ | ⟨c5b0, H⟩
    ·obtain ⟨c6, H⟩ := itNP H
     have c6b0 : decide (0 ≤ x15_1) = true := decide_eq_true c6
     clear c6
     obtain ⟨c7, H⟩ := itNP H
     have c7b0 : decide (x15_1 < (l0.length : Int)) = true := decide_eq_true c7
     clear c7
     obtain ⟨c8, H⟩ := itNP H
     have c8b0 := eq_true c8
     have c8b1 : decide (0 ≤ (rd l0 x15_1)) = true := decide_eq_true c8
     clear c8
     obtain ⟨ji9, hji9⟩ : ∃ j_ : Int, (shl .i64 1 (rd l0 x15_1)) = j_ := ⟨_, rfl⟩
     replace H : (impl_isNaming.l0 k1 l0 a1 (Go.bits .or .i64 x5_1 (ji9)) l0 (l0.length : Int) (wrap64 (x15_1 + 1))) = some r := by first | (rw [hji9] at H; exact H) | (simp only [hji9] at H ⊢; exact H)
     have hji9_ : (IntKind.i64.wrap (1 * 2 ^ min (rd l0 x15_1).toNat 64)) = ji9 := hji9
     have hji9z : (rd l0 x15_1) ≤ 64 → (IntKind.i64.wrap (1 * 2 ^ (rd l0 x15_1).toNat)) = ji9 := shl_small hji9
     have hji9u : (IntKind.i64.wrap (2 ^ min (rd l0 x15_1).toNat 64)) = ji9 := by have h_ := hji9_; rw [Int.one_mul] at h_; exact h_
     have hji9v : (rd l0 x15_1) ≤ 64 → (IntKind.i64.wrap (2 ^ (rd l0 x15_1).toNat)) = ji9 := fun hle_ => by have h_ := hji9z hle_; rw [Int.one_mul] at h_; exact h_
     have hji9y : (wrap64 (1 * 2 ^ min (rd l0 x15_1).toNat 64)) = ji9 := (i64_w _).symm.trans hji9_
     have hji9x : (rd l0 x15_1) ≤ 64 → (wrap64 (1 * 2 ^ (rd l0 x15_1).toNat)) = ji9 := fun h_ => (i64_w _).symm.trans (hji9z h_)
     have H' := mkA H
     clear H
     have p420 : 0 ≤ (x15_1 : Int) := ofd
     have q420 : x15_1 < (l0.length : Int) := ofd
     obtain ⟨ad420, e420, hx420_0⟩ := Kd.at_int HR0.out x15_1 p420 q420
     cases e420
     replace p420 := eq_true p420
     replace q420 := eq_true q420
     go_wp2
     go_roundg k1
     case measure => have := HK1.out; omega
     case rel => exact ⟨(Go.bits .or .i64 x5_1 (ji9)), (wrap64 (x15_1 + 1)), (by first | rfl | (simp; done) | (simp only [← hji9] <;> (first | rfl | simp)) | (simp [*]; done)), eqS, H', ⟨by have := HK1.out; omega⟩, by repeat (first | exact Drawn0.refl _ | apply Drawn0.step)⟩
    ·rcases iteP H with ⟨c10, H⟩ | ⟨c10, H⟩
     ·have c10b0 : ((l0.length : Int) == a1) = true := beq_iff_eq.mpr c10
      have c10b1 : ((l0.length : Int) != a1) = false := bne_eq_false_iff_eq.mpr c10
      clear c10
      obtain ⟨c11, H⟩ := itNP H
      have c11b0 := eq_true c11
      have c11b1 : decide (0 ≤ a1) = true := decide_eq_true c11
      clear c11
      obtain ⟨ji12, hji12⟩ : ∃ j_ : Int, (shl .i64 1 a1) = j_ := ⟨_, rfl⟩
      replace H : (some (x5_1 == (wrap64 ((ji12) - 1)))) = some r := by first | (rw [hji12] at H; exact H) | (simp only [hji12] at H ⊢; exact H)
      have hji12_ : (IntKind.i64.wrap (1 * 2 ^ min a1.toNat 64)) = ji12 := hji12
      have hji12z : a1 ≤ 64 → (IntKind.i64.wrap (1 * 2 ^ a1.toNat)) = ji12 := shl_small hji12
      have hji12u : (IntKind.i64.wrap (2 ^ min a1.toNat 64)) = ji12 := by have h_ := hji12_; rw [Int.one_mul] at h_; exact h_
      have hji12v : a1 ≤ 64 → (IntKind.i64.wrap (2 ^ a1.toNat)) = ji12 := fun hle_ => by have h_ := hji12z hle_; rw [Int.one_mul] at h_; exact h_
      have hji12y : (wrap64 (1 * 2 ^ min a1.toNat 64)) = ji12 := (i64_w _).symm.trans hji12_
      have hji12x : a1 ≤ 64 → (wrap64 (1 * 2 ^ a1.toNat)) = ji12 := fun h_ => (i64_w _).symm.trans (hji12z h_)
      obtain rfl := Option.some.inj H
      go_wp2
      go_ret
      exact ⟨by first | rfl | (simp; done) | (simp only [← hji12] <;> (first | rfl | simp)) | (simp [*]; done), by repeat (first | exact Drawn0.refl _ | apply Drawn0.step)⟩
     ·have c10b0 : ((l0.length : Int) == a1) = false := beq_eq_false_iff_ne.mpr c10
      have c10b1 : ((l0.length : Int) != a1) = true := bne_iff_ne.mpr c10
      obtain rfl := Option.some.inj H
      go_wp2
      go_ret
      exact ⟨by first | rfl | (simp; done) | (simp [*]; done), by repeat (first | exact Drawn0.refl _ | apply Drawn0.step)⟩
 ·replace c4 := Bool.eq_false_iff.mpr c4
  subst c4
  replace H := ifF H
  obtain rfl := Option.some.inj H
  go_enter Tryd.func39, Tryd.ntmps39
  go_wp2_with (first | ((with_reducible refine gate_callee (f := 46) rfl ?_); refine goesQ (some 11) Tryd.func46 #[.slice A0 l0.length c0, .int .i64 0, .int .i64 (wrap64 (a1 - 1))] ?_; (with_reducible refine (impl_allWithin.calls k _ _ l0 0 (wrap64 (a1 - 1)) false _ ?s1 ?s2 A3.out).mono ?_); (case s1 => repeat (first | exact HR0.out | (with_reducible refine Kd.C_alloc ?_ _) | (with_reducible refine Kd.C_drewN ?_ _) | (with_reducible refine Kd.C_drew ?_))); (case s2 => exact HC0.out); rintro e w' ⟨rfl, ⟨nd, rfl⟩⟩; refine ⟨_, rfl, ?_⟩))
  go_ret
  exact ⟨by first | rfl | (simp; done) | (simp [*]; done), by repeat (first | exact Drawn0.refl _ | apply Drawn0.step)⟩
def impl_Order_isExtension.l0 : Nat → Int → List Int → Int → Int → Int → List Int → Option (Bool)
 | 0, _, _, _, _, _, _ => none
 | k + 1, x5, x16, x17, x18, x428000, x428001 => if x18 < x17 then (if 0 ≤ x18 then (if x18 < (x16.length : Int) then (if 0 ≤ (rd x16 x18) then (if (rd x16 x18) < (x428001.length : Int) then (if (Go.bits .andNot .i64 (rd x428001 (rd x16 x18)) x5) = 0 then (impl_Order_isExtension.l0 k (Go.bits .or .i64 x5 (shl .i64 1 (rd x16 x18))) x16 x17 (wrap64 (x18 + 1)) x428000 x428001) else (some false)) else (none)) else (none)) else (none)) else (none)) else (some true)
def impl_Order_isExtension.f (k : Nat) (a0_0 : Int) (l0_1 : List Int) (l1 : List Int) : Option (Bool) := (impl_isNaming.f k l1 a0_0).bind fun t422 => (if t422 = true then ((impl_Order_mirror.f k a0_0 l0_1).bind fun bt423 => (impl_Order_isExtension.l0 k 0 l1 (l1.length : Int) 0 bt423.1 bt423.2)) else (some false))
theorem impl_Order_isExtension.mono_l : ∀ k, (∀ y0 y1 y2 y3 y4 y5, LeO (impl_Order_isExtension.l0 k y0 y1 y2 y3 y4 y5) (impl_Order_isExtension.l0 (k + 1) y0 y1 y2 y3 y4 y5))
 | 0 => fun _ _ _ _ _ _ r h => by simp [impl_Order_isExtension.l0] at h
 | k + 1 => by
  have ih0 := impl_Order_isExtension.mono_l k
  ·intro y0 y1 y2 y3 y4 y5
   unfold impl_Order_isExtension.l0
   repeat' (with_reducible first|exact ih0 _ _ _ _ _ _|exact impl_Order_mirror.mono _ _ _|exact impl_isNaming.mono _ _ _|exact LeO.refl _|exact LeO.none _|refine LeO.ite ?_ ?_|refine LeO.bind ?_ (fun _ => ?_))
theorem impl_Order_isExtension.mono : ∀ a0 a1 a2 k, LeO (impl_Order_isExtension.f k a0 a1 a2) (impl_Order_isExtension.f (k + 1) a0 a1 a2) := by
 intro a0 a1 a2 k
 have ih0 := impl_Order_isExtension.mono_l k
 unfold impl_Order_isExtension.f
 repeat' (with_reducible first|exact ih0 _ _ _ _ _ _|exact impl_Order_mirror.mono _ _ _|exact impl_isNaming.mono _ _ _|exact LeO.refl _|exact LeO.none _|refine LeO.ite ?_ ?_|refine LeO.bind ?_ (fun _ => ?_))
theorem impl_Order_isExtension.calls (k : Nat) (a0_0 : Int) (A0_1 : Option Addr) (c0_1 : Nat) (l0_1 : List Int) (A1 : Option Addr) (c1 : Nat) (l1 : List Int) (r : Bool) (w : World) (hr0_1 : Kd.C (Kd.int .i64) w A0_1 l0_1.length l0_1) (hc0_1 : l0_1.length ≤ c0_1) (hr1 : Kd.C (Kd.int .i64) w A1 l1.length l1) (hc1 : l1.length ≤ c1) (h : impl_Order_isExtension.f k a0_0 l0_1 l1 = some r) :
  Calls Tryd.prog 24 #[.agg #[.int .i64 a0_0, .slice A0_1 l0_1.length c0_1], .slice A1 l1.length c1] w fun e w' => e = .returned (.bool r) ∧ Below w.heap.size w w' := by
 have hu26 := Tryd.underlying26
 have HR0_1 := mkA hr0_1
 have HC0_1 := mkA hc0_1
 clear hr0_1 hc0_1
 have HR1 := mkA hr1
 have HC1 := mkA hc1
 clear hr1 hc1
 have HB := mkA (Below.refl w.heap.size w)
 have H := h
 clear h
 unfold impl_Order_isExtension.f at H
 obtain ⟨t422, A3, H⟩ := obE H
 by_cases c4 : t422 = true
 ·subst c4
  replace H := ifT H
  obtain ⟨⟨t423, t424⟩, A5, H⟩ := obE H
  dsimp only at H
  have H' := mkA H
  clear H
  go_enter Tryd.func24, Tryd.ntmps24
  go_wp2_with (first | ((with_reducible refine gate_dst (N := 2) rfl ?_); refine boxE (N := 2) (cs := #[.int .i64 a0_0, .slice A0_1 l0_1.length c0_1]) (t := 26) ?_; intro gb421 hg w6 hbox hb; have BK421 := mkA (hbox); have GE421 := geB HB hg; replace HB := bst HB hb; clear hb hbox hg; obtain ⟨hcz7_0, hcz7_1, hfz7_0, hfz7_1⟩ := blk2 BK421) | ((with_reducible refine gate_callee (f := 39) rfl ?_); refine goesQ (some 12) Tryd.func39 #[.slice A1 l1.length c1, .int .i64 a0_0] ?_; (with_reducible refine (impl_isNaming.calls k _ _ l1 a0_0 true _ ?s1 ?s2 A3.out).mono ?_); (case s1 => exact C_g HR1 HB); (case s2 => exact HC1.out); rintro e w' ⟨rfl, ⟨nd, rfl⟩⟩; refine ⟨_, rfl, ?_⟩; (try (rw [drewN_self w6]; generalize hq_ : World.drewN w6 _ = w6; have n0_ : Fc (w6.heap[gb421]? = some (.cells #[.int .i64 a0_0, .slice A0_1 l0_1.length c0_1] 26 (0, 0))) := ⟨by rw [← hq_]; exact (blk_g BK421.out)⟩; have n1_ : Fc (Below w.heap.size w w6) := ⟨by rw [← hq_]; exact (bel_g HB.out)⟩; clear BK421 HB hq_; have BK421 := n0_; have HB := n1_; clear n0_ n1_)); (try obtain ⟨_, _, _, _⟩ := blk2 BK421)) | ((with_reducible refine gate_callee (f := 21) rfl ?_); refine goesQ (some 15) Tryd.func21 #[.agg #[.int .i64 a0_0, .slice A0_1 l0_1.length c0_1]] ?_; (with_reducible refine (impl_Order_mirror.calls k a0_0 _ _ l0_1 t423 t424 _ ?s1 ?s2 A5.out).mono ?_); (case s1 => exact C_g HR0_1 HB); (case s2 => exact HC0_1.out); rintro e w8 ⟨v425, rfl, ho0, hb⟩; refine ⟨_, rfl, ?_⟩; have HO426 := mkA (Kd.R_lower ho0 (below_size (bel_g HB.out))); replace BK421 := blkB BK421 hb; replace HB := bst HB hb; (try clear hb); (try clear hk); (try clear ho0)) | ((with_reducible refine gate_dst (N := 6) rfl ?_); refine boxE (N := 6) (cs := #[.int .i64 0, .slice none 0 0]) (t := 26) ?_; intro gb427 hg w9 hbox hb; replace HO426 := rB HO426 hb; have BK427 := mkA (hbox); have GE427 := geB HB hg; have NB421_427 := neL7 BK421 hg; have NB427_421 := neR7 BK421 hg; replace BK421 := blkB BK421 hb; replace HB := bst HB hb; clear hb hbox hg; obtain ⟨hcz11_0, hcz11_1, hfz11_0, hfz11_1⟩ := blk2 BK427; obtain ⟨Ao12, co12, eo12⟩ := Kd.R_slice HO426.out; subst eo12))
  go_loopg [5, 18] k (fun kq v5 v18 w' => ∃ (x5_1 : Int) (x18_1 : Int), v5 = .int .i64 x5_1 ∧ v18 = .int .i64 x18_1 ∧ Fc (impl_Order_isExtension.l0 kq x5_1 l1 (l1.length : Int) x18_1 t423 t424 = some r) ∧ Fc (kq ≤ k) ∧ Fc (Kd.R (Kd.int .i64) 3 w' w.heap.size (fun _ => True) (.slice Ao12 t424.length co12) t424) ∧ Fc (w'.heap[gb421]? = some (.cells #[.int .i64 a0_0, (.slice A0_1 l0_1.length c0_1)] 26 (0, 0))) ∧ Fc (w'.heap[gb427]? = some (.cells #[.int .i64 t423, (.slice Ao12 t424.length co12)] 26 (0, 0))) ∧ Fc (Below w.heap.size w w'))
  case atStart => exact ⟨(0), (0), eqS, eqS, H', ⟨Nat.le_refl _⟩, ⟨Kd.R_g (Kd.R_mono (Kd.R_far (p := ⟨gb427, 1, none⟩) (Kd.R_far (p := ⟨gb427, 0, none⟩) (Kd.R_types HO426.out BK427.out (by decide)) (fun _ hk => hk.2) (.int .i64 t423)) (fun _ hk => hk.2) (.slice Ao12 t424.length co12)) (fun _ hk => trivial))⟩, ⟨blkT BK421⟩, ⟨blkT BK427⟩, ⟨bel_g HB.out⟩⟩
  case round =>
   clear H'
   try clear c1
   try clear c4
   obtain ⟨x5_1, x18_1, rfl, rfl, HA, HK1, HO_428001, BK421, BK427, HB⟩ := hrel
   cases gk with
   | zero => exact absurd HA.out (by simp [impl_Order_isExtension.l0])
   | succ k1 =>
    have H := HA.out
    clear HA
    simp only [impl_Order_isExtension.l0] at H
    rcases iteE H with ⟨c13b0, H⟩ | ⟨c13b0, H⟩
    ·obtain ⟨c14, H⟩ := itNP H
     have c14b0 : decide (0 ≤ x18_1) = true := decide_eq_true c14
     clear c14
     obtain ⟨c15, H⟩ := itNP H
     have c15b0 : decide (x18_1 < (l1.length : Int)) = true := decide_eq_true c15
     clear c15
     obtain ⟨c16, H⟩ := itNP H
     have c16b0 : decide (0 ≤ (rd l1 x18_1)) = true := decide_eq_true c16
     clear c16
     obtain ⟨c17, H⟩ := itNP H
     have c17b0 : decide ((rd l1 x18_1) < (t424.length : Int)) = true := decide_eq_true c17
     clear c17
     rcases iteP H with ⟨c18, H⟩ | ⟨c18, H⟩
     ·have c18b0 : ((Go.bits .andNot .i64 (rd t424 (rd l1 x18_1)) x5_1) == 0) = true := beq_iff_eq.mpr c18
      have c18b1 : ((Go.bits .andNot .i64 (rd t424 (rd l1 x18_1)) x5_1) != 0) = false := bne_eq_false_iff_eq.mpr c18
      clear c18
      have c19b0 := eq_true (ofd : 0 ≤ (rd l1 x18_1))
      obtain ⟨ji20, hji20⟩ : ∃ j_ : Int, (shl .i64 1 (rd l1 x18_1)) = j_ := ⟨_, rfl⟩
      replace H : (impl_Order_isExtension.l0 k1 (Go.bits .or .i64 x5_1 (ji20)) l1 (l1.length : Int) (wrap64 (x18_1 + 1)) t423 t424) = some r := by first | (rw [hji20] at H; exact H) | (simp only [hji20] at H ⊢; exact H)
      have hji20_ : (IntKind.i64.wrap (1 * 2 ^ min (rd l1 x18_1).toNat 64)) = ji20 := hji20
      have hji20z : (rd l1 x18_1) ≤ 64 → (IntKind.i64.wrap (1 * 2 ^ (rd l1 x18_1).toNat)) = ji20 := shl_small hji20
      have hji20u : (IntKind.i64.wrap (2 ^ min (rd l1 x18_1).toNat 64)) = ji20 := by have h_ := hji20_; rw [Int.one_mul] at h_; exact h_
      have hji20v : (rd l1 x18_1) ≤ 64 → (IntKind.i64.wrap (2 ^ (rd l1 x18_1).toNat)) = ji20 := fun hle_ => by have h_ := hji20z hle_; rw [Int.one_mul] at h_; exact h_
      have hji20y : (wrap64 (1 * 2 ^ min (rd l1 x18_1).toNat 64)) = ji20 := (i64_w _).symm.trans hji20_
      have hji20x : (rd l1 x18_1) ≤ 64 → (wrap64 (1 * 2 ^ (rd l1 x18_1).toNat)) = ji20 := fun h_ => (i64_w _).symm.trans (hji20z h_)
      have H' := mkA H
      clear H
      have p428 : 0 ≤ (x18_1 : Int) := ofd
      have q428 : x18_1 < (l1.length : Int) := ofd
      obtain ⟨ad428, e428, hx428_0⟩ := Kd.at_int HR1.out x18_1 p428 q428
      cases e428
      replace hx428_0 := (HB.out.cell (World.block_lt_of_cell? w _ hx428_0)).trans hx428_0
      replace p428 := eq_true p428
      replace q428 := eq_true q428
      obtain ⟨hcz22_0, hcz22_1, hfz22_0, hfz22_1⟩ := blk2 BK427
      have p429 : 0 ≤ ((rd l1 x18_1) : Int) := ofd
      have q429 : (rd l1 x18_1) < (t424.length : Int) := ofd
      obtain ⟨ad429, e429, hx429_0⟩ := Kd.at_int (Kd.R_reads' HO_428001.out).2.2 (rd l1 x18_1) p429 q429
      cases e429
      replace p429 := eq_true p429
      replace q429 := eq_true q429
      go_wp2
      go_roundg k1
      case measure => have := HK1.out; omega
      case rel => exact ⟨(Go.bits .or .i64 x5_1 (ji20)), (wrap64 (x18_1 + 1)), (by first | rfl | (simp; done) | (simp only [← hji20] <;> (first | rfl | simp)) | (simp [*]; done)), eqS, H', ⟨by have := HK1.out; omega⟩, ⟨Kd.R_g HO_428001.out⟩, ⟨blk_g BK421.out⟩, ⟨blk_g BK427.out⟩, ⟨bel_g HB.out⟩⟩
     ·have c18b0 : ((Go.bits .andNot .i64 (rd t424 (rd l1 x18_1)) x5_1) == 0) = false := beq_eq_false_iff_ne.mpr c18
      have c18b1 : ((Go.bits .andNot .i64 (rd t424 (rd l1 x18_1)) x5_1) != 0) = true := bne_iff_ne.mpr c18
      obtain rfl := Option.some.inj H
      have p428 : 0 ≤ (x18_1 : Int) := ofd
      have q428 : x18_1 < (l1.length : Int) := ofd
      obtain ⟨ad428, e428, hx428_0⟩ := Kd.at_int HR1.out x18_1 p428 q428
      cases e428
      replace hx428_0 := (HB.out.cell (World.block_lt_of_cell? w _ hx428_0)).trans hx428_0
      replace p428 := eq_true p428
      replace q428 := eq_true q428
      obtain ⟨hcz24_0, hcz24_1, hfz24_0, hfz24_1⟩ := blk2 BK427
      have p429 : 0 ≤ ((rd l1 x18_1) : Int) := ofd
      have q429 : (rd l1 x18_1) < (t424.length : Int) := ofd
      obtain ⟨ad429, e429, hx429_0⟩ := Kd.at_int (Kd.R_reads' HO_428001.out).2.2 (rd l1 x18_1) p429 q429
      cases e429
      replace p429 := eq_true p429
      replace q429 := eq_true q429
      go_wp2
      go_ret
      exact ⟨eqE, bel_g HB.out⟩
    ·obtain rfl := Option.some.inj H
     go_wp2
     go_ret
     exact ⟨eqE, bel_g HB.out⟩
 ·replace c4 := Bool.eq_false_iff.mpr c4
  subst c4
  replace H := ifF H
  obtain rfl := Option.some.inj H
  go_enter Tryd.func24, Tryd.ntmps24
  go_wp2_with (first | ((with_reducible refine gate_dst (N := 2) rfl ?_); refine boxE (N := 2) (cs := #[.int .i64 a0_0, .slice A0_1 l0_1.length c0_1]) (t := 26) ?_; intro gb421 hg w25 hbox hb; have BK421 := mkA (hbox); have GE421 := geB HB hg; replace HB := bst HB hb; clear hb hbox hg; obtain ⟨hcz26_0, hcz26_1, hfz26_0, hfz26_1⟩ := blk2 BK421) | ((with_reducible refine gate_callee (f := 39) rfl ?_); refine goesQ (some 12) Tryd.func39 #[.slice A1 l1.length c1, .int .i64 a0_0] ?_; (with_reducible refine (impl_isNaming.calls k _ _ l1 a0_0 false _ ?s1 ?s2 A3.out).mono ?_); (case s1 => exact C_g HR1 HB); (case s2 => exact HC1.out); rintro e w' ⟨rfl, ⟨nd, rfl⟩⟩; refine ⟨_, rfl, ?_⟩))
  go_ret
  exact ⟨eqE, bel_g HB.out⟩
def impl_IsExtension.f (k : Nat) (a0_0 : Int) (l0_1 : List Int) (l1 : List Int) : Option (Bool × Bool) := (impl_IsOrder.f k a0_0 l0_1).bind fun t431 => (if t431 = true then ((impl_Order_isExtension.f k a0_0 l0_1 l1).bind fun t432 => (some (t432, true))) else (some (false, false)))
theorem impl_IsExtension.mono : ∀ a0 a1 a2 k, LeO (impl_IsExtension.f k a0 a1 a2) (impl_IsExtension.f (k + 1) a0 a1 a2) := by
 intro a0 a1 a2 k
 unfold impl_IsExtension.f
 repeat' (with_reducible first|exact impl_IsOrder.mono _ _ _|exact impl_Order_isExtension.mono _ _ _ _|exact LeO.refl _|exact LeO.none _|refine LeO.ite ?_ ?_|refine LeO.bind ?_ (fun _ => ?_))
theorem impl_IsExtension.calls (k : Nat) (a0_0 : Int) (A0_1 : Option Addr) (c0_1 : Nat) (l0_1 : List Int) (A1 : Option Addr) (c1 : Nat) (l1 : List Int) (r1 : Bool) (r2 : Bool) (w : World) (hr0_1 : Kd.C (Kd.int .i64) w A0_1 l0_1.length l0_1) (hc0_1 : l0_1.length ≤ c0_1) (hr1 : Kd.C (Kd.int .i64) w A1 l1.length l1) (hc1 : l1.length ≤ c1) (hTAB : Tab w) (h : impl_IsExtension.f k a0_0 l0_1 l1 = some (r1, r2)) :
  Calls Tryd.prog 14 #[.agg #[.int .i64 a0_0, .slice A0_1 l0_1.length c0_1], .slice A1 l1.length c1] w fun e w' => e = .returned (.tuple #[.bool r1, .bool r2]) ∧ Below w.heap.size w w' := by
 have HTAB := mkA hTAB
 clear hTAB
 have hu26 := Tryd.underlying26
 have HR0_1 := mkA hr0_1
 have HC0_1 := mkA hc0_1
 clear hr0_1 hc0_1
 have HR1 := mkA hr1
 have HC1 := mkA hc1
 clear hr1 hc1
 have HB := mkA (Below.refl w.heap.size w)
 have H := h
 clear h
 unfold impl_IsExtension.f at H
 obtain ⟨t431, A3, H⟩ := obE H
 by_cases c4 : t431 = true
 ·subst c4
  replace H := ifT H
  obtain ⟨t432, A5, H⟩ := obE H
  simp only [Option.some.injEq, Prod.mk.injEq] at H
  obtain ⟨rfl, rfl⟩ := H
  go_enter Tryd.func14, Tryd.ntmps14
  go_wp2_with (first | ((with_reducible refine gate_dst (N := 2) rfl ?_); refine boxE (N := 2) (cs := #[.int .i64 a0_0, .slice A0_1 l0_1.length c0_1]) (t := 26) ?_; intro gb430 hg w6 hbox hb; have BK430 := mkA (hbox); have GE430 := geB HB hg; replace HB := bst HB hb; clear hb hbox hg; obtain ⟨hcz7_0, hcz7_1, hfz7_0, hfz7_1⟩ := blk2 BK430) | ((with_reducible refine gate_callee (f := 20) rfl ?_); refine goesQ (some 7) Tryd.func20 #[.agg #[.int .i64 a0_0, .slice A0_1 l0_1.length c0_1]] ?_; (with_reducible refine (impl_IsOrder.calls k a0_0 _ _ l0_1 true _ ?s1 ?s2 ?s3 A3.out).mono ?_); (case s1 => exact C_g HR0_1 HB); (case s2 => exact HC0_1.out); (case s3 => exact Tab.below HTAB.out (bel_g HB.out)); rintro e w8 ⟨rfl, hb⟩; refine ⟨_, rfl, ?_⟩; replace BK430 := blkB BK430 hb; replace HB := bst HB hb; (try clear hb); obtain ⟨hcz9_0, hcz9_1, hfz9_0, hfz9_1⟩ := blk2 BK430) | ((with_reducible refine gate_callee (f := 24) rfl ?_); refine goesQ (some 11) Tryd.func24 #[.agg #[.int .i64 a0_0, .slice A0_1 l0_1.length c0_1], .slice A1 l1.length c1] ?_; (with_reducible refine (impl_Order_isExtension.calls k a0_0 _ _ l0_1 _ _ l1 t432 _ ?s1 ?s2 ?s3 ?s4 A5.out).mono ?_); (case s1 => exact C_g HR0_1 HB); (case s2 => exact HC0_1.out); (case s3 => exact C_g HR1 HB); (case s4 => exact HC1.out); rintro e w10 ⟨rfl, hb⟩; refine ⟨_, rfl, ?_⟩; replace BK430 := blkB BK430 hb; replace HB := bst HB hb; (try clear hb)))
  go_ret2
  exact ⟨eqE, bel_g HB.out⟩
 ·replace c4 := Bool.eq_false_iff.mpr c4
  subst c4
  replace H := ifF H
  simp only [Option.some.injEq, Prod.mk.injEq] at H
  obtain ⟨rfl, rfl⟩ := H
  go_enter Tryd.func14, Tryd.ntmps14
  go_wp2_with (first | ((with_reducible refine gate_dst (N := 2) rfl ?_); refine boxE (N := 2) (cs := #[.int .i64 a0_0, .slice A0_1 l0_1.length c0_1]) (t := 26) ?_; intro gb430 hg w11 hbox hb; have BK430 := mkA (hbox); have GE430 := geB HB hg; replace HB := bst HB hb; clear hb hbox hg; obtain ⟨hcz12_0, hcz12_1, hfz12_0, hfz12_1⟩ := blk2 BK430) | ((with_reducible refine gate_callee (f := 20) rfl ?_); refine goesQ (some 7) Tryd.func20 #[.agg #[.int .i64 a0_0, .slice A0_1 l0_1.length c0_1]] ?_; (with_reducible refine (impl_IsOrder.calls k a0_0 _ _ l0_1 false _ ?s1 ?s2 ?s3 A3.out).mono ?_); (case s1 => exact C_g HR0_1 HB); (case s2 => exact HC0_1.out); (case s3 => exact Tab.below HTAB.out (bel_g HB.out)); rintro e w13 ⟨rfl, hb⟩; refine ⟨_, rfl, ?_⟩; replace BK430 := blkB BK430 hb; replace HB := bst HB hb; (try clear hb)))
  go_ret2
  exact ⟨eqE, bel_g HB.out⟩
end Go.Proofs.YtgdnljpallpjiaaDoor.Q
