import Derived.Test.YtjahodklmegglaaDoorBFnExactStairOf0
import Derived.Test.YtjahodklmegglaaDoorBFnExactStairOf4
-- printed by this project's own program (wip/mp/mp.py) over the kit's print, for this seat; Lean checks it
namespace Go.Proofs.YtjahodklmegglaaDoor.Q
open Go.RowKit Go.Proofs.YtjahodklmegglaaDoorW.PrintWords Go.Proofs.YtjahodklmegglaaDoorW.PrintLast Go.Proofs.YtjahodklmegglaaDoorW.PrintMore
attribute [local go_sem] max2_int min2_int max_two min_two max_three min_three max_four min_four   -- for this text's walks alone
set_option linter.unusedVariables false
set_option maxHeartbeats 8000000
set_option maxRecDepth 100000
set_option linter.unusedSimpArgs false

/-! ### spec_orFree: function 56 -/
def spec_orFree.f (k : Nat) (a0_0 : Int) (l0_1 : List Int) (a1 : Int) : Option (Int) := if 0 ≤ a0_0 then (if 0 ≤ a1 then (if a1 < (l0_1.length : Int) then ((spec_orBelow.f k a0_0 l0_1 a1).bind fun t126 => (some (Go.bits .andNot .i64 (wrap64 ((shl .i64 1 a0_0) - 1)) (Go.bits .or .i64 (Go.bits .or .i64 (rd l0_1 a1) t126) (shl .i64 1 a1))))) else (none)) else (none)) else (none)
theorem spec_orFree.mono : ∀ a0 a1 a2 k, LeO (spec_orFree.f k a0 a1 a2) (spec_orFree.f (k + 1) a0 a1 a2) := by
 intro a0 a1 a2 k
 unfold spec_orFree.f
 repeat' (with_reducible first|exact spec_orBelow.mono _ _ _ _|exact LeO.refl _|exact LeO.none _|refine LeO.ite ?_ ?_|refine LeO.bind ?_ (fun _ => ?_))
def spec_orFree.T1 : Bool × List (List Nat × List Nat) := (true, [([], []), ([0], [0]), ([1], [1]), ([2], [2]), ([], []), ([4], [4]), ([], []), ([5, 6], [5, 6]), ([7], [7]), ([], []), ([], []), ([9, 10], [9, 10]), ([8, 11], [8, 11]), ([], []), ([13], [13]), ([12, 14], [12, 14]), ([3, 15], [3, 15]), ([16, 11, 0, 1, 2, 3, 4, 5, 6, 7, 8, 9, 10, 11, 12, 13, 14, 15, 16], [16])])
def spec_orFree.B1 : List Nat := [0, 1, 3, 7, 0, 16, 0, 112, 240, 0, 0, 1536, 4080, 0, 8192, 32752, 65535, 131071]
theorem spec_orFree.tab1 : rtab .any (opsOf Tryd.f56 1) = spec_orFree.T1 := by kernel_rfl
theorem spec_orFree.bits1 : waitsOk spec_orFree.T1.2 spec_orFree.B1 = true := by kernel_rfl
theorem spec_orFree.calls (k : Nat) (a0_0 : Int) (A0_1 : Option Addr) (c0_1 : Nat) (l0_1 : List Int) (a1 : Int) (r : Int) (w : World) (hr0_1 : Kd.C (Kd.int .i64) w A0_1 l0_1.length l0_1) (hc0_1 : l0_1.length ≤ c0_1) (h : spec_orFree.f k a0_0 l0_1 a1 = some r) :
  Calls Tryd.prog 56 #[.agg #[.int .i64 a0_0, .slice A0_1 l0_1.length c0_1], .int .i64 a1] w fun e w' => e = .returned (.int .i64 r) ∧ Below w.heap.size w w' := by
 have hu28 := Tryd.underlying28
 have HR0_1 := Aside0.mk hr0_1
 have HC0_1 := Aside0.mk hc0_1
 clear hr0_1 hc0_1
 have HB := Aside0.mk (Below.refl w.heap.size w)
 have H : (if 0 ≤ a0_0 then (if 0 ≤ a1 then (if a1 < (l0_1.length : Int) then ((spec_orBelow.f k a0_0 l0_1 a1).bind fun t126 => (some (Go.bits .andNot .i64 (wrap64 ((shl .i64 1 a0_0) - 1)) (Go.bits .or .i64 (Go.bits .or .i64 (rd l0_1 a1) t126) (shl .i64 1 a1))))) else (none)) else (none)) else (none)) = some r := h
 clear h
 rcases iteP H with ⟨c3, H⟩ | ⟨c3, H⟩
 ·have c3b0 := eq_true c3
  have c3b1 : decide (0 ≤ a0_0) = true := decide_eq_true c3
  clear c3
  obtain ⟨ji4, hji4⟩ : ∃ j_ : Int, (shl .i64 1 a0_0) = j_ := ⟨_, rfl⟩
  replace H : (if 0 ≤ a1 then (if a1 < (l0_1.length : Int) then ((spec_orBelow.f k a0_0 l0_1 a1).bind fun t126 => (some (Go.bits .andNot .i64 (wrap64 ((ji4) - 1)) (Go.bits .or .i64 (Go.bits .or .i64 (rd l0_1 a1) t126) (shl .i64 1 a1))))) else (none)) else (none)) = some r := by first | (rw [hji4] at H; exact H) | (simp only [hji4] at H ⊢; exact H)
  have hji4_ : (IntKind.i64.wrap (1 * 2 ^ min a0_0.toNat 64)) = ji4 := hji4
  have hji4z : a0_0 ≤ 64 → (IntKind.i64.wrap (1 * 2 ^ a0_0.toNat)) = ji4 := shl_small hji4
  have hji4u : (IntKind.i64.wrap (2 ^ min a0_0.toNat 64)) = ji4 := by have h_ := hji4_; rw [Int.one_mul] at h_; exact h_
  have hji4v : a0_0 ≤ 64 → (IntKind.i64.wrap (2 ^ a0_0.toNat)) = ji4 := fun hle_ => by have h_ := hji4z hle_; rw [Int.one_mul] at h_; exact h_
  have hji4y : (wrap64 (1 * 2 ^ min a0_0.toNat 64)) = ji4 := (i64_w _).symm.trans hji4_
  have hji4x : a0_0 ≤ 64 → (wrap64 (1 * 2 ^ a0_0.toNat)) = ji4 := fun h_ => (i64_w _).symm.trans (hji4z h_)
  rcases iteP H with ⟨c5, H⟩ | ⟨c5, H⟩
  ·have c5b0 : decide (0 ≤ a1) = true := decide_eq_true c5
   clear c5
   rcases iteP H with ⟨c6, H⟩ | ⟨c6, H⟩
   ·have c6b0 : decide (a1 < (l0_1.length : Int)) = true := decide_eq_true c6
    clear c6
    obtain ⟨t126, A7, H⟩ := obE H
    have c8b0 := eq_true (ofd : 0 ≤ a1)
    obtain ⟨ji9, hji9⟩ : ∃ j_ : Int, (shl .i64 1 a1) = j_ := ⟨_, rfl⟩
    replace H : (some (Go.bits .andNot .i64 (wrap64 ((ji4) - 1)) (Go.bits .or .i64 (Go.bits .or .i64 (rd l0_1 a1) t126) (ji9)))) = some r := by first | (rw [hji9] at H; exact H) | (simp only [hji9] at H ⊢; exact H)
    (try rw [hji9] at A7)
    have hji9_ : (IntKind.i64.wrap (1 * 2 ^ min a1.toNat 64)) = ji9 := hji9
    have hji9z : a1 ≤ 64 → (IntKind.i64.wrap (1 * 2 ^ a1.toNat)) = ji9 := shl_small hji9
    have hji9u : (IntKind.i64.wrap (2 ^ min a1.toNat 64)) = ji9 := by have h_ := hji9_; rw [Int.one_mul] at h_; exact h_
    have hji9v : a1 ≤ 64 → (IntKind.i64.wrap (2 ^ a1.toNat)) = ji9 := fun hle_ => by have h_ := hji9z hle_; rw [Int.one_mul] at h_; exact h_
    have hji9y : (wrap64 (1 * 2 ^ min a1.toNat 64)) = ji9 := (i64_w _).symm.trans hji9_
    have hji9x : a1 ≤ 64 → (wrap64 (1 * 2 ^ a1.toNat)) = ji9 := fun h_ => (i64_w _).symm.trans (hji9z h_)
    obtain rfl := Option.some.inj H
    go_enter Tryd.func56, Tryd.ntmps56
    try go_wp2_with (first | ((with_reducible refine gate_dst (N := 2) rfl ?_); refine boxE (N := 2) (cs := #[.int .i64 a0_0, .slice A0_1 l0_1.length c0_1]) (t := 28) ?_; intro gb124 hg w10 hbox hb; have BK124 := Aside0.mk (hbox); have GE124 := geB HB hg; replace HB := bst HB hb; clear hb hbox hg))
    replace BK124 := Aside0.mk (blk_drew BK124.out)
    replace HB := Aside0.mk (below_drew1 HB.out)
    have p125 : 0 ≤ (a1 : Int) := ofd
    have q125 : a1 < (l0_1.length : Int) := ofd
    obtain ⟨ad125, e125, hx125_0⟩ := Kd.at_int HR0_1.out a1 p125 q125
    have hw125_0 := hx125_0
    cases e125
    replace hx125_0 := (HB.out.cell (World.block_lt_of_cell? w _ hx125_0)).trans hx125_0
    replace p125 := eq_true p125
    replace q125 := eq_true q125
    refine start_ (n := 18) (S := fun w' => w'.cell? ⟨gb124, 0, none⟩ = some (.int .i64 a0_0) ∧ w'.cell? ⟨gb124, 1, none⟩ = some (.slice (some ad125) l0_1.length c0_1) ∧ w'.cell? (ad125.add (a1).toNat) = some (.int .i64 (rd l0_1 a1))) (ds := []) (bm 18 0) (by kernel_rfl) rfl (by kernel_rfl) ⟨(blk_cell BK124.out 0).trans rfl, (blk_cell BK124.out 1).trans rfl, ((HB.out.cell (World.block_lt_of_cell? w _ hw125_0)).trans hw125_0)⟩ (fun hHeld => ?_); refine with_tabW spec_orFree.tab1 spec_orFree.bits1 (fun HT_ HW_ => ?_)
    generalize w10.drew = w11 at BK124 HB hx125_0 hHeld ⊢
    refine pureW 0 (some 5) (bm 18 1) HT_ ?_
    refine pureW 4 (some 9) (bm 18 17) HT_ ?_
    refine pureW 6 (some 11) (bm 18 81) HT_ ?_
    refine pureW 10 (some 15) (bm 18 1105) HT_ ?_
    refine pureW 13 (some 18) (bm 18 9297) HT_ ?_
    refine pureW 14 (some 19) (bm 18 25681) HT_ ?_
    refine takeW 1 (some 6) (bm 18 25683) HT_ HW_ hHeld ?_
    refine pureW 2 (some 7) (bm 18 25687) HT_ ?_
    refine pureW 3 (some 8) (bm 18 25695) HT_ ?_
    refine takeW 5 (some 10) (bm 18 25727) HT_ HW_ hHeld ?_
    refine pureW 7 (some 12) (bm 18 25855) HT_ ?_
    refine takeW 8 (some 13) (bm 18 26111) HT_ HW_ hHeld ?_
    refine takeW 9 (some 14) (bm 18 26623) HT_ HW_ hHeld ?_
    refine oneW 11 (some 16) (bm 18 28671) HT_ (fun K hK => ?_)
    refine goesR Tryd.func31 #[.agg #[.int .i64 a0_0, .slice (some ad125) l0_1.length c0_1], .int .i64 a1] ?_
    with_reducible refine (spec_orBelow.calls k a0_0 _ _ l0_1 a1 t126 _ ?side1 ?side2 A7.out).mono ?_
    (case side1 => exact C_g HR0_1 HB)
    (case side2 => exact HC0_1.out)
    rintro e w12 ⟨rfl, hb⟩
    refine ⟨_, rfl, ?_⟩
    replace BK124 := blkB BK124 hb
    replace HB := bst HB hb
    (try clear hb)
    (try clear hb2)
    (try clear hk)
    (try clear hi)
    refine hK.out _ _ ⟨(blk_cell BK124.out 0).trans rfl, (blk_cell BK124.out 1).trans rfl, ((HB.out.cell (World.block_lt_of_cell? w _ hw125_0)).trans hw125_0)⟩ (fun hHeld => ?_)
    clear hK K
    refine normW 16 ?_
    refine pureW 12 (some 17) (bm 18 32767) HT_ ?_
    refine pureW 15 (some 20) (bm 18 65535) HT_ ?_
    refine pureW 16 (some 21) (bm 18 131071) HT_ ?_
    refine pureW 17 (some 4) (bm 18 262143) HT_ ?_
    refine doneW HT_ ?_
    try go_wp2
    go_ret
    exact ⟨by first | rfl | (simp [errW_none, errW_some] <;> rfl) | (simp only [← hji4, ← hji9]; first | rfl | (simp [errW_none, errW_some] <;> rfl)) | (simp [*, errW_none, errW_some] <;> rfl), bel_g HB.out⟩
   ·exact absurd H (by simp)
  ·exact absurd H (by simp)
 ·exact absurd H (by simp)

end Go.Proofs.YtjahodklmegglaaDoor.Q
