import Derived.Test.YtjahodklmegglaaDoorBFnExactStairOf0
import Derived.Test.YtjahodklmegglaaDoorBFnExactStairOf9
import Derived.Test.YtjahodklmegglaaDoorBFnExactStairOf10
-- printed by this project's own program (wip/mp/mp.py) over the kit's print, for this seat; Lean checks it
namespace Go.Proofs.YtjahodklmegglaaDoor.Q
open Go.RowKit Go.Proofs.YtjahodklmegglaaDoorW.PrintWords Go.Proofs.YtjahodklmegglaaDoorW.PrintLast Go.Proofs.YtjahodklmegglaaDoorW.PrintMore
attribute [local go_sem] max2_int min2_int max_two min_two max_three min_three max_four min_four   -- for this text's walks alone
set_option linter.unusedVariables false
set_option maxHeartbeats 8000000
set_option maxRecDepth 100000
set_option linter.unusedSimpArgs false

/-! ### spec_seTrace: function 47 -/
mutual
def spec_seTrace.l0 : Nat → List Int → Int → Int → List Int → Option (List Int)
 | 0, _, _, _, _ => none
 | k + 1, x3, x4, x526000, x526001 => if x4 < x526000 then (spec_seTrace.l1 k x3 x4 0 x526000 x526001) else (some x3)
def spec_seTrace.l1 : Nat → List Int → Int → Int → Int → List Int → Option (List Int)
 | 0, _, _, _, _, _ => none
 | k + 1, x3, x4, x5, x526000, x526001 => if x5 < (x3.length : Int) then (if 0 ≤ x5 then ((spec_seBefore.f k x526000 x526001 (rd x3 x5) x4).bind fun t527 => (if t527 = true then (spec_seTrace.l1 k x3 x4 (wrap64 (x5 + 1)) x526000 x526001) else (if x5 ≤ (x3.length : Int) then ((spec_l1Own.f (x3.take (x5 : Int).toNat)).bind fun t532 => (if t532.length < 17592186044416 then ((some (t532 ++ [x4] : List Int)).bind fun y535 => ((some (x3.drop (x5 : Int).toNat : List Int)).bind fun y538 => (if y535.length + y538.length < 17592186044416 then (spec_seTrace.l0 k (y535 ++ y538) (wrap64 (x4 + 1)) x526000 x526001) else (none)))) else (none))) else (none)))) else (none)) else (if 0 ≤ x5 then (if x5 ≤ (x3.length : Int) then ((spec_l1Own.f (x3.take (x5 : Int).toNat)).bind fun t549 => (if t549.length < 17592186044416 then ((some (t549 ++ [x4] : List Int)).bind fun y552 => ((some (x3.drop (x5 : Int).toNat : List Int)).bind fun y555 => (if y552.length + y555.length < 17592186044416 then (spec_seTrace.l0 k (y552 ++ y555) (wrap64 (x4 + 1)) x526000 x526001) else (none)))) else (none))) else (none)) else (none))
end
def spec_seTrace.f (k : Nat) (a0_0 : Int) (l0_1 : List Int) : Option (List Int) := spec_seTrace.l0 k ([] : List Int) 0 a0_0 l0_1
theorem spec_seTrace.mono_l : ∀ k, (∀ y0 y1 y2 y3, LeO (spec_seTrace.l0 k y0 y1 y2 y3) (spec_seTrace.l0 (k + 1) y0 y1 y2 y3)) ∧ (∀ y0 y1 y2 y3 y4, LeO (spec_seTrace.l1 k y0 y1 y2 y3 y4) (spec_seTrace.l1 (k + 1) y0 y1 y2 y3 y4))
 | 0 => ⟨fun _ _ _ _ r h => by simp [spec_seTrace.l0] at h, fun _ _ _ _ _ r h => by simp [spec_seTrace.l1] at h⟩
 | k + 1 => by
  obtain ⟨ih0, ih1⟩ := spec_seTrace.mono_l k
  refine ⟨?_, ?_⟩
  ·intro y0 y1 y2 y3
   unfold spec_seTrace.l0
   repeat' (with_reducible first|exact ih0 _ _ _ _|exact ih1 _ _ _ _ _|exact spec_seBefore.mono _ _ _ _ _|exact LeO.refl _|exact LeO.none _|refine LeO.ite ?_ ?_|refine LeO.bind ?_ (fun _ => ?_))
  ·intro y0 y1 y2 y3 y4
   unfold spec_seTrace.l1
   repeat' (with_reducible first|exact ih0 _ _ _ _|exact ih1 _ _ _ _ _|exact spec_seBefore.mono _ _ _ _ _|exact LeO.refl _|exact LeO.none _|refine LeO.ite ?_ ?_|refine LeO.bind ?_ (fun _ => ?_))
theorem spec_seTrace.mono : ∀ a0 a1 k, LeO (spec_seTrace.f k a0 a1) (spec_seTrace.f (k + 1) a0 a1) := by
 intro a0 a1 k
 obtain ⟨ih0, ih1⟩ := spec_seTrace.mono_l k
 unfold spec_seTrace.f
 repeat' (with_reducible first|exact ih0 _ _ _ _|exact ih1 _ _ _ _ _|exact spec_seBefore.mono _ _ _ _ _|exact LeO.refl _|exact LeO.none _|refine LeO.ite ?_ ?_|refine LeO.bind ?_ (fun _ => ?_))
def spec_seTrace.T6 : Bool × List (List Nat × List Nat) := (true, [([], []), ([], []), ([1], [1]), ([0, 2], [0, 2]), ([3], [3]), ([4], [4]), ([4], [4]), ([4], [4]), ([6, 7, 4], [4, 6, 7]), ([8, 4], [4, 8]), ([4], [4]), ([5, 9, 10, 4, 4], [4, 5, 9, 10]), ([4, 11], [4, 11])])
def spec_seTrace.B6 : List Nat := [0, 0, 2, 7, 15, 31, 31, 31, 223, 479, 31, 2047, 4095]
theorem spec_seTrace.tab6 : rtab .any (opsOf Tryd.f47 6) = spec_seTrace.T6 := by kernel_rfl
theorem spec_seTrace.bits6 : waitsOk spec_seTrace.T6.2 spec_seTrace.B6 = true := by kernel_rfl
theorem spec_seTrace.calls (k : Nat) (a0_0 : Int) (A0_1 : Option Addr) (c0_1 : Nat) (l0_1 : List Int) (r : List Int) (w : World) (hr0_1 : Kd.C (Kd.int .i64) w A0_1 l0_1.length l0_1) (hc0_1 : l0_1.length ≤ c0_1) (h : spec_seTrace.f k a0_0 l0_1 = some r) :
  Calls Tryd.prog 47 #[.agg #[.int .i64 a0_0, .slice A0_1 l0_1.length c0_1]] w fun e w' => ∃ v0_ : Value, e = .returned (v0_) ∧ Kd.R (Kd.int .i64) 3 w' w.heap.size (fun _ => True) v0_ r ∧ Below w.heap.size w w' := by
 have hu28 := Tryd.underlying28
 have HR0_1 := Aside0.mk hr0_1
 have HC0_1 := Aside0.mk hc0_1
 clear hr0_1 hc0_1
 have HB := Aside0.mk (Below.refl w.heap.size w)
 have H : (spec_seTrace.l0 k ([] : List Int) 0 a0_0 l0_1) = some r := h
 clear h
 have H' := Aside0.mk H
 clear H
 go_enter Tryd.func47, Tryd.ntmps47
 go_wp2_with (first | ((with_reducible refine gate_dst (N := 1) rfl ?_); refine boxE (N := 1) (cs := #[.int .i64 a0_0, .slice A0_1 l0_1.length c0_1]) (t := 28) ?_; intro gb525 hg w2 hbox hb; have BK525 := Aside0.mk (hbox); have GE525 := geB HB hg; replace HB := bst HB hb; clear hb hbox hg))
 go_loopg [3, 4] k (fun kq v3 v4 w' => ∃ (x3_1 : List Int) (x4_1 : Int), v4 = .int .i64 x4_1 ∧ Aside0 (spec_seTrace.l0 kq x3_1 x4_1 a0_0 l0_1 = some r) ∧ Aside0 (kq ≤ k) ∧ Aside0 (Kd.R (Kd.int .i64) 3 w' w.heap.size (fun _ => True) v3 x3_1) ∧ Aside0 (w'.heap[gb525]? = some (.cells #[.int .i64 a0_0, (.slice A0_1 l0_1.length c0_1)] 28 (0, 0))) ∧ Aside0 (Below w.heap.size w w'))
 case atStart => exact ⟨(([] : List Int)), (0), eqS, H', ⟨Nat.le_refl _⟩, ⟨by first | exact Kd.R_nil _ _ _ _ _ | exact Kd.N_nil _ _ _ _ _ | exact Kd.V_nil _ _ _ _ _ | exact Kd.Q_nil _ _ _ _ _ | exact Kd.S_nil _ _ _ _ _⟩, ⟨blk_g BK525.out⟩, ⟨bel_g HB.out⟩⟩
 case round =>
  clear H'
  obtain ⟨x3_1, x4_1, rfl, HA, HK1, HO_3, BK525, HB⟩ := hrel
  cases gk with
  | zero => exact absurd HA.out (by simp [spec_seTrace.l0])
  | succ k1 =>
   have H := HA.out
   clear HA
   simp only [spec_seTrace.l0] at H
   rcases iteE H with ⟨c3b0, H⟩ | ⟨c3b0, H⟩
   ·have H' := Aside0.mk H
    clear H
    obtain ⟨hcz4_0, hcz4_1, hfz4_0, hfz4_1⟩ := blk2 BK525
    go_wp2
    go_loopg [5] k1 (fun kq v5 w' => ∃ (x5_2 : Int), v5 = .int .i64 x5_2 ∧ Aside0 (spec_seTrace.l1 kq x3_1 x4_1 x5_2 a0_0 l0_1 = some r) ∧ Aside0 (kq ≤ k1) ∧ Aside0 (Kd.R (Kd.int .i64) 3 w' w.heap.size (fun _ => True) u3 x3_1) ∧ Aside0 (w'.heap[gb525]? = some (.cells #[.int .i64 a0_0, (.slice A0_1 l0_1.length c0_1)] 28 (0, 0))) ∧ Aside0 (Below w.heap.size w w'))
    case atStart => exact ⟨(0), eqS, H', ⟨Nat.le_refl _⟩, ⟨Kd.R_g HO_3.out⟩, ⟨blk_g BK525.out⟩, ⟨bel_g HB.out⟩⟩
    case round =>
     clear H'
     try clear c3b0
     try clear hcz4_0
     try clear hcz4_1
     try clear hfz4_0
     try clear hfz4_1
     obtain ⟨x5_2, rfl, HA, HK2, HO_3, BK525, HB⟩ := hrel
     cases gk with
     | zero => exact absurd HA.out (by simp [spec_seTrace.l1])
     | succ k2 =>
      have H := HA.out
      clear HA
      simp only [spec_seTrace.l1] at H
      rcases iteE H with ⟨c5b0, H⟩ | ⟨c5b0, H⟩
      ·rcases iteP H with ⟨c6, H⟩ | ⟨c6, H⟩
       ·have c6b0 : decide (0 ≤ x5_2) = true := decide_eq_true c6
        clear c6
        obtain ⟨t527, A7, H⟩ := obE H
        by_cases c8 : t527 = true
        ·subst c8
         replace H := ifT H
         have H' := Aside0.mk H
         clear H
         try go_wp2
         replace HO_3 := Aside0.mk (Kd.R_drew HO_3.out)
         replace BK525 := Aside0.mk (blk_drew BK525.out)
         replace HB := Aside0.mk (below_drew1 HB.out)
         obtain ⟨Ao10, co10, eo10⟩ := Kd.R_slice HO_3.out
         (first | subst eo10 | (injection eo10 with f1_ f2_ f3_; have f4_ := f1_.symm; have f5_ := f3_.symm; clear f1_ f2_ f3_; subst f4_; subst f5_))
         have p526 : 0 ≤ (x5_2 : Int) := ofd
         have q526 : x5_2 < (x3_1.length : Int) := ofd
         obtain ⟨ad526, e526, hx526_0⟩ := Kd.at_int (Kd.R_reads' HO_3.out).2.2 x5_2 p526 q526
         cases e526
         replace p526 := eq_true p526
         replace q526 := eq_true q526
         refine start_ (n := 13) (S := fun w' => w'.cell? ⟨gb525, 0, none⟩ = some (.int .i64 a0_0) ∧ w'.cell? ⟨gb525, 1, none⟩ = some (.slice A0_1 l0_1.length c0_1) ∧ w'.cell? (ad526.add (x5_2).toNat) = some (.int .i64 (rd x3_1 x5_2))) (ds := []) (bm 13 0) (by kernel_rfl) rfl (by kernel_rfl) ⟨(blk_cell BK525.out 0).trans rfl, (blk_cell BK525.out 1).trans rfl, hx526_0⟩ (fun hHeld => ?_); refine with_tabW spec_seTrace.tab6 spec_seTrace.bits6 (fun HT_ HW_ => ?_)
         generalize wr.drew = w9 at HO_3 BK525 HB hx526_0 hHeld ⊢
         refine pureW 0 (some 13) (bm 13 1) HT_ ?_
         refine pureW 1 (some 14) (bm 13 3) HT_ ?_
         refine pureW 2 (some 15) (bm 13 7) HT_ ?_
         refine pureW 3 (some 16) (bm 13 15) HT_ ?_
         refine pureW 4 (some 17) (bm 13 31) HT_ ?_
         refine pureW 6 (some 19) (bm 13 95) HT_ ?_
         refine pureW 7 (some 20) (bm 13 223) HT_ ?_
         refine pureW 8 (some 21) (bm 13 479) HT_ ?_
         refine pureW 10 (some 23) (bm 13 1503) HT_ ?_
         refine takeW 5 (some 18) (bm 13 1535) HT_ HW_ hHeld ?_
         refine takeW 9 (some 22) (bm 13 2047) HT_ HW_ hHeld ?_
         refine oneW 11 (some 24) (bm 13 4095) HT_ (fun K hK => ?_)
         refine goesR Tryd.func66 #[.agg #[.int .i64 a0_0, .slice A0_1 l0_1.length c0_1], .int .i64 (rd x3_1 x5_2), .int .i64 x4_1] ?_
         with_reducible refine (spec_seBefore.calls k2 a0_0 _ _ l0_1 (rd x3_1 x5_2) x4_1 true _ ?side1 ?side2 A7.out).mono ?_
         (case side1 => exact C_g HR0_1 HB)
         (case side2 => exact HC0_1.out)
         rintro e w11 ⟨rfl, hb⟩
         have HS2_ := (hb.cell (World.block_lt_of_cell? _ _ (hHeld.2.2))).trans (hHeld.2.2)
         refine ⟨_, rfl, ?_⟩
         replace HO_3 := Aside0.mk (Kd.R_below (Kd.R_g HO_3.out) hb)
         replace BK525 := blkB BK525 hb
         replace HB := bst HB hb
         (try clear hb)
         (try clear hb2)
         (try clear hk)
         (try clear hi)
         refine hK.out _ _ ⟨(blk_cell BK525.out 0).trans rfl, (blk_cell BK525.out 1).trans rfl, HS2_⟩ (fun hHeld => ?_)
         clear hK K
         refine normW 24 ?_
         refine pureW 12 (some 25) (bm 13 8191) HT_ ?_
         refine doneW HT_ ?_
         try go_wp2
         go_roundg k2
         case measure => have := HK1.out; have := HK2.out; omega
         case rel => exact ⟨(wrap64 (x5_2 + 1)), eqS, H', ⟨by have := HK1.out; have := HK2.out; omega⟩, ⟨Kd.R_g HO_3.out⟩, ⟨blk_g BK525.out⟩, ⟨bel_g HB.out⟩⟩
        ·replace c8 := Bool.eq_false_iff.mpr c8
         subst c8
         replace H := ifF H
         have c12b0 := eq_true (ofd : 0 ≤ x5_2)
         rcases iteP H with ⟨c13, H⟩ | ⟨c13, H⟩
         ·have c13b0 := eq_true c13
          have c13b1 : decide (x5_2 ≤ (x3_1.length : Int)) = true := decide_eq_true c13
          clear c13
          obtain ⟨y528, hy528⟩ : ∃ y_ : List Int, y_ = (x3_1.take (x5_2 : Int).toNat) := ⟨_, rfl⟩
          replace H : ((spec_l1Own.f y528).bind fun t532 => (if t532.length < 17592186044416 then ((some (t532 ++ [x4_1] : List Int)).bind fun y535 => ((some (x3_1.drop (x5_2 : Int).toNat : List Int)).bind fun y538 => (if y535.length + y538.length < 17592186044416 then (spec_seTrace.l0 k2 (y535 ++ y538) (wrap64 (x4_1 + 1)) a0_0 l0_1) else (none)))) else (none))) = some r := by first | (rw [hy528]; with_reducible exact H) | (have H2_ := (Option.bind_some _ _).symm.trans H; rw [hy528]; with_reducible exact H2_) | (have H2_ := (Option.bind_some _ _).symm.trans H; with_reducible exact H2_) | with_reducible exact H | (rw [hy528]; exact H) | exact H
          have Ny528 := Aside0.mk hy528
          clear hy528
          obtain ⟨t532, A14, H⟩ := obE H
          rcases iteP H with ⟨c15, H⟩ | ⟨c15, H⟩
          ·have LMc15 := Aside0.mk c15
           clear c15
           obtain ⟨y535, hy535⟩ : ∃ y_ : List Int, y_ = (t532 ++ [x4_1]) := ⟨_, rfl⟩
           replace H : ((some (x3_1.drop (x5_2 : Int).toNat : List Int)).bind fun y538 => (if y535.length + y538.length < 17592186044416 then (spec_seTrace.l0 k2 (y535 ++ y538) (wrap64 (x4_1 + 1)) a0_0 l0_1) else (none))) = some r := by first | (rw [hy535]; with_reducible exact H) | (have H2_ := (Option.bind_some _ _).symm.trans H; rw [hy535]; with_reducible exact H2_) | (have H2_ := (Option.bind_some _ _).symm.trans H; with_reducible exact H2_) | with_reducible exact H | (rw [hy535]; exact H) | exact H
           have Ny535 := Aside0.mk hy535
           clear hy535
           have c16b0 := eq_true (ofd : 0 ≤ x5_2)
           have c17b0 := eq_true (ofd : x5_2 ≤ (x3_1.length : Int))
           obtain ⟨y538, hy538⟩ : ∃ y_ : List Int, y_ = (x3_1.drop (x5_2 : Int).toNat) := ⟨_, rfl⟩
           replace H : (if y535.length + y538.length < 17592186044416 then (spec_seTrace.l0 k2 (y535 ++ y538) (wrap64 (x4_1 + 1)) a0_0 l0_1) else (none)) = some r := by first | (rw [hy538]; with_reducible exact H) | (have H2_ := (Option.bind_some _ _).symm.trans H; rw [hy538]; with_reducible exact H2_) | (have H2_ := (Option.bind_some _ _).symm.trans H; with_reducible exact H2_) | with_reducible exact H | (rw [hy538]; exact H) | exact H
           have Ny538 := Aside0.mk hy538
           clear hy538
           rcases iteP H with ⟨c18, H⟩ | ⟨c18, H⟩
           ·have LMc18 := Aside0.mk c18
            clear c18
            obtain ⟨y542, hy542⟩ : ∃ y_ : List Int, y_ = (y535 ++ y538) := ⟨_, rfl⟩
            replace H : (spec_seTrace.l0 k2 y542 (wrap64 (x4_1 + 1)) a0_0 l0_1) = some r := by first | (rw [hy542]; with_reducible exact H) | (have H2_ := (Option.bind_some _ _).symm.trans H; rw [hy542]; with_reducible exact H2_) | (have H2_ := (Option.bind_some _ _).symm.trans H; with_reducible exact H2_) | with_reducible exact H | (rw [hy542]; exact H) | exact H
            have Ny542 := Aside0.mk hy542
            clear hy542
            have H' := Aside0.mk H
            clear H
            try go_wp2
            replace HO_3 := Aside0.mk (Kd.R_drew HO_3.out)
            replace BK525 := Aside0.mk (blk_drew BK525.out)
            replace HB := Aside0.mk (below_drew1 HB.out)
            obtain ⟨Ao20, co20, eo20⟩ := Kd.R_slice HO_3.out
            (first | subst eo20 | (injection eo20 with f1_ f2_ f3_; have f4_ := f1_.symm; have f5_ := f3_.symm; clear f1_ f2_ f3_; subst f4_; subst f5_))
            have p526 : 0 ≤ (x5_2 : Int) := ofd
            have q526 : x5_2 < (x3_1.length : Int) := ofd
            obtain ⟨ad526, e526, hx526_0⟩ := Kd.at_int (Kd.R_reads' HO_3.out).2.2 x5_2 p526 q526
            cases e526
            replace p526 := eq_true p526
            replace q526 := eq_true q526
            refine start_ (n := 13) (S := fun w' => w'.cell? ⟨gb525, 0, none⟩ = some (.int .i64 a0_0) ∧ w'.cell? ⟨gb525, 1, none⟩ = some (.slice A0_1 l0_1.length c0_1) ∧ w'.cell? (ad526.add (x5_2).toNat) = some (.int .i64 (rd x3_1 x5_2))) (ds := []) (bm 13 0) (by kernel_rfl) rfl (by kernel_rfl) ⟨(blk_cell BK525.out 0).trans rfl, (blk_cell BK525.out 1).trans rfl, hx526_0⟩ (fun hHeld => ?_); refine with_tabW spec_seTrace.tab6 spec_seTrace.bits6 (fun HT_ HW_ => ?_)
            generalize wr.drew = w19 at HO_3 BK525 HB hx526_0 hHeld ⊢
            refine pureW 0 (some 13) (bm 13 1) HT_ ?_
            refine pureW 1 (some 14) (bm 13 3) HT_ ?_
            refine pureW 2 (some 15) (bm 13 7) HT_ ?_
            refine pureW 3 (some 16) (bm 13 15) HT_ ?_
            refine pureW 4 (some 17) (bm 13 31) HT_ ?_
            refine pureW 6 (some 19) (bm 13 95) HT_ ?_
            refine pureW 7 (some 20) (bm 13 223) HT_ ?_
            refine pureW 8 (some 21) (bm 13 479) HT_ ?_
            refine pureW 10 (some 23) (bm 13 1503) HT_ ?_
            refine takeW 5 (some 18) (bm 13 1535) HT_ HW_ hHeld ?_
            refine takeW 9 (some 22) (bm 13 2047) HT_ HW_ hHeld ?_
            refine oneW 11 (some 24) (bm 13 4095) HT_ (fun K hK => ?_)
            refine goesR Tryd.func66 #[.agg #[.int .i64 a0_0, .slice A0_1 l0_1.length c0_1], .int .i64 (rd x3_1 x5_2), .int .i64 x4_1] ?_
            with_reducible refine (spec_seBefore.calls k2 a0_0 _ _ l0_1 (rd x3_1 x5_2) x4_1 false _ ?side1 ?side2 A7.out).mono ?_
            (case side1 => exact C_g HR0_1 HB)
            (case side2 => exact HC0_1.out)
            rintro e w21 ⟨rfl, hb⟩
            have HS2_ := (hb.cell (World.block_lt_of_cell? _ _ (hHeld.2.2))).trans (hHeld.2.2)
            refine ⟨_, rfl, ?_⟩
            replace HO_3 := Aside0.mk (Kd.R_below (Kd.R_g HO_3.out) hb)
            replace BK525 := blkB BK525 hb
            replace HB := bst HB hb
            (try clear hb)
            (try clear hb2)
            (try clear hk)
            (try clear hi)
            refine hK.out _ _ ⟨(blk_cell BK525.out 0).trans rfl, (blk_cell BK525.out 1).trans rfl, HS2_⟩ (fun hHeld => ?_)
            clear hK K
            refine normW 24 ?_
            refine pureW 12 (some 25) (bm 13 8191) HT_ ?_
            refine doneW HT_ ?_
            have q22 : (x5_2 : Int) ≤ ((x3_1.length : Int) : Int) := ofd
            obtain ⟨i022, hi022, _, hsz22, _⟩ := info_parts info3
            have hroom22 : x3_1.length ≤ co20 := (Kd.R_reads' HO_3.out).2.1
            have hC22 : Kd.C (Kd.int .i64) _ (some ad526) x3_1.length x3_1 := (Kd.R_reads' HO_3.out).2.2
            have hcut22 := cut_to (P := Tryd.prog) 22 3 .i64 Tryd.underlying22 hi022 (some ad526) x3_1.length co20 x5_2 (ofd) q22 hroom22
            have hr22 := Kd.C_take (m := (x5_2 : Int).toNat) hC22 (by omega)
            have hy22 : y528.length = (x5_2 : Int).toNat := (by rw [Ny528.out, List.length_take]; omega)
            rw [← Ny528.out] at hr22
            rw [← hy22] at hcut22
            have HR531 := Aside0.mk hr22
            have HC531 := Aside0.mk (show y528.length ≤ co20 from by omega)
            clear hr22 hC22 hroom22 hi022 hsz22
            have KY22 := Aside0.mk hy22
            clear hy22
            have KL22 := Aside0.mk (show (x5_2 : Int).toNat ≤ x3_1.length from by omega)
            replace q22 := eq_true q22
            try go_wp2_with (first | ((with_reducible refine gate_callee (f := 67) rfl ?_); refine goesQ (some 31) Tryd.func67 #[.slice (some ad526) y528.length co20] ?_; (with_reducible refine (spec_l1Own.calls _ _ y528 t532 _ ?side1 ?side2 A14.out).mono ?_); (case side1 => exact C_h HR531); (case side2 => exact HC531.out); rintro e w23 ⟨v533, rfl, ho0, hb⟩; refine ⟨_, rfl, ?_⟩; have HO534 := Aside0.mk (Kd.R_lower (Kd.R_new' ho0 (Kd.R_lt (Kd.R_g HO_3.out))) (below_size (bel_g HB.out))); replace HO_3 := Aside0.mk (Kd.R_elder' (Kd.R_g HO_3.out) (Kd.R_base ho0) hb); replace BK525 := blkB BK525 hb; replace HR531 := Aside0.mk (Kd.C_below (C_h HR531) hb); replace HB := bst HB hb; (try clear hb); (try clear hk); (try clear ho0)) | ((with_reducible refine gate_builtin (b := .append) (xs := #[.tmp 31, .tmp 33]) rfl ?_); at_builtin; refine Kd.R_append (Kd.int .i64) (w0 := w) w.heap.size rfl (.tmp 31) (.tmp 33) 22 3 (.int .i64 0) 8 rfl Tryd.underlying22 info3 rfl (by decide) (by omega) v533 t532 x4_1 [.int .i64 x4_1] (fun k_ => some k_ ≠ (.slice (some ad526) x3_1.length co20 : Value).ownBlock) (fun _ => False) rfl rfl ?aP (fun _ hk => hk.elim) ?aF ?aO ?aB ?aS ?aL ?_; (case aP => exact rfl); (case aB => exact (bel_g HB.out)); (case aF => exact (fun k_ hk => Kd.fresh' (Kd.R_lt (Kd.R_g HO_3.out)) k_ hk)); (case aO => exact (Kd.R_g (Kd.R_mono HO534.out (fun _ hk => hk.2)))); (case aS => exact (below_size (bel_g HB.out))); (case aL => have := LMc15.out; omega); intro v536 w24 ho hb hg hat; rw [← Ny535.out] at ho; replace BK525 := Aside0.mk (blk_grown (g := gb525) (o := .cells #[.int .i64 a0_0, .slice A0_1 l0_1.length c0_1] 28 (0, 0)) (blk_g BK525.out) hg (Kd.R_ne HO534.out BK525.out (by decide))); replace HR531 := Aside0.mk ((show Kd.C (Kd.int .i64) w24 (some ad526) y528.length y528 from by rw [Ny528.out]; exact Kd.C_take (m := (x5_2 : Int).toNat) ((Kd.R_reads' (Kd.R_after (ok := (fun _ => True)) (Kd.R_g HO_3.out) hg hat)).2.2) KL22.out)); replace HO_3 := Aside0.mk (Kd.R_after (ok := (fun _ => True)) (Kd.R_g HO_3.out) hg hat); have HO537 := Aside0.mk (ho); replace HB := Aside0.mk (hb); clear HO534; clear ho hb hg hat; have q25 : (x5_2 : Int) ≤ ((x3_1.length : Int) : Int) := ofd; obtain ⟨i025, hi025, _, hsz25, _⟩ := info_parts info3; have hroom25 : x3_1.length ≤ co20 := (Kd.R_reads' HO_3.out).2.1; have hC25 : Kd.C (Kd.int .i64) _ (some ad526) x3_1.length x3_1 := (Kd.R_reads' HO_3.out).2.2; have q025 : (0 : Int) ≤ (x5_2 : Int) := ofd; have hcut25 := cut_from (P := Tryd.prog) 22 3 .i64 Tryd.underlying22 hi025 1 hsz25 (some ad526) x3_1.length co20 x5_2 q025 q25; have hr25 := Kd.C_drop (m := (x5_2 : Int).toNat) (c := co20) hC25 (by omega) hroom25; obtain ⟨A25, hA25⟩ : ∃ A1, A1 = (if co20 = (x5_2 : Int).toNat then (some ad526) else ((some ad526) : Option Addr).map (·.add ((x5_2 : Int).toNat * 1))) := ⟨_, rfl⟩; obtain ⟨c25, hc25⟩ : ∃ c1, c1 = co20 - (x5_2 : Int).toNat := ⟨_, rfl⟩; have hy25 : y538.length = x3_1.length - (x5_2 : Int).toNat := (by rw [Ny538.out, List.length_drop] <;> omega); rw [show (x3_1).drop (x5_2 : Int).toNat = y538 from Ny538.out.symm] at hr25; replace hr25 : Kd.C (Kd.int .i64) _ A25 y538.length y538 := (by rw [hA25]; exact hr25); rw [← hy25, ← hA25, ← hc25] at hcut25; have HR541 := Aside0.mk hr25; have HC541 := Aside0.mk (show y538.length ≤ c25 from by rw [hy25, hc25]; exact Nat.sub_le_sub_right hroom25 _); clear hr25 hC25 hroom25 hi025 hsz25 hc25; have KY25 := Aside0.mk hy25; have KA25 := Aside0.mk hA25; clear hy25 hA25; have KL25 := Aside0.mk (show (x5_2 : Int).toNat ≤ x3_1.length from by omega); replace q25 := eq_true q25) | ((with_reducible refine gate_builtin (b := .append) (xs := #[.tmp 35, .tmp 38]) rfl ?_); at_builtin; refine Kd.R_append_rows (Kd.int .i64) (w0 := w) w.heap.size rfl (.tmp 35) (.tmp 38) 22 3 (.int .i64 0) 8 rfl Tryd.underlying22 info3 rfl (by decide) (by omega) v536 y535 y538 _ _ _ (fun k_ => some k_ ≠ (.slice (some ad526) x3_1.length co20 : Value).ownBlock) (fun _ => False) rfl rfl ?aO ?aR (fun _ _ h => h) (fun _ h => h.elim) ?aF ?aB ?aS ?aL ?_; (case aR => exact C_h HR541); (case aB => exact (bel_g HB.out)); (case aF => exact (fun k_ hk => Kd.fresh' (Kd.R_lt (Kd.R_g HO_3.out)) k_ hk)); (case aO => exact (Kd.R_g HO537.out)); (case aS => exact (below_size (bel_g HB.out))); (case aL => have := LMc18.out; omega); intro v543 w26 ho hb hg hat; rw [← Ny542.out] at ho; replace BK525 := Aside0.mk (blk_grown (g := gb525) (o := .cells #[.int .i64 a0_0, .slice A0_1 l0_1.length c0_1] 28 (0, 0)) (blk_g BK525.out) hg (Kd.R_ne HO537.out BK525.out (by decide))); replace HR531 := Aside0.mk ((show Kd.C (Kd.int .i64) w26 (some ad526) y528.length y528 from by rw [Ny528.out]; exact Kd.C_take (m := (x5_2 : Int).toNat) ((Kd.R_reads' (Kd.R_after (ok := (fun _ => True)) (Kd.R_g HO_3.out) hg hat)).2.2) KL22.out)); replace HR541 := Aside0.mk ((show Kd.C (Kd.int .i64) w26 A25 y538.length y538 from by rw [Ny538.out, KA25.out]; exact Kd.C_drop (m := (x5_2 : Int).toNat) (c := co20) ((Kd.R_reads' (Kd.R_after (ok := (fun _ => True)) (Kd.R_g HO_3.out) hg hat)).2.2) KL25.out ((Kd.R_reads' (Kd.R_after (ok := (fun _ => True)) (Kd.R_g HO_3.out) hg hat)).2.1))); replace HO_3 := Aside0.mk (Kd.R_after (ok := (fun _ => True)) (Kd.R_g HO_3.out) hg hat); have HO544 := Aside0.mk (ho); replace HB := Aside0.mk (hb); clear HO537; clear ho hb hg hat))
            go_roundg k2
            case measure => have := HK1.out; have := HK2.out; omega
            case rel => exact ⟨(y542), (wrap64 (x4_1 + 1)), eqS, H', ⟨by have := HK1.out; have := HK2.out; omega⟩, ⟨Kd.R_g (Kd.R_mono HO544.out (fun _ hk => trivial))⟩, ⟨blk_g BK525.out⟩, ⟨bel_g HB.out⟩⟩
           ·exact absurd H (by simp)
          ·exact absurd H (by simp)
         ·exact absurd H (by simp)
       ·exact absurd H (by simp)
      ·rcases iteP H with ⟨c27, H⟩ | ⟨c27, H⟩
       ·have c27b0 := eq_true c27
        have c27b1 : decide (0 ≤ x5_2) = true := decide_eq_true c27
        clear c27
        rcases iteP H with ⟨c28, H⟩ | ⟨c28, H⟩
        ·have c28b0 := eq_true c28
         have c28b1 : decide (x5_2 ≤ (x3_1.length : Int)) = true := decide_eq_true c28
         clear c28
         obtain ⟨y545, hy545⟩ : ∃ y_ : List Int, y_ = (x3_1.take (x5_2 : Int).toNat) := ⟨_, rfl⟩
         replace H : ((spec_l1Own.f y545).bind fun t549 => (if t549.length < 17592186044416 then ((some (t549 ++ [x4_1] : List Int)).bind fun y552 => ((some (x3_1.drop (x5_2 : Int).toNat : List Int)).bind fun y555 => (if y552.length + y555.length < 17592186044416 then (spec_seTrace.l0 k2 (y552 ++ y555) (wrap64 (x4_1 + 1)) a0_0 l0_1) else (none)))) else (none))) = some r := by first | (rw [hy545]; with_reducible exact H) | (have H2_ := (Option.bind_some _ _).symm.trans H; rw [hy545]; with_reducible exact H2_) | (have H2_ := (Option.bind_some _ _).symm.trans H; with_reducible exact H2_) | with_reducible exact H | (rw [hy545]; exact H) | exact H
         have Ny545 := Aside0.mk hy545
         clear hy545
         obtain ⟨t549, A29, H⟩ := obE H
         rcases iteP H with ⟨c30, H⟩ | ⟨c30, H⟩
         ·have LMc30 := Aside0.mk c30
          clear c30
          obtain ⟨y552, hy552⟩ : ∃ y_ : List Int, y_ = (t549 ++ [x4_1]) := ⟨_, rfl⟩
          replace H : ((some (x3_1.drop (x5_2 : Int).toNat : List Int)).bind fun y555 => (if y552.length + y555.length < 17592186044416 then (spec_seTrace.l0 k2 (y552 ++ y555) (wrap64 (x4_1 + 1)) a0_0 l0_1) else (none))) = some r := by first | (rw [hy552]; with_reducible exact H) | (have H2_ := (Option.bind_some _ _).symm.trans H; rw [hy552]; with_reducible exact H2_) | (have H2_ := (Option.bind_some _ _).symm.trans H; with_reducible exact H2_) | with_reducible exact H | (rw [hy552]; exact H) | exact H
          have Ny552 := Aside0.mk hy552
          clear hy552
          have c31b0 := eq_true (ofd : 0 ≤ x5_2)
          have c32b0 := eq_true (ofd : x5_2 ≤ (x3_1.length : Int))
          obtain ⟨y555, hy555⟩ : ∃ y_ : List Int, y_ = (x3_1.drop (x5_2 : Int).toNat) := ⟨_, rfl⟩
          replace H : (if y552.length + y555.length < 17592186044416 then (spec_seTrace.l0 k2 (y552 ++ y555) (wrap64 (x4_1 + 1)) a0_0 l0_1) else (none)) = some r := by first | (rw [hy555]; with_reducible exact H) | (have H2_ := (Option.bind_some _ _).symm.trans H; rw [hy555]; with_reducible exact H2_) | (have H2_ := (Option.bind_some _ _).symm.trans H; with_reducible exact H2_) | with_reducible exact H | (rw [hy555]; exact H) | exact H
          have Ny555 := Aside0.mk hy555
          clear hy555
          rcases iteP H with ⟨c33, H⟩ | ⟨c33, H⟩
          ·have LMc33 := Aside0.mk c33
           clear c33
           obtain ⟨y559, hy559⟩ : ∃ y_ : List Int, y_ = (y552 ++ y555) := ⟨_, rfl⟩
           replace H : (spec_seTrace.l0 k2 y559 (wrap64 (x4_1 + 1)) a0_0 l0_1) = some r := by first | (rw [hy559]; with_reducible exact H) | (have H2_ := (Option.bind_some _ _).symm.trans H; rw [hy559]; with_reducible exact H2_) | (have H2_ := (Option.bind_some _ _).symm.trans H; with_reducible exact H2_) | with_reducible exact H | (rw [hy559]; exact H) | exact H
           have Ny559 := Aside0.mk hy559
           clear hy559
           have H' := Aside0.mk H
           clear H
           try go_wp2
           replace HO_3 := Aside0.mk (Kd.R_drew HO_3.out)
           replace BK525 := Aside0.mk (blk_drew BK525.out)
           replace HB := Aside0.mk (below_drew1 HB.out)
           obtain ⟨Ao35, co35, eo35⟩ := Kd.R_slice HO_3.out
           (first | subst eo35 | (injection eo35 with f1_ f2_ f3_; have f4_ := f1_.symm; have f5_ := f3_.symm; clear f1_ f2_ f3_; subst f4_; subst f5_))
           refine start_ (n := 13) (S := fun w' => True) (ds := []) (bm 13 0) (by kernel_rfl) rfl (by kernel_rfl) trivial (fun hHeld => ?_); refine with_tabW spec_seTrace.tab6 spec_seTrace.bits6 (fun HT_ HW_ => ?_)
           generalize wr.drew = w34 at HO_3 BK525 HB hHeld ⊢
           refine pureW 0 (some 13) (bm 13 1) HT_ ?_
           refine pureW 1 (some 14) (bm 13 3) HT_ ?_
           refine pureW 2 (some 15) (bm 13 7) HT_ ?_
           refine pureW 3 (some 16) (bm 13 15) HT_ ?_
           refine pureW 4 (some 17) (bm 13 31) HT_ ?_
           refine pure_ (i := 5) (N := some 18) (v := undef) (a' := ?_) (bm 13 63) rfl rfl (any_of HT_.out (by kernel_rfl)) (fun _ _ _ h => h) (Or.inr ⟨by rfl, rfl⟩) ?_ ?_
           rotate_left
           ·simp only [Act.put, List.setIfInBounds_toArray, List.set_cons_zero, List.set_cons_succ, i64_w, i32_w]
            rfl
           refine pure_ (i := 6) (N := some 19) (v := undef) (a' := ?_) (bm 13 127) rfl rfl (any_of HT_.out (by kernel_rfl)) (fun _ _ _ h => h) (Or.inr ⟨by rfl, rfl⟩) ?_ ?_
           rotate_left
           ·simp only [Act.put, List.setIfInBounds_toArray, List.set_cons_zero, List.set_cons_succ, i64_w, i32_w]
            rfl
           refine pure_ (i := 7) (N := some 20) (v := undef) (a' := ?_) (bm 13 255) rfl rfl (any_of HT_.out (by kernel_rfl)) (fun _ _ _ h => h) (Or.inr ⟨by rfl, rfl⟩) ?_ ?_
           rotate_left
           ·simp only [Act.put, List.setIfInBounds_toArray, List.set_cons_zero, List.set_cons_succ, i64_w, i32_w]
            rfl
           refine pure_ (i := 8) (N := some 21) (v := undef) (a' := ?_) (bm 13 511) rfl rfl (any_of HT_.out (by kernel_rfl)) (fun _ _ _ h => h) (Or.inr ⟨by rfl, rfl⟩) ?_ ?_
           rotate_left
           ·simp only [Act.put, List.setIfInBounds_toArray, List.set_cons_zero, List.set_cons_succ, i64_w, i32_w]
            rfl
           refine pure_ (i := 9) (N := some 22) (v := undef) (a' := ?_) (bm 13 1023) rfl rfl (any_of HT_.out (by kernel_rfl)) (fun _ _ _ h => h) (Or.inr ⟨by rfl, rfl⟩) ?_ ?_
           rotate_left
           ·simp only [Act.put, List.setIfInBounds_toArray, List.set_cons_zero, List.set_cons_succ, i64_w, i32_w]
            rfl
           refine pure_ (i := 10) (N := some 23) (v := undef) (a' := ?_) (bm 13 2047) rfl rfl (any_of HT_.out (by kernel_rfl)) (fun _ _ _ h => h) (Or.inr ⟨by rfl, rfl⟩) ?_ ?_
           rotate_left
           ·simp only [Act.put, List.setIfInBounds_toArray, List.set_cons_zero, List.set_cons_succ, i64_w, i32_w]
            rfl
           refine pure_ (i := 11) (N := some 24) (v := undef) (a' := ?_) (bm 13 4095) rfl rfl (any_of HT_.out (by kernel_rfl)) (fun _ _ _ h => h) (Or.inr ⟨by rfl, rfl⟩) ?_ ?_
           rotate_left
           ·simp only [Act.put, List.setIfInBounds_toArray, List.set_cons_zero, List.set_cons_succ, i64_w, i32_w]
            rfl
           refine pureW 12 (some 25) (bm 13 8191) HT_ ?_
           refine doneW HT_ ?_
           have q36 : (x5_2 : Int) ≤ ((x3_1.length : Int) : Int) := ofd
           obtain ⟨i036, hi036, _, hsz36, _⟩ := info_parts info3
           have hroom36 : x3_1.length ≤ co35 := (Kd.R_reads' HO_3.out).2.1
           have hC36 : Kd.C (Kd.int .i64) _ Ao35 x3_1.length x3_1 := (Kd.R_reads' HO_3.out).2.2
           have hcut36 := cut_to (P := Tryd.prog) 22 3 .i64 Tryd.underlying22 hi036 Ao35 x3_1.length co35 x5_2 (ofd) q36 hroom36
           have hr36 := Kd.C_take (m := (x5_2 : Int).toNat) hC36 (by omega)
           have hy36 : y545.length = (x5_2 : Int).toNat := (by rw [Ny545.out, List.length_take]; omega)
           rw [← Ny545.out] at hr36
           rw [← hy36] at hcut36
           have HR548 := Aside0.mk hr36
           have HC548 := Aside0.mk (show y545.length ≤ co35 from by omega)
           clear hr36 hC36 hroom36 hi036 hsz36
           have KY36 := Aside0.mk hy36
           clear hy36
           have KL36 := Aside0.mk (show (x5_2 : Int).toNat ≤ x3_1.length from by omega)
           replace q36 := eq_true q36
           try go_wp2_with (first | ((with_reducible refine gate_callee (f := 67) rfl ?_); refine goesQ (some 31) Tryd.func67 #[.slice Ao35 y545.length co35] ?_; (with_reducible refine (spec_l1Own.calls _ _ y545 t549 _ ?side1 ?side2 A29.out).mono ?_); (case side1 => exact C_h HR548); (case side2 => exact HC548.out); rintro e w37 ⟨v550, rfl, ho0, hb⟩; refine ⟨_, rfl, ?_⟩; have HO551 := Aside0.mk (Kd.R_lower (Kd.R_new' ho0 (Kd.R_lt (Kd.R_g HO_3.out))) (below_size (bel_g HB.out))); replace HO_3 := Aside0.mk (Kd.R_elder' (Kd.R_g HO_3.out) (Kd.R_base ho0) hb); replace BK525 := blkB BK525 hb; replace HR548 := Aside0.mk (Kd.C_below (C_h HR548) hb); replace HB := bst HB hb; (try clear hb); (try clear hk); (try clear ho0)) | ((with_reducible refine gate_builtin (b := .append) (xs := #[.tmp 31, .tmp 33]) rfl ?_); at_builtin; refine Kd.R_append (Kd.int .i64) (w0 := w) w.heap.size rfl (.tmp 31) (.tmp 33) 22 3 (.int .i64 0) 8 rfl Tryd.underlying22 info3 rfl (by decide) (by omega) v550 t549 x4_1 [.int .i64 x4_1] (fun k_ => some k_ ≠ (.slice Ao35 x3_1.length co35 : Value).ownBlock) (fun _ => False) rfl rfl ?aP (fun _ hk => hk.elim) ?aF ?aO ?aB ?aS ?aL ?_; (case aP => exact rfl); (case aB => exact (bel_g HB.out)); (case aF => exact (fun k_ hk => Kd.fresh' (Kd.R_lt (Kd.R_g HO_3.out)) k_ hk)); (case aO => exact (Kd.R_g (Kd.R_mono HO551.out (fun _ hk => hk.2)))); (case aS => exact (below_size (bel_g HB.out))); (case aL => have := LMc30.out; omega); intro v553 w38 ho hb hg hat; rw [← Ny552.out] at ho; replace BK525 := Aside0.mk (blk_grown (g := gb525) (o := .cells #[.int .i64 a0_0, .slice A0_1 l0_1.length c0_1] 28 (0, 0)) (blk_g BK525.out) hg (Kd.R_ne HO551.out BK525.out (by decide))); replace HR548 := Aside0.mk ((show Kd.C (Kd.int .i64) w38 Ao35 y545.length y545 from by rw [Ny545.out]; exact Kd.C_take (m := (x5_2 : Int).toNat) ((Kd.R_reads' (Kd.R_after (ok := (fun _ => True)) (Kd.R_g HO_3.out) hg hat)).2.2) KL36.out)); replace HO_3 := Aside0.mk (Kd.R_after (ok := (fun _ => True)) (Kd.R_g HO_3.out) hg hat); have HO554 := Aside0.mk (ho); replace HB := Aside0.mk (hb); clear HO551; clear ho hb hg hat; have q39 : (x5_2 : Int) ≤ ((x3_1.length : Int) : Int) := ofd; obtain ⟨i039, hi039, _, hsz39, _⟩ := info_parts info3; have hroom39 : x3_1.length ≤ co35 := (Kd.R_reads' HO_3.out).2.1; have hC39 : Kd.C (Kd.int .i64) _ Ao35 x3_1.length x3_1 := (Kd.R_reads' HO_3.out).2.2; have q039 : (0 : Int) ≤ (x5_2 : Int) := ofd; have hcut39 := cut_from (P := Tryd.prog) 22 3 .i64 Tryd.underlying22 hi039 1 hsz39 Ao35 x3_1.length co35 x5_2 q039 q39; have hr39 := Kd.C_drop (m := (x5_2 : Int).toNat) (c := co35) hC39 (by omega) hroom39; obtain ⟨A39, hA39⟩ : ∃ A1, A1 = (if co35 = (x5_2 : Int).toNat then Ao35 else (Ao35 : Option Addr).map (·.add ((x5_2 : Int).toNat * 1))) := ⟨_, rfl⟩; obtain ⟨c39, hc39⟩ : ∃ c1, c1 = co35 - (x5_2 : Int).toNat := ⟨_, rfl⟩; have hy39 : y555.length = x3_1.length - (x5_2 : Int).toNat := (by rw [Ny555.out, List.length_drop] <;> omega); rw [show (x3_1).drop (x5_2 : Int).toNat = y555 from Ny555.out.symm] at hr39; replace hr39 : Kd.C (Kd.int .i64) _ A39 y555.length y555 := (by rw [hA39]; exact hr39); rw [← hy39, ← hA39, ← hc39] at hcut39; have HR558 := Aside0.mk hr39; have HC558 := Aside0.mk (show y555.length ≤ c39 from by rw [hy39, hc39]; exact Nat.sub_le_sub_right hroom39 _); clear hr39 hC39 hroom39 hi039 hsz39 hc39; have KY39 := Aside0.mk hy39; have KA39 := Aside0.mk hA39; clear hy39 hA39; have KL39 := Aside0.mk (show (x5_2 : Int).toNat ≤ x3_1.length from by omega); replace q39 := eq_true q39) | ((with_reducible refine gate_builtin (b := .append) (xs := #[.tmp 35, .tmp 38]) rfl ?_); at_builtin; refine Kd.R_append_rows (Kd.int .i64) (w0 := w) w.heap.size rfl (.tmp 35) (.tmp 38) 22 3 (.int .i64 0) 8 rfl Tryd.underlying22 info3 rfl (by decide) (by omega) v553 y552 y555 _ _ _ (fun k_ => some k_ ≠ (.slice Ao35 x3_1.length co35 : Value).ownBlock) (fun _ => False) rfl rfl ?aO ?aR (fun _ _ h => h) (fun _ h => h.elim) ?aF ?aB ?aS ?aL ?_; (case aR => exact C_h HR558); (case aB => exact (bel_g HB.out)); (case aF => exact (fun k_ hk => Kd.fresh' (Kd.R_lt (Kd.R_g HO_3.out)) k_ hk)); (case aO => exact (Kd.R_g HO554.out)); (case aS => exact (below_size (bel_g HB.out))); (case aL => have := LMc33.out; omega); intro v560 w40 ho hb hg hat; rw [← Ny559.out] at ho; replace BK525 := Aside0.mk (blk_grown (g := gb525) (o := .cells #[.int .i64 a0_0, .slice A0_1 l0_1.length c0_1] 28 (0, 0)) (blk_g BK525.out) hg (Kd.R_ne HO554.out BK525.out (by decide))); replace HR548 := Aside0.mk ((show Kd.C (Kd.int .i64) w40 Ao35 y545.length y545 from by rw [Ny545.out]; exact Kd.C_take (m := (x5_2 : Int).toNat) ((Kd.R_reads' (Kd.R_after (ok := (fun _ => True)) (Kd.R_g HO_3.out) hg hat)).2.2) KL36.out)); replace HR558 := Aside0.mk ((show Kd.C (Kd.int .i64) w40 A39 y555.length y555 from by rw [Ny555.out, KA39.out]; exact Kd.C_drop (m := (x5_2 : Int).toNat) (c := co35) ((Kd.R_reads' (Kd.R_after (ok := (fun _ => True)) (Kd.R_g HO_3.out) hg hat)).2.2) KL39.out ((Kd.R_reads' (Kd.R_after (ok := (fun _ => True)) (Kd.R_g HO_3.out) hg hat)).2.1))); replace HO_3 := Aside0.mk (Kd.R_after (ok := (fun _ => True)) (Kd.R_g HO_3.out) hg hat); have HO561 := Aside0.mk (ho); replace HB := Aside0.mk (hb); clear HO554; clear ho hb hg hat))
           go_roundg k2
           case measure => have := HK1.out; have := HK2.out; omega
           case rel => exact ⟨(y559), (wrap64 (x4_1 + 1)), eqS, H', ⟨by have := HK1.out; have := HK2.out; omega⟩, ⟨Kd.R_g (Kd.R_mono HO561.out (fun _ hk => trivial))⟩, ⟨blk_g BK525.out⟩, ⟨bel_g HB.out⟩⟩
          ·exact absurd H (by simp)
         ·exact absurd H (by simp)
        ·exact absurd H (by simp)
       ·exact absurd H (by simp)
   ·obtain rfl := Option.some.inj H
    obtain ⟨hcz41_0, hcz41_1, hfz41_0, hfz41_1⟩ := blk2 BK525
    go_wp2
    go_ret
    exact ⟨_, eqE, by (with_reducible repeat (first | apply Kd.R_alloc | apply Kd.R_drewN | apply Kd.R_drew)); exact HO_3.out, bel_g HB.out⟩

end Go.Proofs.YtjahodklmegglaaDoor.Q
