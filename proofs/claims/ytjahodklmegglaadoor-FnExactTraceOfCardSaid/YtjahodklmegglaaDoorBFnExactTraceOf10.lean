import Derived.Test.YtjahodklmegglaaDoorBFnExactTraceOf0
import Derived.Test.YtjahodklmegglaaDoorBFnExactTraceOf2
import Derived.Test.YtjahodklmegglaaDoorBFnExactTraceOf7
import Derived.Test.YtjahodklmegglaaDoorBFnExactTraceOf9
-- printed by this project's own program (wip/mp/mp.py) over the kit's print, for this seat; Lean checks it
namespace Go.Proofs.YtjahodklmegglaaDoor.Q
open Go.RowKit Go.Proofs.YtjahodklmegglaaDoorW.PrintWords Go.Proofs.YtjahodklmegglaaDoorW.PrintLast Go.Proofs.YtjahodklmegglaaDoorW.PrintMore
attribute [local go_sem] max2_int min2_int max_two min_two max_three min_three max_four min_four   -- for this text's walks alone
set_option linter.unusedVariables false
set_option maxHeartbeats 8000000
set_option maxRecDepth 100000
set_option linter.unusedSimpArgs false

/-! ### spec_TraceOf: function 17 -/
def spec_TraceOf.l0 : Nat → List Int → Int → Int → List Int → Option (List Int × Bool)
 | 0, _, _, _, _ => none
 | k + 1, x4, x5, x734000, x734001 => if x5 < x734000 then ((spec_orBelow.f k x734000 x734001 x5).bind fun t735 => ((spec_seMany.f k t735).bind fun t736 => (if 0 ≤ x5 then (if x5 < (x734001.length : Int) then ((spec_seMany.f k (rd x734001 x5)).bind fun t738 => (if x4.length < 17592186044416 then (spec_TraceOf.l0 k (x4 ++ [wrap64 (t736 - t738)]) (wrap64 (x5 + 1)) x734000 x734001) else (none))) else (none)) else (none)))) else ((spec_weOfNumbers.f k x4).bind fun t742 => (some (t742, true)))
def spec_TraceOf.f (k : Nat) (a0_0 : Int) (l0_1 : List Int) : Option (List Int × Bool) := (spec_seGood.f k a0_0 l0_1).bind fun t734 => (if t734 = true then (spec_TraceOf.l0 k ([] : List Int) 0 a0_0 l0_1) else (some (([] : List Int), false)))
theorem spec_TraceOf.mono_l : ∀ k, (∀ y0 y1 y2 y3, LeO (spec_TraceOf.l0 k y0 y1 y2 y3) (spec_TraceOf.l0 (k + 1) y0 y1 y2 y3))
 | 0 => fun _ _ _ _ r h => by simp [spec_TraceOf.l0] at h
 | k + 1 => by
  have ih0 := spec_TraceOf.mono_l k
  ·intro y0 y1 y2 y3
   unfold spec_TraceOf.l0
   repeat' (with_reducible first|exact ih0 _ _ _ _|exact spec_orBelow.mono _ _ _ _|exact spec_seGood.mono _ _ _|exact spec_seMany.mono _ _|exact spec_weOfNumbers.mono _ _|exact LeO.refl _|exact LeO.none _|refine LeO.ite ?_ ?_|refine LeO.bind ?_ (fun _ => ?_))
theorem spec_TraceOf.mono : ∀ a0 a1 k, LeO (spec_TraceOf.f k a0 a1) (spec_TraceOf.f (k + 1) a0 a1) := by
 intro a0 a1 k
 have ih0 := spec_TraceOf.mono_l k
 unfold spec_TraceOf.f
 repeat' (with_reducible first|exact ih0 _ _ _ _|exact spec_orBelow.mono _ _ _ _|exact spec_seGood.mono _ _ _|exact spec_seMany.mono _ _|exact spec_weOfNumbers.mono _ _|exact LeO.refl _|exact LeO.none _|refine LeO.ite ?_ ?_|refine LeO.bind ?_ (fun _ => ?_))
def spec_TraceOf.T7 : Bool × List (List Nat × List Nat) := (true, [([], []), ([], []), ([], []), ([1, 2], [1, 2]), ([3, 3], [3]), ([], []), ([5], [5]), ([], []), ([6, 7], [6, 7]), ([8], [8]), ([9, 4], [9]), ([4, 10], [4, 10]), ([11], [11]), ([0, 12, 10], [0, 12]), ([13, 13, 0, 1, 2, 3, 4, 5, 6, 7, 8, 9, 10, 11, 12, 13], [0, 13])])
def spec_TraceOf.B7 : List Nat := [0, 0, 0, 6, 14, 0, 32, 0, 224, 480, 1022, 2046, 4094, 8191, 16383]
theorem spec_TraceOf.tab7 : rtab .any (opsOf Tryd.f17 7) = spec_TraceOf.T7 := by kernel_rfl
theorem spec_TraceOf.bits7 : waitsOk spec_TraceOf.T7.2 spec_TraceOf.B7 = true := by kernel_rfl
theorem spec_TraceOf.calls (k : Nat) (a0_0 : Int) (A0_1 : Option Addr) (c0_1 : Nat) (l0_1 : List Int) (r1 : List Int) (r2 : Bool) (w : World) (hr0_1 : Kd.C (Kd.int .i64) w A0_1 l0_1.length l0_1) (hc0_1 : l0_1.length ≤ c0_1) (h : spec_TraceOf.f k a0_0 l0_1 = some (r1, r2)) :
  Calls Tryd.prog 17 #[.agg #[.int .i64 a0_0, .slice A0_1 l0_1.length c0_1]] w fun e w' => ∃ v0_ : Value, e = .returned (.tuple #[v0_, .bool r2]) ∧ Kd.R (Kd.int .i64) 3 w' w.heap.size (fun _ => True) v0_ r1 ∧ Below w.heap.size w w' := by
 have hu28 := Tryd.underlying28
 have HR0_1 := Aside0.mk hr0_1
 have HC0_1 := Aside0.mk hc0_1
 clear hr0_1 hc0_1
 have HB := Aside0.mk (Below.refl w.heap.size w)
 have H : ((spec_seGood.f k a0_0 l0_1).bind fun t734 => (if t734 = true then (spec_TraceOf.l0 k ([] : List Int) 0 a0_0 l0_1) else (some (([] : List Int), false)))) = some (r1, r2) := h
 clear h
 obtain ⟨t734, A2, H⟩ := obE H
 by_cases c3 : t734 = true
 ·subst c3
  replace H := ifT H
  have H' := Aside0.mk H
  clear H
  go_enter Tryd.func17, Tryd.ntmps17
  go_wp2_with (first | ((with_reducible refine gate_dst (N := 1) rfl ?_); refine boxE (N := 1) (cs := #[.int .i64 a0_0, .slice A0_1 l0_1.length c0_1]) (t := 28) ?_; intro gb733 hg w4 hbox hb; have BK733 := Aside0.mk (hbox); have GE733 := geB HB hg; replace HB := bst HB hb; clear hb hbox hg; obtain ⟨hcz5_0, hcz5_1, hfz5_0, hfz5_1⟩ := blk2 BK733) | ((with_reducible refine gate_callee (f := 26) rfl ?_); refine goesQ (some 7) Tryd.func26 #[.agg #[.int .i64 a0_0, .slice A0_1 l0_1.length c0_1]] ?_; (with_reducible refine (spec_seGood.calls k a0_0 _ _ l0_1 true _ ?side1 ?side2 A2.out).mono ?_); (case side1 => exact C_g HR0_1 HB); (case side2 => exact HC0_1.out); rintro e w6 ⟨rfl, hb⟩; refine ⟨_, rfl, ?_⟩; replace BK733 := blkB BK733 hb; replace HB := bst HB hb; (try clear hb); (try clear hk)))
  go_loopg [4, 5] k (fun kq v4 v5 w' => ∃ (x4_1 : List Int) (x5_1 : Int), v5 = .int .i64 x5_1 ∧ Aside0 (spec_TraceOf.l0 kq x4_1 x5_1 a0_0 l0_1 = some (r1, r2)) ∧ Aside0 (kq ≤ k) ∧ Aside0 (Kd.R (Kd.int .i64) 3 w' w.heap.size (fun _ => True) v4 x4_1) ∧ Aside0 (w'.heap[gb733]? = some (.cells #[.int .i64 a0_0, (.slice A0_1 l0_1.length c0_1)] 28 (0, 0))) ∧ Aside0 (Below w.heap.size w w'))
  case atStart => exact ⟨(([] : List Int)), (0), eqS, H', ⟨Nat.le_refl _⟩, ⟨by first | exact Kd.R_nil _ _ _ _ _ | exact Kd.N_nil _ _ _ _ _ | exact Kd.V_nil _ _ _ _ _ | exact Kd.Q_nil _ _ _ _ _ | exact Kd.S_nil _ _ _ _ _⟩, ⟨blk_g BK733.out⟩, ⟨bel_g HB.out⟩⟩
  case round =>
   clear H'
   try clear c3
   try clear hcz5_0
   try clear hcz5_1
   try clear hfz5_0
   try clear hfz5_1
   obtain ⟨x4_1, x5_1, rfl, HA, HK1, HO_4, BK733, HB⟩ := hrel
   cases gk with
   | zero => exact absurd HA.out (by simp [spec_TraceOf.l0])
   | succ k1 =>
    have H := HA.out
    clear HA
    simp only [spec_TraceOf.l0] at H
    rcases iteE H with ⟨c7b0, H⟩ | ⟨c7b0, H⟩
    ·obtain ⟨t735, A8, H⟩ := obE H
     obtain ⟨t736, A9, H⟩ := obE H
     rcases iteP H with ⟨c10, H⟩ | ⟨c10, H⟩
     ·have c10b0 : decide (0 ≤ x5_1) = true := decide_eq_true c10
      clear c10
      rcases iteP H with ⟨c11, H⟩ | ⟨c11, H⟩
      ·have c11b0 : decide (x5_1 < (l0_1.length : Int)) = true := decide_eq_true c11
       clear c11
       obtain ⟨t738, A12, H⟩ := obE H
       rcases iteP H with ⟨c13, H⟩ | ⟨c13, H⟩
       ·have LMc13 := Aside0.mk c13
        clear c13
        obtain ⟨y739, hy739⟩ : ∃ y_ : List Int, y_ = (x4_1 ++ [wrap64 (t736 - t738)]) := ⟨_, rfl⟩
        replace H : (spec_TraceOf.l0 k1 y739 (wrap64 (x5_1 + 1)) a0_0 l0_1) = some (r1, r2) := by first | (rw [hy739]; with_reducible exact H) | (have H2_ := (Option.bind_some _ _).symm.trans H; rw [hy739]; with_reducible exact H2_) | (have H2_ := (Option.bind_some _ _).symm.trans H; with_reducible exact H2_) | with_reducible exact H | (rw [hy739]; exact H) | exact H
        have Ny739 := Aside0.mk hy739
        clear hy739
        have H' := Aside0.mk H
        clear H
        obtain ⟨hcz14_0, hcz14_1, hfz14_0, hfz14_1⟩ := blk2 BK733
        try go_wp2
        replace HO_4 := Aside0.mk (Kd.R_drew HO_4.out)
        replace BK733 := Aside0.mk (blk_drew BK733.out)
        replace HB := Aside0.mk (below_drew1 HB.out)
        have p737 : 0 ≤ (x5_1 : Int) := ofd
        have q737 : x5_1 < (l0_1.length : Int) := ofd
        obtain ⟨ad737, e737, hx737_0⟩ := Kd.at_int HR0_1.out x5_1 p737 q737
        have hw737_0 := hx737_0
        cases e737
        replace hx737_0 := (HB.out.cell (World.block_lt_of_cell? w _ hx737_0)).trans hx737_0
        replace p737 := eq_true p737
        replace q737 := eq_true q737
        refine start_ (n := 15) (S := fun w' => w'.cell? ⟨gb733, 0, none⟩ = some (.int .i64 a0_0) ∧ w'.cell? ⟨gb733, 1, none⟩ = some (.slice (some ad737) l0_1.length c0_1) ∧ w'.cell? (ad737.add (x5_1).toNat) = some (.int .i64 (rd l0_1 x5_1))) (ds := []) (bm 15 0) (by kernel_rfl) rfl (by kernel_rfl) ⟨(blk_cell BK733.out 0).trans rfl, (blk_cell BK733.out 1).trans rfl, ((HB.out.cell (World.block_lt_of_cell? w _ hw737_0)).trans hw737_0)⟩ (fun hHeld => ?_); refine with_tabW spec_TraceOf.tab7 spec_TraceOf.bits7 (fun HT_ HW_ => ?_)
        generalize wr.drew = w15 at HO_4 BK733 HB hx737_0 hHeld ⊢
        refine pureW 0 (some 15) (bm 15 1) HT_ ?_
        refine pureW 2 (some 17) (bm 15 5) HT_ ?_
        refine pureW 5 (some 20) (bm 15 37) HT_ ?_
        refine pureW 7 (some 22) (bm 15 165) HT_ ?_
        refine takeW 1 (some 16) (bm 15 167) HT_ HW_ hHeld ?_
        refine takeW 6 (some 21) (bm 15 231) HT_ HW_ hHeld ?_
        refine pureW 8 (some 23) (bm 15 487) HT_ ?_
        refine takeW 9 (some 24) (bm 15 999) HT_ HW_ hHeld ?_
        refine oneW 3 (some 18) (bm 15 1007) HT_ (fun K hK => ?_)
        refine goesR Tryd.func31 #[.agg #[.int .i64 a0_0, .slice (some ad737) l0_1.length c0_1], .int .i64 x5_1] ?_
        with_reducible refine (spec_orBelow.calls k1 a0_0 _ _ l0_1 x5_1 t735 _ ?side1 ?side2 A8.out).mono ?_
        (case side1 => exact C_g HR0_1 HB)
        (case side2 => exact HC0_1.out)
        rintro e w16 ⟨rfl, hb⟩
        refine ⟨_, rfl, ?_⟩
        replace HO_4 := Aside0.mk (Kd.R_below (Kd.R_g HO_4.out) hb)
        replace BK733 := blkB BK733 hb
        replace HB := bst HB hb
        (try clear hb)
        (try clear hb2)
        (try clear hk)
        (try clear hi)
        refine hK.out _ _ ⟨(blk_cell BK733.out 0).trans rfl, (blk_cell BK733.out 1).trans rfl, ((HB.out.cell (World.block_lt_of_cell? w _ hw737_0)).trans hw737_0)⟩ (fun hHeld => ?_)
        clear hK K
        refine normW 18 ?_
        refine oneW 4 (some 19) (bm 15 1023) HT_ (fun K hK => ?_)
        refine goesR Tryd.func30 #[.int .i64 t735] ?_
        with_reducible refine (spec_seMany.calls k1 t735 t736 _ A9.out).mono ?_
        rintro e w17 ⟨rfl, hb⟩
        refine ⟨_, rfl, ?_⟩
        replace HO_4 := Aside0.mk (Kd.R_below (Kd.R_g HO_4.out) hb)
        replace BK733 := blkB BK733 hb
        replace HB := bst HB hb
        (try clear hb)
        (try clear hb2)
        (try clear hk)
        (try clear hi)
        refine hK.out _ _ ⟨(blk_cell BK733.out 0).trans rfl, (blk_cell BK733.out 1).trans rfl, ((HB.out.cell (World.block_lt_of_cell? w _ hw737_0)).trans hw737_0)⟩ (fun hHeld => ?_)
        clear hK K
        refine normW 19 ?_
        refine oneW 10 (some 25) (bm 15 2047) HT_ (fun K hK => ?_)
        refine goesR Tryd.func30 #[.int .i64 (rd l0_1 x5_1)] ?_
        with_reducible refine (spec_seMany.calls k1 (rd l0_1 x5_1) t738 _ A12.out).mono ?_
        rintro e w18 ⟨rfl, hb⟩
        refine ⟨_, rfl, ?_⟩
        replace HO_4 := Aside0.mk (Kd.R_below (Kd.R_g HO_4.out) hb)
        replace BK733 := blkB BK733 hb
        replace HB := bst HB hb
        (try clear hb)
        (try clear hb2)
        (try clear hk)
        (try clear hi)
        refine hK.out _ _ ⟨(blk_cell BK733.out 0).trans rfl, (blk_cell BK733.out 1).trans rfl, ((HB.out.cell (World.block_lt_of_cell? w _ hw737_0)).trans hw737_0)⟩ (fun hHeld => ?_)
        clear hK K
        refine normW 25 ?_
        refine pureW 11 (some 26) (bm 15 4095) HT_ ?_
        refine oneW 12 (some 27) (bm 15 8191) HT_ (fun K hK => ?_)
        refine value_ (w1 := ?_) (v := ?_) (by rfl) rfl ?_ ?_
        rotate_left 2
        ·go_simp
         constructor
         ·rfl
         ·rfl
        refine hK.out _ _ ⟨(blk_cell (blk_alloc BK733.out _) 0).trans rfl, (blk_cell (blk_alloc BK733.out _) 1).trans rfl, (World.cell?_alloc_lt _ _ _ (World.block_lt_of_cell? _ _ (((HB.out.cell (World.block_lt_of_cell? w _ hw737_0)).trans hw737_0)))).trans (((HB.out.cell (World.block_lt_of_cell? w _ hw737_0)).trans hw737_0))⟩ (fun hHeld => ?_)
        clear hK K
        refine normW 27 ?_
        refine oneW 13 (some 28) (bm 15 16383) HT_ (fun K hK => ?_)
        refine Kd.R_append_step (Kd.int .i64) (w0 := w) w.heap.size (by rfl) (.tmp 15) (.tmp 27) 22 3 (.int .i64 0) 8 rfl Tryd.underlying22 info3 rfl (by decide) (by omega) u4 x4_1 (wrap64 (t736 - t738)) [.int .i64 (wrap64 (t736 - t738))] (fun _ => True) (fun _ => False) rfl rfl ?aP (fun _ hk => hk.elim) ?aF ?aO ?aB ?aS ?aL ?_
        (case aP => exact rfl)
        (case aB => exact (bel_g HB.out))
        (case aF => exact (fun _ _ => trivial))
        (case aO => exact (Kd.R_g HO_4.out))
        (case aS => exact (below_size (bel_g HB.out)))
        (case aL => have := LMc13.out; omega)
        intro v740 w19 ho hb hg hat
        rw [← Ny739.out] at ho
        replace BK733 := Aside0.mk (blk_grown (g := gb733) (o := .cells #[.int .i64 a0_0, .slice (some ad737) l0_1.length c0_1] 28 (0, 0)) (blk_g BK733.out) hg (Kd.R_ne HO_4.out BK733.out (by decide)))
        have HO741 := Aside0.mk (ho)
        replace HB := Aside0.mk (hb)
        clear HO_4
        clear ho hb hg hat
        refine hK.out _ _ ⟨(blk_cell BK733.out 0).trans rfl, (blk_cell BK733.out 1).trans rfl, ((HB.out.cell (World.block_lt_of_cell? w _ hw737_0)).trans hw737_0)⟩ (fun hHeld => ?_)
        clear hK K
        refine normW 28 ?_
        refine pureW 14 (some 4) (bm 15 32767) HT_ ?_
        refine doneW HT_ ?_
        try go_wp2
        go_roundg k1
        case measure => have := HK1.out; omega
        case rel => exact ⟨(y739), (wrap64 (x5_1 + 1)), eqS, H', ⟨by have := HK1.out; omega⟩, ⟨Kd.R_g HO741.out⟩, ⟨blk_g BK733.out⟩, ⟨bel_g HB.out⟩⟩
       ·exact absurd H (by simp)
      ·exact absurd H (by simp)
     ·exact absurd H (by simp)
    ·obtain ⟨t742, A20, H⟩ := obE H
     simp only [Option.some.injEq, Prod.mk.injEq] at H
     obtain ⟨rfl, rfl⟩ := H
     obtain ⟨hcz21_0, hcz21_1, hfz21_0, hfz21_1⟩ := blk2 BK733
     obtain ⟨Ao22, co22, eo22⟩ := Kd.R_slice HO_4.out
     subst eo22
     go_wp2_with (first | ((with_reducible refine gate_callee (f := 32) rfl ?_); refine goesQ (some 30) Tryd.func32 #[.slice Ao22 x4_1.length co22] ?_; (with_reducible refine (spec_weOfNumbers.calls k1 _ _ x4_1 t742 _ ?side1 ?side2 A20.out).mono ?_); (case side1 => repeat (first | exact (Kd.R_reads' HO_4.out).2.2 | (with_reducible refine Kd.C_alloc ?_ _) | (with_reducible refine Kd.C_drewN ?_ _) | (with_reducible refine Kd.C_drew ?_))); (case side2 => exact (Kd.R_reads' HO_4.out).2.1); rintro e w23 ⟨v743, rfl, ho0, hb⟩; refine ⟨_, rfl, ?_⟩; have HO744 := Aside0.mk (Kd.R_lower (Kd.R_new' ho0 (Kd.R_lt (Kd.R_g HO_4.out))) (below_size (bel_g HB.out))); replace HO_4 := Aside0.mk (Kd.R_elder' (Kd.R_g HO_4.out) (Kd.R_base ho0) hb); replace BK733 := blkB BK733 hb; replace HB := bst HB hb; (try clear hb); (try clear hk); (try clear ho0)))
     go_ret2
     exact ⟨_, eqE, by (with_reducible repeat (first | apply Kd.R_alloc | apply Kd.R_drewN | apply Kd.R_drew)); exact Kd.R_mono HO744.out (fun _ hk => trivial), bel_g HB.out⟩
 ·replace c3 := Bool.eq_false_iff.mpr c3
  subst c3
  replace H := ifF H
  simp only [Option.some.injEq, Prod.mk.injEq] at H
  obtain ⟨rfl, rfl⟩ := H
  go_enter Tryd.func17, Tryd.ntmps17
  go_wp2_with (first | ((with_reducible refine gate_dst (N := 1) rfl ?_); refine boxE (N := 1) (cs := #[.int .i64 a0_0, .slice A0_1 l0_1.length c0_1]) (t := 28) ?_; intro gb733 hg w24 hbox hb; have BK733 := Aside0.mk (hbox); have GE733 := geB HB hg; replace HB := bst HB hb; clear hb hbox hg; obtain ⟨hcz25_0, hcz25_1, hfz25_0, hfz25_1⟩ := blk2 BK733) | ((with_reducible refine gate_callee (f := 26) rfl ?_); refine goesQ (some 7) Tryd.func26 #[.agg #[.int .i64 a0_0, .slice A0_1 l0_1.length c0_1]] ?_; (with_reducible refine (spec_seGood.calls k a0_0 _ _ l0_1 false _ ?side1 ?side2 A2.out).mono ?_); (case side1 => exact C_g HR0_1 HB); (case side2 => exact HC0_1.out); rintro e w26 ⟨rfl, hb⟩; refine ⟨_, rfl, ?_⟩; replace BK733 := blkB BK733 hb; replace HB := bst HB hb; (try clear hb); (try clear hk)))
  go_ret2
  exact ⟨_, eqE, by first | exact Kd.R_nil _ _ _ _ _ | exact Kd.N_nil _ _ _ _ _ | exact Kd.V_nil _ _ _ _ _ | exact Kd.Q_nil _ _ _ _ _ | exact Kd.S_nil _ _ _ _ _, bel_g HB.out⟩

end Go.Proofs.YtjahodklmegglaaDoor.Q
