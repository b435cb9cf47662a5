import Derived.Test.YtgbdjchdfcodcaaGreatDoorBFnWeakOrders17
namespace Go.Proofs.YtgbdjchdfcodcaaGreatDoor.Q
open Go.RowKit Go.Proofs.YtgbdjchdfcodcaaGreatDoorW.PrintWords Go.Proofs.YtgbdjchdfcodcaaGreatDoorW.PrintLast Go.Proofs.YtgbdjchdfcodcaaGreatDoorW.PrintMore
attribute [local go_sem] max2_int min2_int max_two min_two max_three min_three max_four min_four neB_f
set_option linter.unusedVariables false
set_option maxHeartbeats 8000000
set_option maxRecDepth 100000
set_option linter.unusedSimpArgs false
mutual
def spec_TwoOneOf.l0 : Nat → Int → Int → List Int → Option (List Int × Bool)
 | 0, _, _, _ => none
 | k + 1, x4, x600000, x600001 => if x4 < x600000 then (if 0 ≤ x4 then (if x4 < (x600001.length : Int) then ((spec_orList.f k (rd x600001 x4)).bind fun t602 => (spec_TwoOneOf.l1 k x4 t602 (t602.length : Int) 0 x600000 x600001)) else (none)) else (none)) else (some (([] : List Int), false))
def spec_TwoOneOf.l1 : Nat → Int → List Int → Int → Int → Int → List Int → Option (List Int × Bool)
 | 0, _, _, _, _, _, _ => none
 | k + 1, x4, x23, x24, x25, x600000, x600001 => if x25 < x24 then (if 0 ≤ x25 then (if x25 < (x23.length : Int) then ((spec_orFree.f k x600000 x600001 x4).bind fun t606 => ((spec_orFree.f k x600000 x600001 (rd x23 x25)).bind fun t607 => ((spec_orList.f k (Go.bits .and .i64 t606 t607)).bind fun t608 => (spec_TwoOneOf.l2 k x4 (rd x23 x25) x23 x24 x25 t608 (t608.length : Int) 0 x600000 x600001)))) else (none)) else (none)) else (spec_TwoOneOf.l0 k (wrap64 (x4 + 1)) x600000 x600001)
def spec_TwoOneOf.l2 : Nat → Int → Int → List Int → Int → Int → List Int → Int → Int → Int → List Int → Option (List Int × Bool)
 | 0, _, _, _, _, _, _, _, _, _, _ => none
 | k + 1, x4, x6, x23, x24, x25, x36, x37, x38, x600000, x600001 => if x38 < x37 then (if 0 ≤ x38 then (if x38 < (x36.length : Int) then (some ((([x4, x6, rd x36 x38] : List Int)), true)) else (none)) else (none)) else (spec_TwoOneOf.l1 k x4 x23 x24 (wrap64 (x25 + 1)) x600000 x600001)
end
def spec_TwoOneOf.f (k : Nat) (a0_0 : Int) (l0_1 : List Int) : Option (List Int × Bool) := (spec_orGood.f k a0_0 l0_1).bind fun t600 => (if t600 = true then (spec_TwoOneOf.l0 k 0 a0_0 l0_1) else (some (([] : List Int), false)))
theorem spec_TwoOneOf.mono_l : ∀ k, (∀ y0 y1 y2, LeO (spec_TwoOneOf.l0 k y0 y1 y2) (spec_TwoOneOf.l0 (k + 1) y0 y1 y2)) ∧ (∀ y0 y1 y2 y3 y4 y5, LeO (spec_TwoOneOf.l1 k y0 y1 y2 y3 y4 y5) (spec_TwoOneOf.l1 (k + 1) y0 y1 y2 y3 y4 y5)) ∧ (∀ y0 y1 y2 y3 y4 y5 y6 y7 y8 y9, LeO (spec_TwoOneOf.l2 k y0 y1 y2 y3 y4 y5 y6 y7 y8 y9) (spec_TwoOneOf.l2 (k + 1) y0 y1 y2 y3 y4 y5 y6 y7 y8 y9))
 | 0 => ⟨fun _ _ _ r h => by simp [spec_TwoOneOf.l0] at h, fun _ _ _ _ _ _ r h => by simp [spec_TwoOneOf.l1] at h, fun _ _ _ _ _ _ _ _ _ _ r h => by simp [spec_TwoOneOf.l2] at h⟩
 | k + 1 => by
  obtain ⟨ih0, ih1, ih2⟩ := spec_TwoOneOf.mono_l k
  refine ⟨?_, ?_, ?_⟩ <;> intros
  unfold spec_TwoOneOf.l0
  rotate_left
  unfold spec_TwoOneOf.l1
  rotate_left
  unfold spec_TwoOneOf.l2
  rotate_left
  all_goals repeat' (with_reducible first|apply ih0|apply ih1|apply ih2|apply spec_orFree.mono|apply spec_orGood.mono|apply spec_orList.mono|apply LeO.refl|apply LeO.none|apply LeO.ite|apply LeO.bind|intro)
theorem spec_TwoOneOf.mono : ∀ a0 a1 k, LeO (spec_TwoOneOf.f k a0 a1) (spec_TwoOneOf.f (k + 1) a0 a1) := by
 intro a0 a1 k
 obtain ⟨ih0, ih1, ih2⟩ := spec_TwoOneOf.mono_l k
 unfold spec_TwoOneOf.f
 repeat' (with_reducible first|apply ih0|apply ih1|apply ih2|apply spec_orFree.mono|apply spec_orGood.mono|apply spec_orList.mono|apply LeO.refl|apply LeO.none|apply LeO.ite|apply LeO.bind|intro)
def spec_TwoOneOf.T9 : Bool × List (List Nat × List Nat) := (true, [([], []), ([], []), ([0, 1], [0, 1]), ([], []), ([], []), ([3, 4, 2], [3, 4]), ([2, 5], [2, 5]), ([6, 5], [6]), ([7], [7]), ([], [])])
def spec_TwoOneOf.B9 : List Nat := [0, 0, 3, 0, 0, 31, 63, 127, 255, 0]
theorem spec_TwoOneOf.tab9 : rtab .any (opsOf Tryz.f9 9) = spec_TwoOneOf.T9 := by kernel_rfl
theorem spec_TwoOneOf.bits9 : waitsOk spec_TwoOneOf.T9.2 spec_TwoOneOf.B9 = true := by kernel_rfl
theorem spec_TwoOneOf.calls (k : Nat) (a0_0 : Int) (A0_1 : Option Addr) (c0_1 : Nat) (l0_1 : List Int) (r1 : List Int) (r2 : Bool) (w : World) (hr0_1 : Kd.C (Kd.int .i64) w A0_1 l0_1.length l0_1) (hc0_1 : l0_1.length ≤ c0_1) (h : spec_TwoOneOf.f k a0_0 l0_1 = some (r1, r2)) :
  Calls Tryz.prog 9 #[.agg #[.int .i64 a0_0, .slice A0_1 l0_1.length c0_1]] w fun e w' => ∃ v0_ : Value, e = .returned (.tuple #[v0_, .bool r2]) ∧ Kd.R (Kd.int .i64) 3 w' w.heap.size (fun _ => True) v0_ r1 ∧ Below w.heap.size w w' := by
 have hu26 := Tryz.underlying26
 have HR0_1 := mkA hr0_1
 have HC0_1 := mkA hc0_1
 clear hr0_1 hc0_1
 have HB := mkA (Below.refl w.heap.size w)
 have H := h
 clear h
 unfold spec_TwoOneOf.f at H
 obtain ⟨t600, A2, H⟩ := obE H
 by_cases c3 : t600 = true
 ·subst c3
  replace H := ifT H
  have H' := mkA H
  clear H
  go_enter Tryz.func9, Tryz.ntmps9
  go_wp2_with (first | ((with_reducible refine gate_dst (N := 1) rfl ?_); refine boxG HB #[.int .i64 a0_0, .slice A0_1 l0_1.length c0_1] 26 ?_; intro gb599 hg w4 BK599 GE599 hb; replace HB := bst HB hb; clear hb hg; obtain ⟨_, _, _, _⟩ := blk2 BK599) | ((with_reducible refine gate_callee (f := 27) rfl ?_); refine goesQ (some 10) Tryz.func27 #[.agg #[.int .i64 a0_0, .slice A0_1 l0_1.length c0_1]] ?_; (with_reducible refine (spec_orGood.calls k a0_0 _ _ l0_1 true _ ?_ ?_ A2.out).mono ?_); exact C_g HR0_1 HB; exact HC0_1.out; rintro e w6 ⟨rfl, hb⟩; refine ⟨_, rfl, ?_⟩; replace BK599 := blkB BK599 hb; replace HB := bst HB hb; clear hb))
  go_loopg [4] k (fun kq v4 w' => ∃ (x4_1 : Int), v4 = .int .i64 x4_1 ∧ Fc (spec_TwoOneOf.l0 kq x4_1 a0_0 l0_1 = some (r1, r2)) ∧ Fc (kq ≤ k) ∧ Fc (w'.heap[gb599]? = some (.cells #[.int .i64 a0_0, (.slice A0_1 l0_1.length c0_1)] 26 (0, 0))) ∧ Fc (Below w.heap.size w w'))
  case atStart => exact ⟨(0), eqS, H', ⟨Nat.le_refl _⟩, bg BK599, hbg HB⟩
  case round =>
   clear H'
   try clear c3
   obtain ⟨x4_1, rfl, HA, HK1, BK599, HB⟩ := hrel
   cases gk with
   | zero => exact absurd HA.out (by simp [spec_TwoOneOf.l0])
   | succ k1 =>
    have H := HA.out
    clear HA
    simp only [spec_TwoOneOf.l0] at H
    rcases iteE H with ⟨c7b0, H⟩ | ⟨c7b0, H⟩
    ·obtain ⟨c8b0, H⟩ := itND H
     obtain ⟨c9b0, H⟩ := itND H
     obtain ⟨t602, A10, H⟩ := obE H
     have H' := mkA H
     clear H
     obtain ⟨_, _, _, _⟩ := blk2 BK599
     obtain ⟨p601, q601, ad601, e601, hx601_0⟩ := atI HR0_1.out x4_1
     cases e601
     replace hx601_0 := (HB.out.cell (World.block_lt_of_cell? w _ hx601_0)).trans hx601_0
     go_wp2_with (first | ((with_reducible refine gate_callee (f := 28) rfl ?_); refine goesQ (some 23) Tryz.func28 #[.int .i64 (rd l0_1 x4_1)] ?_; (with_reducible refine (spec_orList.calls k1 (rd l0_1 x4_1) t602 _ A10.out).mono ?_); rintro e w12 ⟨v603, rfl, ho0, hb⟩; refine ⟨_, rfl, ?_⟩; have HO604 := rLo ho0 HB; replace BK599 := blkB BK599 hb; replace HB := bst HB hb; clear hb ho0; obtain ⟨Ao13, co13, rfl⟩ := Kd.R_slice HO604.out))
     go_loopg [25] k1 (fun kq v25 w' => ∃ (x25_2 : Int), v25 = .int .i64 x25_2 ∧ Fc (spec_TwoOneOf.l1 kq x4_1 t602 (t602.length : Int) x25_2 a0_0 l0_1 = some (r1, r2)) ∧ Fc (kq ≤ k1) ∧ Fc (Kd.R (Kd.int .i64) 3 w' w.heap.size (fun _ => True) (.slice Ao13 t602.length co13) t602) ∧ Fc (w'.heap[gb599]? = some (.cells #[.int .i64 a0_0, (.slice (some ad601) l0_1.length c0_1)] 26 (0, 0))) ∧ Fc (Below w.heap.size w w'))
     case atStart => exact ⟨(0), eqS, H', ⟨Nat.le_refl _⟩, rg HO604, bg BK599, hbg HB⟩
     case round =>
      clear H'
      try clear c3
      try clear c7b0
      try clear c8
      try clear c8b0
      try clear c9
      try clear c9b0
      try clear hx601_0
      try clear p601
      try clear q601
      obtain ⟨x25_2, rfl, HA, HK2, HO_23, BK599, HB⟩ := hrel
      cases gk with
      | zero => exact absurd HA.out (by simp [spec_TwoOneOf.l1])
      | succ k2 =>
       have H := HA.out
       clear HA
       simp only [spec_TwoOneOf.l1] at H
       rcases iteE H with ⟨c14b0, H⟩ | ⟨c14b0, H⟩
       ·obtain ⟨c15b0, H⟩ := itND H
        obtain ⟨c16b0, H⟩ := itND H
        obtain ⟨t606, A17, H⟩ := obE H
        obtain ⟨t607, A18, H⟩ := obE H
        obtain ⟨t608, A19, H⟩ := obE H
        have H' := mkA H
        clear H
        obtain ⟨p605, q605, ad605, e605, hx605_0⟩ := atI (Kd.R_reads' HO_23.out).2.2 x25_2
        cases e605
        try go_wp2
        replace HO_23 := mkA (Kd.R_drew HO_23.out)
        replace BK599 := mkA (blk_drew BK599.out)
        replace HB := mkA (below_drew1 HB.out)
        refine start_ (n := 10) (S := fun w' => w'.cell? ⟨gb599, 0, none⟩ = some (.int .i64 a0_0) ∧ w'.cell? ⟨gb599, 1, none⟩ = some (.slice (some ad601) l0_1.length c0_1)) (ds := []) (bm 10 0) (by kernel_rfl) rfl (by kernel_rfl) ⟨(blk_cell BK599.out 0).trans rfl, (blk_cell BK599.out 1).trans rfl⟩ (fun hHeld => ?_); refine with_tabW spec_TwoOneOf.tab9 spec_TwoOneOf.bits9 (fun HT_ HW_ => ?_)
        generalize wr.drew = w20 at HO_23 BK599 HB hHeld ⊢
        refine purW 1 30 10 2 HT_ ?_
        refine purW 4 33 10 18 HT_ ?_
        refine purW 9 38 10 530 HT_ ?_
        refine takeW 0 (some 29) (bm 10 531) HT_ HW_ hHeld ?_
        refine takeW 3 (some 32) (bm 10 539) HT_ HW_ hHeld ?_
        refine oneW 2 (some 31) (bm 10 543) HT_ (fun K hK => ?_)
        refine goesR Tryz.func29 #[.agg #[.int .i64 a0_0, .slice (some ad601) l0_1.length c0_1], .int .i64 x4_1] ?_
        with_reducible refine (spec_orFree.calls k2 a0_0 _ _ l0_1 x4_1 t606 _ ?s1 ?s2 A17.out).mono ?_
        (case s1 => exact C_g HR0_1 HB)
        (case s2 => exact HC0_1.out)
        rintro e w21 ⟨rfl, hb⟩
        refine ⟨_, rfl, ?_⟩
        replace HO_23 := rB HO_23 hb
        replace BK599 := blkB BK599 hb
        replace HB := bst HB hb
        (try clear hb)
        (try clear hb2)
        (try clear hk)
        (try clear hi)
        refine hK.out _ _ ⟨(blk_cell BK599.out 0).trans rfl, (blk_cell BK599.out 1).trans rfl⟩ (fun hHeld => ?_)
        clear hK K
        refine normW 31 ?_
        refine oneW 5 (some 34) (bm 10 575) HT_ (fun K hK => ?_)
        refine goesR Tryz.func29 #[.agg #[.int .i64 a0_0, .slice (some ad601) l0_1.length c0_1], .int .i64 (rd t602 x25_2)] ?_
        with_reducible refine (spec_orFree.calls k2 a0_0 _ _ l0_1 (rd t602 x25_2) t607 _ ?s1 ?s2 A18.out).mono ?_
        (case s1 => exact C_g HR0_1 HB)
        (case s2 => exact HC0_1.out)
        rintro e w22 ⟨rfl, hb⟩
        refine ⟨_, rfl, ?_⟩
        replace HO_23 := rB HO_23 hb
        replace BK599 := blkB BK599 hb
        replace HB := bst HB hb
        (try clear hb)
        (try clear hb2)
        (try clear hk)
        (try clear hi)
        refine hK.out _ _ ⟨(blk_cell BK599.out 0).trans rfl, (blk_cell BK599.out 1).trans rfl⟩ (fun hHeld => ?_)
        clear hK K
        refine normW 34 ?_
        refine purW 6 35 10 639 HT_ ?_
        refine oneW 7 (some 36) (bm 10 767) HT_ (fun K hK => ?_)
        refine goesR Tryz.func28 #[.int .i64 (Go.bits .and .i64 t606 t607)] ?_
        with_reducible refine (spec_orList.calls k2 (Go.bits .and .i64 t606 t607) t608 _ A19.out).mono ?_
        rintro e w23 ⟨v609, rfl, ho0, hb⟩
        refine ⟨_, rfl, ?_⟩
        have HO610 := rLo (rN ho0 HO_23) HB
        replace HO_23 := rE HO_23 ho0 hb
        replace BK599 := blkB BK599 hb
        replace HB := bst HB hb
        (try clear hb)
        (try clear hb2)
        (try clear hk)
        (try clear hi)
        (try clear ho0)
        obtain ⟨Ao24, co24, eo24⟩ := Kd.R_slice HO610.out
        (first | subst eo24 | (injection eo24 with f1_ f2_ f3_; have f4_ := f1_.symm; have f5_ := f3_.symm; clear f1_ f2_ f3_; subst f4_; subst f5_))
        refine hK.out _ _ ⟨(blk_cell BK599.out 0).trans rfl, (blk_cell BK599.out 1).trans rfl⟩ (fun hHeld => ?_)
        clear hK K
        refine normW 36 ?_
        refine purW 8 37 10 1023 HT_ ?_
        refine doneW HT_ ?_
        try go_wp2
        go_loopg [38] k2 (fun kq v38 w' => ∃ (x38_3 : Int), v38 = .int .i64 x38_3 ∧ Fc (spec_TwoOneOf.l2 kq x4_1 (rd t602 x25_2) t602 (t602.length : Int) x25_2 t608 (t608.length : Int) x38_3 a0_0 l0_1 = some (r1, r2)) ∧ Fc (kq ≤ k2) ∧ Fc (Kd.R (Kd.int .i64) 3 w' w.heap.size (fun k_ => some k_ ≠ ((.slice Ao24 t608.length co24) : Value).ownBlock) (.slice (some ad605) t602.length co13) t602) ∧ Fc (Kd.R (Kd.int .i64) 3 w' w.heap.size (fun k_ => some k_ ≠ ((.slice (some ad605) t602.length co13) : Value).ownBlock) (.slice Ao24 t608.length co24) t608) ∧ Fc (w'.heap[gb599]? = some (.cells #[.int .i64 a0_0, (.slice (some ad601) l0_1.length c0_1)] 26 (0, 0))) ∧ Fc (Below w.heap.size w w'))
        case atStart => exact ⟨(0), eqS, H', ⟨Nat.le_refl _⟩, ⟨Kd.R_g (Kd.R_mono HO_23.out (fun _ hk => hk.2))⟩, ⟨Kd.R_g (Kd.R_mono HO610.out (fun _ hk => hk.2))⟩, bg BK599, hbg HB⟩
        case round =>
         clear H'
         try clear c3
         try clear c7b0
         try clear c8
         try clear c8b0
         try clear c9
         try clear c9b0
         try clear c14b0
         try clear c15
         try clear c15b0
         try clear c16
         try clear c16b0
         try clear hx601_0
         try clear hx605_0
         try clear p601
         try clear p605
         try clear q601
         try clear q605
         obtain ⟨x38_3, rfl, HA, HK3, HO_23, HO_36, BK599, HB⟩ := hrel
         cases gk with
         | zero => exact absurd HA.out (by simp [spec_TwoOneOf.l2])
         | succ k3 =>
          have H := HA.out
          clear HA
          simp only [spec_TwoOneOf.l2] at H
          rcases iteE H with ⟨c25b0, H⟩ | ⟨c25b0, H⟩
          ·obtain ⟨c26b0, H⟩ := itND H
           obtain ⟨c27b0, H⟩ := itND H
           obtain ⟨y612, hy612⟩ : ∃ y_ : List Int, y_ = (([x4_1, (rd t602 x25_2), rd t608 x38_3] : List Int)) := ⟨_, rfl⟩
           rw [← hy612] at H
           have Ny612 := mkA hy612
           clear hy612
           simp only [Option.some.injEq, Prod.mk.injEq] at H
           obtain ⟨rfl, rfl⟩ := H
           obtain ⟨p611, q611, ad611, e611, hx611_0⟩ := atI (Kd.R_reads' HO_36.out).2.2 x38_3
           cases e611
           go_wp2_with (first | ((with_reducible refine gate_dst (N := 45) rfl ?_); refine litE (Kd.int .i64) 3 ([x4_1, (rd t602 x25_2), rd t608 x38_3] : List Int) [.int .i64 x4_1, .int .i64 (rd t602 x25_2), .int .i64 (rd t608 x38_3)] ?hp ?_; (case hp => exact (Reps.one (show Kd.M (Kd.int .i64) _ _ _ x4_1 [.int .i64 x4_1] from rfl) (Reps.one (show Kd.M (Kd.int .i64) _ _ _ (rd t602 x25_2) [.int .i64 (rd t602 x25_2)] from rfl) (Reps.one (show Kd.M (Kd.int .i64) _ _ _ (rd t608 x38_3) [.int .i64 (rd t608 x38_3)] from rfl) (Reps.none _ _))))); intro v613 w28 ho29 hb hg_ hnew_; clear hg_ hnew_; (first | rw [← Ny612.out] at ho29 | (simp only [Int.reduceToNat] at ho29; rw [← Ny612.out] at ho29)); have HO614 := rLo (rN (rN ho29 HO_23) HO_36) HB; replace HO_23 := rE HO_23 ho29 hb; replace HO_36 := rE HO_36 ho29 hb; replace BK599 := blkB BK599 hb; replace HB := bst HB hb; clear hb ho29))
           go_ret2
           exact ⟨_, eqE, Kd.R_g (Kd.R_mono HO614.out (fun _ hk => trivial)), bel_g HB.out⟩
          ·have H' := mkA H
           clear H
           go_wp2
           go_roundg k3
           case measure => have := HK1.out; have := HK2.out; have := HK3.out; omega
           case rel => exact ⟨(wrap64 (x25_2 + 1)), eqS, H', ⟨by have := HK1.out; have := HK2.out; have := HK3.out; omega⟩, ⟨Kd.R_g (Kd.R_mono HO_23.out (fun _ hk => trivial))⟩, bg BK599, hbg HB⟩
       ·have H' := mkA H
        clear H
        go_wp2
        go_roundg k2
        case measure => have := HK1.out; have := HK2.out; omega
        case rel => exact ⟨(wrap64 (x4_1 + 1)), eqS, H', ⟨by have := HK1.out; have := HK2.out; omega⟩, bg BK599, hbg HB⟩
    ·simp only [Option.some.injEq, Prod.mk.injEq] at H
     obtain ⟨rfl, rfl⟩ := H
     obtain ⟨_, _, _, _⟩ := blk2 BK599
     go_wp2
     go_ret2
     exact ⟨_, eqE, nilE, bel_g HB.out⟩
 ·replace c3 := Bool.eq_false_iff.mpr c3
  subst c3
  replace H := ifF H
  simp only [Option.some.injEq, Prod.mk.injEq] at H
  obtain ⟨rfl, rfl⟩ := H
  go_enter Tryz.func9, Tryz.ntmps9
  go_wp2_with (first | ((with_reducible refine gate_dst (N := 1) rfl ?_); refine boxG HB #[.int .i64 a0_0, .slice A0_1 l0_1.length c0_1] 26 ?_; intro gb599 hg w31 BK599 GE599 hb; replace HB := bst HB hb; clear hb hg; obtain ⟨_, _, _, _⟩ := blk2 BK599) | ((with_reducible refine gate_callee (f := 27) rfl ?_); refine goesQ (some 10) Tryz.func27 #[.agg #[.int .i64 a0_0, .slice A0_1 l0_1.length c0_1]] ?_; (with_reducible refine (spec_orGood.calls k a0_0 _ _ l0_1 false _ ?_ ?_ A2.out).mono ?_); exact C_g HR0_1 HB; exact HC0_1.out; rintro e w33 ⟨rfl, hb⟩; refine ⟨_, rfl, ?_⟩; replace BK599 := blkB BK599 hb; replace HB := bst HB hb; clear hb))
  go_ret2
  exact ⟨_, eqE, nilE, bel_g HB.out⟩
def spec_weGood.f (k : Nat) (a0_0 : Int) (l0_1 : List Int) : Option (Bool) := (spec_TwoOneOf.f k a0_0 l0_1).bind fun bt616 => ((spec_orGood.f k a0_0 l0_1).bind fun t620 => (if t620 = true then (some (!bt616.2)) else (some false)))
theorem spec_weGood.mono : ∀ a0 a1 k, LeO (spec_weGood.f k a0 a1) (spec_weGood.f (k + 1) a0 a1) := by
 intro a0 a1 k
 unfold spec_weGood.f
 repeat' (with_reducible first|apply spec_TwoOneOf.mono|apply spec_orGood.mono|apply LeO.refl|apply LeO.none|apply LeO.ite|apply LeO.bind|intro)
theorem spec_weGood.calls (k : Nat) (a0_0 : Int) (A0_1 : Option Addr) (c0_1 : Nat) (l0_1 : List Int) (r : Bool) (w : World) (hr0_1 : Kd.C (Kd.int .i64) w A0_1 l0_1.length l0_1) (hc0_1 : l0_1.length ≤ c0_1) (h : spec_weGood.f k a0_0 l0_1 = some r) :
  Calls Tryz.prog 25 #[.agg #[.int .i64 a0_0, .slice A0_1 l0_1.length c0_1]] w fun e w' => e = .returned (.bool r) ∧ Below w.heap.size w w' := by
 have hu26 := Tryz.underlying26
 have HR0_1 := mkA hr0_1
 have HC0_1 := mkA hc0_1
 clear hr0_1 hc0_1
 have HB := mkA (Below.refl w.heap.size w)
 have H := h
 clear h
 unfold spec_weGood.f at H
 obtain ⟨⟨t616, t619⟩, A2, H⟩ := obE H
 dsimp only at H
 obtain ⟨t620, A3, H⟩ := obE H
 by_cases c4 : t620 = true
 ·subst c4
  replace H := ifT H
  obtain rfl := Option.some.inj H
  go_enter Tryz.func25, Tryz.ntmps25
  go_wp2_with (first | ((with_reducible refine gate_dst (N := 1) rfl ?_); refine boxG HB #[.int .i64 a0_0, .slice A0_1 l0_1.length c0_1] 26 ?_; intro gb615 hg w5 BK615 GE615 hb; replace HB := bst HB hb; clear hb hg; obtain ⟨_, _, _, _⟩ := blk2 BK615) | ((with_reducible refine gate_callee (f := 9) rfl ?_); refine goesQ (some 7) Tryz.func9 #[.agg #[.int .i64 a0_0, .slice A0_1 l0_1.length c0_1]] ?_; (with_reducible refine (spec_TwoOneOf.calls k a0_0 _ _ l0_1 t616 t619 _ ?_ ?_ A2.out).mono ?_); exact C_g HR0_1 HB; exact HC0_1.out; rintro e w7 ⟨v617, rfl, ho0, hb⟩; refine ⟨_, rfl, ?_⟩; have HO618 := rLo ho0 HB; replace BK615 := blkB BK615 hb; replace HB := bst HB hb; clear hb ho0; obtain ⟨_, _, _, _⟩ := blk2 BK615) | ((with_reducible refine gate_callee (f := 27) rfl ?_); refine goesQ (some 11) Tryz.func27 #[.agg #[.int .i64 a0_0, .slice A0_1 l0_1.length c0_1]] ?_; (with_reducible refine (spec_orGood.calls k a0_0 _ _ l0_1 true _ ?_ ?_ A3.out).mono ?_); exact C_g HR0_1 HB; exact HC0_1.out; rintro e w9 ⟨rfl, hb⟩; refine ⟨_, rfl, ?_⟩; replace HO618 := rB HO618 hb; replace BK615 := blkB BK615 hb; replace HB := bst HB hb; clear hb))
  go_ret
  exact ⟨eqE, bel_g HB.out⟩
 ·replace c4 := Bool.eq_false_iff.mpr c4
  subst c4
  replace H := ifF H
  obtain rfl := Option.some.inj H
  go_enter Tryz.func25, Tryz.ntmps25
  go_wp2_with (first | ((with_reducible refine gate_dst (N := 1) rfl ?_); refine boxG HB #[.int .i64 a0_0, .slice A0_1 l0_1.length c0_1] 26 ?_; intro gb615 hg w10 BK615 GE615 hb; replace HB := bst HB hb; clear hb hg; obtain ⟨_, _, _, _⟩ := blk2 BK615) | ((with_reducible refine gate_callee (f := 9) rfl ?_); refine goesQ (some 7) Tryz.func9 #[.agg #[.int .i64 a0_0, .slice A0_1 l0_1.length c0_1]] ?_; (with_reducible refine (spec_TwoOneOf.calls k a0_0 _ _ l0_1 t616 t619 _ ?_ ?_ A2.out).mono ?_); exact C_g HR0_1 HB; exact HC0_1.out; rintro e w12 ⟨v617, rfl, ho0, hb⟩; refine ⟨_, rfl, ?_⟩; have HO618 := rLo ho0 HB; replace BK615 := blkB BK615 hb; replace HB := bst HB hb; clear hb ho0; obtain ⟨_, _, _, _⟩ := blk2 BK615) | ((with_reducible refine gate_callee (f := 27) rfl ?_); refine goesQ (some 11) Tryz.func27 #[.agg #[.int .i64 a0_0, .slice A0_1 l0_1.length c0_1]] ?_; (with_reducible refine (spec_orGood.calls k a0_0 _ _ l0_1 false _ ?_ ?_ A3.out).mono ?_); exact C_g HR0_1 HB; exact HC0_1.out; rintro e w14 ⟨rfl, hb⟩; refine ⟨_, rfl, ?_⟩; replace HO618 := rB HO618 hb; replace BK615 := blkB BK615 hb; replace HB := bst HB hb; clear hb))
  go_ret
  exact ⟨eqE, bel_g HB.out⟩
def spec_l1Most.f (a0 : Int) (a1 : Int) : Option (Int) := if a0 > a1 then (some a0) else (some a1)
theorem spec_l1Most.calls (a0 : Int) (a1 : Int) (r : Int) (w : World) (h : spec_l1Most.f a0 a1 = some r) :
  Calls Tryz.prog 49 #[.int .i64 a0, .int .i64 a1] w fun e w' => e = .returned (.int .i64 r) ∧ Drawn0 w w' := by
 have H := h
 clear h
 unfold spec_l1Most.f at H
 rcases iteP H with ⟨c3, H⟩ | ⟨c3, H⟩
 ·have c3b0 := decide_eq_true c3
  clear c3
  obtain rfl := Option.some.inj H
  go_enter Tryz.func49, Tryz.ntmps49
  go_wp2
  go_ret
  exact ⟨eqS, drE⟩
 ·have c3b0 := decide_eq_false c3
  clear c3
  obtain rfl := Option.some.inj H
  go_enter Tryz.func49, Tryz.ntmps49
  go_wp2
  go_ret
  exact ⟨eqS, drE⟩
mutual
def spec_weHeight.l0 : Nat → Int → List Int → Int → Int → Int → List Int → Option (Int)
 | 0, _, _, _, _, _, _ => none
 | k + 1, x5, x11, x12, x13, x622000, x622001 => if x13 < x12 then (if 0 ≤ x13 then (if x13 < (x11.length : Int) then ((spec_weHeight.f k x622000 x622001 (rd x11 x13)).bind fun t627 => ((spec_l1Most.f x5 (wrap64 (1 + t627))).bind fun t628 => (spec_weHeight.l0 k t628 x11 x12 (wrap64 (x13 + 1)) x622000 x622001))) else (none)) else (none)) else (some x5)
def spec_weHeight.f : Nat → Int → List Int → Int → Option (Int)
 | 0, _, _, _ => none
 | k + 1, a0_0, l0_1, a1 => (spec_orBelow.f k a0_0 l0_1 a1).bind fun t622 => ((spec_orList.f k t622).bind fun t623 => (spec_weHeight.l0 k 0 t623 (t623.length : Int) 0 a0_0 l0_1))
end
theorem spec_weHeight.mono_l : ∀ k, (∀ y0 y1 y2, LeO (spec_weHeight.f k y0 y1 y2) (spec_weHeight.f (k + 1) y0 y1 y2)) ∧ (∀ y0 y1 y2 y3 y4 y5, LeO (spec_weHeight.l0 k y0 y1 y2 y3 y4 y5) (spec_weHeight.l0 (k + 1) y0 y1 y2 y3 y4 y5))
 | 0 => ⟨fun _ _ _ r h => by simp [spec_weHeight.f] at h, fun _ _ _ _ _ _ r h => by simp [spec_weHeight.l0] at h⟩
 | k + 1 => by
  obtain ⟨ih0, ih1⟩ := spec_weHeight.mono_l k
  refine ⟨?_, ?_⟩ <;> intros
  unfold spec_weHeight.f
  rotate_left
  unfold spec_weHeight.l0
  rotate_left
  all_goals repeat' (with_reducible first|apply ih0|apply ih1|apply spec_orBelow.mono|apply spec_orList.mono|apply LeO.refl|apply LeO.none|apply LeO.ite|apply LeO.bind|intro)
theorem spec_weHeight.mono : ∀ a0 a1 a2 k, LeO (spec_weHeight.f k a0 a1 a2) (spec_weHeight.f (k + 1) a0 a1 a2) := by
 intro a0 a1 a2 k
 obtain ⟨ih0, ih1⟩ := spec_weHeight.mono_l k
 exact ih0 a0 a1 a2
theorem spec_weHeight.calls (k : Nat) : ∀ (a0_0 : Int) (A0_1 : Option Addr) (c0_1 : Nat) (l0_1 : List Int) (a1 : Int) (r : Int) (w : World) (hr0_1 : Kd.C (Kd.int .i64) w A0_1 l0_1.length l0_1) (hc0_1 : l0_1.length ≤ c0_1) (h : spec_weHeight.f k a0_0 l0_1 a1 = some r),
  Calls Tryz.prog 26 #[.agg #[.int .i64 a0_0, .slice A0_1 l0_1.length c0_1], .int .i64 a1] w fun e w' => e = .returned (.int .i64 r) ∧ Below w.heap.size w w' := by
 induction k using Nat.strongRecOn with
 | _ k ih =>
 intro a0_0 A0_1 c0_1 l0_1 a1 r w hr0_1 hc0_1 h
 cases k with
 | zero => exact absurd h (by simp [spec_weHeight.f])
 | succ k =>
 simp only [spec_weHeight.f] at h
 have hu26 := Tryz.underlying26
 have HR0_1 := mkA hr0_1
 have HC0_1 := mkA hc0_1
 clear hr0_1 hc0_1
 have HB := mkA (Below.refl w.heap.size w)
 have H := h
 clear h
 unfold spec_weHeight.f at H
 obtain ⟨t622, A3, H⟩ := obE H
 obtain ⟨t623, A4, H⟩ := obE H
 have H' := mkA H
 clear H
 go_enter Tryz.func26, Tryz.ntmps26
 go_wp2_with (first | ((with_reducible refine gate_dst (N := 2) rfl ?_); refine boxG HB #[.int .i64 a0_0, .slice A0_1 l0_1.length c0_1] 26 ?_; intro gb621 hg w5 BK621 GE621 hb; replace HB := bst HB hb; clear hb hg; obtain ⟨_, _, _, _⟩ := blk2 BK621) | ((with_reducible refine gate_callee (f := 48) rfl ?_); refine goesQ (some 10) Tryz.func48 #[.agg #[.int .i64 a0_0, .slice A0_1 l0_1.length c0_1], .int .i64 a1] ?_; (with_reducible refine (spec_orBelow.calls k a0_0 _ _ l0_1 a1 t622 _ ?_ ?_ A3.out).mono ?_); exact C_g HR0_1 HB; exact HC0_1.out; rintro e w7 ⟨rfl, hb⟩; refine ⟨_, rfl, ?_⟩; replace BK621 := blkB BK621 hb; replace HB := bst HB hb; clear hb) | ((with_reducible refine gate_callee (f := 28) rfl ?_); refine goesQ (some 11) Tryz.func28 #[.int .i64 t622] ?_; (with_reducible refine (spec_orList.calls k t622 t623 _ A4.out).mono ?_); rintro e w8 ⟨v624, rfl, ho0, hb⟩; refine ⟨_, rfl, ?_⟩; have HO625 := rLo ho0 HB; replace BK621 := blkB BK621 hb; replace HB := bst HB hb; clear hb ho0; obtain ⟨Ao9, co9, rfl⟩ := Kd.R_slice HO625.out))
 go_loopg [5, 13] k (fun kq v5 v13 w' => ∃ (x5_1 : Int) (x13_1 : Int), v5 = .int .i64 x5_1 ∧ v13 = .int .i64 x13_1 ∧ Fc (spec_weHeight.l0 kq x5_1 t623 (t623.length : Int) x13_1 a0_0 l0_1 = some r) ∧ Fc (kq ≤ k) ∧ Fc (Kd.R (Kd.int .i64) 3 w' w.heap.size (fun _ => True) (.slice Ao9 t623.length co9) t623) ∧ Fc (w'.heap[gb621]? = some (.cells #[.int .i64 a0_0, (.slice A0_1 l0_1.length c0_1)] 26 (0, 0))) ∧ Fc (Below w.heap.size w w'))
 case atStart => exact ⟨(0), (0), eqS, eqS, H', ⟨Nat.le_refl _⟩, rg HO625, bg BK621, hbg HB⟩
 case round =>
  clear H'
  obtain ⟨x5_1, x13_1, rfl, rfl, HA, HK1, HO_11, BK621, HB⟩ := hrel
  cases gk with
  | zero => exact absurd HA.out (by simp [spec_weHeight.l0])
  | succ k1 =>
   have H := HA.out
   clear HA
   simp only [spec_weHeight.l0] at H
   rcases iteE H with ⟨c10b0, H⟩ | ⟨c10b0, H⟩
   ·obtain ⟨c11b0, H⟩ := itND H
    obtain ⟨c12b0, H⟩ := itND H
    obtain ⟨t627, A13, H⟩ := obE H
    obtain ⟨t628, A14, H⟩ := obE H
    have H' := mkA H
    clear H
    obtain ⟨p626, q626, ad626, e626, hx626_0⟩ := atI (Kd.R_reads' HO_11.out).2.2 x13_1
    cases e626
    obtain ⟨_, _, _, _⟩ := blk2 BK621
    go_wp2_with (first | ((with_reducible refine gate_callee (f := 26) rfl ?_); refine goesQ (some 20) Tryz.func26 #[.agg #[.int .i64 a0_0, .slice A0_1 l0_1.length c0_1], .int .i64 (rd t623 x13_1)] ?_; (with_reducible refine (ih k1 (by have := HK1.out; omega) a0_0 _ _ l0_1 (rd t623 x13_1) t627 _ ?_ ?_ A13.out).mono ?_); exact C_g HR0_1 HB; exact HC0_1.out; rintro e w16 ⟨rfl, hb⟩; refine ⟨_, rfl, ?_⟩; replace HO_11 := rB HO_11 hb; replace BK621 := blkB BK621 hb; replace HB := bst HB hb; clear hb) | ((with_reducible refine gate_callee (f := 49) rfl ?_); refine goesQ (some 22) Tryz.func49 #[.int .i64 x5_1, .int .i64 (wrap64 (1 + t627))] ?_; (with_reducible refine (spec_l1Most.calls x5_1 (wrap64 (1 + t627)) t628 _ A14.out).mono ?_); rintro e w' ⟨rfl, ⟨nd, rfl⟩⟩; refine ⟨_, rfl, ?_⟩))
    go_roundg k1
    case measure => have := HK1.out; omega
    case rel => exact ⟨(t628), (wrap64 (x13_1 + 1)), eqS, eqS, H', ⟨by have := HK1.out; omega⟩, rg HO_11, bg BK621, hbg HB⟩
   ·obtain rfl := Option.some.inj H
    go_wp2
    go_ret
    exact ⟨eqE, bel_g HB.out⟩
end Go.Proofs.YtgbdjchdfcodcaaGreatDoor.Q
