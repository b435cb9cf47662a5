import Derived.Test.YtmoemabbmjdhgaaDoorBFnThresholds18
namespace Go.Proofs.YtmoemabbmjdhgaaDoor.Q
open Go.RowKit Go.Proofs.YtmoemabbmjdhgaaDoorW.PrintWords Go.Proofs.YtmoemabbmjdhgaaDoorW.PrintLast Go.Proofs.YtmoemabbmjdhgaaDoorW.PrintMore
attribute [local go_sem] max2_int min2_int max_two min_two max_three min_three max_four min_four neB_f
set_option linter.unusedVariables false
set_option maxHeartbeats 8000000
set_option maxRecDepth 100000
set_option linter.unusedSimpArgs false
def impl_IsSemiorder.f (k : Nat) (a0_0 : Int) (l0_1 : List Int) : Option (Bool × Bool) := (impl_IsOrder.f k a0_0 l0_1).bind fun t459 => (if t459 = true then ((impl_isSemi.f k a0_0 l0_1).bind fun t460 => (some (t460, true))) else (some (false, false)))
theorem impl_IsSemiorder.mono : ∀ a0 a1 k, LeO (impl_IsSemiorder.f k a0 a1) (impl_IsSemiorder.f (k + 1) a0 a1) := by
 intro a0 a1 k
 unfold impl_IsSemiorder.f
 repeat' (with_reducible first|apply impl_IsOrder.mono|apply impl_isSemi.mono|apply LeO.refl|apply LeO.none|apply LeO.ite|apply LeO.bind|intro)
theorem impl_IsSemiorder.calls (k : Nat) (a0_0 : Int) (A0_1 : Option Addr) (c0_1 : Nat) (l0_1 : List Int) (r1 : Bool) (r2 : Bool) (w : World) (hr0_1 : Kd.C (Kd.int .i64) w A0_1 l0_1.length l0_1) (hc0_1 : l0_1.length ≤ c0_1) (hTAB : Tab w) (h : impl_IsSemiorder.f k a0_0 l0_1 = some (r1, r2)) :
  Calls Tryd.prog 8 #[.agg #[.int .i64 a0_0, .slice A0_1 l0_1.length c0_1]] w fun e w' => e = .returned (.tuple #[.bool r1, .bool r2]) ∧ Below w.heap.size w w' := by
 have HTAB := mkA hTAB
 clear hTAB
 have hu26 := Tryd.underlying26
 have HR0_1 := mkA hr0_1
 have HC0_1 := mkA hc0_1
 clear hr0_1 hc0_1
 have HB := mkA (Below.refl w.heap.size w)
 have H := h
 clear h
 unfold impl_IsSemiorder.f at H
 obtain ⟨t459, A2, H⟩ := obE H
 by_cases c3 : t459 = true
 ·subst c3
  replace H := ifT H
  obtain ⟨t460, A4, H⟩ := obE H
  simp only [Option.some.injEq, Prod.mk.injEq] at H
  obtain ⟨rfl, rfl⟩ := H
  go_enter Tryd.func8, Tryd.ntmps8
  go_wp2_with (first | ((with_reducible refine gate_dst (N := 1) rfl ?_); refine boxG HB #[.int .i64 a0_0, .slice A0_1 l0_1.length c0_1] 26 ?_; intro gb458 hg w5 BK458 GE458 hb; replace HB := bst HB hb; clear hb hg; obtain ⟨_, _, _, _⟩ := blk2 BK458) | ((with_reducible refine gate_callee (f := 10) rfl ?_); refine goesQ (some 5) Tryd.func10 #[.agg #[.int .i64 a0_0, .slice A0_1 l0_1.length c0_1]] ?_; (with_reducible refine (impl_IsOrder.calls k a0_0 _ _ l0_1 true _ ?_ ?_ ?_ A2.out).mono ?_); exact C_g HR0_1 HB; exact HC0_1.out; exact Tab.below HTAB.out (bel_g HB.out); rintro e w7 ⟨rfl, hb⟩; refine ⟨_, rfl, ?_⟩; replace BK458 := blkB BK458 hb; replace HB := bst HB hb; clear hb; obtain ⟨_, _, _, _⟩ := blk2 BK458) | ((with_reducible refine gate_callee (f := 22) rfl ?_); refine goesQ (some 8) Tryd.func22 #[.agg #[.int .i64 a0_0, .slice A0_1 l0_1.length c0_1]] ?_; (with_reducible refine (impl_isSemi.calls k a0_0 _ _ l0_1 t460 _ ?_ ?_ ?_ A4.out).mono ?_); exact C_g HR0_1 HB; exact HC0_1.out; exact Tab.below HTAB.out (bel_g HB.out); rintro e w9 ⟨rfl, hb⟩; refine ⟨_, rfl, ?_⟩; replace BK458 := blkB BK458 hb; replace HB := bst HB hb; clear hb))
  go_ret2
  exact ⟨eqE, bel_g HB.out⟩
 ·replace c3 := Bool.eq_false_iff.mpr c3
  subst c3
  replace H := ifF H
  simp only [Option.some.injEq, Prod.mk.injEq] at H
  obtain ⟨rfl, rfl⟩ := H
  go_enter Tryd.func8, Tryd.ntmps8
  go_wp2_with (first | ((with_reducible refine gate_dst (N := 1) rfl ?_); refine boxG HB #[.int .i64 a0_0, .slice A0_1 l0_1.length c0_1] 26 ?_; intro gb458 hg w10 BK458 GE458 hb; replace HB := bst HB hb; clear hb hg; obtain ⟨_, _, _, _⟩ := blk2 BK458) | ((with_reducible refine gate_callee (f := 10) rfl ?_); refine goesQ (some 5) Tryd.func10 #[.agg #[.int .i64 a0_0, .slice A0_1 l0_1.length c0_1]] ?_; (with_reducible refine (impl_IsOrder.calls k a0_0 _ _ l0_1 false _ ?_ ?_ ?_ A2.out).mono ?_); exact C_g HR0_1 HB; exact HC0_1.out; exact Tab.below HTAB.out (bel_g HB.out); rintro e w12 ⟨rfl, hb⟩; refine ⟨_, rfl, ?_⟩; replace BK458 := blkB BK458 hb; replace HB := bst HB hb; clear hb))
  go_ret2
  exact ⟨eqE, bel_g HB.out⟩
mutual
def spec_ThreeOneOf.l0 : Nat → Int → Int → List Int → Option (List Int × Bool)
 | 0, _, _, _ => none
 | k + 1, x4, x462000, x462001 => if x4 < x462000 then (if 0 ≤ x4 then (if x4 < (x462001.length : Int) then ((spec_orList.f k (rd x462001 x4)).bind fun t464 => (spec_ThreeOneOf.l1 k x4 t464 (t464.length : Int) 0 x462000 x462001)) else (none)) else (none)) else (some (([] : List Int), false))
def spec_ThreeOneOf.l1 : Nat → Int → List Int → Int → Int → Int → List Int → Option (List Int × Bool)
 | 0, _, _, _, _, _, _ => none
 | k + 1, x4, x25, x26, x27, x462000, x462001 => if x27 < x26 then (if 0 ≤ x27 then (if x27 < (x25.length : Int) then (if 0 ≤ (rd x25 x27) then (if (rd x25 x27) < (x462001.length : Int) then ((spec_orList.f k (rd x462001 (rd x25 x27))).bind fun t469 => (spec_ThreeOneOf.l2 k x4 (rd x25 x27) x25 x26 x27 t469 (t469.length : Int) 0 x462000 x462001)) else (none)) else (none)) else (none)) else (none)) else (spec_ThreeOneOf.l0 k (wrap64 (x4 + 1)) x462000 x462001)
def spec_ThreeOneOf.l2 : Nat → Int → Int → List Int → Int → Int → List Int → Int → Int → Int → List Int → Option (List Int × Bool)
 | 0, _, _, _, _, _, _, _, _, _, _ => none
 | k + 1, x4, x6, x25, x26, x27, x36, x37, x38, x462000, x462001 => if x38 < x37 then (if 0 ≤ x38 then (if x38 < (x36.length : Int) then ((spec_orFree.f k x462000 x462001 x4).bind fun t473 => ((spec_orFree.f k x462000 x462001 x6).bind fun t474 => ((spec_orFree.f k x462000 x462001 (rd x36 x38)).bind fun t475 => ((spec_orList.f k (Go.bits .and .i64 (Go.bits .and .i64 t473 t474) t475)).bind fun t476 => (spec_ThreeOneOf.l3 k x4 x6 (rd x36 x38) x25 x26 x27 x36 x37 x38 t476 (t476.length : Int) 0 x462000 x462001))))) else (none)) else (none)) else (spec_ThreeOneOf.l1 k x4 x25 x26 (wrap64 (x27 + 1)) x462000 x462001)
def spec_ThreeOneOf.l3 : Nat → Int → Int → Int → List Int → Int → Int → List Int → Int → Int → List Int → Int → Int → Int → List Int → Option (List Int × Bool)
 | 0, _, _, _, _, _, _, _, _, _, _, _, _, _, _ => none
 | k + 1, x4, x6, x8, x25, x26, x27, x36, x37, x38, x53, x54, x55, x462000, x462001 => if x55 < x54 then (if 0 ≤ x55 then (if x55 < (x53.length : Int) then (some ((([x4, x6, x8, rd x53 x55] : List Int)), true)) else (none)) else (none)) else (spec_ThreeOneOf.l2 k x4 x6 x25 x26 x27 x36 x37 (wrap64 (x38 + 1)) x462000 x462001)
end
def spec_ThreeOneOf.f (k : Nat) (a0_0 : Int) (l0_1 : List Int) : Option (List Int × Bool) := (spec_orGood.f k a0_0 l0_1).bind fun t462 => (if t462 = true then (spec_ThreeOneOf.l0 k 0 a0_0 l0_1) else (some (([] : List Int), false)))
theorem spec_ThreeOneOf.mono_l : ∀ k, (∀ y0 y1 y2, LeO (spec_ThreeOneOf.l0 k y0 y1 y2) (spec_ThreeOneOf.l0 (k + 1) y0 y1 y2)) ∧ (∀ y0 y1 y2 y3 y4 y5, LeO (spec_ThreeOneOf.l1 k y0 y1 y2 y3 y4 y5) (spec_ThreeOneOf.l1 (k + 1) y0 y1 y2 y3 y4 y5)) ∧ (∀ y0 y1 y2 y3 y4 y5 y6 y7 y8 y9, LeO (spec_ThreeOneOf.l2 k y0 y1 y2 y3 y4 y5 y6 y7 y8 y9) (spec_ThreeOneOf.l2 (k + 1) y0 y1 y2 y3 y4 y5 y6 y7 y8 y9)) ∧ (∀ y0 y1 y2 y3 y4 y5 y6 y7 y8 y9 y10 y11 y12 y13, LeO (spec_ThreeOneOf.l3 k y0 y1 y2 y3 y4 y5 y6 y7 y8 y9 y10 y11 y12 y13) (spec_ThreeOneOf.l3 (k + 1) y0 y1 y2 y3 y4 y5 y6 y7 y8 y9 y10 y11 y12 y13))
 | 0 => ⟨fun _ _ _ r h => by simp [spec_ThreeOneOf.l0] at h, fun _ _ _ _ _ _ r h => by simp [spec_ThreeOneOf.l1] at h, fun _ _ _ _ _ _ _ _ _ _ r h => by simp [spec_ThreeOneOf.l2] at h, fun _ _ _ _ _ _ _ _ _ _ _ _ _ _ r h => by simp [spec_ThreeOneOf.l3] at h⟩
 | k + 1 => by
  obtain ⟨ih0, ih1, ih2, ih3⟩ := spec_ThreeOneOf.mono_l k
  refine ⟨?_, ?_, ?_, ?_⟩ <;> intros
  unfold spec_ThreeOneOf.l0
  rotate_left
  unfold spec_ThreeOneOf.l1
  rotate_left
  unfold spec_ThreeOneOf.l2
  rotate_left
  unfold spec_ThreeOneOf.l3
  rotate_left
  all_goals repeat' (with_reducible first|apply ih0|apply ih1|apply ih2|apply ih3|apply spec_orFree.mono|apply spec_orGood.mono|apply spec_orList.mono|apply LeO.refl|apply LeO.none|apply LeO.ite|apply LeO.bind|intro)
theorem spec_ThreeOneOf.mono : ∀ a0 a1 k, LeO (spec_ThreeOneOf.f k a0 a1) (spec_ThreeOneOf.f (k + 1) a0 a1) := by
 intro a0 a1 k
 obtain ⟨ih0, ih1, ih2, ih3⟩ := spec_ThreeOneOf.mono_l k
 unfold spec_ThreeOneOf.f
 repeat' (with_reducible first|apply ih0|apply ih1|apply ih2|apply ih3|apply spec_orFree.mono|apply spec_orGood.mono|apply spec_orList.mono|apply LeO.refl|apply LeO.none|apply LeO.ite|apply LeO.bind|intro)
def spec_ThreeOneOf.T12 : Bool × List (List Nat × List Nat) := (true, [([], []), ([], []), ([0, 1], [0, 1]), ([], []), ([], []), ([3, 4, 2], [3, 4]), ([2, 5], [2, 5]), ([], []), ([], []), ([7, 8, 5], [7, 8]), ([6, 9], [6, 9]), ([10, 9], [10]), ([11], [11]), ([], [])])
def spec_ThreeOneOf.B12 : List Nat := [0, 0, 3, 0, 0, 31, 63, 0, 0, 447, 1023, 2047, 4095, 0]
theorem spec_ThreeOneOf.tab12 : rtab .any (opsOf Tryd.f12 12) = spec_ThreeOneOf.T12 := by kernel_rfl
theorem spec_ThreeOneOf.bits12 : waitsOk spec_ThreeOneOf.T12.2 spec_ThreeOneOf.B12 = true := by kernel_rfl
theorem spec_ThreeOneOf.calls (k : Nat) (a0_0 : Int) (A0_1 : Option Addr) (c0_1 : Nat) (l0_1 : List Int) (r1 : List Int) (r2 : Bool) (w : World) (hr0_1 : Kd.C (Kd.int .i64) w A0_1 l0_1.length l0_1) (hc0_1 : l0_1.length ≤ c0_1) (h : spec_ThreeOneOf.f k a0_0 l0_1 = some (r1, r2)) :
  Calls Tryd.prog 12 #[.agg #[.int .i64 a0_0, .slice A0_1 l0_1.length c0_1]] w fun e w' => ∃ v0_ : Value, e = .returned (.tuple #[v0_, .bool r2]) ∧ Kd.R (Kd.int .i64) 3 w' w.heap.size (fun _ => True) v0_ r1 ∧ Below w.heap.size w w' := by
 have hu26 := Tryd.underlying26
 have HR0_1 := mkA hr0_1
 have HC0_1 := mkA hc0_1
 clear hr0_1 hc0_1
 have HB := mkA (Below.refl w.heap.size w)
 have H := h
 clear h
 unfold spec_ThreeOneOf.f at H
 obtain ⟨t462, A2, H⟩ := obE H
 by_cases c3 : t462 = true
 ·subst c3
  replace H := ifT H
  have H' := mkA H
  clear H
  go_enter Tryd.func12, Tryd.ntmps12
  go_wp2_with (first | ((with_reducible refine gate_dst (N := 1) rfl ?_); refine boxG HB #[.int .i64 a0_0, .slice A0_1 l0_1.length c0_1] 26 ?_; intro gb461 hg w4 BK461 GE461 hb; replace HB := bst HB hb; clear hb hg; obtain ⟨_, _, _, _⟩ := blk2 BK461) | ((with_reducible refine gate_callee (f := 20) rfl ?_); refine goesQ (some 12) Tryd.func20 #[.agg #[.int .i64 a0_0, .slice A0_1 l0_1.length c0_1]] ?_; (with_reducible refine (spec_orGood.calls k a0_0 _ _ l0_1 true _ ?_ ?_ A2.out).mono ?_); exact C_g HR0_1 HB; exact HC0_1.out; rintro e w6 ⟨rfl, hb⟩; refine ⟨_, rfl, ?_⟩; replace BK461 := blkB BK461 hb; replace HB := bst HB hb; clear hb))
  go_loopg [4] k (fun kq v4 w' => ∃ (x4_1 : Int), v4 = .int .i64 x4_1 ∧ Fc (spec_ThreeOneOf.l0 kq x4_1 a0_0 l0_1 = some (r1, r2)) ∧ Fc (kq ≤ k) ∧ Fc (w'.heap[gb461]? = some (.cells #[.int .i64 a0_0, (.slice A0_1 l0_1.length c0_1)] 26 (0, 0))) ∧ Fc (Below w.heap.size w w'))
  case atStart => exact ⟨(0), eqS, H', ⟨Nat.le_refl _⟩, bg BK461, hbg HB⟩
  case round =>
   clear H'
   try clear c3
   obtain ⟨x4_1, rfl, HA, HK1, BK461, HB⟩ := hrel
   cases gk with
   | zero => exact absurd HA.out (by simp [spec_ThreeOneOf.l0])
   | succ k1 =>
    have H := HA.out
    clear HA
    simp only [spec_ThreeOneOf.l0] at H
    rcases iteE H with ⟨c7b0, H⟩ | ⟨c7b0, H⟩
    ·obtain ⟨c8b0, H⟩ := itND H
     obtain ⟨c9b0, H⟩ := itND H
     obtain ⟨t464, A10, H⟩ := obE H
     have H' := mkA H
     clear H
     obtain ⟨_, _, _, _⟩ := blk2 BK461
     obtain ⟨p463, q463, ad463, e463, hx463_0⟩ := atI HR0_1.out x4_1
     cases e463
     replace hx463_0 := (HB.out.cell (World.block_lt_of_cell? w _ hx463_0)).trans hx463_0
     go_wp2_with (first | ((with_reducible refine gate_callee (f := 28) rfl ?_); refine goesQ (some 25) Tryd.func28 #[.int .i64 (rd l0_1 x4_1)] ?_; (with_reducible refine (spec_orList.calls k1 (rd l0_1 x4_1) t464 _ A10.out).mono ?_); rintro e w12 ⟨v465, rfl, ho0, hb⟩; refine ⟨_, rfl, ?_⟩; have HO466 := rLo ho0 HB; replace BK461 := blkB BK461 hb; replace HB := bst HB hb; clear hb ho0; obtain ⟨Ao13, co13, rfl⟩ := Kd.R_slice HO466.out))
     go_loopg [27] k1 (fun kq v27 w' => ∃ (x27_2 : Int), v27 = .int .i64 x27_2 ∧ Fc (spec_ThreeOneOf.l1 kq x4_1 t464 (t464.length : Int) x27_2 a0_0 l0_1 = some (r1, r2)) ∧ Fc (kq ≤ k1) ∧ Fc (Kd.R (Kd.int .i64) 3 w' w.heap.size (fun _ => True) (.slice Ao13 t464.length co13) t464) ∧ Fc (w'.heap[gb461]? = some (.cells #[.int .i64 a0_0, (.slice (some ad463) l0_1.length c0_1)] 26 (0, 0))) ∧ Fc (Below w.heap.size w w'))
     case atStart => exact ⟨(0), eqS, H', ⟨Nat.le_refl _⟩, rg HO466, bg BK461, hbg HB⟩
     case round =>
      clear H'
      try clear c3
      try clear c7b0
      try clear c8
      try clear c8b0
      try clear c9
      try clear c9b0
      try clear hx463_0
      try clear p463
      try clear q463
      obtain ⟨x27_2, rfl, HA, HK2, HO_25, BK461, HB⟩ := hrel
      cases gk with
      | zero => exact absurd HA.out (by simp [spec_ThreeOneOf.l1])
      | succ k2 =>
       have H := HA.out
       clear HA
       simp only [spec_ThreeOneOf.l1] at H
       rcases iteE H with ⟨c14b0, H⟩ | ⟨c14b0, H⟩
       ·obtain ⟨c15b0, H⟩ := itND H
        obtain ⟨c16b0, H⟩ := itND H
        obtain ⟨c17b0, H⟩ := itND H
        obtain ⟨c18b0, H⟩ := itND H
        obtain ⟨t469, A19, H⟩ := obE H
        have H' := mkA H
        clear H
        obtain ⟨p467, q467, ad467, e467, hx467_0⟩ := atI (Kd.R_reads' HO_25.out).2.2 x27_2
        cases e467
        obtain ⟨_, _, _, _⟩ := blk2 BK461
        obtain ⟨p468, q468, ad468, e468, hx468_0⟩ := atI HR0_1.out (rd t464 x27_2)
        obtain rfl : ad463 = ad468 := (by injection e468)
        replace hx468_0 := (HB.out.cell (World.block_lt_of_cell? w _ hx468_0)).trans hx468_0
        go_wp2_with (first | ((with_reducible refine gate_callee (f := 28) rfl ?_); refine goesQ (some 36) Tryd.func28 #[.int .i64 (rd l0_1 (rd t464 x27_2))] ?_; (with_reducible refine (spec_orList.calls k2 (rd l0_1 (rd t464 x27_2)) t469 _ A19.out).mono ?_); rintro e w21 ⟨v470, rfl, ho0, hb⟩; refine ⟨_, rfl, ?_⟩; have HO471 := rLo (rN ho0 HO_25) HB; replace HO_25 := rE HO_25 ho0 hb; replace BK461 := blkB BK461 hb; replace HB := bst HB hb; clear hb ho0; obtain ⟨Ao22, co22, rfl⟩ := Kd.R_slice HO471.out))
        go_loopg [38] k2 (fun kq v38 w' => ∃ (x38_3 : Int), v38 = .int .i64 x38_3 ∧ Fc (spec_ThreeOneOf.l2 kq x4_1 (rd t464 x27_2) t464 (t464.length : Int) x27_2 t469 (t469.length : Int) x38_3 a0_0 l0_1 = some (r1, r2)) ∧ Fc (kq ≤ k2) ∧ Fc (Kd.R (Kd.int .i64) 3 w' w.heap.size (fun k_ => some k_ ≠ ((.slice Ao22 t469.length co22) : Value).ownBlock) (.slice (some ad467) t464.length co13) t464) ∧ Fc (Kd.R (Kd.int .i64) 3 w' w.heap.size (fun k_ => some k_ ≠ ((.slice (some ad467) t464.length co13) : Value).ownBlock) (.slice Ao22 t469.length co22) t469) ∧ Fc (w'.heap[gb461]? = some (.cells #[.int .i64 a0_0, (.slice (some ad463) l0_1.length c0_1)] 26 (0, 0))) ∧ Fc (Below w.heap.size w w'))
        case atStart => exact ⟨(0), eqS, H', ⟨Nat.le_refl _⟩, ⟨Kd.R_g (Kd.R_mono HO_25.out (fun _ hk => hk.2))⟩, ⟨Kd.R_g (Kd.R_mono HO471.out (fun _ hk => hk.2))⟩, bg BK461, hbg HB⟩
        case round =>
         clear H'
         try clear c3
         try clear c7b0
         try clear c8
         try clear c8b0
         try clear c9
         try clear c9b0
         try clear c14b0
         try clear c15
         try clear c15b0
         try clear c16
         try clear c16b0
         try clear c17
         try clear c17b0
         try clear c18
         try clear c18b0
         try clear hx463_0
         try clear hx467_0
         try clear hx468_0
         try clear p463
         try clear p467
         try clear p468
         try clear q463
         try clear q467
         try clear q468
         obtain ⟨x38_3, rfl, HA, HK3, HO_25, HO_36, BK461, HB⟩ := hrel
         cases gk with
         | zero => exact absurd HA.out (by simp [spec_ThreeOneOf.l2])
         | succ k3 =>
          have H := HA.out
          clear HA
          simp only [spec_ThreeOneOf.l2] at H
          rcases iteE H with ⟨c23b0, H⟩ | ⟨c23b0, H⟩
          ·obtain ⟨c24b0, H⟩ := itND H
           obtain ⟨c25b0, H⟩ := itND H
           obtain ⟨t473, A26, H⟩ := obE H
           obtain ⟨t474, A27, H⟩ := obE H
           obtain ⟨t475, A28, H⟩ := obE H
           obtain ⟨t476, A29, H⟩ := obE H
           have H' := mkA H
           clear H
           obtain ⟨p472, q472, ad472, e472, hx472_0⟩ := atI (Kd.R_reads' HO_36.out).2.2 x38_3
           cases e472
           try go_wp2
           replace HO_25 := mkA (Kd.R_drew HO_25.out)
           replace HO_36 := mkA (Kd.R_drew HO_36.out)
           replace BK461 := mkA (blk_drew BK461.out)
           replace HB := mkA (below_drew1 HB.out)
           refine start_ (n := 14) (S := fun w' => w'.cell? ⟨gb461, 0, none⟩ = some (.int .i64 a0_0) ∧ w'.cell? ⟨gb461, 1, none⟩ = some (.slice (some ad463) l0_1.length c0_1)) (ds := []) (bm 14 0) (by kernel_rfl) rfl (by kernel_rfl) ⟨(blk_cell BK461.out 0).trans rfl, (blk_cell BK461.out 1).trans rfl⟩ (fun hHeld => ?_); refine with_tabW spec_ThreeOneOf.tab12 spec_ThreeOneOf.bits12 (fun HT_ HW_ => ?_)
           generalize wr.drew = w30 at HO_25 HO_36 BK461 HB hHeld ⊢
           refine purW 1 43 14 2 HT_ ?_
           refine purW 4 46 14 18 HT_ ?_
           refine purW 8 50 14 274 HT_ ?_
           refine purW 13 55 14 8466 HT_ ?_
           refine takeW 0 (some 42) (bm 14 8467) HT_ HW_ hHeld ?_
           refine takeW 3 (some 45) (bm 14 8475) HT_ HW_ hHeld ?_
           refine takeW 7 (some 49) (bm 14 8603) HT_ HW_ hHeld ?_
           refine oneW 2 (some 44) (bm 14 8607) HT_ (fun K hK => ?_)
           refine goesR Tryd.func29 #[.agg #[.int .i64 a0_0, .slice (some ad463) l0_1.length c0_1], .int .i64 x4_1] ?_
           with_reducible refine (spec_orFree.calls k3 a0_0 _ _ l0_1 x4_1 t473 _ ?s1 ?s2 A26.out).mono ?_
           (case s1 => exact C_g HR0_1 HB)
           (case s2 => exact HC0_1.out)
           rintro e w31 ⟨rfl, hb⟩
           refine ⟨_, rfl, ?_⟩
           replace HO_25 := rB HO_25 hb
           replace HO_36 := rB HO_36 hb
           replace BK461 := blkB BK461 hb
           replace HB := bst HB hb
           (try clear hb)
           (try clear hb2)
           (try clear hk)
           (try clear hi)
           refine hK.out _ _ ⟨(blk_cell BK461.out 0).trans rfl, (blk_cell BK461.out 1).trans rfl⟩ (fun hHeld => ?_)
           clear hK K
           refine normW 44 ?_
           refine oneW 5 (some 47) (bm 14 8639) HT_ (fun K hK => ?_)
           refine goesR Tryd.func29 #[.agg #[.int .i64 a0_0, .slice (some ad463) l0_1.length c0_1], .int .i64 (rd t464 x27_2)] ?_
           with_reducible refine (spec_orFree.calls k3 a0_0 _ _ l0_1 (rd t464 x27_2) t474 _ ?s1 ?s2 A27.out).mono ?_
           (case s1 => exact C_g HR0_1 HB)
           (case s2 => exact HC0_1.out)
           rintro e w32 ⟨rfl, hb⟩
           refine ⟨_, rfl, ?_⟩
           replace HO_25 := rB HO_25 hb
           replace HO_36 := rB HO_36 hb
           replace BK461 := blkB BK461 hb
           replace HB := bst HB hb
           (try clear hb)
           (try clear hb2)
           (try clear hk)
           (try clear hi)
           refine hK.out _ _ ⟨(blk_cell BK461.out 0).trans rfl, (blk_cell BK461.out 1).trans rfl⟩ (fun hHeld => ?_)
           clear hK K
           refine normW 47 ?_
           refine purW 6 48 14 8703 HT_ ?_
           refine oneW 9 (some 51) (bm 14 9215) HT_ (fun K hK => ?_)
           refine goesR Tryd.func29 #[.agg #[.int .i64 a0_0, .slice (some ad463) l0_1.length c0_1], .int .i64 (rd t469 x38_3)] ?_
           with_reducible refine (spec_orFree.calls k3 a0_0 _ _ l0_1 (rd t469 x38_3) t475 _ ?s1 ?s2 A28.out).mono ?_
           (case s1 => exact C_g HR0_1 HB)
           (case s2 => exact HC0_1.out)
           rintro e w33 ⟨rfl, hb⟩
           refine ⟨_, rfl, ?_⟩
           replace HO_25 := rB HO_25 hb
           replace HO_36 := rB HO_36 hb
           replace BK461 := blkB BK461 hb
           replace HB := bst HB hb
           (try clear hb)
           (try clear hb2)
           (try clear hk)
           (try clear hi)
           refine hK.out _ _ ⟨(blk_cell BK461.out 0).trans rfl, (blk_cell BK461.out 1).trans rfl⟩ (fun hHeld => ?_)
           clear hK K
           refine normW 51 ?_
           refine purW 10 52 14 10239 HT_ ?_
           refine oneW 11 (some 53) (bm 14 12287) HT_ (fun K hK => ?_)
           refine goesR Tryd.func28 #[.int .i64 (Go.bits .and .i64 (Go.bits .and .i64 t473 t474) t475)] ?_
           with_reducible refine (spec_orList.calls k3 (Go.bits .and .i64 (Go.bits .and .i64 t473 t474) t475) t476 _ A29.out).mono ?_
           rintro e w34 ⟨v477, rfl, ho0, hb⟩
           refine ⟨_, rfl, ?_⟩
           have HO478 := rLo (rN (rN ho0 HO_25) HO_36) HB
           replace HO_25 := rE HO_25 ho0 hb
           replace HO_36 := rE HO_36 ho0 hb
           replace BK461 := blkB BK461 hb
           replace HB := bst HB hb
           (try clear hb)
           (try clear hb2)
           (try clear hk)
           (try clear hi)
           (try clear ho0)
           obtain ⟨Ao35, co35, eo35⟩ := Kd.R_slice HO478.out
           (first | subst eo35 | (injection eo35 with f1_ f2_ f3_; have f4_ := f1_.symm; have f5_ := f3_.symm; clear f1_ f2_ f3_; subst f4_; subst f5_))
           refine hK.out _ _ ⟨(blk_cell BK461.out 0).trans rfl, (blk_cell BK461.out 1).trans rfl⟩ (fun hHeld => ?_)
           clear hK K
           refine normW 53 ?_
           refine purW 12 54 14 16383 HT_ ?_
           refine doneW HT_ ?_
           try go_wp2
           go_loopg [55] k3 (fun kq v55 w' => ∃ (x55_4 : Int), v55 = .int .i64 x55_4 ∧ Fc (spec_ThreeOneOf.l3 kq x4_1 (rd t464 x27_2) (rd t469 x38_3) t464 (t464.length : Int) x27_2 t469 (t469.length : Int) x38_3 t476 (t476.length : Int) x55_4 a0_0 l0_1 = some (r1, r2)) ∧ Fc (kq ≤ k3) ∧ Fc (Kd.R (Kd.int .i64) 3 w' w.heap.size (fun k_ => some k_ ≠ ((.slice (some ad472) t469.length co22) : Value).ownBlock ∧ some k_ ≠ ((.slice Ao35 t476.length co35) : Value).ownBlock) (.slice (some ad467) t464.length co13) t464) ∧ Fc (Kd.R (Kd.int .i64) 3 w' w.heap.size (fun k_ => some k_ ≠ ((.slice (some ad467) t464.length co13) : Value).ownBlock ∧ some k_ ≠ ((.slice Ao35 t476.length co35) : Value).ownBlock) (.slice (some ad472) t469.length co22) t469) ∧ Fc (Kd.R (Kd.int .i64) 3 w' w.heap.size (fun k_ => some k_ ≠ ((.slice (some ad467) t464.length co13) : Value).ownBlock ∧ some k_ ≠ ((.slice (some ad472) t469.length co22) : Value).ownBlock) (.slice Ao35 t476.length co35) t476) ∧ Fc (w'.heap[gb461]? = some (.cells #[.int .i64 a0_0, (.slice (some ad463) l0_1.length c0_1)] 26 (0, 0))) ∧ Fc (Below w.heap.size w w'))
           case atStart => exact ⟨(0), eqS, H', ⟨Nat.le_refl _⟩, rg HO_25, rg HO_36, ⟨Kd.R_g (Kd.R_mono HO478.out (fun _ hk => ⟨hk.1.2, hk.2⟩))⟩, bg BK461, hbg HB⟩
           case round =>
            clear H'
            try clear c3
            try clear c7b0
            try clear c8
            try clear c8b0
            try clear c9
            try clear c9b0
            try clear c14b0
            try clear c15
            try clear c15b0
            try clear c16
            try clear c16b0
            try clear c17
            try clear c17b0
            try clear c18
            try clear c18b0
            try clear c23b0
            try clear c24
            try clear c24b0
            try clear c25
            try clear c25b0
            try clear hx463_0
            try clear hx467_0
            try clear hx468_0
            try clear hx472_0
            try clear p463
            try clear p467
            try clear p468
            try clear p472
            try clear q463
            try clear q467
            try clear q468
            try clear q472
            obtain ⟨x55_4, rfl, HA, HK4, HO_25, HO_36, HO_53, BK461, HB⟩ := hrel
            cases gk with
            | zero => exact absurd HA.out (by simp [spec_ThreeOneOf.l3])
            | succ k4 =>
             have H := HA.out
             clear HA
             simp only [spec_ThreeOneOf.l3] at H
             rcases iteE H with ⟨c36b0, H⟩ | ⟨c36b0, H⟩
             ·obtain ⟨c37b0, H⟩ := itND H
              obtain ⟨c38b0, H⟩ := itND H
              obtain ⟨y480, hy480⟩ : ∃ y_ : List Int, y_ = (([x4_1, (rd t464 x27_2), (rd t469 x38_3), rd t476 x55_4] : List Int)) := ⟨_, rfl⟩
              rw [← hy480] at H
              have Ny480 := mkA hy480
              clear hy480
              simp only [Option.some.injEq, Prod.mk.injEq] at H
              obtain ⟨rfl, rfl⟩ := H
              obtain ⟨p479, q479, ad479, e479, hx479_0⟩ := atI (Kd.R_reads' HO_53.out).2.2 x55_4
              cases e479
              go_wp2_with (first | ((with_reducible refine gate_dst (N := 63) rfl ?_); refine litE (Kd.int .i64) 3 ([x4_1, (rd t464 x27_2), (rd t469 x38_3), rd t476 x55_4] : List Int) [.int .i64 x4_1, .int .i64 (rd t464 x27_2), .int .i64 (rd t469 x38_3), .int .i64 (rd t476 x55_4)] ?hp ?_; (case hp => exact (Reps.one (show Kd.M (Kd.int .i64) _ _ _ x4_1 [.int .i64 x4_1] from rfl) (Reps.one (show Kd.M (Kd.int .i64) _ _ _ (rd t464 x27_2) [.int .i64 (rd t464 x27_2)] from rfl) (Reps.one (show Kd.M (Kd.int .i64) _ _ _ (rd t469 x38_3) [.int .i64 (rd t469 x38_3)] from rfl) (Reps.one (show Kd.M (Kd.int .i64) _ _ _ (rd t476 x55_4) [.int .i64 (rd t476 x55_4)] from rfl) (Reps.none _ _)))))); intro v481 w39 ho40 hb hg_ hnew_; clear hg_ hnew_; (first | rw [← Ny480.out] at ho40 | (simp only [Int.reduceToNat] at ho40; rw [← Ny480.out] at ho40)); have HO482 := rLo (rN (rN (rN ho40 HO_25) HO_36) HO_53) HB; replace HO_25 := rE HO_25 ho40 hb; replace HO_36 := rE HO_36 ho40 hb; replace HO_53 := rE HO_53 ho40 hb; replace BK461 := blkB BK461 hb; replace HB := bst HB hb; clear hb ho40))
              go_ret2
              exact ⟨_, eqE, Kd.R_g (Kd.R_mono HO482.out (fun _ hk => trivial)), bel_g HB.out⟩
             ·have H' := mkA H
              clear H
              go_wp2
              go_roundg k4
              case measure => have := HK1.out; have := HK2.out; have := HK3.out; have := HK4.out; omega
              case rel => exact ⟨(wrap64 (x38_3 + 1)), eqS, H', ⟨by have := HK1.out; have := HK2.out; have := HK3.out; have := HK4.out; omega⟩, ⟨Kd.R_g (Kd.R_mono HO_25.out (fun _ hk => hk.1))⟩, ⟨Kd.R_g (Kd.R_mono HO_36.out (fun _ hk => hk.1))⟩, bg BK461, hbg HB⟩
          ·have H' := mkA H
           clear H
           go_wp2
           go_roundg k3
           case measure => have := HK1.out; have := HK2.out; have := HK3.out; omega
           case rel => exact ⟨(wrap64 (x27_2 + 1)), eqS, H', ⟨by have := HK1.out; have := HK2.out; have := HK3.out; omega⟩, ⟨Kd.R_g (Kd.R_mono HO_25.out (fun _ hk => trivial))⟩, bg BK461, hbg HB⟩
       ·have H' := mkA H
        clear H
        go_wp2
        go_roundg k2
        case measure => have := HK1.out; have := HK2.out; omega
        case rel => exact ⟨(wrap64 (x4_1 + 1)), eqS, H', ⟨by have := HK1.out; have := HK2.out; omega⟩, bg BK461, hbg HB⟩
    ·simp only [Option.some.injEq, Prod.mk.injEq] at H
     obtain ⟨rfl, rfl⟩ := H
     obtain ⟨_, _, _, _⟩ := blk2 BK461
     go_wp2
     go_ret2
     exact ⟨_, eqE, nilE, bel_g HB.out⟩
 ·replace c3 := Bool.eq_false_iff.mpr c3
  subst c3
  replace H := ifF H
  simp only [Option.some.injEq, Prod.mk.injEq] at H
  obtain ⟨rfl, rfl⟩ := H
  go_enter Tryd.func12, Tryd.ntmps12
  go_wp2_with (first | ((with_reducible refine gate_dst (N := 1) rfl ?_); refine boxG HB #[.int .i64 a0_0, .slice A0_1 l0_1.length c0_1] 26 ?_; intro gb461 hg w42 BK461 GE461 hb; replace HB := bst HB hb; clear hb hg; obtain ⟨_, _, _, _⟩ := blk2 BK461) | ((with_reducible refine gate_callee (f := 20) rfl ?_); refine goesQ (some 12) Tryd.func20 #[.agg #[.int .i64 a0_0, .slice A0_1 l0_1.length c0_1]] ?_; (with_reducible refine (spec_orGood.calls k a0_0 _ _ l0_1 false _ ?_ ?_ A2.out).mono ?_); exact C_g HR0_1 HB; exact HC0_1.out; rintro e w44 ⟨rfl, hb⟩; refine ⟨_, rfl, ?_⟩; replace BK461 := blkB BK461 hb; replace HB := bst HB hb; clear hb))
  go_ret2
  exact ⟨_, eqE, nilE, bel_g HB.out⟩
end Go.Proofs.YtmoemabbmjdhgaaDoor.Q
