import Derived.Test.YtmoemabbmjdhgaaDoorBFnThresholds16
namespace Go.Proofs.YtmoemabbmjdhgaaDoor.Q
open Go.RowKit Go.Proofs.YtmoemabbmjdhgaaDoorW.PrintWords Go.Proofs.YtmoemabbmjdhgaaDoorW.PrintLast Go.Proofs.YtmoemabbmjdhgaaDoorW.PrintMore
attribute [local go_sem] max2_int min2_int max_two min_two max_three min_three max_four min_four neB_f
set_option linter.unusedVariables false
set_option maxHeartbeats 8000000
set_option maxRecDepth 100000
set_option linter.unusedSimpArgs false
mutual
def impl_Order_threeOne.l0 : Nat → List Int → Int → Int → Int → List Int → Option (List Int)
 | 0, _, _, _, _, _ => none
 | k + 1, x3, x13, x14, x417000, x417001 => if x14 < x13 then (if 0 ≤ x14 then (if x14 < (x417001.length : Int) then ((impl_members.f k (rd x417001 x14)).bind fun t421 => (impl_Order_threeOne.l1 k x3 x14 x13 x14 t421 (t421.length : Int) 0 x417000 x417001)) else (none)) else (none)) else (some ([] : List Int))
def impl_Order_threeOne.l1 : Nat → List Int → Int → Int → Int → List Int → Int → Int → Int → List Int → Option (List Int)
 | 0, _, _, _, _, _, _, _, _, _ => none
 | k + 1, x3, x4, x13, x14, x22, x23, x24, x417000, x417001 => if x24 < x23 then (if 0 ≤ x24 then (if x24 < (x22.length : Int) then (if 0 ≤ (rd x22 x24) then (if (rd x22 x24) < (x417001.length : Int) then ((impl_members.f k (rd x417001 (rd x22 x24))).bind fun t426 => (impl_Order_threeOne.l2 k x3 x4 (rd x22 x24) x13 x14 x22 x23 x24 t426 (t426.length : Int) 0 x417000 x417001)) else (none)) else (none)) else (none)) else (none)) else (impl_Order_threeOne.l0 k x3 x13 (wrap64 (x14 + 1)) x417000 x417001)
def impl_Order_threeOne.l2 : Nat → List Int → Int → Int → Int → Int → List Int → Int → Int → List Int → Int → Int → Int → List Int → Option (List Int)
 | 0, _, _, _, _, _, _, _, _, _, _, _, _, _ => none
 | k + 1, x3, x4, x6, x13, x14, x22, x23, x24, x33, x34, x35, x417000, x417001 => if x35 < x34 then (if 0 ≤ x35 then (if x35 < (x33.length : Int) then (if 0 ≤ x4 then (if x4 < (x3.length : Int) then (if 0 ≤ x6 then (if x6 < (x3.length : Int) then (if 0 ≤ (rd x33 x35) then (if (rd x33 x35) < (x3.length : Int) then (if (Go.bits .and .i64 (Go.bits .and .i64 (rd x3 x4) (rd x3 x6)) (rd x3 (rd x33 x35))) = 0 then (impl_Order_threeOne.l2 k x3 x4 x6 x13 x14 x22 x23 x24 x33 x34 (wrap64 (x35 + 1)) x417000 x417001) else ((impl_members.f k (Go.bits .and .i64 (Go.bits .and .i64 (rd x3 x4) (rd x3 x6)) (rd x3 (rd x33 x35)))).bind fun t433 => (if 0 < (t433.length : Int) then (some (([x4, x6, rd x33 x35, rd t433 0] : List Int))) else (none)))) else (none)) else (none)) else (none)) else (none)) else (none)) else (none)) else (none)) else (none)) else (impl_Order_threeOne.l1 k x3 x4 x13 x14 x22 x23 (wrap64 (x24 + 1)) x417000 x417001)
end
def impl_Order_threeOne.f (k : Nat) (a0_0 : Int) (l0_1 : List Int) : Option (List Int) := (impl_Order_indifferent.f k a0_0 l0_1).bind fun t417 => (impl_Order_threeOne.l0 k t417 a0_0 0 a0_0 l0_1)
theorem impl_Order_threeOne.mono_l : ∀ k, (∀ y0 y1 y2 y3 y4, LeO (impl_Order_threeOne.l0 k y0 y1 y2 y3 y4) (impl_Order_threeOne.l0 (k + 1) y0 y1 y2 y3 y4)) ∧ (∀ y0 y1 y2 y3 y4 y5 y6 y7 y8, LeO (impl_Order_threeOne.l1 k y0 y1 y2 y3 y4 y5 y6 y7 y8) (impl_Order_threeOne.l1 (k + 1) y0 y1 y2 y3 y4 y5 y6 y7 y8)) ∧ (∀ y0 y1 y2 y3 y4 y5 y6 y7 y8 y9 y10 y11 y12, LeO (impl_Order_threeOne.l2 k y0 y1 y2 y3 y4 y5 y6 y7 y8 y9 y10 y11 y12) (impl_Order_threeOne.l2 (k + 1) y0 y1 y2 y3 y4 y5 y6 y7 y8 y9 y10 y11 y12))
 | 0 => ⟨fun _ _ _ _ _ r h => by simp [impl_Order_threeOne.l0] at h, fun _ _ _ _ _ _ _ _ _ r h => by simp [impl_Order_threeOne.l1] at h, fun _ _ _ _ _ _ _ _ _ _ _ _ _ r h => by simp [impl_Order_threeOne.l2] at h⟩
 | k + 1 => by
  obtain ⟨ih0, ih1, ih2⟩ := impl_Order_threeOne.mono_l k
  refine ⟨?_, ?_, ?_⟩ <;> intros
  unfold impl_Order_threeOne.l0
  rotate_left
  unfold impl_Order_threeOne.l1
  rotate_left
  unfold impl_Order_threeOne.l2
  rotate_left
  all_goals repeat' (with_reducible first|apply ih0|apply ih1|apply ih2|apply impl_Order_indifferent.mono|apply impl_members.mono|apply LeO.refl|apply LeO.none|apply LeO.ite|apply LeO.bind|intro)
theorem impl_Order_threeOne.mono : ∀ a0 a1 k, LeO (impl_Order_threeOne.f k a0 a1) (impl_Order_threeOne.f (k + 1) a0 a1) := by
 intro a0 a1 k
 obtain ⟨ih0, ih1, ih2⟩ := impl_Order_threeOne.mono_l k
 unfold impl_Order_threeOne.f
 repeat' (with_reducible first|apply ih0|apply ih1|apply ih2|apply impl_Order_indifferent.mono|apply impl_members.mono|apply LeO.refl|apply LeO.none|apply LeO.ite|apply LeO.bind|intro)
theorem impl_Order_threeOne.calls (k : Nat) (a0_0 : Int) (A0_1 : Option Addr) (c0_1 : Nat) (l0_1 : List Int) (r : List Int) (w : World) (hr0_1 : Kd.C (Kd.int .i64) w A0_1 l0_1.length l0_1) (hc0_1 : l0_1.length ≤ c0_1) (hTAB : Tab w) (h : impl_Order_threeOne.f k a0_0 l0_1 = some r) :
  Calls Tryd.prog 27 #[.agg #[.int .i64 a0_0, .slice A0_1 l0_1.length c0_1]] w fun e w' => ∃ v0_ : Value, e = .returned (v0_) ∧ Kd.R (Kd.int .i64) 3 w' w.heap.size (fun _ => True) v0_ r ∧ Below w.heap.size w w' ∧ (r = [] → v0_ = .slice none 0 0) := by
 have HTAB := mkA hTAB
 clear hTAB
 have hu26 := Tryd.underlying26
 have HR0_1 := mkA hr0_1
 have HC0_1 := mkA hc0_1
 clear hr0_1 hc0_1
 have HB := mkA (Below.refl w.heap.size w)
 have H := h
 clear h
 unfold impl_Order_threeOne.f at H
 obtain ⟨t417, A2, H⟩ := obE H
 have H' := mkA H
 clear H
 go_enter Tryd.func27, Tryd.ntmps27
 go_wp2_with (first | ((with_reducible refine gate_dst (N := 1) rfl ?_); refine boxG HB #[.int .i64 a0_0, .slice A0_1 l0_1.length c0_1] 26 ?_; intro gb416 hg w3 BK416 GE416 hb; replace HB := bst HB hb; clear hb hg; obtain ⟨hcz4_0, hcz4_1, hfz4_0, hfz4_1⟩ := blk2 BK416) | (go_at_call 31; (with_reducible refine (impl_Order_indifferent.calls k a0_0 _ _ l0_1 t417 _ ?_ ?_ A2.out).mono ?_); exact C_g HR0_1 HB; exact HC0_1.out; rintro e w5 ⟨v418, rfl, ho0, hb⟩; have HO419 := rLo ho0 HB; replace BK416 := blkB BK416 hb; replace HB := bst HB hb; clear hb ho0; obtain ⟨hcz6_0, hcz6_1, hfz6_0, hfz6_1⟩ := blk2 BK416))
 repeat (go_quiet (first | ((with_reducible refine gate_dst (N := 1) rfl ?_); refine boxG HB #[.int .i64 a0_0, .slice A0_1 l0_1.length c0_1] 26 ?_; intro gb416 hg w3 BK416 GE416 hb; replace HB := bst HB hb; clear hb hg; obtain ⟨hcz4_0, hcz4_1, hfz4_0, hfz4_1⟩ := blk2 BK416) | (go_at_call 31; (with_reducible refine (impl_Order_indifferent.calls k a0_0 _ _ l0_1 t417 _ ?_ ?_ A2.out).mono ?_); exact C_g HR0_1 HB; exact HC0_1.out; rintro e w5 ⟨v418, rfl, ho0, hb⟩; have HO419 := rLo ho0 HB; replace BK416 := blkB BK416 hb; replace HB := bst HB hb; clear hb ho0; obtain ⟨hcz6_0, hcz6_1, hfz6_0, hfz6_1⟩ := blk2 BK416)); try go_wp2_with (first | ((with_reducible refine gate_dst (N := 1) rfl ?_); refine boxG HB #[.int .i64 a0_0, .slice A0_1 l0_1.length c0_1] 26 ?_; intro gb416 hg w3 BK416 GE416 hb; replace HB := bst HB hb; clear hb hg; obtain ⟨hcz4_0, hcz4_1, hfz4_0, hfz4_1⟩ := blk2 BK416) | (go_at_call 31; (with_reducible refine (impl_Order_indifferent.calls k a0_0 _ _ l0_1 t417 _ ?_ ?_ A2.out).mono ?_); exact C_g HR0_1 HB; exact HC0_1.out; rintro e w5 ⟨v418, rfl, ho0, hb⟩; have HO419 := rLo ho0 HB; replace BK416 := blkB BK416 hb; replace HB := bst HB hb; clear hb ho0; obtain ⟨hcz6_0, hcz6_1, hfz6_0, hfz6_1⟩ := blk2 BK416)))
 go_loopg [14] k (fun kq v14 w' => ∃ (x14_1 : Int), v14 = .int .i64 x14_1 ∧ Fc (impl_Order_threeOne.l0 kq t417 a0_0 x14_1 a0_0 l0_1 = some r) ∧ Fc (kq ≤ k) ∧ Fc (Kd.R (Kd.int .i64) 3 w' w.heap.size (fun _ => True) v418 t417) ∧ Fc (w'.heap[gb416]? = some (.cells #[.int .i64 a0_0, (.slice A0_1 l0_1.length c0_1)] 26 (0, 0))) ∧ Fc (Below w.heap.size w w'))
 case atStart => exact ⟨(0), eqS, H', ⟨Nat.le_refl _⟩, rg HO419, bg BK416, hbg HB⟩
 case round =>
  clear H'
  obtain ⟨x14_1, rfl, HA, HK1, HO_3, BK416, HB⟩ := hrel
  cases gk with
  | zero => exact absurd HA.out (by simp [impl_Order_threeOne.l0])
  | succ k1 =>
   have H := HA.out
   clear HA
   simp only [impl_Order_threeOne.l0] at H
   rcases iteE H with ⟨c7b0, H⟩ | ⟨c7b0, H⟩
   ·obtain ⟨c8b0, H⟩ := itND H
    obtain ⟨c9b0, H⟩ := itND H
    obtain ⟨t421, A10, H⟩ := obE H
    have H' := mkA H
    clear H
    obtain ⟨_, _, _, _⟩ := blk2 BK416
    obtain ⟨p420, q420, ad420, e420, hx420_0⟩ := atI HR0_1.out x14_1
    cases e420
    replace hx420_0 := (HB.out.cell (World.block_lt_of_cell? w _ hx420_0)).trans hx420_0
    go_wp2_with (first | (go_at_call 26; (with_reducible refine (impl_members.calls k1 (rd l0_1 x14_1) t421 _ ?_ A10.out).mono ?_); exact Tab.below HTAB.out (bel_g HB.out); rintro e w12 ⟨v422, rfl, ho0, hb⟩; have HO423 := rLo (rN ho0 HO_3) HB; replace HO_3 := rE HO_3 ho0 hb; replace BK416 := blkB BK416 hb; replace HB := bst HB hb; clear hb ho0; obtain ⟨Ao13, co13, rfl⟩ := Kd.R_slice HO423.out))
    repeat (go_quiet (first | (go_at_call 26; (with_reducible refine (impl_members.calls k1 (rd l0_1 x14_1) t421 _ ?_ A10.out).mono ?_); exact Tab.below HTAB.out (bel_g HB.out); rintro e w12 ⟨v422, rfl, ho0, hb⟩; have HO423 := rLo (rN ho0 HO_3) HB; replace HO_3 := rE HO_3 ho0 hb; replace BK416 := blkB BK416 hb; replace HB := bst HB hb; clear hb ho0; obtain ⟨Ao13, co13, rfl⟩ := Kd.R_slice HO423.out)); try go_wp2_with (first | (go_at_call 26; (with_reducible refine (impl_members.calls k1 (rd l0_1 x14_1) t421 _ ?_ A10.out).mono ?_); exact Tab.below HTAB.out (bel_g HB.out); rintro e w12 ⟨v422, rfl, ho0, hb⟩; have HO423 := rLo (rN ho0 HO_3) HB; replace HO_3 := rE HO_3 ho0 hb; replace BK416 := blkB BK416 hb; replace HB := bst HB hb; clear hb ho0; obtain ⟨Ao13, co13, rfl⟩ := Kd.R_slice HO423.out)))
    go_loopg [24] k1 (fun kq v24 w' => ∃ (x24_2 : Int), v24 = .int .i64 x24_2 ∧ Fc (impl_Order_threeOne.l1 kq t417 x14_1 a0_0 x14_1 t421 (t421.length : Int) x24_2 a0_0 l0_1 = some r) ∧ Fc (kq ≤ k1) ∧ Fc (Kd.R (Kd.int .i64) 3 w' w.heap.size (fun k_ => some k_ ≠ ((.slice Ao13 t421.length co13) : Value).ownBlock) v418 t417) ∧ Fc (Kd.R (Kd.int .i64) 3 w' w.heap.size (fun k_ => some k_ ≠ (v418 : Value).ownBlock) (.slice Ao13 t421.length co13) t421) ∧ Fc (w'.heap[gb416]? = some (.cells #[.int .i64 a0_0, (.slice (some ad420) l0_1.length c0_1)] 26 (0, 0))) ∧ Fc (Below w.heap.size w w'))
    case atStart => exact ⟨(0), eqS, H', ⟨Nat.le_refl _⟩, ⟨Kd.R_g (Kd.R_mono HO_3.out (fun _ hk => hk.2))⟩, ⟨Kd.R_g (Kd.R_mono HO423.out (fun _ hk => hk.2))⟩, bg BK416, hbg HB⟩
    case round =>
     clear H'
     try clear c7b0
     try clear c8
     try clear c8b0
     try clear c9
     try clear c9b0
     try clear hx420_0
     try clear p420
     try clear q420
     obtain ⟨x24_2, rfl, HA, HK2, HO_3, HO_22, BK416, HB⟩ := hrel
     cases gk with
     | zero => exact absurd HA.out (by simp [impl_Order_threeOne.l1])
     | succ k2 =>
      have H := HA.out
      clear HA
      simp only [impl_Order_threeOne.l1] at H
      rcases iteE H with ⟨c14b0, H⟩ | ⟨c14b0, H⟩
      ·obtain ⟨c15b0, H⟩ := itND H
       obtain ⟨c16b0, H⟩ := itND H
       obtain ⟨c17b0, H⟩ := itND H
       obtain ⟨c18b0, H⟩ := itND H
       obtain ⟨t426, A19, H⟩ := obE H
       have H' := mkA H
       clear H
       obtain ⟨p424, q424, ad424, e424, hx424_0⟩ := atI (Kd.R_reads' HO_22.out).2.2 x24_2
       cases e424
       obtain ⟨_, _, _, _⟩ := blk2 BK416
       obtain ⟨p425, q425, ad425, e425, hx425_0⟩ := atI HR0_1.out (rd t421 x24_2)
       obtain rfl : ad420 = ad425 := (by injection e425)
       replace hx425_0 := (HB.out.cell (World.block_lt_of_cell? w _ hx425_0)).trans hx425_0
       go_wp2_with (first | (go_at_call 26; (with_reducible refine (impl_members.calls k2 (rd l0_1 (rd t421 x24_2)) t426 _ ?_ A19.out).mono ?_); exact Tab.below HTAB.out (bel_g HB.out); rintro e w21 ⟨v427, rfl, ho0, hb⟩; have HO428 := rLo (rN (rN ho0 HO_3) HO_22) HB; replace HO_3 := rE HO_3 ho0 hb; replace HO_22 := rE HO_22 ho0 hb; replace BK416 := blkB BK416 hb; replace HB := bst HB hb; clear hb ho0; obtain ⟨Ao22, co22, rfl⟩ := Kd.R_slice HO428.out))
       repeat (go_quiet (first | (go_at_call 26; (with_reducible refine (impl_members.calls k2 (rd l0_1 (rd t421 x24_2)) t426 _ ?_ A19.out).mono ?_); exact Tab.below HTAB.out (bel_g HB.out); rintro e w21 ⟨v427, rfl, ho0, hb⟩; have HO428 := rLo (rN (rN ho0 HO_3) HO_22) HB; replace HO_3 := rE HO_3 ho0 hb; replace HO_22 := rE HO_22 ho0 hb; replace BK416 := blkB BK416 hb; replace HB := bst HB hb; clear hb ho0; obtain ⟨Ao22, co22, rfl⟩ := Kd.R_slice HO428.out)); try go_wp2_with (first | (go_at_call 26; (with_reducible refine (impl_members.calls k2 (rd l0_1 (rd t421 x24_2)) t426 _ ?_ A19.out).mono ?_); exact Tab.below HTAB.out (bel_g HB.out); rintro e w21 ⟨v427, rfl, ho0, hb⟩; have HO428 := rLo (rN (rN ho0 HO_3) HO_22) HB; replace HO_3 := rE HO_3 ho0 hb; replace HO_22 := rE HO_22 ho0 hb; replace BK416 := blkB BK416 hb; replace HB := bst HB hb; clear hb ho0; obtain ⟨Ao22, co22, rfl⟩ := Kd.R_slice HO428.out)))
       go_loopg [35] k2 (fun kq v35 w' => ∃ (x35_3 : Int), v35 = .int .i64 x35_3 ∧ Fc (impl_Order_threeOne.l2 kq t417 x14_1 (rd t421 x24_2) a0_0 x14_1 t421 (t421.length : Int) x24_2 t426 (t426.length : Int) x35_3 a0_0 l0_1 = some r) ∧ Fc (kq ≤ k2) ∧ Fc (Kd.R (Kd.int .i64) 3 w' w.heap.size (fun k_ => some k_ ≠ ((.slice (some ad424) t421.length co13) : Value).ownBlock ∧ some k_ ≠ ((.slice Ao22 t426.length co22) : Value).ownBlock) v418 t417) ∧ Fc (Kd.R (Kd.int .i64) 3 w' w.heap.size (fun k_ => some k_ ≠ (v418 : Value).ownBlock ∧ some k_ ≠ ((.slice Ao22 t426.length co22) : Value).ownBlock) (.slice (some ad424) t421.length co13) t421) ∧ Fc (Kd.R (Kd.int .i64) 3 w' w.heap.size (fun k_ => some k_ ≠ (v418 : Value).ownBlock ∧ some k_ ≠ ((.slice (some ad424) t421.length co13) : Value).ownBlock) (.slice Ao22 t426.length co22) t426) ∧ Fc (w'.heap[gb416]? = some (.cells #[.int .i64 a0_0, (.slice (some ad420) l0_1.length c0_1)] 26 (0, 0))) ∧ Fc (Below w.heap.size w w'))
       case atStart => exact ⟨(0), eqS, H', ⟨Nat.le_refl _⟩, rg HO_3, rg HO_22, ⟨Kd.R_g (Kd.R_mono HO428.out (fun _ hk => ⟨hk.1.2, hk.2⟩))⟩, bg BK416, hbg HB⟩
       case round =>
        clear H'
        try clear c7b0
        try clear c8
        try clear c8b0
        try clear c9
        try clear c9b0
        try clear c14b0
        try clear c15
        try clear c15b0
        try clear c16
        try clear c16b0
        try clear c17
        try clear c17b0
        try clear c18
        try clear c18b0
        try clear hx420_0
        try clear hx424_0
        try clear hx425_0
        try clear p420
        try clear p424
        try clear p425
        try clear q420
        try clear q424
        try clear q425
        obtain ⟨x35_3, rfl, HA, HK3, HO_3, HO_22, HO_33, BK416, HB⟩ := hrel
        cases gk with
        | zero => exact absurd HA.out (by simp [impl_Order_threeOne.l2])
        | succ k3 =>
         have H := HA.out
         clear HA
         simp only [impl_Order_threeOne.l2] at H
         rcases iteE H with ⟨c23b0, H⟩ | ⟨c23b0, H⟩
         ·obtain ⟨c24b0, H⟩ := itND H
          obtain ⟨c25b0, H⟩ := itND H
          obtain ⟨c26b0, H⟩ := itND H
          obtain ⟨c27b0, H⟩ := itND H
          obtain ⟨c28b0, H⟩ := itND H
          obtain ⟨c29b0, H⟩ := itND H
          obtain ⟨c30b0, H⟩ := itND H
          obtain ⟨c31b0, H⟩ := itND H
          rcases iteP H with ⟨c32, H⟩ | ⟨c32, H⟩
          ·have c32b0 := beq_iff_eq.mpr c32
           have c32b1 := bne_eq_false_iff_eq.mpr c32
           clear c32
           have H' := mkA H
           clear H
           obtain ⟨p429, q429, ad429, e429, hx429_0⟩ := atI (Kd.R_reads' HO_33.out).2.2 x35_3
           cases e429
           obtain ⟨Ao33, co33, rfl⟩ := Kd.R_slice HO_3.out
           obtain ⟨p430, q430, ad430, e430, hx430_0⟩ := atI (Kd.R_reads' HO_3.out).2.2 x14_1
           cases e430
           obtain ⟨p431, q431, ad431, e431, hx431_0⟩ := atI (Kd.R_reads' HO_3.out).2.2 (rd t421 x24_2)
           obtain rfl : ad430 = ad431 := (by injection e431)
           obtain ⟨p432, q432, ad432, e432, hx432_0⟩ := atI (Kd.R_reads' HO_3.out).2.2 (rd t426 x35_3)
           obtain rfl : ad430 = ad432 := (by injection e432)
           go_wp2
           repeat (go_quiet (fail); try go_wp2)
           go_roundg k3
           case measure => have := HK1.out; have := HK2.out; have := HK3.out; omega
           case rel => exact ⟨(wrap64 (x35_3 + 1)), eqS, H', ⟨by have := HK1.out; have := HK2.out; have := HK3.out; omega⟩, rg HO_3, rg HO_22, rg HO_33, bg BK416, hbg HB⟩
          ·have c32b0 := beq_eq_false_iff_ne.mpr c32
           have c32b1 := bne_iff_ne.mpr c32
           obtain ⟨t433, A34, H⟩ := obE H
           obtain ⟨c35, H⟩ := itNP H
           have c35b0 := decide_eq_true c35
           have c35b1 : decide (0 < t433.length) = true := decide_eq_true (by omega)
           clear c35
           obtain ⟨y437, hy437⟩ : ∃ y_ : List Int, y_ = (([x14_1, (rd t421 x24_2), rd t426 x35_3, rd t433 0] : List Int)) := ⟨_, rfl⟩
           rw [← hy437] at H
           have Ny437 := mkA hy437
           clear hy437
           obtain rfl := Option.some.inj H
           obtain ⟨p429, q429, ad429, e429, hx429_0⟩ := atI (Kd.R_reads' HO_33.out).2.2 x35_3
           cases e429
           obtain ⟨Ao36, co36, rfl⟩ := Kd.R_slice HO_3.out
           obtain ⟨p430, q430, ad430, e430, hx430_0⟩ := atI (Kd.R_reads' HO_3.out).2.2 x14_1
           cases e430
           obtain ⟨p431, q431, ad431, e431, hx431_0⟩ := atI (Kd.R_reads' HO_3.out).2.2 (rd t421 x24_2)
           obtain rfl : ad430 = ad431 := (by injection e431)
           obtain ⟨p432, q432, ad432, e432, hx432_0⟩ := atI (Kd.R_reads' HO_3.out).2.2 (rd t426 x35_3)
           obtain rfl : ad430 = ad432 := (by injection e432)
           go_wp2_with (first | (go_at_call 26; (with_reducible refine (impl_members.calls k3 (Go.bits .and .i64 (Go.bits .and .i64 (rd t417 x14_1) (rd t417 (rd t421 x24_2))) (rd t417 (rd t426 x35_3))) t433 _ ?_ A34.out).mono ?_); exact Tab.below HTAB.out (bel_g HB.out); rintro e w37 ⟨v434, rfl, ho0, hb⟩; have HO435 := rLo (rN (rN (rN ho0 HO_3) HO_22) HO_33) HB; replace HO_3 := rE HO_3 ho0 hb; replace HO_22 := rE HO_22 ho0 hb; replace HO_33 := rE HO_33 ho0 hb; replace BK416 := blkB BK416 hb; replace HB := bst HB hb; clear hb ho0; obtain ⟨Ao38, co38, rfl⟩ := Kd.R_slice HO435.out; have p436 : 0 ≤ (0 : Int) := (by omega); have q436 : 0 < (t433.length : Int) := ofd; obtain ⟨ad436, e436, hx436_0⟩ := Kd.at_int (Kd.R_reads' HO435.out).2.2 0 p436 q436; cases e436; have qi436 : (0 < t433.length) = True := eq_true (by omega); (try rw [show ((0 : Int)).toNat = 0 from rfl] at hx436_0); (try rw [Addr.add_zero'] at hx436_0); replace p436 := eq_true p436; replace q436 := eq_true q436) | ((with_reducible refine gate_dst (N := 62) rfl ?_); refine litE (Kd.int .i64) 3 ([x14_1, (rd t421 x24_2), rd t426 x35_3, rd t433 0] : List Int) [.int .i64 x14_1, .int .i64 (rd t421 x24_2), .int .i64 (rd t426 x35_3), .int .i64 (rd t433 0)] ?hp ?_; (case hp => exact (Reps.one (show Kd.M (Kd.int .i64) _ _ _ x14_1 [.int .i64 x14_1] from rfl) (Reps.one (show Kd.M (Kd.int .i64) _ _ _ (rd t421 x24_2) [.int .i64 (rd t421 x24_2)] from rfl) (Reps.one (show Kd.M (Kd.int .i64) _ _ _ (rd t426 x35_3) [.int .i64 (rd t426 x35_3)] from rfl) (Reps.one (show Kd.M (Kd.int .i64) _ _ _ (rd t433 0) [.int .i64 (rd t433 0)] from rfl) (Reps.none _ _)))))); intro v438 w39 ho40 hb hg_ hnew_; clear hg_ hnew_; (first | rw [← Ny437.out] at ho40 | (simp only [Int.reduceToNat] at ho40; rw [← Ny437.out] at ho40)); have HO439 := rLo (rN (rN (rN (rN ho40 HO_3) HO_22) HO_33) HO435) HB; replace HO_3 := rE HO_3 ho40 hb; replace HO_22 := rE HO_22 ho40 hb; replace HO_33 := rE HO_33 ho40 hb; replace HO435 := rE HO435 ho40 hb; replace BK416 := blkB BK416 hb; replace HB := bst HB hb; clear hb ho40))
           repeat (go_quiet (first | (go_at_call 26; (with_reducible refine (impl_members.calls k3 (Go.bits .and .i64 (Go.bits .and .i64 (rd t417 x14_1) (rd t417 (rd t421 x24_2))) (rd t417 (rd t426 x35_3))) t433 _ ?_ A34.out).mono ?_); exact Tab.below HTAB.out (bel_g HB.out); rintro e w37 ⟨v434, rfl, ho0, hb⟩; have HO435 := rLo (rN (rN (rN ho0 HO_3) HO_22) HO_33) HB; replace HO_3 := rE HO_3 ho0 hb; replace HO_22 := rE HO_22 ho0 hb; replace HO_33 := rE HO_33 ho0 hb; replace BK416 := blkB BK416 hb; replace HB := bst HB hb; clear hb ho0; obtain ⟨Ao38, co38, rfl⟩ := Kd.R_slice HO435.out; have p436 : 0 ≤ (0 : Int) := (by omega); have q436 : 0 < (t433.length : Int) := ofd; obtain ⟨ad436, e436, hx436_0⟩ := Kd.at_int (Kd.R_reads' HO435.out).2.2 0 p436 q436; cases e436; have qi436 : (0 < t433.length) = True := eq_true (by omega); (try rw [show ((0 : Int)).toNat = 0 from rfl] at hx436_0); (try rw [Addr.add_zero'] at hx436_0); replace p436 := eq_true p436; replace q436 := eq_true q436) | ((with_reducible refine gate_dst (N := 62) rfl ?_); refine litE (Kd.int .i64) 3 ([x14_1, (rd t421 x24_2), rd t426 x35_3, rd t433 0] : List Int) [.int .i64 x14_1, .int .i64 (rd t421 x24_2), .int .i64 (rd t426 x35_3), .int .i64 (rd t433 0)] ?hp ?_; (case hp => exact (Reps.one (show Kd.M (Kd.int .i64) _ _ _ x14_1 [.int .i64 x14_1] from rfl) (Reps.one (show Kd.M (Kd.int .i64) _ _ _ (rd t421 x24_2) [.int .i64 (rd t421 x24_2)] from rfl) (Reps.one (show Kd.M (Kd.int .i64) _ _ _ (rd t426 x35_3) [.int .i64 (rd t426 x35_3)] from rfl) (Reps.one (show Kd.M (Kd.int .i64) _ _ _ (rd t433 0) [.int .i64 (rd t433 0)] from rfl) (Reps.none _ _)))))); intro v438 w39 ho40 hb hg_ hnew_; clear hg_ hnew_; (first | rw [← Ny437.out] at ho40 | (simp only [Int.reduceToNat] at ho40; rw [← Ny437.out] at ho40)); have HO439 := rLo (rN (rN (rN (rN ho40 HO_3) HO_22) HO_33) HO435) HB; replace HO_3 := rE HO_3 ho40 hb; replace HO_22 := rE HO_22 ho40 hb; replace HO_33 := rE HO_33 ho40 hb; replace HO435 := rE HO435 ho40 hb; replace BK416 := blkB BK416 hb; replace HB := bst HB hb; clear hb ho40)); try go_wp2_with (first | (go_at_call 26; (with_reducible refine (impl_members.calls k3 (Go.bits .and .i64 (Go.bits .and .i64 (rd t417 x14_1) (rd t417 (rd t421 x24_2))) (rd t417 (rd t426 x35_3))) t433 _ ?_ A34.out).mono ?_); exact Tab.below HTAB.out (bel_g HB.out); rintro e w37 ⟨v434, rfl, ho0, hb⟩; have HO435 := rLo (rN (rN (rN ho0 HO_3) HO_22) HO_33) HB; replace HO_3 := rE HO_3 ho0 hb; replace HO_22 := rE HO_22 ho0 hb; replace HO_33 := rE HO_33 ho0 hb; replace BK416 := blkB BK416 hb; replace HB := bst HB hb; clear hb ho0; obtain ⟨Ao38, co38, rfl⟩ := Kd.R_slice HO435.out; have p436 : 0 ≤ (0 : Int) := (by omega); have q436 : 0 < (t433.length : Int) := ofd; obtain ⟨ad436, e436, hx436_0⟩ := Kd.at_int (Kd.R_reads' HO435.out).2.2 0 p436 q436; cases e436; have qi436 : (0 < t433.length) = True := eq_true (by omega); (try rw [show ((0 : Int)).toNat = 0 from rfl] at hx436_0); (try rw [Addr.add_zero'] at hx436_0); replace p436 := eq_true p436; replace q436 := eq_true q436) | ((with_reducible refine gate_dst (N := 62) rfl ?_); refine litE (Kd.int .i64) 3 ([x14_1, (rd t421 x24_2), rd t426 x35_3, rd t433 0] : List Int) [.int .i64 x14_1, .int .i64 (rd t421 x24_2), .int .i64 (rd t426 x35_3), .int .i64 (rd t433 0)] ?hp ?_; (case hp => exact (Reps.one (show Kd.M (Kd.int .i64) _ _ _ x14_1 [.int .i64 x14_1] from rfl) (Reps.one (show Kd.M (Kd.int .i64) _ _ _ (rd t421 x24_2) [.int .i64 (rd t421 x24_2)] from rfl) (Reps.one (show Kd.M (Kd.int .i64) _ _ _ (rd t426 x35_3) [.int .i64 (rd t426 x35_3)] from rfl) (Reps.one (show Kd.M (Kd.int .i64) _ _ _ (rd t433 0) [.int .i64 (rd t433 0)] from rfl) (Reps.none _ _)))))); intro v438 w39 ho40 hb hg_ hnew_; clear hg_ hnew_; (first | rw [← Ny437.out] at ho40 | (simp only [Int.reduceToNat] at ho40; rw [← Ny437.out] at ho40)); have HO439 := rLo (rN (rN (rN (rN ho40 HO_3) HO_22) HO_33) HO435) HB; replace HO_3 := rE HO_3 ho40 hb; replace HO_22 := rE HO_22 ho40 hb; replace HO_33 := rE HO_33 ho40 hb; replace HO435 := rE HO435 ho40 hb; replace BK416 := blkB BK416 hb; replace HB := bst HB hb; clear hb ho40)))
           go_ret
           exact ⟨_, eqE, Kd.R_g (Kd.R_mono HO439.out (fun _ hk => trivial)), bel_g HB.out, by first | rfl | (intro _; rfl) | (intro h_; simp at h_; done) | (intro h_; rw [Ny437.out] at h_; simp at h_; done)⟩
         ·have H' := mkA H
          clear H
          go_wp2
          repeat (go_quiet (fail); try go_wp2)
          go_roundg k3
          case measure => have := HK1.out; have := HK2.out; have := HK3.out; omega
          case rel => exact ⟨(wrap64 (x24_2 + 1)), eqS, H', ⟨by have := HK1.out; have := HK2.out; have := HK3.out; omega⟩, ⟨Kd.R_g (Kd.R_mono HO_3.out (fun _ hk => hk.1))⟩, ⟨Kd.R_g (Kd.R_mono HO_22.out (fun _ hk => hk.1))⟩, bg BK416, hbg HB⟩
      ·have H' := mkA H
       clear H
       go_wp2
       repeat (go_quiet (fail); try go_wp2)
       go_roundg k2
       case measure => have := HK1.out; have := HK2.out; omega
       case rel => exact ⟨(wrap64 (x14_1 + 1)), eqS, H', ⟨by have := HK1.out; have := HK2.out; omega⟩, ⟨Kd.R_g (Kd.R_mono HO_3.out (fun _ hk => trivial))⟩, bg BK416, hbg HB⟩
   ·obtain rfl := Option.some.inj H
    go_wp2
    repeat (go_quiet (fail); try go_wp2)
    go_ret
    exact ⟨_, eqE, nilE, bel_g HB.out, by first | rfl | (intro _; rfl) | (intro h_; simp at h_; done)⟩
end Go.Proofs.YtmoemabbmjdhgaaDoor.Q
