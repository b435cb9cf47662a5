import Derived.Test.YtcalgdljcphjaaaDoorBFnStairs9
namespace Go.Proofs.YtcalgdljcphjaaaDoor.Q
open Go.RowKit Go.Proofs.YtcalgdljcphjaaaDoorW.PrintWords Go.Proofs.YtcalgdljcphjaaaDoorW.PrintLast Go.Proofs.YtcalgdljcphjaaaDoorW.PrintMore
attribute [local go_sem] max2_int min2_int max_two min_two max_three min_three max_four min_four neB_f
set_option linter.unusedVariables false
set_option maxHeartbeats 8000000
set_option maxRecDepth 100000
set_option linter.unusedSimpArgs false
mutual
def impl_Order_threeOne.l0 : Nat → List Int → Int → Int → Int → List Int → Option (List Int)
 | 0, _, _, _, _, _ => none
 | k + 1, x3, x13, x14, x261000, x261001 => if x14 < x13 then (if 0 ≤ x14 then (if x14 < (x261001.length : Int) then ((impl_members.f k (rd x261001 x14)).bind fun t265 => (impl_Order_threeOne.l1 k x3 x14 x13 x14 t265 (t265.length : Int) 0 x261000 x261001)) else (none)) else (none)) else (some ([] : List Int))
def impl_Order_threeOne.l1 : Nat → List Int → Int → Int → Int → List Int → Int → Int → Int → List Int → Option (List Int)
 | 0, _, _, _, _, _, _, _, _, _ => none
 | k + 1, x3, x4, x13, x14, x22, x23, x24, x261000, x261001 => if x24 < x23 then (if 0 ≤ x24 then (if x24 < (x22.length : Int) then (if 0 ≤ (rd x22 x24) then (if (rd x22 x24) < (x261001.length : Int) then ((impl_members.f k (rd x261001 (rd x22 x24))).bind fun t270 => (impl_Order_threeOne.l2 k x3 x4 (rd x22 x24) x13 x14 x22 x23 x24 t270 (t270.length : Int) 0 x261000 x261001)) else (none)) else (none)) else (none)) else (none)) else (impl_Order_threeOne.l0 k x3 x13 (wrap64 (x14 + 1)) x261000 x261001)
def impl_Order_threeOne.l2 : Nat → List Int → Int → Int → Int → Int → List Int → Int → Int → List Int → Int → Int → Int → List Int → Option (List Int)
 | 0, _, _, _, _, _, _, _, _, _, _, _, _, _ => none
 | k + 1, x3, x4, x6, x13, x14, x22, x23, x24, x33, x34, x35, x261000, x261001 => if x35 < x34 then (if 0 ≤ x35 then (if x35 < (x33.length : Int) then (if 0 ≤ x4 then (if x4 < (x3.length : Int) then (if 0 ≤ x6 then (if x6 < (x3.length : Int) then (if 0 ≤ (rd x33 x35) then (if (rd x33 x35) < (x3.length : Int) then (if (Go.bits .and .i64 (Go.bits .and .i64 (rd x3 x4) (rd x3 x6)) (rd x3 (rd x33 x35))) = 0 then (impl_Order_threeOne.l2 k x3 x4 x6 x13 x14 x22 x23 x24 x33 x34 (wrap64 (x35 + 1)) x261000 x261001) else ((impl_members.f k (Go.bits .and .i64 (Go.bits .and .i64 (rd x3 x4) (rd x3 x6)) (rd x3 (rd x33 x35)))).bind fun t277 => (if 0 < (t277.length : Int) then (some (([x4, x6, rd x33 x35, rd t277 0] : List Int))) else (none)))) else (none)) else (none)) else (none)) else (none)) else (none)) else (none)) else (none)) else (none)) else (impl_Order_threeOne.l1 k x3 x4 x13 x14 x22 x23 (wrap64 (x24 + 1)) x261000 x261001)
end
def impl_Order_threeOne.f (k : Nat) (a0_0 : Int) (l0_1 : List Int) : Option (List Int) := (impl_Order_indifferent.f k a0_0 l0_1).bind fun t261 => (impl_Order_threeOne.l0 k t261 a0_0 0 a0_0 l0_1)
theorem impl_Order_threeOne.mono_l : ∀ k, (∀ y0 y1 y2 y3 y4, LeO (impl_Order_threeOne.l0 k y0 y1 y2 y3 y4) (impl_Order_threeOne.l0 (k + 1) y0 y1 y2 y3 y4)) ∧ (∀ y0 y1 y2 y3 y4 y5 y6 y7 y8, LeO (impl_Order_threeOne.l1 k y0 y1 y2 y3 y4 y5 y6 y7 y8) (impl_Order_threeOne.l1 (k + 1) y0 y1 y2 y3 y4 y5 y6 y7 y8)) ∧ (∀ y0 y1 y2 y3 y4 y5 y6 y7 y8 y9 y10 y11 y12, LeO (impl_Order_threeOne.l2 k y0 y1 y2 y3 y4 y5 y6 y7 y8 y9 y10 y11 y12) (impl_Order_threeOne.l2 (k + 1) y0 y1 y2 y3 y4 y5 y6 y7 y8 y9 y10 y11 y12))
 | 0 => ⟨fun _ _ _ _ _ r h => by simp [impl_Order_threeOne.l0] at h, fun _ _ _ _ _ _ _ _ _ r h => by simp [impl_Order_threeOne.l1] at h, fun _ _ _ _ _ _ _ _ _ _ _ _ _ r h => by simp [impl_Order_threeOne.l2] at h⟩
 | k + 1 => by
  obtain ⟨ih0, ih1, ih2⟩ := impl_Order_threeOne.mono_l k
  refine ⟨?_, ?_, ?_⟩ <;> intros
  unfold impl_Order_threeOne.l0
  rotate_left
  unfold impl_Order_threeOne.l1
  rotate_left
  unfold impl_Order_threeOne.l2
  rotate_left
  all_goals repeat' (with_reducible first|apply ih0|apply ih1|apply ih2|apply impl_Order_indifferent.mono|apply impl_members.mono|apply LeO.refl|apply LeO.none|apply LeO.ite|apply LeO.bind|intro)
theorem impl_Order_threeOne.mono : ∀ a0 a1 k, LeO (impl_Order_threeOne.f k a0 a1) (impl_Order_threeOne.f (k + 1) a0 a1) := by
 intro a0 a1 k
 obtain ⟨ih0, ih1, ih2⟩ := impl_Order_threeOne.mono_l k
 unfold impl_Order_threeOne.f
 repeat' (with_reducible first|apply ih0|apply ih1|apply ih2|apply impl_Order_indifferent.mono|apply impl_members.mono|apply LeO.refl|apply LeO.none|apply LeO.ite|apply LeO.bind|intro)
theorem impl_Order_threeOne.calls (k : Nat) (a0_0 : Int) (A0_1 : Option Addr) (c0_1 : Nat) (l0_1 : List Int) (r : List Int) (w : World) (hr0_1 : Kd.C (Kd.int .i64) w A0_1 l0_1.length l0_1) (hc0_1 : l0_1.length ≤ c0_1) (hTAB : Tab w) (h : impl_Order_threeOne.f k a0_0 l0_1 = some r) :
  Calls Tryd.prog 45 #[.agg #[.int .i64 a0_0, .slice A0_1 l0_1.length c0_1]] w fun e w' => ∃ v0_ : Value, e = .returned (v0_) ∧ Kd.R (Kd.int .i64) 3 w' w.heap.size (fun _ => True) v0_ r ∧ Below w.heap.size w w' ∧ (r = [] → v0_ = .slice none 0 0) := by
 have HTAB := mkA hTAB
 clear hTAB
 have hu27 := Tryd.underlying27
 have HR0_1 := mkA hr0_1
 have HC0_1 := mkA hc0_1
 clear hr0_1 hc0_1
 have HB := mkA (Below.refl w.heap.size w)
 have H := h
 clear h
 unfold impl_Order_threeOne.f at H
 obtain ⟨t261, A2, H⟩ := obE H
 have H' := mkA H
 clear H
 go_enter Tryd.func45, Tryd.ntmps45
 go_wp2_with (first | ((with_reducible refine gate_dst (N := 1) rfl ?_); refine boxG HB #[.int .i64 a0_0, .slice A0_1 l0_1.length c0_1] 27 ?_; intro gb260 hg w3 BK260 GE260 hb; replace HB := bst HB hb; clear hb hg; obtain ⟨hcz4_0, hcz4_1, hfz4_0, hfz4_1⟩ := blk2 BK260) | (go_at_call 56; (with_reducible refine (impl_Order_indifferent.calls k a0_0 _ _ l0_1 t261 _ ?_ ?_ A2.out).mono ?_); exact C_g HR0_1 HB; exact HC0_1.out; rintro e w5 ⟨v262, rfl, ho0, hb⟩; have HO263 := rLo ho0 HB; replace BK260 := blkB BK260 hb; replace HB := bst HB hb; clear hb ho0; obtain ⟨hcz6_0, hcz6_1, hfz6_0, hfz6_1⟩ := blk2 BK260))
 repeat (go_quiet (first | ((with_reducible refine gate_dst (N := 1) rfl ?_); refine boxG HB #[.int .i64 a0_0, .slice A0_1 l0_1.length c0_1] 27 ?_; intro gb260 hg w3 BK260 GE260 hb; replace HB := bst HB hb; clear hb hg; obtain ⟨hcz4_0, hcz4_1, hfz4_0, hfz4_1⟩ := blk2 BK260) | (go_at_call 56; (with_reducible refine (impl_Order_indifferent.calls k a0_0 _ _ l0_1 t261 _ ?_ ?_ A2.out).mono ?_); exact C_g HR0_1 HB; exact HC0_1.out; rintro e w5 ⟨v262, rfl, ho0, hb⟩; have HO263 := rLo ho0 HB; replace BK260 := blkB BK260 hb; replace HB := bst HB hb; clear hb ho0; obtain ⟨hcz6_0, hcz6_1, hfz6_0, hfz6_1⟩ := blk2 BK260)); try go_wp2_with (first | ((with_reducible refine gate_dst (N := 1) rfl ?_); refine boxG HB #[.int .i64 a0_0, .slice A0_1 l0_1.length c0_1] 27 ?_; intro gb260 hg w3 BK260 GE260 hb; replace HB := bst HB hb; clear hb hg; obtain ⟨hcz4_0, hcz4_1, hfz4_0, hfz4_1⟩ := blk2 BK260) | (go_at_call 56; (with_reducible refine (impl_Order_indifferent.calls k a0_0 _ _ l0_1 t261 _ ?_ ?_ A2.out).mono ?_); exact C_g HR0_1 HB; exact HC0_1.out; rintro e w5 ⟨v262, rfl, ho0, hb⟩; have HO263 := rLo ho0 HB; replace BK260 := blkB BK260 hb; replace HB := bst HB hb; clear hb ho0; obtain ⟨hcz6_0, hcz6_1, hfz6_0, hfz6_1⟩ := blk2 BK260)))
 go_loopg [14] k (fun kq v14 w' => ∃ (x14_1 : Int), v14 = .int .i64 x14_1 ∧ Fc (impl_Order_threeOne.l0 kq t261 a0_0 x14_1 a0_0 l0_1 = some r) ∧ Fc (kq ≤ k) ∧ Fc (Kd.R (Kd.int .i64) 3 w' w.heap.size (fun _ => True) v262 t261) ∧ Fc (w'.heap[gb260]? = some (.cells #[.int .i64 a0_0, (.slice A0_1 l0_1.length c0_1)] 27 (0, 0))) ∧ Fc (Below w.heap.size w w'))
 case atStart => exact ⟨(0), eqS, H', ⟨Nat.le_refl _⟩, rg HO263, bg BK260, hbg HB⟩
 case round =>
  clear H'
  obtain ⟨x14_1, rfl, HA, HK1, HO_3, BK260, HB⟩ := hrel
  cases gk with
  | zero => exact absurd HA.out (by simp [impl_Order_threeOne.l0])
  | succ k1 =>
   have H := HA.out
   clear HA
   simp only [impl_Order_threeOne.l0] at H
   rcases iteE H with ⟨c7b0, H⟩ | ⟨c7b0, H⟩
   ·obtain ⟨c8b0, H⟩ := itND H
    obtain ⟨c9b0, H⟩ := itND H
    obtain ⟨t265, A10, H⟩ := obE H
    have H' := mkA H
    clear H
    obtain ⟨_, _, _, _⟩ := blk2 BK260
    obtain ⟨p264, q264, ad264, e264, hx264_0⟩ := atI HR0_1.out x14_1
    cases e264
    replace hx264_0 := (HB.out.cell (World.block_lt_of_cell? w _ hx264_0)).trans hx264_0
    go_wp2_with (first | (go_at_call 34; (with_reducible refine (impl_members.calls k1 (rd l0_1 x14_1) t265 _ ?_ A10.out).mono ?_); exact Tab.below HTAB.out (bel_g HB.out); rintro e w12 ⟨v266, rfl, ho0, hb⟩; have HO267 := rLo (rN ho0 HO_3) HB; replace HO_3 := rE HO_3 ho0 hb; replace BK260 := blkB BK260 hb; replace HB := bst HB hb; clear hb ho0; obtain ⟨Ao13, co13, rfl⟩ := Kd.R_slice HO267.out))
    repeat (go_quiet (first | (go_at_call 34; (with_reducible refine (impl_members.calls k1 (rd l0_1 x14_1) t265 _ ?_ A10.out).mono ?_); exact Tab.below HTAB.out (bel_g HB.out); rintro e w12 ⟨v266, rfl, ho0, hb⟩; have HO267 := rLo (rN ho0 HO_3) HB; replace HO_3 := rE HO_3 ho0 hb; replace BK260 := blkB BK260 hb; replace HB := bst HB hb; clear hb ho0; obtain ⟨Ao13, co13, rfl⟩ := Kd.R_slice HO267.out)); try go_wp2_with (first | (go_at_call 34; (with_reducible refine (impl_members.calls k1 (rd l0_1 x14_1) t265 _ ?_ A10.out).mono ?_); exact Tab.below HTAB.out (bel_g HB.out); rintro e w12 ⟨v266, rfl, ho0, hb⟩; have HO267 := rLo (rN ho0 HO_3) HB; replace HO_3 := rE HO_3 ho0 hb; replace BK260 := blkB BK260 hb; replace HB := bst HB hb; clear hb ho0; obtain ⟨Ao13, co13, rfl⟩ := Kd.R_slice HO267.out)))
    go_loopg [24] k1 (fun kq v24 w' => ∃ (x24_2 : Int), v24 = .int .i64 x24_2 ∧ Fc (impl_Order_threeOne.l1 kq t261 x14_1 a0_0 x14_1 t265 (t265.length : Int) x24_2 a0_0 l0_1 = some r) ∧ Fc (kq ≤ k1) ∧ Fc (Kd.R (Kd.int .i64) 3 w' w.heap.size (fun k_ => some k_ ≠ ((.slice Ao13 t265.length co13) : Value).ownBlock) v262 t261) ∧ Fc (Kd.R (Kd.int .i64) 3 w' w.heap.size (fun k_ => some k_ ≠ (v262 : Value).ownBlock) (.slice Ao13 t265.length co13) t265) ∧ Fc (w'.heap[gb260]? = some (.cells #[.int .i64 a0_0, (.slice (some ad264) l0_1.length c0_1)] 27 (0, 0))) ∧ Fc (Below w.heap.size w w'))
    case atStart => exact ⟨(0), eqS, H', ⟨Nat.le_refl _⟩, ⟨Kd.R_g (Kd.R_mono HO_3.out (fun _ hk => hk.2))⟩, ⟨Kd.R_g (Kd.R_mono HO267.out (fun _ hk => hk.2))⟩, bg BK260, hbg HB⟩
    case round =>
     clear H'
     try clear c7b0
     try clear c8
     try clear c8b0
     try clear c9
     try clear c9b0
     try clear hx264_0
     try clear p264
     try clear q264
     obtain ⟨x24_2, rfl, HA, HK2, HO_3, HO_22, BK260, HB⟩ := hrel
     cases gk with
     | zero => exact absurd HA.out (by simp [impl_Order_threeOne.l1])
     | succ k2 =>
      have H := HA.out
      clear HA
      simp only [impl_Order_threeOne.l1] at H
      rcases iteE H with ⟨c14b0, H⟩ | ⟨c14b0, H⟩
      ·obtain ⟨c15b0, H⟩ := itND H
       obtain ⟨c16b0, H⟩ := itND H
       obtain ⟨c17b0, H⟩ := itND H
       obtain ⟨c18b0, H⟩ := itND H
       obtain ⟨t270, A19, H⟩ := obE H
       have H' := mkA H
       clear H
       obtain ⟨p268, q268, ad268, e268, hx268_0⟩ := atI (Kd.R_reads' HO_22.out).2.2 x24_2
       cases e268
       obtain ⟨_, _, _, _⟩ := blk2 BK260
       obtain ⟨p269, q269, ad269, e269, hx269_0⟩ := atI HR0_1.out (rd t265 x24_2)
       obtain rfl : ad264 = ad269 := (by injection e269)
       replace hx269_0 := (HB.out.cell (World.block_lt_of_cell? w _ hx269_0)).trans hx269_0
       go_wp2_with (first | (go_at_call 34; (with_reducible refine (impl_members.calls k2 (rd l0_1 (rd t265 x24_2)) t270 _ ?_ A19.out).mono ?_); exact Tab.below HTAB.out (bel_g HB.out); rintro e w21 ⟨v271, rfl, ho0, hb⟩; have HO272 := rLo (rN (rN ho0 HO_3) HO_22) HB; replace HO_3 := rE HO_3 ho0 hb; replace HO_22 := rE HO_22 ho0 hb; replace BK260 := blkB BK260 hb; replace HB := bst HB hb; clear hb ho0; obtain ⟨Ao22, co22, rfl⟩ := Kd.R_slice HO272.out))
       repeat (go_quiet (first | (go_at_call 34; (with_reducible refine (impl_members.calls k2 (rd l0_1 (rd t265 x24_2)) t270 _ ?_ A19.out).mono ?_); exact Tab.below HTAB.out (bel_g HB.out); rintro e w21 ⟨v271, rfl, ho0, hb⟩; have HO272 := rLo (rN (rN ho0 HO_3) HO_22) HB; replace HO_3 := rE HO_3 ho0 hb; replace HO_22 := rE HO_22 ho0 hb; replace BK260 := blkB BK260 hb; replace HB := bst HB hb; clear hb ho0; obtain ⟨Ao22, co22, rfl⟩ := Kd.R_slice HO272.out)); try go_wp2_with (first | (go_at_call 34; (with_reducible refine (impl_members.calls k2 (rd l0_1 (rd t265 x24_2)) t270 _ ?_ A19.out).mono ?_); exact Tab.below HTAB.out (bel_g HB.out); rintro e w21 ⟨v271, rfl, ho0, hb⟩; have HO272 := rLo (rN (rN ho0 HO_3) HO_22) HB; replace HO_3 := rE HO_3 ho0 hb; replace HO_22 := rE HO_22 ho0 hb; replace BK260 := blkB BK260 hb; replace HB := bst HB hb; clear hb ho0; obtain ⟨Ao22, co22, rfl⟩ := Kd.R_slice HO272.out)))
       go_loopg [35] k2 (fun kq v35 w' => ∃ (x35_3 : Int), v35 = .int .i64 x35_3 ∧ Fc (impl_Order_threeOne.l2 kq t261 x14_1 (rd t265 x24_2) a0_0 x14_1 t265 (t265.length : Int) x24_2 t270 (t270.length : Int) x35_3 a0_0 l0_1 = some r) ∧ Fc (kq ≤ k2) ∧ Fc (Kd.R (Kd.int .i64) 3 w' w.heap.size (fun k_ => some k_ ≠ ((.slice (some ad268) t265.length co13) : Value).ownBlock ∧ some k_ ≠ ((.slice Ao22 t270.length co22) : Value).ownBlock) v262 t261) ∧ Fc (Kd.R (Kd.int .i64) 3 w' w.heap.size (fun k_ => some k_ ≠ (v262 : Value).ownBlock ∧ some k_ ≠ ((.slice Ao22 t270.length co22) : Value).ownBlock) (.slice (some ad268) t265.length co13) t265) ∧ Fc (Kd.R (Kd.int .i64) 3 w' w.heap.size (fun k_ => some k_ ≠ (v262 : Value).ownBlock ∧ some k_ ≠ ((.slice (some ad268) t265.length co13) : Value).ownBlock) (.slice Ao22 t270.length co22) t270) ∧ Fc (w'.heap[gb260]? = some (.cells #[.int .i64 a0_0, (.slice (some ad264) l0_1.length c0_1)] 27 (0, 0))) ∧ Fc (Below w.heap.size w w'))
       case atStart => exact ⟨(0), eqS, H', ⟨Nat.le_refl _⟩, rg HO_3, rg HO_22, ⟨Kd.R_g (Kd.R_mono HO272.out (fun _ hk => ⟨hk.1.2, hk.2⟩))⟩, bg BK260, hbg HB⟩
       case round =>
        clear H'
        try clear c7b0
        try clear c8
        try clear c8b0
        try clear c9
        try clear c9b0
        try clear c14b0
        try clear c15
        try clear c15b0
        try clear c16
        try clear c16b0
        try clear c17
        try clear c17b0
        try clear c18
        try clear c18b0
        try clear hx264_0
        try clear hx268_0
        try clear hx269_0
        try clear p264
        try clear p268
        try clear p269
        try clear q264
        try clear q268
        try clear q269
        obtain ⟨x35_3, rfl, HA, HK3, HO_3, HO_22, HO_33, BK260, HB⟩ := hrel
        cases gk with
        | zero => exact absurd HA.out (by simp [impl_Order_threeOne.l2])
        | succ k3 =>
         have H := HA.out
         clear HA
         simp only [impl_Order_threeOne.l2] at H
         rcases iteE H with ⟨c23b0, H⟩ | ⟨c23b0, H⟩
         ·obtain ⟨c24b0, H⟩ := itND H
          obtain ⟨c25b0, H⟩ := itND H
          obtain ⟨c26b0, H⟩ := itND H
          obtain ⟨c27b0, H⟩ := itND H
          obtain ⟨c28b0, H⟩ := itND H
          obtain ⟨c29b0, H⟩ := itND H
          obtain ⟨c30b0, H⟩ := itND H
          obtain ⟨c31b0, H⟩ := itND H
          rcases iteP H with ⟨c32, H⟩ | ⟨c32, H⟩
          ·have c32b0 := beq_iff_eq.mpr c32
           have c32b1 := bne_eq_false_iff_eq.mpr c32
           clear c32
           have H' := mkA H
           clear H
           obtain ⟨p273, q273, ad273, e273, hx273_0⟩ := atI (Kd.R_reads' HO_33.out).2.2 x35_3
           cases e273
           obtain ⟨Ao33, co33, rfl⟩ := Kd.R_slice HO_3.out
           obtain ⟨p274, q274, ad274, e274, hx274_0⟩ := atI (Kd.R_reads' HO_3.out).2.2 x14_1
           cases e274
           obtain ⟨p275, q275, ad275, e275, hx275_0⟩ := atI (Kd.R_reads' HO_3.out).2.2 (rd t265 x24_2)
           obtain rfl : ad274 = ad275 := (by injection e275)
           obtain ⟨p276, q276, ad276, e276, hx276_0⟩ := atI (Kd.R_reads' HO_3.out).2.2 (rd t270 x35_3)
           obtain rfl : ad274 = ad276 := (by injection e276)
           go_wp2
           repeat (go_quiet (fail); try go_wp2)
           go_roundg k3
           case measure => have := HK1.out; have := HK2.out; have := HK3.out; omega
           case rel => exact ⟨(wrap64 (x35_3 + 1)), eqS, H', ⟨by have := HK1.out; have := HK2.out; have := HK3.out; omega⟩, rg HO_3, rg HO_22, rg HO_33, bg BK260, hbg HB⟩
          ·have c32b0 := beq_eq_false_iff_ne.mpr c32
           have c32b1 := bne_iff_ne.mpr c32
           obtain ⟨t277, A34, H⟩ := obE H
           obtain ⟨c35, H⟩ := itNP H
           have c35b0 := decide_eq_true c35
           have c35b1 : decide (0 < t277.length) = true := decide_eq_true (by omega)
           clear c35
           obtain ⟨y281, hy281⟩ : ∃ y_ : List Int, y_ = (([x14_1, (rd t265 x24_2), rd t270 x35_3, rd t277 0] : List Int)) := ⟨_, rfl⟩
           rw [← hy281] at H
           have Ny281 := mkA hy281
           clear hy281
           obtain rfl := Option.some.inj H
           obtain ⟨p273, q273, ad273, e273, hx273_0⟩ := atI (Kd.R_reads' HO_33.out).2.2 x35_3
           cases e273
           obtain ⟨Ao36, co36, rfl⟩ := Kd.R_slice HO_3.out
           obtain ⟨p274, q274, ad274, e274, hx274_0⟩ := atI (Kd.R_reads' HO_3.out).2.2 x14_1
           cases e274
           obtain ⟨p275, q275, ad275, e275, hx275_0⟩ := atI (Kd.R_reads' HO_3.out).2.2 (rd t265 x24_2)
           obtain rfl : ad274 = ad275 := (by injection e275)
           obtain ⟨p276, q276, ad276, e276, hx276_0⟩ := atI (Kd.R_reads' HO_3.out).2.2 (rd t270 x35_3)
           obtain rfl : ad274 = ad276 := (by injection e276)
           go_wp2_with (first | (go_at_call 34; (with_reducible refine (impl_members.calls k3 (Go.bits .and .i64 (Go.bits .and .i64 (rd t261 x14_1) (rd t261 (rd t265 x24_2))) (rd t261 (rd t270 x35_3))) t277 _ ?_ A34.out).mono ?_); exact Tab.below HTAB.out (bel_g HB.out); rintro e w37 ⟨v278, rfl, ho0, hb⟩; have HO279 := rLo (rN (rN (rN ho0 HO_3) HO_22) HO_33) HB; replace HO_3 := rE HO_3 ho0 hb; replace HO_22 := rE HO_22 ho0 hb; replace HO_33 := rE HO_33 ho0 hb; replace BK260 := blkB BK260 hb; replace HB := bst HB hb; clear hb ho0; obtain ⟨Ao38, co38, rfl⟩ := Kd.R_slice HO279.out; have p280 : 0 ≤ (0 : Int) := (by omega); have q280 : 0 < (t277.length : Int) := ofd; obtain ⟨ad280, e280, hx280_0⟩ := Kd.at_int (Kd.R_reads' HO279.out).2.2 0 p280 q280; cases e280; have qi280 : (0 < t277.length) = True := eq_true (by omega); (try rw [show ((0 : Int)).toNat = 0 from rfl] at hx280_0); (try rw [Addr.add_zero'] at hx280_0); replace p280 := eq_true p280; replace q280 := eq_true q280) | ((with_reducible refine gate_dst (N := 62) rfl ?_); refine litE (Kd.int .i64) 3 ([x14_1, (rd t265 x24_2), rd t270 x35_3, rd t277 0] : List Int) [.int .i64 x14_1, .int .i64 (rd t265 x24_2), .int .i64 (rd t270 x35_3), .int .i64 (rd t277 0)] ?hp ?_; (case hp => exact (Reps.one (show Kd.M (Kd.int .i64) _ _ _ x14_1 [.int .i64 x14_1] from rfl) (Reps.one (show Kd.M (Kd.int .i64) _ _ _ (rd t265 x24_2) [.int .i64 (rd t265 x24_2)] from rfl) (Reps.one (show Kd.M (Kd.int .i64) _ _ _ (rd t270 x35_3) [.int .i64 (rd t270 x35_3)] from rfl) (Reps.one (show Kd.M (Kd.int .i64) _ _ _ (rd t277 0) [.int .i64 (rd t277 0)] from rfl) (Reps.none _ _)))))); intro v282 w39 ho40 hb hg_ hnew_; clear hg_ hnew_; (first | rw [← Ny281.out] at ho40 | (simp only [Int.reduceToNat] at ho40; rw [← Ny281.out] at ho40)); have HO283 := rLo (rN (rN (rN (rN ho40 HO_3) HO_22) HO_33) HO279) HB; replace HO_3 := rE HO_3 ho40 hb; replace HO_22 := rE HO_22 ho40 hb; replace HO_33 := rE HO_33 ho40 hb; replace HO279 := rE HO279 ho40 hb; replace BK260 := blkB BK260 hb; replace HB := bst HB hb; clear hb ho40))
           repeat (go_quiet (first | (go_at_call 34; (with_reducible refine (impl_members.calls k3 (Go.bits .and .i64 (Go.bits .and .i64 (rd t261 x14_1) (rd t261 (rd t265 x24_2))) (rd t261 (rd t270 x35_3))) t277 _ ?_ A34.out).mono ?_); exact Tab.below HTAB.out (bel_g HB.out); rintro e w37 ⟨v278, rfl, ho0, hb⟩; have HO279 := rLo (rN (rN (rN ho0 HO_3) HO_22) HO_33) HB; replace HO_3 := rE HO_3 ho0 hb; replace HO_22 := rE HO_22 ho0 hb; replace HO_33 := rE HO_33 ho0 hb; replace BK260 := blkB BK260 hb; replace HB := bst HB hb; clear hb ho0; obtain ⟨Ao38, co38, rfl⟩ := Kd.R_slice HO279.out; have p280 : 0 ≤ (0 : Int) := (by omega); have q280 : 0 < (t277.length : Int) := ofd; obtain ⟨ad280, e280, hx280_0⟩ := Kd.at_int (Kd.R_reads' HO279.out).2.2 0 p280 q280; cases e280; have qi280 : (0 < t277.length) = True := eq_true (by omega); (try rw [show ((0 : Int)).toNat = 0 from rfl] at hx280_0); (try rw [Addr.add_zero'] at hx280_0); replace p280 := eq_true p280; replace q280 := eq_true q280) | ((with_reducible refine gate_dst (N := 62) rfl ?_); refine litE (Kd.int .i64) 3 ([x14_1, (rd t265 x24_2), rd t270 x35_3, rd t277 0] : List Int) [.int .i64 x14_1, .int .i64 (rd t265 x24_2), .int .i64 (rd t270 x35_3), .int .i64 (rd t277 0)] ?hp ?_; (case hp => exact (Reps.one (show Kd.M (Kd.int .i64) _ _ _ x14_1 [.int .i64 x14_1] from rfl) (Reps.one (show Kd.M (Kd.int .i64) _ _ _ (rd t265 x24_2) [.int .i64 (rd t265 x24_2)] from rfl) (Reps.one (show Kd.M (Kd.int .i64) _ _ _ (rd t270 x35_3) [.int .i64 (rd t270 x35_3)] from rfl) (Reps.one (show Kd.M (Kd.int .i64) _ _ _ (rd t277 0) [.int .i64 (rd t277 0)] from rfl) (Reps.none _ _)))))); intro v282 w39 ho40 hb hg_ hnew_; clear hg_ hnew_; (first | rw [← Ny281.out] at ho40 | (simp only [Int.reduceToNat] at ho40; rw [← Ny281.out] at ho40)); have HO283 := rLo (rN (rN (rN (rN ho40 HO_3) HO_22) HO_33) HO279) HB; replace HO_3 := rE HO_3 ho40 hb; replace HO_22 := rE HO_22 ho40 hb; replace HO_33 := rE HO_33 ho40 hb; replace HO279 := rE HO279 ho40 hb; replace BK260 := blkB BK260 hb; replace HB := bst HB hb; clear hb ho40)); try go_wp2_with (first | (go_at_call 34; (with_reducible refine (impl_members.calls k3 (Go.bits .and .i64 (Go.bits .and .i64 (rd t261 x14_1) (rd t261 (rd t265 x24_2))) (rd t261 (rd t270 x35_3))) t277 _ ?_ A34.out).mono ?_); exact Tab.below HTAB.out (bel_g HB.out); rintro e w37 ⟨v278, rfl, ho0, hb⟩; have HO279 := rLo (rN (rN (rN ho0 HO_3) HO_22) HO_33) HB; replace HO_3 := rE HO_3 ho0 hb; replace HO_22 := rE HO_22 ho0 hb; replace HO_33 := rE HO_33 ho0 hb; replace BK260 := blkB BK260 hb; replace HB := bst HB hb; clear hb ho0; obtain ⟨Ao38, co38, rfl⟩ := Kd.R_slice HO279.out; have p280 : 0 ≤ (0 : Int) := (by omega); have q280 : 0 < (t277.length : Int) := ofd; obtain ⟨ad280, e280, hx280_0⟩ := Kd.at_int (Kd.R_reads' HO279.out).2.2 0 p280 q280; cases e280; have qi280 : (0 < t277.length) = True := eq_true (by omega); (try rw [show ((0 : Int)).toNat = 0 from rfl] at hx280_0); (try rw [Addr.add_zero'] at hx280_0); replace p280 := eq_true p280; replace q280 := eq_true q280) | ((with_reducible refine gate_dst (N := 62) rfl ?_); refine litE (Kd.int .i64) 3 ([x14_1, (rd t265 x24_2), rd t270 x35_3, rd t277 0] : List Int) [.int .i64 x14_1, .int .i64 (rd t265 x24_2), .int .i64 (rd t270 x35_3), .int .i64 (rd t277 0)] ?hp ?_; (case hp => exact (Reps.one (show Kd.M (Kd.int .i64) _ _ _ x14_1 [.int .i64 x14_1] from rfl) (Reps.one (show Kd.M (Kd.int .i64) _ _ _ (rd t265 x24_2) [.int .i64 (rd t265 x24_2)] from rfl) (Reps.one (show Kd.M (Kd.int .i64) _ _ _ (rd t270 x35_3) [.int .i64 (rd t270 x35_3)] from rfl) (Reps.one (show Kd.M (Kd.int .i64) _ _ _ (rd t277 0) [.int .i64 (rd t277 0)] from rfl) (Reps.none _ _)))))); intro v282 w39 ho40 hb hg_ hnew_; clear hg_ hnew_; (first | rw [← Ny281.out] at ho40 | (simp only [Int.reduceToNat] at ho40; rw [← Ny281.out] at ho40)); have HO283 := rLo (rN (rN (rN (rN ho40 HO_3) HO_22) HO_33) HO279) HB; replace HO_3 := rE HO_3 ho40 hb; replace HO_22 := rE HO_22 ho40 hb; replace HO_33 := rE HO_33 ho40 hb; replace HO279 := rE HO279 ho40 hb; replace BK260 := blkB BK260 hb; replace HB := bst HB hb; clear hb ho40)))
           go_ret
           exact ⟨_, eqE, Kd.R_g (Kd.R_mono HO283.out (fun _ hk => trivial)), bel_g HB.out, by first | rfl | (intro _; rfl) | (intro h_; simp at h_; done) | (intro h_; rw [Ny281.out] at h_; simp at h_; done)⟩
         ·have H' := mkA H
          clear H
          go_wp2
          repeat (go_quiet (fail); try go_wp2)
          go_roundg k3
          case measure => have := HK1.out; have := HK2.out; have := HK3.out; omega
          case rel => exact ⟨(wrap64 (x24_2 + 1)), eqS, H', ⟨by have := HK1.out; have := HK2.out; have := HK3.out; omega⟩, ⟨Kd.R_g (Kd.R_mono HO_3.out (fun _ hk => hk.1))⟩, ⟨Kd.R_g (Kd.R_mono HO_22.out (fun _ hk => hk.1))⟩, bg BK260, hbg HB⟩
      ·have H' := mkA H
       clear H
       go_wp2
       repeat (go_quiet (fail); try go_wp2)
       go_roundg k2
       case measure => have := HK1.out; have := HK2.out; omega
       case rel => exact ⟨(wrap64 (x14_1 + 1)), eqS, H', ⟨by have := HK1.out; have := HK2.out; omega⟩, ⟨Kd.R_g (Kd.R_mono HO_3.out (fun _ hk => trivial))⟩, bg BK260, hbg HB⟩
   ·obtain rfl := Option.some.inj H
    go_wp2
    repeat (go_quiet (fail); try go_wp2)
    go_ret
    exact ⟨_, eqE, nilE, bel_g HB.out, by first | rfl | (intro _; rfl) | (intro h_; simp at h_; done)⟩
end Go.Proofs.YtcalgdljcphjaaaDoor.Q
