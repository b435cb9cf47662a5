import Derived.Test.YtdmheeenoklijaaDoorBFnSetsAlong21
namespace Go.Proofs.YtdmheeenoklijaaDoor.Q
open Go.RowKit Go.Proofs.YtdmheeenoklijaaDoorW.PrintWords Go.Proofs.YtdmheeenoklijaaDoorW.PrintLast Go.Proofs.YtdmheeenoklijaaDoorW.PrintMore
attribute [local go_sem] max2_int min2_int max_two min_two max_three min_three max_four min_four neB_f
set_option linter.unusedVariables false
set_option maxHeartbeats 8000000
set_option maxRecDepth 100000
set_option linter.unusedSimpArgs false
mutual
def spec_ivEnds.l0 : Nat → List Int → List (S39) → List Int → Int → Int → Int → List Int → Option ((List (S39)))
 | 0, _, _, _, _, _, _, _ => none
 | k + 1, x3, x4, x12, x13, x14, x628000, x628001 => if x14 < x13 then (if 0 ≤ x14 then (if x14 < (x12.length : Int) then (spec_ivEnds.l1 k x3 x4 x14 x12 x13 x14 x3 (x3.length : Int) 0 x628000 x628001 (rd x12 x14) (rd x12 x14)) else (none)) else (none)) else (some x4)
def spec_ivEnds.l1 : Nat → List Int → List (S39) → Int → List Int → Int → Int → List Int → Int → Int → Int → List Int → Int → Int → Option ((List (S39)))
 | 0, _, _, _, _, _, _, _, _, _, _, _, _, _ => none
 | k + 1, x3, x4, x5, x12, x13, x14, x22, x23, x24, x628000, x628001, x633000, x633001 => if x24 < x23 then (if 0 ≤ x24 then (if x24 < (x22.length : Int) then (if 0 ≤ x5 then (if x5 < (x628001.length : Int) then ((spec_orHas.f (rd x628001 x5) x24).bind fun t638 => (if t638 = true then (spec_ivEnds.l1 k x3 x4 x5 x12 x13 x14 x22 x23 (wrap64 (x24 + 1)) x628000 x628001 x633000 x633001) else ((spec_l1Most.f x633001 (rd x22 x24)).bind fun t639 => (spec_ivEnds.l1 k x3 x4 x5 x12 x13 x14 x22 x23 (wrap64 (x24 + 1)) x628000 x628001 x633000 t639)))) else (none)) else (none)) else (none)) else (none)) else (if x4.length < 8796093022208 then (spec_ivEnds.l0 k x3 (x4 ++ [(⟨x633000, x633001⟩ : S39)]) x12 x13 (wrap64 (x14 + 1)) x628000 x628001) else (none))
end
def spec_ivEnds.f (k : Nat) (a0_0 : Int) (l0_1 : List Int) : Option ((List (S39))) := (spec_ivLevels.f k a0_0 l0_1).bind fun t628 => (spec_ivEnds.l0 k t628 ([] : List (S39)) t628 (t628.length : Int) 0 a0_0 l0_1)
theorem spec_ivEnds.mono_l : ∀ k, (∀ y0 y1 y2 y3 y4 y5 y6, LeO (spec_ivEnds.l0 k y0 y1 y2 y3 y4 y5 y6) (spec_ivEnds.l0 (k + 1) y0 y1 y2 y3 y4 y5 y6)) ∧ (∀ y0 y1 y2 y3 y4 y5 y6 y7 y8 y9 y10 y11 y12, LeO (spec_ivEnds.l1 k y0 y1 y2 y3 y4 y5 y6 y7 y8 y9 y10 y11 y12) (spec_ivEnds.l1 (k + 1) y0 y1 y2 y3 y4 y5 y6 y7 y8 y9 y10 y11 y12))
 | 0 => ⟨fun _ _ _ _ _ _ _ r h => by simp [spec_ivEnds.l0] at h, fun _ _ _ _ _ _ _ _ _ _ _ _ _ r h => by simp [spec_ivEnds.l1] at h⟩
 | k + 1 => by
  obtain ⟨ih0, ih1⟩ := spec_ivEnds.mono_l k
  refine ⟨?_, ?_⟩ <;> intros
  unfold spec_ivEnds.l0
  rotate_left
  unfold spec_ivEnds.l1
  rotate_left
  all_goals repeat' (with_reducible first|apply ih0|apply ih1|apply spec_ivLevels.mono|apply LeO.refl|apply LeO.none|apply LeO.ite|apply LeO.bind|intro)
theorem spec_ivEnds.mono : ∀ a0 a1 k, LeO (spec_ivEnds.f k a0 a1) (spec_ivEnds.f (k + 1) a0 a1) := by
 intro a0 a1 k
 obtain ⟨ih0, ih1⟩ := spec_ivEnds.mono_l k
 unfold spec_ivEnds.f
 repeat' (with_reducible first|apply ih0|apply ih1|apply spec_ivLevels.mono|apply LeO.refl|apply LeO.none|apply LeO.ite|apply LeO.bind|intro)
theorem spec_ivEnds.calls (k : Nat) (a0_0 : Int) (A0_1 : Option Addr) (c0_1 : Nat) (l0_1 : List Int) (r : List (S39)) (w : World) (hr0_1 : Kd.C (Kd.int .i64) w A0_1 l0_1.length l0_1) (hc0_1 : l0_1.length ≤ c0_1) (h : spec_ivEnds.f k a0_0 l0_1 = some r) :
  Calls Tryd.prog 34 #[.agg #[.int .i64 a0_0, .slice A0_1 l0_1.length c0_1]] w fun e w' => ∃ v0_ : Value, e = .returned (v0_) ∧ Kd.R k39 39 w' w.heap.size (fun _ => True) v0_ r ∧ Below w.heap.size w w' := by
 have hu26 := Tryd.underlying26
 have hu39 := Tryd.underlying39
 have HR0_1 := mkA hr0_1
 have HC0_1 := mkA hc0_1
 clear hr0_1 hc0_1
 have HB := mkA (Below.refl w.heap.size w)
 have H := h
 clear h
 unfold spec_ivEnds.f at H
 obtain ⟨t628, A2, H⟩ := obE H
 have H' := mkA H
 clear H
 go_enter Tryd.func34, Tryd.ntmps34
 go_wp2_with (first | ((with_reducible refine gate_dst (N := 1) rfl ?_); refine boxG HB #[.int .i64 a0_0, .slice A0_1 l0_1.length c0_1] 26 ?_; intro gb627 hg w3 BK627 GE627 hb; replace HB := bst HB hb; clear hb hg; obtain ⟨_, _, _, _⟩ := blk2 BK627) | ((with_reducible refine gate_callee (f := 49) rfl ?_); refine goesQ (some 11) Tryd.func49 #[.agg #[.int .i64 a0_0, .slice A0_1 l0_1.length c0_1]] ?_; (with_reducible refine (spec_ivLevels.calls k a0_0 _ _ l0_1 t628 _ ?_ ?_ A2.out).mono ?_); exact C_g HR0_1 HB; exact HC0_1.out; rintro e w5 ⟨v629, rfl, ho0, hb⟩; refine ⟨_, rfl, ?_⟩; have HO630 := rLo ho0 HB; replace BK627 := blkB BK627 hb; replace HB := bst HB hb; clear hb ho0; obtain ⟨Ao6, co6, rfl⟩ := Kd.R_slice HO630.out))
 go_loopg [4, 14] k (fun kq v4 v14 w' => ∃ (x4_1 : List (S39)) (x14_1 : Int), v14 = .int .i64 x14_1 ∧ Fc (spec_ivEnds.l0 kq t628 x4_1 t628 (t628.length : Int) x14_1 a0_0 l0_1 = some r) ∧ Fc (kq ≤ k) ∧ Fc (Kd.R (Kd.int .i64) 3 w' w.heap.size (fun _ => True) (.slice Ao6 t628.length co6) t628) ∧ Fc (Kd.R k39 39 w' w.heap.size (fun _ => True) v4 x4_1) ∧ Fc (Kd.R (Kd.int .i64) 3 w' w.heap.size (fun _ => True) (.slice Ao6 t628.length co6) t628) ∧ Fc (w'.heap[gb627]? = some (.cells #[.int .i64 a0_0, (.slice A0_1 l0_1.length c0_1)] 26 (0, 0))) ∧ Fc (Below w.heap.size w w'))
 case atStart => exact ⟨(([] : List (S39))), (0), eqS, H', ⟨Nat.le_refl _⟩, rg HO630, ⟨nilE⟩, rg HO630, bg BK627, hbg HB⟩
 case round =>
  clear H'
  obtain ⟨x4_1, x14_1, rfl, HA, HK1, HO_3, HO_4, HO_12, BK627, HB⟩ := hrel
  cases gk with
  | zero => exact absurd HA.out (by simp [spec_ivEnds.l0])
  | succ k1 =>
   have H := HA.out
   clear HA
   simp only [spec_ivEnds.l0] at H
   rcases iteE H with ⟨c7b0, H⟩ | ⟨c7b0, H⟩
   ·obtain ⟨c8b0, H⟩ := itND H
    obtain ⟨c9b0, H⟩ := itND H
    have H' := mkA H
    clear H
    obtain ⟨p631, q631, ad631, e631, hx631_0⟩ := atI (Kd.R_reads' HO_12.out).2.2 x14_1
    cases e631
    go_wp2_with (first | ((with_reducible refine gate_dst (N := 7) rfl ?_); refine boxE (N := 7) (cs := #[.int .i64 0, .int .i64 0]) (t := 39) ?_; intro gb632 hg w10 hbox hb; replace HO_3 := rB HO_3 hb; replace HO_4 := mkA (Kd.R_below (Kd.R_elderB (Kd.R_g HO_4.out) gb632 (Nat.le_of_eq hg.symm)) hb); replace HO_12 := rB HO_12 hb; have BK632 := mkA (hbox); have GE632 := geB HB hg; have NB627_632 := neL7 BK627 hg; have NB632_627 := neR7 BK627 hg; replace BK627 := blkB BK627 hb; replace HB := bst HB hb; clear hb hbox hg; obtain ⟨_, _, _, _⟩ := blk2 BK632))
    go_loopg [24] k1 (fun kq v24 w' => ∃ (x24_2 : Int) (x633001_2 : Int), v24 = .int .i64 x24_2 ∧ Fc (spec_ivEnds.l1 kq t628 x4_1 x14_1 t628 (t628.length : Int) x14_1 t628 (t628.length : Int) x24_2 a0_0 l0_1 (rd t628 x14_1) x633001_2 = some r) ∧ Fc (kq ≤ k1) ∧ Fc (Kd.R (Kd.int .i64) 3 w' w.heap.size (fun _ => True) (.slice (some ad631) t628.length co6) t628) ∧ Fc (Kd.R k39 39 w' w.heap.size (fun k_ => k_ ≠ gb632) u4 x4_1) ∧ Fc (Kd.R (Kd.int .i64) 3 w' w.heap.size (fun _ => True) (.slice (some ad631) t628.length co6) t628) ∧ Fc (Kd.R (Kd.int .i64) 3 w' w.heap.size (fun _ => True) (.slice (some ad631) t628.length co6) t628) ∧ Fc (w'.heap[gb627]? = some (.cells #[.int .i64 a0_0, (.slice A0_1 l0_1.length c0_1)] 26 (0, 0))) ∧ Fc (w'.heap[gb632]? = some (.cells #[.int .i64 (rd t628 x14_1), .int .i64 x633001_2] 39 (0, 0))) ∧ Fc (Below w.heap.size w w'))
    case atStart => exact ⟨(0), (rd t628 x14_1), eqS, H', ⟨Nat.le_refl _⟩, ⟨Kd.R_g (Kd.R_mono (rF HO_3 BK632) (fun _ _ => trivial))⟩, ⟨Kd.R_g (Kd.R_mono (Kd.R_far (p := ⟨gb632, 1, none⟩) (Kd.R_far (p := ⟨gb632, 0, none⟩) (Kd.R_mono HO_4.out (fun k_ hk => (⟨hk, hk.2⟩ : _ ∧ k_ ≠ gb632))) (fun _ hk => hk.2) (.int .i64 (rd t628 x14_1))) (fun _ hk => hk.2) (.int .i64 (rd t628 x14_1))) (fun _ hk => hk.1.2))⟩, ⟨Kd.R_g (Kd.R_mono (rF HO_12 BK632) (fun _ _ => trivial))⟩, ⟨Kd.R_g (Kd.R_mono (rF HO_3 BK632) (fun _ _ => trivial))⟩, ⟨blkT BK627⟩, ⟨blkT BK632⟩, hbg HB⟩
    case round =>
     clear H'
     try clear c7b0
     try clear c8
     try clear c8b0
     try clear c9
     try clear c9b0
     try clear hx631_0
     try clear p631
     try clear q631
     obtain ⟨x24_2, x633001_2, rfl, HA, HK2, HO_3, HO_4, HO_12, HO_22, BK627, BK632, HB⟩ := hrel
     cases gk with
     | zero => exact absurd HA.out (by simp [spec_ivEnds.l1])
     | succ k2 =>
      have H := HA.out
      clear HA
      simp only [spec_ivEnds.l1] at H
      rcases iteE H with ⟨c13b0, H⟩ | ⟨c13b0, H⟩
      ·obtain ⟨c14b0, H⟩ := itND H
       obtain ⟨c15b0, H⟩ := itND H
       obtain ⟨c16b0, H⟩ := itND H
       obtain ⟨c17b0, H⟩ := itND H
       obtain ⟨t638, A18, H⟩ := obE H
       by_cases c19 : t638 = true
       ·subst c19
        replace H := ifT H
        have H' := mkA H
        clear H
        obtain ⟨p636, q636, ad636, e636, hx636_0⟩ := atI (Kd.R_reads' HO_22.out).2.2 x24_2
        obtain rfl : ad631 = ad636 := (by injection e636)
        obtain ⟨_, _, _, _⟩ := blk2 BK627
        obtain ⟨p637, q637, ad637, e637, hx637_0⟩ := atI HR0_1.out x14_1
        cases e637
        replace hx637_0 := (HB.out.cell (World.block_lt_of_cell? w _ hx637_0)).trans hx637_0
        go_wp2_with (first | ((with_reducible refine gate_callee (f := 60) rfl ?_); refine goesQ (some 35) Tryd.func60 #[.int .i64 (rd l0_1 x14_1), .int .i64 x24_2] ?_; (with_reducible refine (spec_orHas.calls (rd l0_1 x14_1) x24_2 true _ A18.out).mono ?_); rintro e w' ⟨rfl, ⟨nd, rfl⟩⟩; refine ⟨_, rfl, ?_⟩))
        go_roundg k2
        case measure => have := HK1.out; have := HK2.out; omega
        case rel => exact ⟨(wrap64 (x24_2 + 1)), (x633001_2), eqS, H', ⟨by have := HK1.out; have := HK2.out; omega⟩, rg HO_3, rg HO_4, rg HO_12, rg HO_22, bg BK627, bg BK632, hbg HB⟩
       ·replace c19 := Bool.eq_false_iff.mpr c19
        subst c19
        replace H := ifF H
        obtain ⟨t639, A22, H⟩ := obE H
        have H' := mkA H
        clear H
        obtain ⟨p636, q636, ad636, e636, hx636_0⟩ := atI (Kd.R_reads' HO_22.out).2.2 x24_2
        obtain rfl : ad631 = ad636 := (by injection e636)
        obtain ⟨_, _, _, _⟩ := blk2 BK627
        obtain ⟨p637, q637, ad637, e637, hx637_0⟩ := atI HR0_1.out x14_1
        cases e637
        replace hx637_0 := (HB.out.cell (World.block_lt_of_cell? w _ hx637_0)).trans hx637_0
        go_wp2_with (first | ((with_reducible refine gate_callee (f := 60) rfl ?_); refine goesQ (some 35) Tryd.func60 #[.int .i64 (rd l0_1 x14_1), .int .i64 x24_2] ?_; (with_reducible refine (spec_orHas.calls (rd l0_1 x14_1) x24_2 false _ A18.out).mono ?_); rintro e w' ⟨rfl, ⟨nd, rfl⟩⟩; refine ⟨_, rfl, ?_⟩; (try (rw [drewN_self wr]; generalize hq_ : World.drewN wr _ = wr; have n0_ : Fc (Kd.R (Kd.int .i64) 3 wr w.heap.size (fun _ => True) (.slice (some ad631) t628.length co6) t628) := ⟨by rw [← hq_]; exact (Kd.R_g HO_12.out)⟩; have n1_ : Fc (Kd.R (Kd.int .i64) 3 wr w.heap.size (fun _ => True) (.slice (some ad631) t628.length co6) t628) := ⟨by rw [← hq_]; exact (Kd.R_g HO_22.out)⟩; have n2_ : Fc (Kd.R (Kd.int .i64) 3 wr w.heap.size (fun _ => True) (.slice (some ad631) t628.length co6) t628) := ⟨by rw [← hq_]; exact (Kd.R_g HO_3.out)⟩; have n3_ : Fc (Kd.R k39 39 wr w.heap.size (fun k_ => k_ ≠ gb632) u4 x4_1) := ⟨by rw [← hq_]; exact (Kd.R_g HO_4.out)⟩; have n4_ : Fc (wr.heap[gb627]? = some (.cells #[.int .i64 a0_0, .slice (some ad637) l0_1.length c0_1] 26 (0, 0))) := ⟨by rw [← hq_]; exact (blk_g BK627.out)⟩; have n5_ : Fc (wr.heap[gb632]? = some (.cells #[.int .i64 (rd t628 x14_1), .int .i64 x633001_2] 39 (0, 0))) := ⟨by rw [← hq_]; exact (blk_g BK632.out)⟩; have n6_ : Fc (Below w.heap.size w wr) := ⟨by rw [← hq_]; exact (bel_g HB.out)⟩; clear HO_12 HO_22 HO_3 HO_4 BK627 BK632 HB hq_; have HO_12 := n0_; have HO_22 := n1_; have HO_3 := n2_; have HO_4 := n3_; have BK627 := n4_; have BK632 := n5_; have HB := n6_; clear n0_ n1_ n2_ n3_ n4_ n5_ n6_)); (try obtain ⟨_, _, _, _⟩ := blk2 BK627); (try obtain ⟨_, _, _, _⟩ := blk2 BK632); obtain ⟨_, _, _, _⟩ := blk2 BK632) | ((with_reducible refine gate_callee (f := 61) rfl ?_); refine goesQ (some 40) Tryd.func61 #[.int .i64 x633001_2, .int .i64 (rd t628 x24_2)] ?_; (with_reducible refine (spec_l1Most.calls x633001_2 (rd t628 x24_2) t639 _ A22.out).mono ?_); rintro e w' ⟨rfl, ⟨nd, rfl⟩⟩; refine ⟨_, rfl, ?_⟩; (try (rw [drewN_self wr]; generalize hq_ : World.drewN wr _ = wr; have n0_ : Fc (Kd.R (Kd.int .i64) 3 wr w.heap.size (fun _ => True) (.slice (some ad631) t628.length co6) t628) := ⟨by rw [← hq_]; exact (Kd.R_g HO_12.out)⟩; have n1_ : Fc (Kd.R (Kd.int .i64) 3 wr w.heap.size (fun _ => True) (.slice (some ad631) t628.length co6) t628) := ⟨by rw [← hq_]; exact (Kd.R_g HO_22.out)⟩; have n2_ : Fc (Kd.R (Kd.int .i64) 3 wr w.heap.size (fun _ => True) (.slice (some ad631) t628.length co6) t628) := ⟨by rw [← hq_]; exact (Kd.R_g HO_3.out)⟩; have n3_ : Fc (Kd.R k39 39 wr w.heap.size (fun k_ => k_ ≠ gb632) u4 x4_1) := ⟨by rw [← hq_]; exact (Kd.R_g HO_4.out)⟩; have n4_ : Fc (wr.heap[gb627]? = some (.cells #[.int .i64 a0_0, .slice (some ad637) l0_1.length c0_1] 26 (0, 0))) := ⟨by rw [← hq_]; exact (blk_g BK627.out)⟩; have n5_ : Fc (wr.heap[gb632]? = some (.cells #[.int .i64 (rd t628 x14_1), .int .i64 x633001_2] 39 (0, 0))) := ⟨by rw [← hq_]; exact (blk_g BK632.out)⟩; have n6_ : Fc (Below w.heap.size w wr) := ⟨by rw [← hq_]; exact (bel_g HB.out)⟩; clear HO_12 HO_22 HO_3 HO_4 BK627 BK632 HB hq_; have HO_12 := n0_; have HO_22 := n1_; have HO_3 := n2_; have HO_4 := n3_; have BK627 := n4_; have BK632 := n5_; have HB := n6_; clear n0_ n1_ n2_ n3_ n4_ n5_ n6_)); (try obtain ⟨_, _, _, _⟩ := blk2 BK627); (try obtain ⟨_, _, _, _⟩ := blk2 BK632)))
        go_roundg k2
        case measure => have := HK1.out; have := HK2.out; omega
        case rel => exact ⟨(wrap64 (x24_2 + 1)), (t639), eqS, H', ⟨by have := HK1.out; have := HK2.out; omega⟩, ⟨Kd.R_g (Kd.R_mono (Kd.R_far (p := ⟨gb632, 1, none⟩) (Kd.R_types HO_3.out BK632.out (by decide)) (fun _ hk => hk.2) (.int .i64 t639)) (fun _ hk => trivial))⟩, ⟨Kd.R_g (Kd.R_mono (Kd.R_far (p := ⟨gb632, 1, none⟩) (Kd.R_mono HO_4.out (fun k_ hk => (⟨hk, hk⟩ : _ ∧ k_ ≠ gb632))) (fun _ hk => hk.2) (.int .i64 t639)) (fun _ hk => hk.1))⟩, ⟨Kd.R_g (Kd.R_mono (Kd.R_far (p := ⟨gb632, 1, none⟩) (Kd.R_types HO_12.out BK632.out (by decide)) (fun _ hk => hk.2) (.int .i64 t639)) (fun _ hk => trivial))⟩, ⟨Kd.R_g (Kd.R_mono (Kd.R_far (p := ⟨gb632, 1, none⟩) (Kd.R_types HO_22.out BK632.out (by decide)) (fun _ hk => hk.2) (.int .i64 t639)) (fun _ hk => trivial))⟩, ⟨blkT BK627⟩, ⟨blkT BK632⟩, hbg HB⟩
      ·obtain ⟨c26, H⟩ := itNP H
       have LMc26 := mkA c26
       clear c26
       obtain ⟨y633, hy633⟩ : ∃ y_ : List (S39), y_ = (x4_1 ++ [(⟨(rd t628 x14_1), x633001_2⟩ : S39)]) := ⟨_, rfl⟩
       rw [← hy633] at H
       have Ny633 := mkA hy633
       clear hy633
       have H' := mkA H
       clear H
       obtain ⟨_, _, _, _⟩ := blk2 BK632
       go_wp2_with (first | ((with_reducible refine gate_builtin (b := .append) (xs := #[.tmp 43, .tmp 45]) rfl ?_); at_builtin; refine Kd.R_append k39 (w0 := w) w.heap.size rfl (.tmp 43) (.tmp 45) 28 39 (.agg #[(.int .i64 0), (.int .i64 0)]) 16 rfl Tryd.underlying28 info39 rfl (by decide) (by omega) u4 x4_1 (⟨(rd t628 x14_1), x633001_2⟩ : S39) [.int .i64 (rd t628 x14_1), .int .i64 x633001_2] (fun k_ => k_ ≠ gb632) (fun _ => False) rfl rfl ?aP (fun _ hk => hk.elim) ?aF ?aO ?aB ?aS ?aL ?_; (case aP => exact k39_mkM _ _ _ (⟨(rd t628 x14_1), x633001_2⟩ : S39)); (case aB => exact (bel_g HB.out)); (case aF => exact (fun k_ hk => Kd.freshB (g := gb632) (o := .cells #[.int .i64 (rd t628 x14_1), .int .i64 x633001_2] 39 (0, 0)) (blk_g BK632.out) k_ hk)); (case aO => exact (Kd.R_g HO_4.out)); (case aS => exact (below_size (bel_g HB.out))); (case aL => have := LMc26.out; omega); intro v634 w29 ho hb hg hat; rw [← Ny633.out] at ho; replace HO_3 := mkA (Kd.R_over' (Kd.R_g HO_3.out) (Kd.R_typed (Kd.R_g HO_4.out)) (by decide) hg); replace HO_12 := mkA (Kd.R_over' (Kd.R_g HO_12.out) (Kd.R_typed (Kd.R_g HO_4.out)) (by decide) hg); replace HO_22 := mkA (Kd.R_over' (Kd.R_g HO_22.out) (Kd.R_typed (Kd.R_g HO_4.out)) (by decide) hg); replace BK627 := mkA (blk_grown (g := gb627) (o := .cells #[.int .i64 a0_0, .slice A0_1 l0_1.length c0_1] 26 (0, 0)) (blk_g BK627.out) hg (Kd.R_ne HO_4.out BK627.out (by decide))); replace BK632 := mkA (blk_grown (g := gb632) (o := .cells #[.int .i64 (rd t628 x14_1), .int .i64 x633001_2] 39 (0, 0)) (blk_g BK632.out) hg (Kd.R_away HO_4.out (fun _ hk => hk))); have HO635 := mkA (ho); replace HB := mkA (hb); clear HO_4; clear ho hb hg hat))
       go_roundg k2
       case measure => have := HK1.out; have := HK2.out; omega
       case rel => exact ⟨(y633), (wrap64 (x14_1 + 1)), eqS, H', ⟨by have := HK1.out; have := HK2.out; omega⟩, rg HO_3, ⟨Kd.R_g (Kd.R_mono HO635.out (fun _ hk => trivial))⟩, rg HO_12, bg BK627, hbg HB⟩
   ·obtain rfl := Option.some.inj H
    go_wp2
    go_ret
    exact ⟨_, eqE, Kd.R_g HO_4.out, bel_g HB.out⟩
def spec_ivMost.l0 : Nat → Int → List Int → Int → Int → Option (Int)
 | 0, _, _, _, _ => none
 | k + 1, x3, x6, x7, x8 => if x8 < x7 then (if 0 ≤ x8 then (if x8 < (x6.length : Int) then ((spec_l1Most.f x3 (rd x6 x8)).bind fun t850 => (spec_ivMost.l0 k t850 x6 x7 (wrap64 (x8 + 1)))) else (none)) else (none)) else (some x3)
def spec_ivMost.f (k : Nat) (l0 : List Int) : Option (Int) := spec_ivMost.l0 k (-1) l0 (l0.length : Int) 0
theorem spec_ivMost.mono_l : ∀ k, (∀ y0 y1 y2 y3, LeO (spec_ivMost.l0 k y0 y1 y2 y3) (spec_ivMost.l0 (k + 1) y0 y1 y2 y3))
 | 0 => fun _ _ _ _ r h => by simp [spec_ivMost.l0] at h
 | k + 1 => by
  have ih0 := spec_ivMost.mono_l k
  ·intro y0 y1 y2 y3
   unfold spec_ivMost.l0
   repeat' (with_reducible first|apply ih0|apply LeO.refl|apply LeO.none|apply LeO.ite|apply LeO.bind|intro)
theorem spec_ivMost.mono : ∀ a0 k, LeO (spec_ivMost.f k a0) (spec_ivMost.f (k + 1) a0) := by
 intro a0 k
 have ih0 := spec_ivMost.mono_l k
 unfold spec_ivMost.f
 repeat' (with_reducible first|apply ih0|apply LeO.refl|apply LeO.none|apply LeO.ite|apply LeO.bind|intro)
theorem spec_ivMost.calls (k : Nat) (A0 : Option Addr) (c0 : Nat) (l0 : List Int) (r : Int) (w : World) (hr0 : Kd.C (Kd.int .i64) w A0 l0.length l0) (hc0 : l0.length ≤ c0) (h : spec_ivMost.f k l0 = some r) :
  Calls Tryd.prog 48 #[.slice A0 l0.length c0] w fun e w' => e = .returned (.int .i64 r) ∧ Drawn0 w w' := by
 have HR0 := mkA hr0
 have HC0 := mkA hc0
 clear hr0 hc0
 have H := h
 clear h
 unfold spec_ivMost.f at H
 have H' := mkA H
 clear H
 go_enter Tryd.func48, Tryd.ntmps48
 go_wp2
 go_loopg [3, 8] k (fun kq v3 v8 w' => ∃ (x3_1 : Int) (x8_1 : Int), v3 = .int .i64 x3_1 ∧ v8 = .int .i64 x8_1 ∧ Fc (spec_ivMost.l0 kq x3_1 l0 (l0.length : Int) x8_1 = some r) ∧ Fc (kq ≤ k) ∧ Drawn0 w w')
 case atStart => exact ⟨((-1)), (0), eqS, eqS, H', ⟨Nat.le_refl _⟩, by repeat (first | exact Drawn0.refl _ | apply Drawn0.step)⟩
 case round =>
  clear H'
  obtain ⟨x3_1, x8_1, rfl, rfl, HA, HK1, ⟨m1, rfl⟩⟩ := hrel
  cases gk with
  | zero => exact absurd HA.out (by simp [spec_ivMost.l0])
  | succ k1 =>
   have H := HA.out
   clear HA
   simp only [spec_ivMost.l0] at H
   rcases iteE H with ⟨c2b0, H⟩ | ⟨c2b0, H⟩
   ·obtain ⟨c3b0, H⟩ := itND H
    obtain ⟨c4b0, H⟩ := itND H
    obtain ⟨t850, A5, H⟩ := obE H
    have H' := mkA H
    clear H
    obtain ⟨p849, q849, ad849, e849, hx849_0⟩ := atI HR0.out x8_1
    cases e849
    go_wp2_with (first | ((with_reducible refine gate_callee (f := 61) rfl ?_); refine goesQ (some 14) Tryd.func61 #[.int .i64 x3_1, .int .i64 (rd l0 x8_1)] ?_; (with_reducible refine (spec_l1Most.calls x3_1 (rd l0 x8_1) t850 _ A5.out).mono ?_); rintro e w' ⟨rfl, ⟨nd, rfl⟩⟩; refine ⟨_, rfl, ?_⟩))
    go_roundg k1
    case measure => have := HK1.out; omega
    case rel => exact ⟨(t850), (wrap64 (x8_1 + 1)), eqS, eqS, H', ⟨by have := HK1.out; omega⟩, by repeat (first | exact Drawn0.refl _ | apply Drawn0.step)⟩
   ·obtain rfl := Option.some.inj H
    go_wp2
    go_ret
    exact ⟨eqS, drE⟩
end Go.Proofs.YtdmheeenoklijaaDoor.Q
