import Derived.Test.YtlfjnllnddpgoaaDoorBFnStretchedIntervals24
namespace Go.Proofs.YtlfjnllnddpgoaaDoor.Q
open Go.RowKit Go.Proofs.YtlfjnllnddpgoaaDoorW.PrintWords Go.Proofs.YtlfjnllnddpgoaaDoorW.PrintLast Go.Proofs.YtlfjnllnddpgoaaDoorW.PrintMore
attribute [local go_sem] max2_int min2_int max_two min_two max_three min_three max_four min_four neB_f
set_option linter.unusedVariables false
set_option maxHeartbeats 8000000
set_option maxRecDepth 100000
set_option linter.unusedSimpArgs false
mutual
def spec_ivEnds.l0 : Nat → List Int → List (S37) → List Int → Int → Int → Int → List Int → Option ((List (S37)))
 | 0, _, _, _, _, _, _, _ => none
 | k + 1, x3, x4, x12, x13, x14, x760000, x760001 => if x14 < x13 then (if 0 ≤ x14 then (if x14 < (x12.length : Int) then (spec_ivEnds.l1 k x3 x4 x14 x12 x13 x14 x3 (x3.length : Int) 0 x760000 x760001 (rd x12 x14) (rd x12 x14)) else (none)) else (none)) else (some x4)
def spec_ivEnds.l1 : Nat → List Int → List (S37) → Int → List Int → Int → Int → List Int → Int → Int → Int → List Int → Int → Int → Option ((List (S37)))
 | 0, _, _, _, _, _, _, _, _, _, _, _, _, _ => none
 | k + 1, x3, x4, x5, x12, x13, x14, x22, x23, x24, x760000, x760001, x765000, x765001 => if x24 < x23 then (if 0 ≤ x24 then (if x24 < (x22.length : Int) then (if 0 ≤ x5 then (if x5 < (x760001.length : Int) then ((spec_orHas.f (rd x760001 x5) x24).bind fun t770 => (if t770 = true then (spec_ivEnds.l1 k x3 x4 x5 x12 x13 x14 x22 x23 (wrap64 (x24 + 1)) x760000 x760001 x765000 x765001) else ((spec_l1Most.f x765001 (rd x22 x24)).bind fun t771 => (spec_ivEnds.l1 k x3 x4 x5 x12 x13 x14 x22 x23 (wrap64 (x24 + 1)) x760000 x760001 x765000 t771)))) else (none)) else (none)) else (none)) else (none)) else (if x4.length < 8796093022208 then (spec_ivEnds.l0 k x3 (x4 ++ [(⟨x765000, x765001⟩ : S37)]) x12 x13 (wrap64 (x14 + 1)) x760000 x760001) else (none))
end
def spec_ivEnds.f (k : Nat) (a0_0 : Int) (l0_1 : List Int) : Option ((List (S37))) := (spec_ivLevels.f k a0_0 l0_1).bind fun t760 => (spec_ivEnds.l0 k t760 ([] : List (S37)) t760 (t760.length : Int) 0 a0_0 l0_1)
theorem spec_ivEnds.mono_l : ∀ k, (∀ y0 y1 y2 y3 y4 y5 y6, LeO (spec_ivEnds.l0 k y0 y1 y2 y3 y4 y5 y6) (spec_ivEnds.l0 (k + 1) y0 y1 y2 y3 y4 y5 y6)) ∧ (∀ y0 y1 y2 y3 y4 y5 y6 y7 y8 y9 y10 y11 y12, LeO (spec_ivEnds.l1 k y0 y1 y2 y3 y4 y5 y6 y7 y8 y9 y10 y11 y12) (spec_ivEnds.l1 (k + 1) y0 y1 y2 y3 y4 y5 y6 y7 y8 y9 y10 y11 y12))
 | 0 => ⟨fun _ _ _ _ _ _ _ r h => by simp [spec_ivEnds.l0] at h, fun _ _ _ _ _ _ _ _ _ _ _ _ _ r h => by simp [spec_ivEnds.l1] at h⟩
 | k + 1 => by
  obtain ⟨ih0, ih1⟩ := spec_ivEnds.mono_l k
  refine ⟨?_, ?_⟩ <;> intros
  unfold spec_ivEnds.l0
  rotate_left
  unfold spec_ivEnds.l1
  rotate_left
  all_goals repeat' (with_reducible first|apply ih0|apply ih1|apply spec_ivLevels.mono|apply LeO.refl|apply LeO.none|apply LeO.ite|apply LeO.bind|intro)
theorem spec_ivEnds.mono : ∀ a0 a1 k, LeO (spec_ivEnds.f k a0 a1) (spec_ivEnds.f (k + 1) a0 a1) := by
 intro a0 a1 k
 obtain ⟨ih0, ih1⟩ := spec_ivEnds.mono_l k
 unfold spec_ivEnds.f
 repeat' (with_reducible first|apply ih0|apply ih1|apply spec_ivLevels.mono|apply LeO.refl|apply LeO.none|apply LeO.ite|apply LeO.bind|intro)
theorem spec_ivEnds.calls (k : Nat) (a0_0 : Int) (A0_1 : Option Addr) (c0_1 : Nat) (l0_1 : List Int) (r : List (S37)) (w : World) (hr0_1 : Kd.C (Kd.int .i64) w A0_1 l0_1.length l0_1) (hc0_1 : l0_1.length ≤ c0_1) (h : spec_ivEnds.f k a0_0 l0_1 = some r) :
  Calls Tryd.prog 35 #[.agg #[.int .i64 a0_0, .slice A0_1 l0_1.length c0_1]] w fun e w' => ∃ v0_ : Value, e = .returned (v0_) ∧ Kd.R k37 37 w' w.heap.size (fun _ => True) v0_ r ∧ Below w.heap.size w w' := by
 have hu32 := Tryd.underlying32
 have hu37 := Tryd.underlying37
 have HR0_1 := mkA hr0_1
 have HC0_1 := mkA hc0_1
 clear hr0_1 hc0_1
 have HB := mkA (Below.refl w.heap.size w)
 have H := h
 clear h
 unfold spec_ivEnds.f at H
 obtain ⟨t760, A2, H⟩ := obE H
 have H' := mkA H
 clear H
 go_enter Tryd.func35, Tryd.ntmps35
 go_wp2_with (first | ((with_reducible refine gate_dst (N := 1) rfl ?_); refine boxG HB #[.int .i64 a0_0, .slice A0_1 l0_1.length c0_1] 32 ?_; intro gb759 hg w3 BK759 GE759 hb; replace HB := bst HB hb; clear hb hg; obtain ⟨_, _, _, _⟩ := blk2 BK759) | ((with_reducible refine gate_callee (f := 50) rfl ?_); refine goesQ (some 11) Tryd.func50 #[.agg #[.int .i64 a0_0, .slice A0_1 l0_1.length c0_1]] ?_; (with_reducible refine (spec_ivLevels.calls k a0_0 _ _ l0_1 t760 _ ?_ ?_ A2.out).mono ?_); exact C_g HR0_1 HB; exact HC0_1.out; rintro e w5 ⟨v761, rfl, ho0, hb⟩; refine ⟨_, rfl, ?_⟩; have HO762 := rLo ho0 HB; replace BK759 := blkB BK759 hb; replace HB := bst HB hb; clear hb ho0; obtain ⟨Ao6, co6, rfl⟩ := Kd.R_slice HO762.out))
 go_loopg [4, 14] k (fun kq v4 v14 w' => ∃ (x4_1 : List (S37)) (x14_1 : Int), v14 = .int .i64 x14_1 ∧ Fc (spec_ivEnds.l0 kq t760 x4_1 t760 (t760.length : Int) x14_1 a0_0 l0_1 = some r) ∧ Fc (kq ≤ k) ∧ Fc (Kd.R (Kd.int .i64) 3 w' w.heap.size (fun _ => True) (.slice Ao6 t760.length co6) t760) ∧ Fc (Kd.R k37 37 w' w.heap.size (fun _ => True) v4 x4_1) ∧ Fc (Kd.R (Kd.int .i64) 3 w' w.heap.size (fun _ => True) (.slice Ao6 t760.length co6) t760) ∧ Fc (w'.heap[gb759]? = some (.cells #[.int .i64 a0_0, (.slice A0_1 l0_1.length c0_1)] 32 (0, 0))) ∧ Fc (Below w.heap.size w w'))
 case atStart => exact ⟨(([] : List (S37))), (0), eqS, H', ⟨Nat.le_refl _⟩, rg HO762, ⟨nilE⟩, rg HO762, bg BK759, hbg HB⟩
 case round =>
  clear H'
  obtain ⟨x4_1, x14_1, rfl, HA, HK1, HO_3, HO_4, HO_12, BK759, HB⟩ := hrel
  cases gk with
  | zero => exact absurd HA.out (by simp [spec_ivEnds.l0])
  | succ k1 =>
   have H := HA.out
   clear HA
   simp only [spec_ivEnds.l0] at H
   rcases iteE H with ⟨c7b0, H⟩ | ⟨c7b0, H⟩
   ·obtain ⟨c8b0, H⟩ := itND H
    obtain ⟨c9b0, H⟩ := itND H
    have H' := mkA H
    clear H
    obtain ⟨p763, q763, ad763, e763, hx763_0⟩ := atI (Kd.R_reads' HO_12.out).2.2 x14_1
    cases e763
    go_wp2_with (first | ((with_reducible refine gate_dst (N := 7) rfl ?_); refine boxE (N := 7) (cs := #[.int .i64 0, .int .i64 0]) (t := 37) ?_; intro gb764 hg w10 hbox hb; replace HO_3 := rB HO_3 hb; replace HO_4 := mkA (Kd.R_below (Kd.R_elderB (Kd.R_g HO_4.out) gb764 (Nat.le_of_eq hg.symm)) hb); replace HO_12 := rB HO_12 hb; have BK764 := mkA (hbox); have GE764 := geB HB hg; have NB759_764 := neL7 BK759 hg; have NB764_759 := neR7 BK759 hg; replace BK759 := blkB BK759 hb; replace HB := bst HB hb; clear hb hbox hg; obtain ⟨_, _, _, _⟩ := blk2 BK764))
    go_loopg [24] k1 (fun kq v24 w' => ∃ (x24_2 : Int) (x765001_2 : Int), v24 = .int .i64 x24_2 ∧ Fc (spec_ivEnds.l1 kq t760 x4_1 x14_1 t760 (t760.length : Int) x14_1 t760 (t760.length : Int) x24_2 a0_0 l0_1 (rd t760 x14_1) x765001_2 = some r) ∧ Fc (kq ≤ k1) ∧ Fc (Kd.R (Kd.int .i64) 3 w' w.heap.size (fun _ => True) (.slice (some ad763) t760.length co6) t760) ∧ Fc (Kd.R k37 37 w' w.heap.size (fun k_ => k_ ≠ gb764) u4 x4_1) ∧ Fc (Kd.R (Kd.int .i64) 3 w' w.heap.size (fun _ => True) (.slice (some ad763) t760.length co6) t760) ∧ Fc (Kd.R (Kd.int .i64) 3 w' w.heap.size (fun _ => True) (.slice (some ad763) t760.length co6) t760) ∧ Fc (w'.heap[gb759]? = some (.cells #[.int .i64 a0_0, (.slice A0_1 l0_1.length c0_1)] 32 (0, 0))) ∧ Fc (w'.heap[gb764]? = some (.cells #[.int .i64 (rd t760 x14_1), .int .i64 x765001_2] 37 (0, 0))) ∧ Fc (Below w.heap.size w w'))
    case atStart => exact ⟨(0), (rd t760 x14_1), eqS, H', ⟨Nat.le_refl _⟩, ⟨Kd.R_g (Kd.R_mono (rF HO_3 BK764) (fun _ _ => trivial))⟩, ⟨Kd.R_g (Kd.R_mono (Kd.R_far (p := ⟨gb764, 1, none⟩) (Kd.R_far (p := ⟨gb764, 0, none⟩) (Kd.R_mono HO_4.out (fun k_ hk => (⟨hk, hk.2⟩ : _ ∧ k_ ≠ gb764))) (fun _ hk => hk.2) (.int .i64 (rd t760 x14_1))) (fun _ hk => hk.2) (.int .i64 (rd t760 x14_1))) (fun _ hk => hk.1.2))⟩, ⟨Kd.R_g (Kd.R_mono (rF HO_12 BK764) (fun _ _ => trivial))⟩, ⟨Kd.R_g (Kd.R_mono (rF HO_3 BK764) (fun _ _ => trivial))⟩, ⟨blkT BK759⟩, ⟨blkT BK764⟩, hbg HB⟩
    case round =>
     clear H'
     try clear c7b0
     try clear c8
     try clear c8b0
     try clear c9
     try clear c9b0
     try clear hx763_0
     try clear p763
     try clear q763
     obtain ⟨x24_2, x765001_2, rfl, HA, HK2, HO_3, HO_4, HO_12, HO_22, BK759, BK764, HB⟩ := hrel
     cases gk with
     | zero => exact absurd HA.out (by simp [spec_ivEnds.l1])
     | succ k2 =>
      have H := HA.out
      clear HA
      simp only [spec_ivEnds.l1] at H
      rcases iteE H with ⟨c13b0, H⟩ | ⟨c13b0, H⟩
      ·obtain ⟨c14b0, H⟩ := itND H
       obtain ⟨c15b0, H⟩ := itND H
       obtain ⟨c16b0, H⟩ := itND H
       obtain ⟨c17b0, H⟩ := itND H
       obtain ⟨t770, A18, H⟩ := obE H
       by_cases c19 : t770 = true
       ·subst c19
        replace H := ifT H
        have H' := mkA H
        clear H
        obtain ⟨p768, q768, ad768, e768, hx768_0⟩ := atI (Kd.R_reads' HO_22.out).2.2 x24_2
        obtain rfl : ad763 = ad768 := (by injection e768)
        obtain ⟨_, _, _, _⟩ := blk2 BK759
        obtain ⟨p769, q769, ad769, e769, hx769_0⟩ := atI HR0_1.out x14_1
        cases e769
        replace hx769_0 := (HB.out.cell (World.block_lt_of_cell? w _ hx769_0)).trans hx769_0
        go_wp2_with (first | ((with_reducible refine gate_callee (f := 51) rfl ?_); refine goesQ (some 35) Tryd.func51 #[.int .i64 (rd l0_1 x14_1), .int .i64 x24_2] ?_; (with_reducible refine (spec_orHas.calls (rd l0_1 x14_1) x24_2 true _ A18.out).mono ?_); rintro e w' ⟨rfl, ⟨nd, rfl⟩⟩; refine ⟨_, rfl, ?_⟩))
        go_roundg k2
        case measure => have := HK1.out; have := HK2.out; omega
        case rel => exact ⟨(wrap64 (x24_2 + 1)), (x765001_2), eqS, H', ⟨by have := HK1.out; have := HK2.out; omega⟩, rg HO_3, rg HO_4, rg HO_12, rg HO_22, bg BK759, bg BK764, hbg HB⟩
       ·replace c19 := Bool.eq_false_iff.mpr c19
        subst c19
        replace H := ifF H
        obtain ⟨t771, A22, H⟩ := obE H
        have H' := mkA H
        clear H
        obtain ⟨p768, q768, ad768, e768, hx768_0⟩ := atI (Kd.R_reads' HO_22.out).2.2 x24_2
        obtain rfl : ad763 = ad768 := (by injection e768)
        obtain ⟨_, _, _, _⟩ := blk2 BK759
        obtain ⟨p769, q769, ad769, e769, hx769_0⟩ := atI HR0_1.out x14_1
        cases e769
        replace hx769_0 := (HB.out.cell (World.block_lt_of_cell? w _ hx769_0)).trans hx769_0
        go_wp2_with (first | ((with_reducible refine gate_callee (f := 51) rfl ?_); refine goesQ (some 35) Tryd.func51 #[.int .i64 (rd l0_1 x14_1), .int .i64 x24_2] ?_; (with_reducible refine (spec_orHas.calls (rd l0_1 x14_1) x24_2 false _ A18.out).mono ?_); rintro e w' ⟨rfl, ⟨nd, rfl⟩⟩; refine ⟨_, rfl, ?_⟩; (try (rw [drewN_self wr]; generalize hq_ : World.drewN wr _ = wr; have n0_ : Fc (Kd.R (Kd.int .i64) 3 wr w.heap.size (fun _ => True) (.slice (some ad763) t760.length co6) t760) := ⟨by rw [← hq_]; exact (Kd.R_g HO_12.out)⟩; have n1_ : Fc (Kd.R (Kd.int .i64) 3 wr w.heap.size (fun _ => True) (.slice (some ad763) t760.length co6) t760) := ⟨by rw [← hq_]; exact (Kd.R_g HO_22.out)⟩; have n2_ : Fc (Kd.R (Kd.int .i64) 3 wr w.heap.size (fun _ => True) (.slice (some ad763) t760.length co6) t760) := ⟨by rw [← hq_]; exact (Kd.R_g HO_3.out)⟩; have n3_ : Fc (Kd.R k37 37 wr w.heap.size (fun k_ => k_ ≠ gb764) u4 x4_1) := ⟨by rw [← hq_]; exact (Kd.R_g HO_4.out)⟩; have n4_ : Fc (wr.heap[gb759]? = some (.cells #[.int .i64 a0_0, .slice (some ad769) l0_1.length c0_1] 32 (0, 0))) := ⟨by rw [← hq_]; exact (blk_g BK759.out)⟩; have n5_ : Fc (wr.heap[gb764]? = some (.cells #[.int .i64 (rd t760 x14_1), .int .i64 x765001_2] 37 (0, 0))) := ⟨by rw [← hq_]; exact (blk_g BK764.out)⟩; have n6_ : Fc (Below w.heap.size w wr) := ⟨by rw [← hq_]; exact (bel_g HB.out)⟩; clear HO_12 HO_22 HO_3 HO_4 BK759 BK764 HB hq_; have HO_12 := n0_; have HO_22 := n1_; have HO_3 := n2_; have HO_4 := n3_; have BK759 := n4_; have BK764 := n5_; have HB := n6_; clear n0_ n1_ n2_ n3_ n4_ n5_ n6_)); (try obtain ⟨_, _, _, _⟩ := blk2 BK759); (try obtain ⟨_, _, _, _⟩ := blk2 BK764); obtain ⟨_, _, _, _⟩ := blk2 BK764) | ((with_reducible refine gate_callee (f := 52) rfl ?_); refine goesQ (some 40) Tryd.func52 #[.int .i64 x765001_2, .int .i64 (rd t760 x24_2)] ?_; (with_reducible refine (spec_l1Most.calls x765001_2 (rd t760 x24_2) t771 _ A22.out).mono ?_); rintro e w' ⟨rfl, ⟨nd, rfl⟩⟩; refine ⟨_, rfl, ?_⟩; (try (rw [drewN_self wr]; generalize hq_ : World.drewN wr _ = wr; have n0_ : Fc (Kd.R (Kd.int .i64) 3 wr w.heap.size (fun _ => True) (.slice (some ad763) t760.length co6) t760) := ⟨by rw [← hq_]; exact (Kd.R_g HO_12.out)⟩; have n1_ : Fc (Kd.R (Kd.int .i64) 3 wr w.heap.size (fun _ => True) (.slice (some ad763) t760.length co6) t760) := ⟨by rw [← hq_]; exact (Kd.R_g HO_22.out)⟩; have n2_ : Fc (Kd.R (Kd.int .i64) 3 wr w.heap.size (fun _ => True) (.slice (some ad763) t760.length co6) t760) := ⟨by rw [← hq_]; exact (Kd.R_g HO_3.out)⟩; have n3_ : Fc (Kd.R k37 37 wr w.heap.size (fun k_ => k_ ≠ gb764) u4 x4_1) := ⟨by rw [← hq_]; exact (Kd.R_g HO_4.out)⟩; have n4_ : Fc (wr.heap[gb759]? = some (.cells #[.int .i64 a0_0, .slice (some ad769) l0_1.length c0_1] 32 (0, 0))) := ⟨by rw [← hq_]; exact (blk_g BK759.out)⟩; have n5_ : Fc (wr.heap[gb764]? = some (.cells #[.int .i64 (rd t760 x14_1), .int .i64 x765001_2] 37 (0, 0))) := ⟨by rw [← hq_]; exact (blk_g BK764.out)⟩; have n6_ : Fc (Below w.heap.size w wr) := ⟨by rw [← hq_]; exact (bel_g HB.out)⟩; clear HO_12 HO_22 HO_3 HO_4 BK759 BK764 HB hq_; have HO_12 := n0_; have HO_22 := n1_; have HO_3 := n2_; have HO_4 := n3_; have BK759 := n4_; have BK764 := n5_; have HB := n6_; clear n0_ n1_ n2_ n3_ n4_ n5_ n6_)); (try obtain ⟨_, _, _, _⟩ := blk2 BK759); (try obtain ⟨_, _, _, _⟩ := blk2 BK764)))
        go_roundg k2
        case measure => have := HK1.out; have := HK2.out; omega
        case rel => exact ⟨(wrap64 (x24_2 + 1)), (t771), eqS, H', ⟨by have := HK1.out; have := HK2.out; omega⟩, ⟨Kd.R_g (Kd.R_mono (Kd.R_far (p := ⟨gb764, 1, none⟩) (Kd.R_types HO_3.out BK764.out (by decide)) (fun _ hk => hk.2) (.int .i64 t771)) (fun _ hk => trivial))⟩, ⟨Kd.R_g (Kd.R_mono (Kd.R_far (p := ⟨gb764, 1, none⟩) (Kd.R_mono HO_4.out (fun k_ hk => (⟨hk, hk⟩ : _ ∧ k_ ≠ gb764))) (fun _ hk => hk.2) (.int .i64 t771)) (fun _ hk => hk.1))⟩, ⟨Kd.R_g (Kd.R_mono (Kd.R_far (p := ⟨gb764, 1, none⟩) (Kd.R_types HO_12.out BK764.out (by decide)) (fun _ hk => hk.2) (.int .i64 t771)) (fun _ hk => trivial))⟩, ⟨Kd.R_g (Kd.R_mono (Kd.R_far (p := ⟨gb764, 1, none⟩) (Kd.R_types HO_22.out BK764.out (by decide)) (fun _ hk => hk.2) (.int .i64 t771)) (fun _ hk => trivial))⟩, ⟨blkT BK759⟩, ⟨blkT BK764⟩, hbg HB⟩
      ·obtain ⟨c26, H⟩ := itNP H
       have LMc26 := mkA c26
       clear c26
       obtain ⟨y765, hy765⟩ : ∃ y_ : List (S37), y_ = (x4_1 ++ [(⟨(rd t760 x14_1), x765001_2⟩ : S37)]) := ⟨_, rfl⟩
       rw [← hy765] at H
       have Ny765 := mkA hy765
       clear hy765
       have H' := mkA H
       clear H
       obtain ⟨_, _, _, _⟩ := blk2 BK764
       go_wp2_with (first | ((with_reducible refine gate_builtin (b := .append) (xs := #[.tmp 43, .tmp 45]) rfl ?_); at_builtin; refine Kd.R_append k37 (w0 := w) w.heap.size rfl (.tmp 43) (.tmp 45) 24 37 (.agg #[(.int .i64 0), (.int .i64 0)]) 16 rfl Tryd.underlying24 info37 rfl (by decide) (by omega) u4 x4_1 (⟨(rd t760 x14_1), x765001_2⟩ : S37) [.int .i64 (rd t760 x14_1), .int .i64 x765001_2] (fun k_ => k_ ≠ gb764) (fun _ => False) rfl rfl ?aP (fun _ hk => hk.elim) ?aF ?aO ?aB ?aS ?aL ?_; (case aP => exact k37_mkM _ _ _ (⟨(rd t760 x14_1), x765001_2⟩ : S37)); (case aB => exact (bel_g HB.out)); (case aF => exact (fun k_ hk => Kd.freshB (g := gb764) (o := .cells #[.int .i64 (rd t760 x14_1), .int .i64 x765001_2] 37 (0, 0)) (blk_g BK764.out) k_ hk)); (case aO => exact (Kd.R_g HO_4.out)); (case aS => exact (below_size (bel_g HB.out))); (case aL => have := LMc26.out; omega); intro v766 w29 ho hb hg hat; rw [← Ny765.out] at ho; replace HO_3 := mkA (Kd.R_over' (Kd.R_g HO_3.out) (Kd.R_typed (Kd.R_g HO_4.out)) (by decide) hg); replace HO_12 := mkA (Kd.R_over' (Kd.R_g HO_12.out) (Kd.R_typed (Kd.R_g HO_4.out)) (by decide) hg); replace HO_22 := mkA (Kd.R_over' (Kd.R_g HO_22.out) (Kd.R_typed (Kd.R_g HO_4.out)) (by decide) hg); replace BK759 := mkA (blk_grown (g := gb759) (o := .cells #[.int .i64 a0_0, .slice A0_1 l0_1.length c0_1] 32 (0, 0)) (blk_g BK759.out) hg (Kd.R_ne HO_4.out BK759.out (by decide))); replace BK764 := mkA (blk_grown (g := gb764) (o := .cells #[.int .i64 (rd t760 x14_1), .int .i64 x765001_2] 37 (0, 0)) (blk_g BK764.out) hg (Kd.R_away HO_4.out (fun _ hk => hk))); have HO767 := mkA (ho); replace HB := mkA (hb); clear HO_4; clear ho hb hg hat))
       go_roundg k2
       case measure => have := HK1.out; have := HK2.out; omega
       case rel => exact ⟨(y765), (wrap64 (x14_1 + 1)), eqS, H', ⟨by have := HK1.out; have := HK2.out; omega⟩, rg HO_3, ⟨Kd.R_g (Kd.R_mono HO767.out (fun _ hk => trivial))⟩, rg HO_12, bg BK759, hbg HB⟩
   ·obtain rfl := Option.some.inj H
    go_wp2
    go_ret
    exact ⟨_, eqE, Kd.R_g HO_4.out, bel_g HB.out⟩
end Go.Proofs.YtlfjnllnddpgoaaDoor.Q
