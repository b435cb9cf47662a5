import Derived.Test.YteechpappfagpaaDoorBFnExtensionsAccepted0
import Derived.Test.YteechpappfagpaaDoorBFnExtensionsAccepted7
import Derived.Test.YteechpappfagpaaDoorBFnExtensionsAccepted10
-- printed by this project's own program (wip/mp/mp.py) over the kit's print, for this seat; Lean checks it
namespace Go.Proofs.YteechpappfagpaaDoor.Q
open Go.RowKit Go.Proofs.YteechpappfagpaaDoorW.PrintWords Go.Proofs.YteechpappfagpaaDoorW.PrintLast Go.Proofs.YteechpappfagpaaDoorW.PrintMore
attribute [local go_sem] max2_int min2_int max_two min_two max_three min_three max_four min_four   -- for this text's walks alone
set_option linter.unusedVariables false
set_option maxHeartbeats 8000000
set_option maxRecDepth 100000
set_option linter.unusedSimpArgs false

/-! ### spec_CloseRelation: function 52 -/
mutual
def spec_CloseRelation.l0 : Nat → Int → Int → Int → List Int → Option (Int × List Int × Bool)
 | 0, _, _, _, _ => none
 | k + 1, x19, x20, x747000, x747001 => if x20 < x19 then (spec_CloseRelation.l1 k x20 x19 x20 (x747001.length : Int) 0 x747000 x747001) else (some (x747000, x747001, true))
def spec_CloseRelation.l1 : Nat → Int → Int → Int → Int → Int → Int → List Int → Option (Int × List Int × Bool)
 | 0, _, _, _, _, _, _, _ => none
 | k + 1, x5, x19, x20, x25, x26, x747000, x747001 => if x26 < x25 then (if 0 ≤ x26 then (if x26 < (x747001.length : Int) then ((spec_orHas.f (rd x747001 x26) x5).bind fun t748 => (if t748 = true then (if 0 ≤ x5 then (if x5 < (x747001.length : Int) then (spec_CloseRelation.l1 k x5 x19 x20 x25 (wrap64 (x26 + 1)) x747000 (x747001.set (x26 : Int).toNat (Go.bits .or .i64 (rd x747001 x26) (rd x747001 x5)))) else (none)) else (none)) else (spec_CloseRelation.l1 k x5 x19 x20 x25 (wrap64 (x26 + 1)) x747000 x747001))) else (none)) else (none)) else (spec_CloseRelation.l0 k x19 (wrap64 (x20 + 1)) x747000 x747001)
end
def spec_CloseRelation.f (k : Nat) (a0_0 : Int) (l0_1 : List Int) : Option (Int × List Int × Bool) := (spec_orRelation.f k a0_0 l0_1).bind fun t742 => (if t742 = true then ((spec_l1Own.f l0_1).bind fun t743 => (spec_CloseRelation.l0 k (t743.length : Int) 0 a0_0 t743)) else (some (0, ([] : List Int), false)))
theorem spec_CloseRelation.mono_l : ∀ k, (∀ y0 y1 y2 y3, LeO (spec_CloseRelation.l0 k y0 y1 y2 y3) (spec_CloseRelation.l0 (k + 1) y0 y1 y2 y3)) ∧ (∀ y0 y1 y2 y3 y4 y5 y6, LeO (spec_CloseRelation.l1 k y0 y1 y2 y3 y4 y5 y6) (spec_CloseRelation.l1 (k + 1) y0 y1 y2 y3 y4 y5 y6))
 | 0 => ⟨fun _ _ _ _ r h => by simp [spec_CloseRelation.l0] at h, fun _ _ _ _ _ _ _ r h => by simp [spec_CloseRelation.l1] at h⟩
 | k + 1 => by
  obtain ⟨ih0, ih1⟩ := spec_CloseRelation.mono_l k
  refine ⟨?_, ?_⟩
  ·intro y0 y1 y2 y3
   unfold spec_CloseRelation.l0
   repeat' (with_reducible first|exact ih0 _ _ _ _|exact ih1 _ _ _ _ _ _ _|exact spec_orRelation.mono _ _ _|exact LeO.refl _|exact LeO.none _|refine LeO.ite ?_ ?_|refine LeO.bind ?_ (fun _ => ?_))
  ·intro y0 y1 y2 y3 y4 y5 y6
   unfold spec_CloseRelation.l1
   repeat' (with_reducible first|exact ih0 _ _ _ _|exact ih1 _ _ _ _ _ _ _|exact spec_orRelation.mono _ _ _|exact LeO.refl _|exact LeO.none _|refine LeO.ite ?_ ?_|refine LeO.bind ?_ (fun _ => ?_))
theorem spec_CloseRelation.mono : ∀ a0 a1 k, LeO (spec_CloseRelation.f k a0 a1) (spec_CloseRelation.f (k + 1) a0 a1) := by
 intro a0 a1 k
 obtain ⟨ih0, ih1⟩ := spec_CloseRelation.mono_l k
 unfold spec_CloseRelation.f
 repeat' (with_reducible first|exact ih0 _ _ _ _|exact ih1 _ _ _ _ _ _ _|exact spec_orRelation.mono _ _ _|exact LeO.refl _|exact LeO.none _|refine LeO.ite ?_ ?_|refine LeO.bind ?_ (fun _ => ?_))
def spec_CloseRelation.T3 : Bool × List (List Nat × List Nat) := (true, [([], []), ([0], [0]), ([], []), ([2], [2]), ([3], [3]), ([1, 4], [1, 4]), ([], []), ([6, 5, 4, 0, 1, 2, 3, 4, 5, 6], [5, 6])])
def spec_CloseRelation.B3 : List Nat := [0, 1, 0, 4, 12, 31, 0, 127]
theorem spec_CloseRelation.tab3 : rtab .any (opsOf Tryd.f52 3) = spec_CloseRelation.T3 := by kernel_rfl
theorem spec_CloseRelation.bits3 : waitsOk spec_CloseRelation.T3.2 spec_CloseRelation.B3 = true := by kernel_rfl
def spec_CloseRelation.T11 : Bool × List (List Nat × List Nat) := (true, [([], []), ([0], [0]), ([], []), ([1, 2], [1, 2]), ([3], [3]), ([], []), ([5], [5]), ([], []), ([6, 7], [6, 7]), ([8], [8]), ([4, 9], [4, 9]), ([1, 2, 0, 1, 2, 3, 4, 5, 6, 7, 8, 9, 10], [1, 2]), ([11, 10, 0, 1, 2, 3, 4, 5, 6, 7, 8, 9, 10], [10, 11])])
def spec_CloseRelation.B11 : List Nat := [0, 1, 0, 7, 15, 0, 32, 0, 224, 480, 1023, 2047, 4095]
theorem spec_CloseRelation.tab11 : rtab .any (opsOf Tryd.f52 11) = spec_CloseRelation.T11 := by kernel_rfl
theorem spec_CloseRelation.bits11 : waitsOk spec_CloseRelation.T11.2 spec_CloseRelation.B11 = true := by kernel_rfl
theorem spec_CloseRelation.calls (k : Nat) (a0_0 : Int) (A0_1 : Option Addr) (c0_1 : Nat) (l0_1 : List Int) (r1 : Int) (r2 : List Int) (r3 : Bool) (w : World) (hr0_1 : Kd.C (Kd.int .i64) w A0_1 l0_1.length l0_1) (hc0_1 : l0_1.length ≤ c0_1) (h : spec_CloseRelation.f k a0_0 l0_1 = some (r1, r2, r3)) :
  Calls Tryd.prog 52 #[.agg #[.int .i64 a0_0, .slice A0_1 l0_1.length c0_1]] w fun e w' => ∃ v1_ : Value, e = .returned (.tuple #[.agg #[.int .i64 r1, v1_], .bool r3]) ∧ Kd.R (Kd.int .i64) 3 w' w.heap.size (fun _ => True) v1_ r2 ∧ Below w.heap.size w w' := by
 have hu28 := Tryd.underlying28
 have HR0_1 := Aside0.mk hr0_1
 have HC0_1 := Aside0.mk hc0_1
 clear hr0_1 hc0_1
 have HB := Aside0.mk (Below.refl w.heap.size w)
 have H : ((spec_orRelation.f k a0_0 l0_1).bind fun t742 => (if t742 = true then ((spec_l1Own.f l0_1).bind fun t743 => (spec_CloseRelation.l0 k (t743.length : Int) 0 a0_0 t743)) else (some (0, ([] : List Int), false)))) = some (r1, r2, r3) := h
 clear h
 obtain ⟨t742, A2, H⟩ := obE H
 by_cases c3 : t742 = true
 ·subst c3
  replace H := ifT H
  obtain ⟨t743, A4, H⟩ := obE H
  have H' := Aside0.mk H
  clear H
  go_enter Tryd.func52, Tryd.ntmps52
  try go_wp2_with (first | ((with_reducible refine gate_dst (N := 1) rfl ?_); refine boxE (N := 1) (cs := #[.int .i64 a0_0, .slice A0_1 l0_1.length c0_1]) (t := 28) ?_; intro gb740 hg w5 hbox hb; have BK740 := Aside0.mk (hbox); have GE740 := geB HB hg; replace HB := bst HB hb; clear hb hbox hg) | ((with_reducible refine gate_dst (N := 2) rfl ?_); refine boxE (N := 2) (cs := #[.int .i64 0, .slice none 0 0]) (t := 28) ?_; intro gb741 hg w6 hbox hb; have BK741 := Aside0.mk (hbox); have GE741 := geB HB hg; have NB740_741 := neL BK740 hg; have NB741_740 := neR BK740 hg; replace BK740 := blkB BK740 hb; replace HB := bst HB hb; clear hb hbox hg; have hnb7 := NB740_741.out; have hnc7 := NB741_740.out; obtain ⟨hcz8_0, hcz8_1, hfz8_0, hfz8_1⟩ := blk2 BK740) | ((with_reducible refine gate_callee (f := 111) rfl ?_); refine goesQ (some 8) Tryd.func111 #[.agg #[.int .i64 a0_0, .slice A0_1 l0_1.length c0_1]] ?_; (with_reducible refine (spec_orRelation.calls k a0_0 _ _ l0_1 true _ ?side1 ?side2 A2.out).mono ?_); (case side1 => exact C_g HR0_1 HB); (case side2 => exact HC0_1.out); rintro e w9 ⟨rfl, hb⟩; refine ⟨_, rfl, ?_⟩; replace BK740 := blkB BK740 hb; replace BK741 := blkB BK741 hb; replace HB := bst HB hb; (try clear hb); (try clear hk)))
  replace BK740 := Aside0.mk (blk_drew BK740.out)
  replace BK741 := Aside0.mk (blk_drew BK741.out)
  replace HB := Aside0.mk (below_drew1 HB.out)
  refine start_ (n := 8) (S := fun w' => w'.cell? ⟨gb740, 0, none⟩ = some (.int .i64 a0_0) ∧ w'.cell? ⟨gb740, 1, none⟩ = some (.slice A0_1 l0_1.length c0_1)) (ds := []) (bm 8 0) (by kernel_rfl) rfl (by kernel_rfl) ⟨(blk_cell BK740.out 0).trans rfl, (blk_cell BK740.out 1).trans rfl⟩ (fun hHeld => ?_); refine with_tabW spec_CloseRelation.tab3 spec_CloseRelation.bits3 (fun HT_ HW_ => ?_)
  generalize w9.drew = w10 at BK740 BK741 HB hHeld ⊢
  refine pureW 0 (some 11) (bm 8 1) HT_ ?_
  refine pureW 2 (some 13) (bm 8 5) HT_ ?_
  refine takeW 1 (some 12) (bm 8 7) HT_ HW_ hHeld ?_
  refine takeW 3 (some 14) (bm 8 15) HT_ HW_ hHeld ?_
  refine join_ (σ := Value × Nat) 1 (bm 8 127) (fun s_ => [(15, s_.1), (4, .pointer (some ⟨s_.2, 0, none⟩)), (16, .agg #[.int .i64 a0_0, s_.1])]) (fun s_ w' => (w'.cell? ⟨gb740, 0, none⟩ = some (.int .i64 a0_0) ∧ w'.cell? ⟨gb740, 1, none⟩ = some (.slice A0_1 l0_1.length c0_1)) ∧ (Kd.R (Kd.int .i64) 3 w' w.heap.size (fun _ => True) s_.1 t743) ∧ (w'.heap[gb740]? = some (.cells #[.int .i64 a0_0, .slice A0_1 l0_1.length c0_1] 28 (0, 0))) ∧ (w'.heap[gb741]? = some (.cells #[.int .i64 0, .slice none 0 0] 28 (0, 0))) ∧ (w'.heap[s_.2]? = some (.cells #[.int .i64 0, .slice none 0 0] 28 (0, 0))) ∧ (w.heap.size ≤ s_.2) ∧ (w.heap.size ≤ s_.2) ∧ (gb740 ≠ s_.2) ∧ (s_.2 ≠ gb740) ∧ (gb741 ≠ s_.2) ∧ (s_.2 ≠ gb741) ∧ (Below w.heap.size w w')) ?_ ?_
  rotate_left
  ·intro hCont
   refine two_ (i := 4) (j := 6) (Ni := some 15) (Nj := some 4) (bm 8 31) (bm 8 79) rfl rfl rfl rfl (two_of HT_.out (by kernel_rfl)) (by decide) (by decide) (fun K hK => ?_) (fun K hK => ?_)
   ·skip
    refine goesR Tryd.func119 #[.slice A0_1 l0_1.length c0_1] ?_
    with_reducible refine (spec_l1Own.calls _ _ l0_1 t743 _ ?side1 ?side2 A4.out).mono ?_
    (case side1 => exact C_g HR0_1 HB)
    (case side2 => exact HC0_1.out)
    rintro e w11 ⟨v744, rfl, ho0, hb⟩
    refine ⟨_, rfl, ?_⟩
    have HO745 := Aside0.mk (Kd.R_lower ho0 (below_size (bel_g HB.out)))
    replace BK740 := blkB BK740 hb
    replace BK741 := blkB BK741 hb
    replace HB := bst HB hb
    (try clear hb)
    (try clear hb2)
    (try clear hk)
    (try clear hi)
    (try clear ho0)
    obtain ⟨Ao12, co12, eo12⟩ := Kd.R_slice HO745.out
    (first | subst eo12 | (injection eo12 with f1_ f2_ f3_; have f4_ := f1_.symm; have f5_ := f3_.symm; clear f1_ f2_ f3_; subst f4_; subst f5_))
    refine hK.out _ _ ⟨(blk_cell BK740.out 0).trans rfl, (blk_cell BK740.out 1).trans rfl⟩ (fun hHeld => ?_)
    clear hK K
    refine normW 15 ?_
    refine pureW 5 (some 16) (bm 8 63) HT_ ?_
    refine oneW 6 (some 4) (bm 8 127) HT_ (fun K hK => ?_)
    refine box_step ?hg (N := 4) ?hd (cs := #[.int .i64 0, .slice none 0 0]) (t := 28) ?hr ?_; (case hd => rfl); (case hg => rfl); (case hr => first | (go_simp; done) | (go_simp; rfl))
    intro gb746 hg w13 hbox hb
    replace HO745 := Aside0.mk (Kd.R_below (Kd.R_g HO745.out) hb)
    have BK746 := Aside0.mk (hbox)
    have GW746 := geB HB hg
    have GE746 := geB HB hg
    have NB740_746 := neL BK740 hg
    have NB746_740 := neR BK740 hg
    replace BK740 := blkB BK740 hb
    have NB741_746 := neL BK741 hg
    have NB746_741 := neR BK741 hg
    replace BK741 := blkB BK741 hb
    replace HB := bst HB hb
    clear hb hbox hg
    refine hK.out _ _ ⟨(blk_cell BK740.out 0).trans rfl, (blk_cell BK740.out 1).trans rfl⟩ (fun hHeld => ?_)
    clear hK K
    refine normW 4 ?_
    exact norm_ (by simp only [putAll, Act.put, List.setIfInBounds_toArray, List.set_cons_zero, List.set_cons_succ]) (hCont (.slice Ao12 t743.length co12, gb746) _ ⟨hHeld, (Kd.R_g HO745.out), (blk_g BK740.out), (blk_g BK741.out), (blk_g BK746.out), GW746.out, GE746.out, NB740_746.out, NB746_740.out, NB741_746.out, NB746_741.out, (bel_g HB.out)⟩)
   ·skip
    refine box_step ?hg (N := 4) ?hd (cs := #[.int .i64 0, .slice none 0 0]) (t := 28) ?hr ?_; (case hd => rfl); (case hg => rfl); (case hr => first | (go_simp; done) | (go_simp; rfl))
    intro gb746 hg w11 hbox hb
    have BK746 := Aside0.mk (hbox)
    have GW746 := geB HB hg
    have GE746 := geB HB hg
    have NB740_746 := neL BK740 hg
    have NB746_740 := neR BK740 hg
    replace BK740 := blkB BK740 hb
    have NB741_746 := neL BK741 hg
    have NB746_741 := neR BK741 hg
    replace BK741 := blkB BK741 hb
    replace HB := bst HB hb
    clear hb hbox hg
    refine hK.out _ _ ⟨(blk_cell BK740.out 0).trans rfl, (blk_cell BK740.out 1).trans rfl⟩ (fun hHeld => ?_)
    clear hK K
    refine normW 4 ?_
    refine oneW 4 (some 15) (bm 8 95) HT_ (fun K hK => ?_)
    refine goesR Tryd.func119 #[.slice A0_1 l0_1.length c0_1] ?_
    with_reducible refine (spec_l1Own.calls _ _ l0_1 t743 _ ?side1 ?side2 A4.out).mono ?_
    (case side1 => exact C_g HR0_1 HB)
    (case side2 => exact HC0_1.out)
    rintro e w12 ⟨v744, rfl, ho0, hb⟩
    refine ⟨_, rfl, ?_⟩
    have HO745 := Aside0.mk (Kd.R_lower ho0 (below_size (bel_g HB.out)))
    replace BK740 := blkB BK740 hb
    replace BK741 := blkB BK741 hb
    replace BK746 := blkB BK746 hb
    replace HB := bst HB hb
    (try clear hb)
    (try clear hb2)
    (try clear hk)
    (try clear hi)
    (try clear ho0)
    obtain ⟨Ao13, co13, eo13⟩ := Kd.R_slice HO745.out
    (first | subst eo13 | (injection eo13 with f1_ f2_ f3_; have f4_ := f1_.symm; have f5_ := f3_.symm; clear f1_ f2_ f3_; subst f4_; subst f5_))
    refine hK.out _ _ ⟨(blk_cell BK740.out 0).trans rfl, (blk_cell BK740.out 1).trans rfl⟩ (fun hHeld => ?_)
    clear hK K
    refine normW 15 ?_
    refine pureW 5 (some 16) (bm 8 127) HT_ ?_
    exact norm_ (by simp only [putAll, Act.put, List.setIfInBounds_toArray, List.set_cons_zero, List.set_cons_succ]) (hCont (.slice Ao13 t743.length co13, gb746) _ ⟨hHeld, (Kd.R_g HO745.out), (blk_g BK740.out), (blk_g BK741.out), (blk_g BK746.out), GW746.out, GE746.out, NB740_746.out, NB746_740.out, NB741_746.out, NB746_741.out, (bel_g HB.out)⟩)
  rintro ⟨v744, gb746⟩ w14 ⟨hS_, h0_, h1_, h2_, h3_, h4_, h5_, h6_, h7_, h8_, h9_, h10_⟩
  have n0_ : Aside0 (Kd.R (Kd.int .i64) 3 w14 w.heap.size (fun _ => True) v744 t743) := ⟨h0_⟩
  have n1_ : Aside0 (w14.heap[gb740]? = some (.cells #[.int .i64 a0_0, .slice A0_1 l0_1.length c0_1] 28 (0, 0))) := ⟨h1_⟩
  have n2_ : Aside0 (w14.heap[gb741]? = some (.cells #[.int .i64 0, .slice none 0 0] 28 (0, 0))) := ⟨h2_⟩
  have n3_ : Aside0 (w14.heap[gb746]? = some (.cells #[.int .i64 0, .slice none 0 0] 28 (0, 0))) := ⟨h3_⟩
  have n4_ : Ge w.heap.size gb746 := ⟨h4_⟩
  have n5_ : Ge w.heap.size gb746 := ⟨h5_⟩
  have n6_ : Aside0 (gb740 ≠ gb746) := ⟨h6_⟩
  have n7_ : Aside0 (gb746 ≠ gb740) := ⟨h7_⟩
  have n8_ : Aside0 (gb741 ≠ gb746) := ⟨h8_⟩
  have n9_ : Aside0 (gb746 ≠ gb741) := ⟨h9_⟩
  have n10_ : Aside0 (Below w.heap.size w w14) := ⟨h10_⟩
  clear BK740
  clear BK741
  clear HB
  clear h0_ h1_ h2_ h3_ h4_ h5_ h6_ h7_ h8_ h9_ h10_
  have HO745 := n0_
  have BK740 := n1_
  have BK741 := n2_
  have BK746 := n3_
  have GW746 := n4_
  have GE746 := n5_
  have NB740_746 := n6_
  have NB746_740 := n7_
  have NB741_746 := n8_
  have NB746_741 := n9_
  have HB := n10_
  clear n0_ n1_ n2_ n3_ n4_ n5_ n6_ n7_ n8_ n9_ n10_
  have hHeld : w14.cell? ⟨gb740, 0, none⟩ = some (.int .i64 a0_0) ∧ w14.cell? ⟨gb740, 1, none⟩ = some (.slice A0_1 l0_1.length c0_1) := hS_
  obtain ⟨Ao15, co15, eo15⟩ := Kd.R_slice HO745.out
  (first | subst eo15 | (injection eo15 with f1_ f2_ f3_; have f4_ := f1_.symm; have f5_ := f3_.symm; clear f1_ f2_ f3_; subst f4_; subst f5_))
  refine norm_ (a' := ?_) ?_ ?_
  rotate_left
  ·simp only [putAll, Act.put, List.setIfInBounds_toArray, List.set_cons_zero, List.set_cons_succ]
   rfl
  refine oneW 7 (none) (bm 8 255) HT_ (fun K hK => ?_)
  have hs16 : w14.cell? ⟨gb746, 0, none⟩ = some (.int .i64 0) := (blk_cell BK746.out 0).trans rfl
  have hfs16 := blk_frozen BK746.out 0
  have hns16_0 := NB740_746.out
  have hns16_1 := NB741_746.out
  have hms16_0 := NB746_740.out
  have hms16_1 := NB746_741.out
  have hs17 : w14.cell? ⟨gb746, 1, none⟩ = some (.slice none 0 0) := (blk_cell BK746.out 1).trans rfl
  have hfs17 := blk_frozen BK746.out 1
  have hns17_0 := NB740_746.out
  have hns17_1 := NB741_746.out
  have hms17_0 := NB746_740.out
  have hms17_1 := NB746_741.out
  refine skip_ (w1 := ?_) (by rfl) rfl ?_ ?_
  rotate_left
  ·go_simp
   rfl
  refine hK.out _ _ ⟨((cell_far (p := ⟨gb746, _, none⟩) NB740_746.out _).trans (((cell_far (p := ⟨gb746, _, none⟩) NB740_746.out _).trans (hHeld.1)))), ((cell_far (p := ⟨gb746, _, none⟩) NB740_746.out _).trans (((cell_far (p := ⟨gb746, _, none⟩) NB740_746.out _).trans (hHeld.2))))⟩ (fun hHeld => ?_)
  clear hK K
  refine doneW HT_ ?_
  have hnb18 := NB746_740.out
  have hnc18 := NB740_746.out
  have hnb19 := NB746_741.out
  have hnc19 := NB741_746.out
  obtain ⟨hcz20_0, hcz20_1, hfz20_0, hfz20_1⟩ := blk2 BK746
  try go_wp2
  go_loopg [20] k (fun kq v20 w' => ∃ (x20_1 : Int) (x747001_1 : List Int) (u747001 : Value), v20 = .int .i64 x20_1 ∧ Aside0 (spec_CloseRelation.l0 kq (t743.length : Int) x20_1 a0_0 x747001_1 = some (r1, r2, r3)) ∧ Aside0 (kq ≤ k) ∧ Aside0 (Kd.R (Kd.int .i64) 3 w' w.heap.size (fun _ => True) u747001 x747001_1) ∧ Aside0 (w'.heap[gb740]? = some (.cells #[.int .i64 a0_0, (.slice A0_1 l0_1.length c0_1)] 28 (0, 0))) ∧ Aside0 (w'.heap[gb741]? = some (.cells #[.int .i64 0, (.slice none 0 0)] 28 (0, 0))) ∧ Aside0 (w'.heap[gb746]? = some (.cells #[.int .i64 a0_0, u747001] 28 (0, 0))) ∧ Aside0 (Below w.heap.size w w'))
  case atStart => exact ⟨(0), (t743), (.slice Ao15 t743.length co15), eqS, H', ⟨Nat.le_refl _⟩, ⟨Kd.R_g (Kd.R_mono (Kd.R_far (p := ⟨gb746, 1, none⟩) (Kd.R_far (p := ⟨gb746, 0, none⟩) (Kd.R_types HO745.out BK746.out (by decide)) (fun _ hk => hk.2) (.int .i64 a0_0)) (fun _ hk => hk.2) (.slice Ao15 t743.length co15)) (fun _ hk => trivial))⟩, ⟨by (with_reducible repeat (first | refine blk_drewN ?_ _ | refine blk_drew ?_ | refine blk_alloc ?_ _)); refine blk_far ?_ NB740_746.out _; (with_reducible repeat (first | refine blk_drewN ?_ _ | refine blk_drew ?_ | refine blk_alloc ?_ _)); refine blk_far ?_ NB740_746.out _; (with_reducible repeat (first | refine blk_drewN ?_ _ | refine blk_drew ?_ | refine blk_alloc ?_ _)); exact BK740.out⟩, ⟨by (with_reducible repeat (first | refine blk_drewN ?_ _ | refine blk_drew ?_ | refine blk_alloc ?_ _)); refine blk_far ?_ NB741_746.out _; (with_reducible repeat (first | refine blk_drewN ?_ _ | refine blk_drew ?_ | refine blk_alloc ?_ _)); refine blk_far ?_ NB741_746.out _; (with_reducible repeat (first | refine blk_drewN ?_ _ | refine blk_drew ?_ | refine blk_alloc ?_ _)); exact BK741.out⟩, ⟨by (with_reducible repeat (first | refine blk_drewN ?_ _ | refine blk_drew ?_ | refine blk_alloc ?_ _)); refine blk_put (cs := #[.int .i64 a0_0, .slice none 0 0]) ?_ 1 _ rfl; (with_reducible repeat (first | refine blk_drewN ?_ _ | refine blk_drew ?_ | refine blk_alloc ?_ _)); refine blk_put (cs := #[.int .i64 0, .slice none 0 0]) ?_ 0 _ rfl; (with_reducible repeat (first | refine blk_drewN ?_ _ | refine blk_drew ?_ | refine blk_alloc ?_ _)); exact BK746.out⟩, ⟨bel_g HB.out⟩⟩
  case round =>
   clear H'
   try clear c3
   try clear hcz20_0
   try clear hcz20_1
   try clear hcz8_0
   try clear hcz8_1
   try clear hfz20_0
   try clear hfz20_1
   try clear hfz8_0
   try clear hfz8_1
   obtain ⟨x20_1, x747001_1, u747001, rfl, HA, HK1, HO_747001, BK740, BK741, BK746, HB⟩ := hrel
   cases gk with
   | zero => exact absurd HA.out (by simp [spec_CloseRelation.l0])
   | succ k1 =>
    have H := HA.out
    clear HA
    simp only [spec_CloseRelation.l0] at H
    rcases iteE H with ⟨c21b0, H⟩ | ⟨c21b0, H⟩
    ·have H' := Aside0.mk H
     clear H
     have hnb22 := NB746_740.out
     have hnc22 := NB740_746.out
     have hnb23 := NB746_741.out
     have hnc23 := NB741_746.out
     obtain ⟨hcz24_0, hcz24_1, hfz24_0, hfz24_1⟩ := blk2 BK746
     obtain ⟨Ao25, co25, eo25⟩ := Kd.R_slice HO_747001.out
     subst eo25
     go_wp2
     go_loopg [26] k1 (fun kq v26 w' => ∃ (x26_2 : Int) (x747001_2 : List Int) (u747001 : Value), v26 = .int .i64 x26_2 ∧ Aside0 (spec_CloseRelation.l1 kq x20_1 (t743.length : Int) x20_1 (x747001_1.length : Int) x26_2 a0_0 x747001_2 = some (r1, r2, r3)) ∧ Aside0 (kq ≤ k1) ∧ Aside0 (Kd.R (Kd.int .i64) 3 w' w.heap.size (fun _ => True) u747001 x747001_2) ∧ Aside0 (w'.heap[gb740]? = some (.cells #[.int .i64 a0_0, (.slice A0_1 l0_1.length c0_1)] 28 (0, 0))) ∧ Aside0 (w'.heap[gb741]? = some (.cells #[.int .i64 0, (.slice none 0 0)] 28 (0, 0))) ∧ Aside0 (w'.heap[gb746]? = some (.cells #[.int .i64 a0_0, u747001] 28 (0, 0))) ∧ Aside0 (Below w.heap.size w w'))
     case atStart => exact ⟨(0), (x747001_1), (.slice Ao25 x747001_1.length co25), eqS, H', ⟨Nat.le_refl _⟩, ⟨Kd.R_g HO_747001.out⟩, ⟨blk_g BK740.out⟩, ⟨blk_g BK741.out⟩, ⟨blk_g BK746.out⟩, ⟨bel_g HB.out⟩⟩
     case round =>
      clear H'
      try clear c3
      try clear c21b0
      try clear hcz20_0
      try clear hcz20_1
      try clear hcz24_0
      try clear hcz24_1
      try clear hcz8_0
      try clear hcz8_1
      try clear hfz20_0
      try clear hfz20_1
      try clear hfz24_0
      try clear hfz24_1
      try clear hfz8_0
      try clear hfz8_1
      obtain ⟨x26_2, x747001_2, u747001, rfl, HA, HK2, HO_747001, BK740, BK741, BK746, HB⟩ := hrel
      cases gk with
      | zero => exact absurd HA.out (by simp [spec_CloseRelation.l1])
      | succ k2 =>
       have H := HA.out
       clear HA
       simp only [spec_CloseRelation.l1] at H
       rcases iteE H with ⟨c26b0, H⟩ | ⟨c26b0, H⟩
       ·rcases iteP H with ⟨c27, H⟩ | ⟨c27, H⟩
        ·have c27b0 : decide (0 ≤ x26_2) = true := decide_eq_true c27
         clear c27
         rcases iteP H with ⟨c28, H⟩ | ⟨c28, H⟩
         ·have c28b0 : decide (x26_2 < (x747001_2.length : Int)) = true := decide_eq_true c28
          clear c28
          obtain ⟨t748, A29, H⟩ := obE H
          by_cases c30 : t748 = true
          ·subst c30
           replace H := ifT H
           rcases iteP H with ⟨c31, H⟩ | ⟨c31, H⟩
           ·have c31b0 : decide (0 ≤ x20_1) = true := decide_eq_true c31
            clear c31
            rcases iteP H with ⟨c32, H⟩ | ⟨c32, H⟩
            ·have c32b0 : decide (x20_1 < (x747001_2.length : Int)) = true := decide_eq_true c32
             clear c32
             obtain ⟨y751, hy751⟩ : ∃ y_ : List Int, y_ = (x747001_2.set (x26_2 : Int).toNat (Go.bits .or .i64 (rd x747001_2 x26_2) (rd x747001_2 x20_1))) := ⟨_, rfl⟩
             replace H : (spec_CloseRelation.l1 k2 x20_1 (t743.length : Int) x20_1 (x747001_1.length : Int) (wrap64 (x26_2 + 1)) a0_0 y751) = some (r1, r2, r3) := by first | (rw [hy751]; with_reducible exact H) | (have H2_ := (Option.bind_some _ _).symm.trans H; rw [hy751]; with_reducible exact H2_) | (have H2_ := (Option.bind_some _ _).symm.trans H; with_reducible exact H2_) | with_reducible exact H | (rw [hy751]; exact H) | exact H
             have Ny751 := Aside0.mk hy751
             clear hy751
             have H' := Aside0.mk H
             clear H
             have hnb34 := NB746_740.out
             have hnc34 := NB740_746.out
             have hnb35 := NB746_741.out
             have hnc35 := NB741_746.out
             obtain ⟨hcz36_0, hcz36_1, hfz36_0, hfz36_1⟩ := blk2 BK746
             obtain ⟨Ao37, co37, eo37⟩ := Kd.R_slice HO_747001.out
             subst eo37
             have p747 : 0 ≤ (x26_2 : Int) := ofd
             have q747 : x26_2 < (x747001_2.length : Int) := ofd
             obtain ⟨ad747, e747, hx747_0⟩ := Kd.at_int (Kd.R_reads' HO_747001.out).2.2 x26_2 p747 q747
             cases e747
             replace p747 := eq_true p747
             replace q747 := eq_true q747
             try go_wp2_with (first | ((with_reducible refine gate_callee (f := 120) rfl ?_); refine goesQ (some 35) Tryd.func120 #[.int .i64 (rd x747001_2 x26_2), .int .i64 x20_1] ?_; (with_reducible refine (spec_orHas.calls (rd x747001_2 x26_2) x20_1 true _ A29.out).mono ?_); rintro e w' ⟨rfl, ⟨nd, rfl⟩⟩; refine ⟨_, rfl, ?_⟩; (try (rw [drewN_self wr]; generalize hq_ : World.drewN wr _ = wr; have n0_ : Aside0 (Kd.R (Kd.int .i64) 3 wr w.heap.size (fun _ => True) (.slice (some ad747) x747001_2.length co37) x747001_2) := ⟨by rw [← hq_]; exact (Kd.R_g HO_747001.out)⟩; have n1_ : Aside0 (wr.heap[gb740]? = some (.cells #[.int .i64 a0_0, .slice A0_1 l0_1.length c0_1] 28 (0, 0))) := ⟨by rw [← hq_]; exact (blk_g BK740.out)⟩; have n2_ : Aside0 (wr.heap[gb741]? = some (.cells #[.int .i64 0, .slice none 0 0] 28 (0, 0))) := ⟨by rw [← hq_]; exact (blk_g BK741.out)⟩; have n3_ : Aside0 (wr.heap[gb746]? = some (.cells #[.int .i64 a0_0, .slice (some ad747) x747001_2.length co37] 28 (0, 0))) := ⟨by rw [← hq_]; exact (blk_g BK746.out)⟩; have n4_ : Aside0 (Below w.heap.size w wr) := ⟨by rw [← hq_]; exact (bel_g HB.out)⟩; clear HO_747001 BK740 BK741 BK746 HB hq_; have HO_747001 := n0_; have BK740 := n1_; have BK741 := n2_; have BK746 := n3_; have HB := n4_; clear n0_ n1_ n2_ n3_ n4_))))
             replace HO_747001 := Aside0.mk (Kd.R_drew HO_747001.out)
             replace BK740 := Aside0.mk (blk_drew BK740.out)
             replace BK741 := Aside0.mk (blk_drew BK741.out)
             replace BK746 := Aside0.mk (blk_drew BK746.out)
             replace HB := Aside0.mk (below_drew1 HB.out)
             have p749 : 0 ≤ (x26_2 : Int) := ofd
             have q749 : x26_2 < (x747001_2.length : Int) := ofd
             obtain ⟨ad749, e749, hx749_0⟩ := Kd.at_int (Kd.R_reads' HO_747001.out).2.2 x26_2 p749 q749
             obtain rfl : ad747 = ad749 := (by injection e749)
             replace p749 := eq_true p749
             replace q749 := eq_true q749
             have p750 : 0 ≤ (x20_1 : Int) := ofd
             have q750 : x20_1 < (x747001_2.length : Int) := ofd
             obtain ⟨ad750, e750, hx750_0⟩ := Kd.at_int (Kd.R_reads' HO_747001.out).2.2 x20_1 p750 q750
             obtain rfl : ad747 = ad750 := (by injection e750)
             replace p750 := eq_true p750
             replace q750 := eq_true q750
             have p33 : 0 ≤ (x26_2 : Int) := ofd
             have q33 : (x26_2 : Int) < ((x747001_2.length : Int) : Int) := ofd
             obtain ⟨go33, co33, eo33, gb33, gl33, cl33, HG33⟩ := Kd.R_form HO_747001.out (by omega)
             (first | cases eo33 | (injection eo33 with ea_ en_ ec_; (first | subst ea_ | (injection ea_ with ea_; subst ea_)); subst ec_; clear en_))
             have GB33 : Ge _ _ := ⟨gb33⟩
             have GG33 := Aside0.mk HG33
             clear gb33 gl33 HG33
             (first | simp only [add_plain] at hx747_0 | skip)
             (first | simp only [add_plain] at hx749_0 | skip)
             (first | simp only [add_plain] at hx750_0 | skip)
             obtain ⟨hx33_0, hf33_0⟩ := Kd.R_celln 0 HO_747001.out (x26_2 : Int) p33 q33
             replace p33 := eq_true p33
             replace q33 := eq_true q33
             have HP39 := Kd.R_putn HO_747001.out (x26_2 : Int) (Go.bits .or .i64 (rd x747001_2 x26_2) (rd x747001_2 x20_1))
             rw [← Ny751.out] at HP39
             have HQ39 := Aside0.mk HP39
             clear HP39
             refine start_ (n := 13) (S := fun w' => w'.cell? ⟨gb746, 0, none⟩ = some (.int .i64 a0_0) ∧ w'.cell? ⟨gb746, 1, none⟩ = some (.slice (some ⟨go33, 0, none⟩) x747001_2.length co37) ∧ w'.cell? ⟨go33, (x26_2).toNat, none⟩ = some (.int .i64 (rd x747001_2 x26_2)) ∧ w'.cell? ⟨go33, (x20_1).toNat, none⟩ = some (.int .i64 (rd x747001_2 x20_1))) (ds := [12]) (bm 13 0) (by kernel_rfl) rfl rfl ⟨(blk_cell BK746.out 0).trans rfl, (blk_cell BK746.out 1).trans rfl, hx749_0, hx750_0⟩ (fun hHeld => ?_); refine with_tabW spec_CloseRelation.tab11 spec_CloseRelation.bits11 (fun HT_ HW_ => ?_)
             generalize wr.drew = w38 at HO_747001 BK740 BK741 BK746 HB GG33 HQ39 hf33_0 hx33_0 hx747_0 hx749_0 hx750_0 hHeld ⊢
             refine pureW 0 (some 36) (bm 13 1) HT_ ?_
             refine pureW 2 (some 38) (bm 13 5) HT_ ?_
             refine pureW 5 (some 41) (bm 13 37) HT_ ?_
             refine pureW 7 (some 43) (bm 13 165) HT_ ?_
             refine takeW 1 (some 37) (bm 13 167) HT_ HW_ hHeld ?_
             refine pureW 3 (some 39) (bm 13 175) HT_ ?_
             refine takeW 4 (some 40) (bm 13 191) HT_ HW_ hHeld ?_
             refine takeW 6 (some 42) (bm 13 255) HT_ HW_ hHeld ?_
             refine pureW 8 (some 44) (bm 13 511) HT_ ?_
             refine takeW 9 (some 45) (bm 13 1023) HT_ HW_ hHeld ?_
             refine pureW 10 (some 46) (bm 13 2047) HT_ ?_
             refine pureW 11 (some 47) (bm 13 4095) HT_ ?_
             refine last_ (i := 12) (N := none) (bm 13 8191) rfl rfl (one_of HT_.out (by kernel_rfl)) (by decide) (fun K hK => ?_)
             refine skip_ (w1 := ?_) (by rfl) rfl ?_ ?_
             rotate_left
             ·go_simp
              rfl
             refine hK.out _ _ ?_
             clear hK K
             refine doneW HT_ ?_
             try go_wp2
             go_roundg k2
             case measure => have := HK1.out; have := HK2.out; omega
             case rel => exact ⟨(wrap64 (x26_2 + 1)), (y751), (.slice (some ⟨go33, 0, none⟩) x747001_2.length co37), eqS, H', ⟨by have := HK1.out; have := HK2.out; omega⟩, ⟨Kd.R_g HQ39.out⟩, ⟨by (with_reducible repeat (first | refine blk_drewN ?_ _ | refine blk_drew ?_ | refine blk_alloc ?_ _)); refine blk_far ?_ (by have h_ := Kd.R_ne HO_747001.out BK740.out (by decide); intro e_; exact h_ (by rw [e_]; rfl)) _; (with_reducible repeat (first | refine blk_drewN ?_ _ | refine blk_drew ?_ | refine blk_alloc ?_ _)); exact BK740.out⟩, ⟨by (with_reducible repeat (first | refine blk_drewN ?_ _ | refine blk_drew ?_ | refine blk_alloc ?_ _)); refine blk_far ?_ (by have h_ := Kd.R_ne HO_747001.out BK741.out (by decide); intro e_; exact h_ (by rw [e_]; rfl)) _; (with_reducible repeat (first | refine blk_drewN ?_ _ | refine blk_drew ?_ | refine blk_alloc ?_ _)); exact BK741.out⟩, ⟨by (with_reducible repeat (first | refine blk_drewN ?_ _ | refine blk_drew ?_ | refine blk_alloc ?_ _)); refine blk_far ?_ (by have h_ := Kd.R_ne HO_747001.out BK746.out (by decide); intro e_; exact h_ (by rw [e_]; rfl)) _; (with_reducible repeat (first | refine blk_drewN ?_ _ | refine blk_drew ?_ | refine blk_alloc ?_ _)); exact BK746.out⟩, ⟨bel_g HB.out⟩⟩
            ·exact absurd H (by simp)
           ·exact absurd H (by simp)
          ·replace c30 := Bool.eq_false_iff.mpr c30
           subst c30
           replace H := ifF H
           have H' := Aside0.mk H
           clear H
           have hnb40 := NB746_740.out
           have hnc40 := NB740_746.out
           have hnb41 := NB746_741.out
           have hnc41 := NB741_746.out
           obtain ⟨hcz42_0, hcz42_1, hfz42_0, hfz42_1⟩ := blk2 BK746
           obtain ⟨Ao43, co43, eo43⟩ := Kd.R_slice HO_747001.out
           subst eo43
           have p747 : 0 ≤ (x26_2 : Int) := ofd
           have q747 : x26_2 < (x747001_2.length : Int) := ofd
           obtain ⟨ad747, e747, hx747_0⟩ := Kd.at_int (Kd.R_reads' HO_747001.out).2.2 x26_2 p747 q747
           cases e747
           replace p747 := eq_true p747
           replace q747 := eq_true q747
           go_wp2_with (first | ((with_reducible refine gate_callee (f := 120) rfl ?_); refine goesQ (some 35) Tryd.func120 #[.int .i64 (rd x747001_2 x26_2), .int .i64 x20_1] ?_; (with_reducible refine (spec_orHas.calls (rd x747001_2 x26_2) x20_1 false _ A29.out).mono ?_); rintro e w' ⟨rfl, ⟨nd, rfl⟩⟩; refine ⟨_, rfl, ?_⟩))
           go_roundg k2
           case measure => have := HK1.out; have := HK2.out; omega
           case rel => exact ⟨(wrap64 (x26_2 + 1)), (x747001_2), (.slice (some ad747) x747001_2.length co43), eqS, H', ⟨by have := HK1.out; have := HK2.out; omega⟩, ⟨Kd.R_g HO_747001.out⟩, ⟨blk_g BK740.out⟩, ⟨blk_g BK741.out⟩, ⟨blk_g BK746.out⟩, ⟨bel_g HB.out⟩⟩
         ·exact absurd H (by simp)
        ·exact absurd H (by simp)
       ·have H' := Aside0.mk H
        clear H
        go_wp2
        go_roundg k2
        case measure => have := HK1.out; have := HK2.out; omega
        case rel => exact ⟨(wrap64 (x20_1 + 1)), (x747001_2), (u747001), eqS, H', ⟨by have := HK1.out; have := HK2.out; omega⟩, ⟨Kd.R_g HO_747001.out⟩, ⟨blk_g BK740.out⟩, ⟨blk_g BK741.out⟩, ⟨blk_g BK746.out⟩, ⟨bel_g HB.out⟩⟩
    ·simp only [Option.some.injEq, Prod.mk.injEq] at H
     obtain ⟨rfl, rfl, rfl⟩ := H
     have hnb44 := NB746_740.out
     have hnc44 := NB740_746.out
     have hnb45 := NB746_741.out
     have hnc45 := NB741_746.out
     obtain ⟨hcz46_0, hcz46_1, hfz46_0, hfz46_1⟩ := blk2 BK746
     have hnb47 := NB741_740.out
     have hnc47 := NB740_741.out
     obtain ⟨hcz48_0, hcz48_1, hfz48_0, hfz48_1⟩ := blk2 BK741
     obtain ⟨Ao49, co49, eo49⟩ := Kd.R_slice HO_747001.out
     subst eo49
     go_wp2
     refine bodyPost_ret (results_ct rfl _ _ gb741 28 #[.int .i64 a0_0, .slice Ao49 x747001_1.length co49] (0, 0) _ rfl (by (with_reducible repeat (first | refine blk_drewN ?_ _ | refine blk_drew ?_ | refine blk_alloc ?_ _)); refine blk_put (cs := #[.int .i64 a0_0, .slice none 0 0]) ?_ 1 _ rfl; (with_reducible repeat (first | refine blk_drewN ?_ _ | refine blk_drew ?_ | refine blk_alloc ?_ _)); refine blk_put (cs := #[.int .i64 0, .slice none 0 0]) ?_ 0 _ rfl; (with_reducible repeat (first | refine blk_drewN ?_ _ | refine blk_drew ?_ | refine blk_alloc ?_ _)); exact BK741.out) Tryd.underlying28 rfl (by kernel_rfl)) rfl ?_
     exact ⟨_, eqE, by (with_reducible repeat (first | apply Kd.R_alloc | apply Kd.R_drewN | apply Kd.R_drew)); exact Kd.R_mono (Kd.R_far (p := ⟨gb741, 1, none⟩) (Kd.R_far (p := ⟨gb741, 0, none⟩) (Kd.R_types HO_747001.out BK741.out (by decide)) (fun _ hk => hk.2) (.int .i64 a0_0)) (fun _ hk => hk.2) (.slice Ao49 x747001_1.length co49)) (fun _ hk => trivial), bel_g HB.out⟩
 ·replace c3 := Bool.eq_false_iff.mpr c3
  subst c3
  replace H := ifF H
  simp only [Option.some.injEq, Prod.mk.injEq] at H
  obtain ⟨rfl, rfl, rfl⟩ := H
  go_enter Tryd.func52, Tryd.ntmps52
  go_wp2_with (first | ((with_reducible refine gate_dst (N := 1) rfl ?_); refine boxE (N := 1) (cs := #[.int .i64 a0_0, .slice A0_1 l0_1.length c0_1]) (t := 28) ?_; intro gb740 hg w50 hbox hb; have BK740 := Aside0.mk (hbox); have GE740 := geB HB hg; replace HB := bst HB hb; clear hb hbox hg) | ((with_reducible refine gate_dst (N := 2) rfl ?_); refine boxE (N := 2) (cs := #[.int .i64 0, .slice none 0 0]) (t := 28) ?_; intro gb741 hg w51 hbox hb; have BK741 := Aside0.mk (hbox); have GE741 := geB HB hg; have NB740_741 := neL BK740 hg; have NB741_740 := neR BK740 hg; replace BK740 := blkB BK740 hb; replace HB := bst HB hb; clear hb hbox hg; have hnb52 := NB740_741.out; have hnc52 := NB741_740.out; obtain ⟨hcz53_0, hcz53_1, hfz53_0, hfz53_1⟩ := blk2 BK740) | ((with_reducible refine gate_callee (f := 111) rfl ?_); refine goesQ (some 8) Tryd.func111 #[.agg #[.int .i64 a0_0, .slice A0_1 l0_1.length c0_1]] ?_; (with_reducible refine (spec_orRelation.calls k a0_0 _ _ l0_1 false _ ?side1 ?side2 A2.out).mono ?_); (case side1 => exact C_g HR0_1 HB); (case side2 => exact HC0_1.out); rintro e w54 ⟨rfl, hb⟩; refine ⟨_, rfl, ?_⟩; replace BK740 := blkB BK740 hb; replace BK741 := blkB BK741 hb; replace HB := bst HB hb; (try clear hb); (try clear hk); obtain ⟨hcz55_0, hcz55_1, hfz55_0, hfz55_1⟩ := blk2 BK741))
  refine bodyPost_ret (results_ct rfl _ _ gb741 28 #[.int .i64 0, .slice none 0 0] (0, 0) _ rfl (by (with_reducible repeat (first | refine blk_drewN ?_ _ | refine blk_drew ?_ | refine blk_alloc ?_ _)); refine blk_put (cs := #[.int .i64 0, .slice none 0 0]) ?_ 1 _ rfl; (with_reducible repeat (first | refine blk_drewN ?_ _ | refine blk_drew ?_ | refine blk_alloc ?_ _)); refine blk_put (cs := #[.int .i64 0, .slice none 0 0]) ?_ 0 _ rfl; (with_reducible repeat (first | refine blk_drewN ?_ _ | refine blk_drew ?_ | refine blk_alloc ?_ _)); exact BK741.out) Tryd.underlying28 rfl (by kernel_rfl)) rfl ?_
  exact ⟨_, eqE, by first | exact Kd.R_nil _ _ _ _ _ | exact Kd.N_nil _ _ _ _ _ | exact Kd.V_nil _ _ _ _ _ | exact Kd.Q_nil _ _ _ _ _ | exact Kd.S_nil _ _ _ _ _, bel_g HB.out⟩

end Go.Proofs.YteechpappfagpaaDoor.Q
