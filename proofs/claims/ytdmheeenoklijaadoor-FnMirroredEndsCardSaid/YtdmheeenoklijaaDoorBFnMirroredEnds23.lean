import Derived.Test.YtdmheeenoklijaaDoorBFnMirroredEnds22
namespace Go.Proofs.YtdmheeenoklijaaDoor.Q
open Go.RowKit Go.Proofs.YtdmheeenoklijaaDoorW.PrintWords Go.Proofs.YtdmheeenoklijaaDoorW.PrintLast Go.Proofs.YtdmheeenoklijaaDoorW.PrintMore
attribute [local go_sem] max2_int min2_int max_two min_two max_three min_three max_four min_four neB_f
set_option linter.unusedVariables false
set_option maxHeartbeats 8000000
set_option maxRecDepth 100000
set_option linter.unusedSimpArgs false
def impl_DoRepresent.j0 : Nat → List (S39) → Bool → Int → List Int → Option (Bool × Bool)
 | 0, _, _, _, _ => none
 | k + 1, x0, x13, x697000, x697001 => if x13 = true then (some (false, false)) else ((impl_orderOf.f k x0).bind fun bt699 => ((impl_Order_same.f k bt699.1 bt699.2 x697000 x697001).bind fun t703 => (some (t703, true))))
def impl_DoRepresent.f (k : Nat) (l0 : List (S39)) (a1_0 : Int) (l1_1 : List Int) : Option (Bool × Bool) := (impl_AreIntervals.f k l0).bind fun t697 => (if t697 = true then ((impl_IsOrder.f k a1_0 l1_1).bind fun t698 => (impl_DoRepresent.j0 k l0 (!t698) a1_0 l1_1)) else (impl_DoRepresent.j0 k l0 true a1_0 l1_1))
theorem impl_DoRepresent.mono_l : ∀ k, (∀ y0 y1 y2 y3, LeO (impl_DoRepresent.j0 k y0 y1 y2 y3) (impl_DoRepresent.j0 (k + 1) y0 y1 y2 y3))
 | 0 => fun _ _ _ _ r h => by simp [impl_DoRepresent.j0] at h
 | k + 1 => by
  have ih0 := impl_DoRepresent.mono_l k
  ·intro y0 y1 y2 y3
   unfold impl_DoRepresent.j0
   repeat' (with_reducible first|apply ih0|apply impl_AreIntervals.mono|apply impl_IsOrder.mono|apply impl_Order_same.mono|apply impl_orderOf.mono|apply LeO.refl|apply LeO.none|apply LeO.ite|apply LeO.bind|intro)
theorem impl_DoRepresent.mono : ∀ a0 a1 a2 k, LeO (impl_DoRepresent.f k a0 a1 a2) (impl_DoRepresent.f (k + 1) a0 a1 a2) := by
 intro a0 a1 a2 k
 have ih0 := impl_DoRepresent.mono_l k
 unfold impl_DoRepresent.f
 repeat' (with_reducible first|apply ih0|apply impl_AreIntervals.mono|apply impl_IsOrder.mono|apply impl_Order_same.mono|apply impl_orderOf.mono|apply LeO.refl|apply LeO.none|apply LeO.ite|apply LeO.bind|intro)
theorem impl_DoRepresent.calls (k : Nat) (A0 : Option Addr) (c0 : Nat) (l0 : List (S39)) (a1_0 : Int) (A1_1 : Option Addr) (c1_1 : Nat) (l1_1 : List Int) (r1 : Bool) (r2 : Bool) (w : World) (hr0 : Kd.C k39 w A0 l0.length l0) (hc0 : l0.length ≤ c0) (hr1_1 : Kd.C (Kd.int .i64) w A1_1 l1_1.length l1_1) (hc1_1 : l1_1.length ≤ c1_1) (hTAB : Tab w) (h : impl_DoRepresent.f k l0 a1_0 l1_1 = some (r1, r2)) :
  Calls Tryd.prog 15 #[.slice A0 l0.length c0, .agg #[.int .i64 a1_0, .slice A1_1 l1_1.length c1_1]] w fun e w' => e = .returned (.tuple #[.bool r1, .bool r2]) ∧ Below w.heap.size w w' := by
 have HTAB := mkA hTAB
 clear hTAB
 have hu26 := Tryd.underlying26
 have HR0 := mkA hr0
 have HC0 := mkA hc0
 clear hr0 hc0
 have HR1_1 := mkA hr1_1
 have HC1_1 := mkA hc1_1
 clear hr1_1 hc1_1
 have HB := mkA (Below.refl w.heap.size w)
 have H := h
 clear h
 unfold impl_DoRepresent.f at H
 have HC3 := mkA H
 clear H
 go_enter Tryd.func15, Tryd.ntmps15
 go_upto_region 1 with (first | ((with_reducible refine gate_dst (N := 3) rfl ?_); refine boxG HB #[.int .i64 a1_0, .slice A1_1 l1_1.length c1_1] 26 ?_; intro gb696 hg w4 BK696 GE696 hb; replace HB := bst HB hb; clear hb hg))
 (try simp only [Act.put, List.setIfInBounds_toArray, List.set_cons_zero, List.set_cons_succ])
 go_cut [13] (fun v13 wc => ∃ (kq : Nat) (x13_2 : Bool), v13 = .bool x13_2 ∧ Fc (impl_DoRepresent.j0 kq l0 x13_2 a1_0 l1_1 = some (r1, r2)) ∧ Fc (kq ≤ k) ∧ Fc (wc.heap[gb696]? = some (.cells #[.int .i64 a1_0, (.slice A1_1 l1_1.length c1_1)] 26 (0, 0))) ∧ Fc (Below w.heap.size w wc))
 case first =>
  have H := HC3.out
  clear HC3
  obtain ⟨t697, A5, H⟩ := obE H
  by_cases c6 : t697 = true
  ·subst c6
   replace H := ifT H
   obtain ⟨t698, A7, H⟩ := obE H
   have H' := mkA H
   clear H
   go_wp2_with (first | ((with_reducible refine gate_callee (f := 20) rfl ?_); refine goesQ (some 7) Tryd.func20 #[.slice A0 l0.length c0] ?_; (with_reducible refine (impl_AreIntervals.calls k _ _ l0 true _ ?_ ?_ A5.out).mono ?_); exact C_g HR0 HB; exact HC0.out; rintro e w8 ⟨rfl, hb⟩; refine ⟨_, rfl, ?_⟩; replace BK696 := blkB BK696 hb; replace HB := bst HB hb; clear hb; obtain ⟨_, _, _, _⟩ := blk2 BK696) | (go_at_call 39; (with_reducible refine (impl_IsOrder.calls k a1_0 _ _ l1_1 t698 _ ?_ ?_ ?_ A7.out).mono ?_); exact C_g HR1_1 HB; exact HC1_1.out; exact Tab.below HTAB.out (bel_g HB.out); rintro e w10 ⟨rfl, hb⟩; replace BK696 := blkB BK696 hb; replace HB := bst HB hb; clear hb))
   go_meet
   case rel => exact ⟨_, (!t698), eqS, H', ⟨by first | omega | exact Nat.le_refl _⟩, bg BK696, hbg HB⟩
  ·replace c6 := Bool.eq_false_iff.mpr c6
   subst c6
   replace H := ifF H
   have H' := mkA H
   clear H
   go_wp2_with (first | ((with_reducible refine gate_callee (f := 20) rfl ?_); refine goesQ (some 7) Tryd.func20 #[.slice A0 l0.length c0] ?_; (with_reducible refine (impl_AreIntervals.calls k _ _ l0 false _ ?_ ?_ A5.out).mono ?_); exact C_g HR0 HB; exact HC0.out; rintro e w11 ⟨rfl, hb⟩; refine ⟨_, rfl, ?_⟩; replace BK696 := blkB BK696 hb; replace HB := bst HB hb; clear hb))
   go_meet
   case rel => exact ⟨_, (true), eqS, H', ⟨by first | omega | exact Nat.le_refl _⟩, bg BK696, hbg HB⟩
 case rest =>
  clear HC3
  try clear c6
  obtain ⟨kq, x13_2, rfl, HA, HJ2, BK696, HB⟩ := hcut
  cases kq with
  | zero => exact absurd HA.out (by simp [impl_DoRepresent.j0])
  | succ kj2 =>
   have H := HA.out
   clear HA
   simp only [impl_DoRepresent.j0] at H
   by_cases c12 : x13_2 = true
   ·subst c12
    replace H := ifT H
    simp only [Option.some.injEq, Prod.mk.injEq] at H
    obtain ⟨rfl, rfl⟩ := H
    go_wp2
    go_ret2
    exact ⟨eqE, bel_g HB.out⟩
   ·replace c12 := Bool.eq_false_iff.mpr c12
    subst c12
    replace H := ifF H
    obtain ⟨⟨t699, t700⟩, A13, H⟩ := obE H
    dsimp only at H
    obtain ⟨t703, A14, H⟩ := obE H
    simp only [Option.some.injEq, Prod.mk.injEq] at H
    obtain ⟨rfl, rfl⟩ := H
    try go_wp2
    replace BK696 := mkA (blk_drew BK696.out)
    replace HB := mkA (below_drew1 HB.out)
    refine start_ (n := 6) (S := fun w' => w'.cell? ⟨gb696, 0, none⟩ = some (.int .i64 a1_0) ∧ w'.cell? ⟨gb696, 1, none⟩ = some (.slice A1_1 l1_1.length c1_1)) (ds := []) (bm 6 0) (by kernel_rfl) rfl (by kernel_rfl) ⟨(blk_cell BK696.out 0).trans rfl, (blk_cell BK696.out 1).trans rfl⟩ (fun hHeld => ?_)
    generalize wc.drew = w15 at BK696 HB hHeld ⊢
    refine pure_ (i := 0) (N := some 14) (v := ?_) (a' := ?_) (bm 6 1) rfl rfl (by kernel_rfl) (fun _ _ _ h => h) (Or.inl ⟨by rfl, ?_⟩) ?_ ?_
    rotate_left
    ·intro w'
     go_simp
     with_reducible rfl
    rotate_left
    ·simp only [Act.put, List.setIfInBounds_toArray, List.set_cons_zero, List.set_cons_succ, i64_w, i32_w]
     rfl
    refine take_ (i := 2) (N := some 16) (v := ?_) (a' := ?_) (bm 6 5) rfl rfl (by kernel_rfl) (fun _ _ _ h => h) (Or.inl ⟨by rfl, ?_⟩) hHeld ?_ ?_
    rotate_left
    ·rintro w' ⟨s0, s1⟩
     go_simp
     with_reducible rfl
    rotate_left
    ·simp only [Act.put, List.setIfInBounds_toArray, List.set_cons_zero, List.set_cons_succ, i64_w, i32_w]
     rfl
    refine one_ (i := 1) (N := some 15) (bm 6 7) rfl rfl (by kernel_rfl) (by decide) (fun K hK => ?_)
    refine goesR Tryd.func40 #[.slice A0 l0.length c0] ?_
    with_reducible refine (impl_orderOf.calls kj2 _ _ l0 t699 t700 _ ?s1 ?s2 A13.out).mono ?_
    (case s1 => exact C_g HR0 HB)
    (case s2 => exact HC0.out)
    rintro e w16 ⟨v701, rfl, ho0, hb⟩
    refine ⟨_, rfl, ?_⟩
    have HO702 := rLo ho0 HB
    replace BK696 := blkB BK696 hb
    replace HB := bst HB hb
    (try clear hb)
    (try clear hb2)
    (try clear hk)
    (try clear hi)
    (try clear ho0)
    obtain ⟨Ao17, co17, eo17⟩ := Kd.R_slice HO702.out
    (first | subst eo17 | (injection eo17 with f1_ f2_ f3_; have f4_ := f1_.symm; have f5_ := f3_.symm; clear f1_ f2_ f3_; subst f4_; subst f5_))
    refine hK.out _ _ ⟨(blk_cell BK696.out 0).trans rfl, (blk_cell BK696.out 1).trans rfl⟩ (fun hHeld => ?_)
    clear hK K
    refine normW 15 ?_
    refine one_ (i := 3) (N := some 17) (bm 6 15) rfl rfl (by kernel_rfl) (by decide) (fun K hK => ?_)
    refine goesR Tryd.func41 #[.agg #[.int .i64 t699, .slice Ao17 t700.length co17], .agg #[.int .i64 a1_0, .slice A1_1 l1_1.length c1_1]] ?_
    with_reducible refine (impl_Order_same.calls kj2 t699 _ _ t700 a1_0 _ _ l1_1 t703 _ ?s1 ?s2 ?s3 ?s4 A14.out).mono ?_
    (case s1 => exact rC HO702)
    (case s2 => exact rL HO702)
    (case s3 => exact C_g HR1_1 HB)
    (case s4 => exact HC1_1.out)
    rintro e w18 ⟨rfl, hb⟩
    refine ⟨_, rfl, ?_⟩
    replace HO702 := rB HO702 hb
    replace BK696 := blkB BK696 hb
    replace HB := bst HB hb
    (try clear hb)
    (try clear hb2)
    (try clear hk)
    (try clear hi)
    refine hK.out _ _ ⟨(blk_cell BK696.out 0).trans rfl, (blk_cell BK696.out 1).trans rfl⟩ (fun hHeld => ?_)
    clear hK K
    refine normW 17 ?_
    refine pure_ (i := 4) (N := some 4) (v := ?_) (a' := ?_) (bm 6 31) rfl rfl (by kernel_rfl) (fun _ _ _ h => h) (Or.inl ⟨by rfl, ?_⟩) ?_ ?_
    rotate_left
    ·intro w'
     go_simp
     with_reducible rfl
    rotate_left
    ·simp only [Act.put, List.setIfInBounds_toArray, List.set_cons_zero, List.set_cons_succ, i64_w, i32_w]
     rfl
    refine pure_ (i := 5) (N := some 5) (v := ?_) (a' := ?_) (bm 6 63) rfl rfl (by kernel_rfl) (fun _ _ _ h => h) (Or.inl ⟨by rfl, ?_⟩) ?_ ?_
    rotate_left
    ·intro w'
     go_simp
     with_reducible rfl
    rotate_left
    ·simp only [Act.put, List.setIfInBounds_toArray, List.set_cons_zero, List.set_cons_succ, i64_w, i32_w]
     rfl
    refine done_ (by kernel_rfl) ?_
    try go_wp2
    go_ret2
    exact ⟨eqE, bel_g HB.out⟩
end Go.Proofs.YtdmheeenoklijaaDoor.Q
