import Derived.Test.YtcalgdljcphjaaaDoorBFnStairs12
namespace Go.Proofs.YtcalgdljcphjaaaDoor.Q
open Go.RowKit Go.Proofs.YtcalgdljcphjaaaDoorW.PrintWords Go.Proofs.YtcalgdljcphjaaaDoorW.PrintLast Go.Proofs.YtcalgdljcphjaaaDoorW.PrintMore
attribute [local go_sem] max2_int min2_int max_two min_two max_three min_three max_four min_four neB_f
set_option linter.unusedVariables false
set_option maxHeartbeats 8000000
set_option maxRecDepth 100000
set_option linter.unusedSimpArgs false
mutual
def impl_RenameOf.j0 : Nat → List Int → Bool → Int → List Int → Option (Int × List Int × Bool)
 | 0, _, _, _, _ => none
 | k + 1, x1, x20, x451000, x451001 => if x20 = true then (some (0, ([] : List Int), false)) else (if 0 ≤ x451000 then (if (x451000 : Int).toNat ≤ 35184372088832 then (impl_RenameOf.l0 k x1 x451001 (x451001.length : Int) 0 x451000 (List.replicate (x451000 : Int).toNat 0)) else (none)) else (none))
def impl_RenameOf.l0 : Nat → List Int → List Int → Int → Int → Int → List Int → Option (Int × List Int × Bool)
 | 0, _, _, _, _, _, _ => none
 | k + 1, x1, x29, x30, x31, x458000, x458001 => if x31 < x30 then (if 0 ≤ x31 then (if x31 < (x29.length : Int) then ((impl_members.f k (rd x29 x31)).bind fun t459 => (impl_RenameOf.l1 k x1 x31 x29 x30 x31 t459 (t459.length : Int) 0 x458000 x458001)) else (none)) else (none)) else (some (x458000, x458001, true))
def impl_RenameOf.l1 : Nat → List Int → Int → List Int → Int → Int → List Int → Int → Int → Int → List Int → Option (Int × List Int × Bool)
 | 0, _, _, _, _, _, _, _, _, _, _ => none
 | k + 1, x1, x7, x29, x30, x31, x37, x38, x39, x458000, x458001 => if x39 < x38 then (if 0 ≤ x39 then (if x39 < (x37.length : Int) then (if 0 ≤ x7 then (if x7 < (x1.length : Int) then (if 0 ≤ (rd x1 x7) then (if (rd x1 x7) < (x458001.length : Int) then (if 0 ≤ (rd x37 x39) then (if (rd x37 x39) < (x1.length : Int) then (if 0 ≤ (rd x1 (rd x37 x39)) then (impl_RenameOf.l1 k x1 x7 x29 x30 x31 x37 x38 (wrap64 (x39 + 1)) x458000 (x458001.set ((rd x1 x7) : Int).toNat (Go.bits .or .i64 (rd x458001 (rd x1 x7)) (shl .i64 1 (rd x1 (rd x37 x39)))))) else (none)) else (none)) else (none)) else (none)) else (none)) else (none)) else (none)) else (none)) else (none)) else (impl_RenameOf.l0 k x1 x29 x30 (wrap64 (x31 + 1)) x458000 x458001)
end
def impl_RenameOf.f (k : Nat) (a0_0 : Int) (l0_1 : List Int) (l1 : List Int) : Option (Int × List Int × Bool) := (impl_IsRelation.f k a0_0 l0_1).bind fun t452 => (if t452 = true then ((impl_isNaming.f k l1 a0_0).bind fun t453 => (impl_RenameOf.j0 k l1 (!t453) a0_0 l0_1)) else (impl_RenameOf.j0 k l1 true a0_0 l0_1))
theorem impl_RenameOf.mono_l : ∀ k, (∀ y0 y1 y2 y3, LeO (impl_RenameOf.j0 k y0 y1 y2 y3) (impl_RenameOf.j0 (k + 1) y0 y1 y2 y3)) ∧ (∀ y0 y1 y2 y3 y4 y5, LeO (impl_RenameOf.l0 k y0 y1 y2 y3 y4 y5) (impl_RenameOf.l0 (k + 1) y0 y1 y2 y3 y4 y5)) ∧ (∀ y0 y1 y2 y3 y4 y5 y6 y7 y8 y9, LeO (impl_RenameOf.l1 k y0 y1 y2 y3 y4 y5 y6 y7 y8 y9) (impl_RenameOf.l1 (k + 1) y0 y1 y2 y3 y4 y5 y6 y7 y8 y9))
 | 0 => ⟨fun _ _ _ _ r h => by simp [impl_RenameOf.j0] at h, fun _ _ _ _ _ _ r h => by simp [impl_RenameOf.l0] at h, fun _ _ _ _ _ _ _ _ _ _ r h => by simp [impl_RenameOf.l1] at h⟩
 | k + 1 => by
  obtain ⟨ih0, ih1, ih2⟩ := impl_RenameOf.mono_l k
  refine ⟨?_, ?_, ?_⟩ <;> intros
  unfold impl_RenameOf.j0
  rotate_left
  unfold impl_RenameOf.l0
  rotate_left
  unfold impl_RenameOf.l1
  rotate_left
  all_goals repeat' (with_reducible first|apply ih0|apply ih1|apply ih2|apply impl_IsRelation.mono|apply impl_isNaming.mono|apply impl_members.mono|apply LeO.refl|apply LeO.none|apply LeO.ite|apply LeO.bind|intro)
theorem impl_RenameOf.mono : ∀ a0 a1 a2 k, LeO (impl_RenameOf.f k a0 a1 a2) (impl_RenameOf.f (k + 1) a0 a1 a2) := by
 intro a0 a1 a2 k
 obtain ⟨ih0, ih1, ih2⟩ := impl_RenameOf.mono_l k
 unfold impl_RenameOf.f
 repeat' (with_reducible first|apply ih0|apply ih1|apply ih2|apply impl_IsRelation.mono|apply impl_isNaming.mono|apply impl_members.mono|apply LeO.refl|apply LeO.none|apply LeO.ite|apply LeO.bind|intro)
def impl_RenameOf.T3 : Bool × List (List Nat × List Nat) := (true, [([], []), ([0], [0]), ([], []), ([2], [2]), ([3, 3], [3]), ([1, 4], [1, 4]), ([], []), ([6, 5, 0, 1, 2, 3, 4, 5, 6], [5, 6])])
def impl_RenameOf.B3 : List Nat := [0, 1, 0, 4, 12, 31, 0, 127]
theorem impl_RenameOf.tab3 : rtab .any (opsOf Tryd.f15 3) = impl_RenameOf.T3 := by kernel_rfl
theorem impl_RenameOf.bits3 : waitsOk impl_RenameOf.T3.2 impl_RenameOf.B3 = true := by kernel_rfl
def impl_RenameOf.T10 : Bool × List (List Nat × List Nat) := (true, [([], []), ([0], [0]), ([], []), ([], []), ([2, 3], [2, 3]), ([4], [4]), ([1, 5], [1, 5]), ([6], [6]), ([], []), ([], []), ([8, 9], [8, 9]), ([10], [10]), ([11], [11]), ([7, 12], [7, 12]), ([1, 5, 0, 1, 2, 3, 4, 5, 6, 7, 8, 9, 10, 11, 12, 13], [1, 5]), ([14, 13, 0, 1, 2, 3, 4, 5, 6, 7, 8, 9, 10, 11, 12, 13], [13, 14])])
def impl_RenameOf.B10 : List Nat := [0, 1, 0, 0, 12, 28, 63, 127, 0, 0, 768, 1792, 3840, 8191, 16383, 32767]
theorem impl_RenameOf.tab10 : rtab .any (opsOf Tryd.f15 10) = impl_RenameOf.T10 := by kernel_rfl
theorem impl_RenameOf.bits10 : waitsOk impl_RenameOf.T10.2 impl_RenameOf.B10 = true := by kernel_rfl
theorem impl_RenameOf.calls (k : Nat) (a0_0 : Int) (A0_1 : Option Addr) (c0_1 : Nat) (l0_1 : List Int) (A1 : Option Addr) (c1 : Nat) (l1 : List Int) (r1 : Int) (r2 : List Int) (r3 : Bool) (w : World) (hr0_1 : Kd.C (Kd.int .i64) w A0_1 l0_1.length l0_1) (hc0_1 : l0_1.length ≤ c0_1) (hr1 : Kd.C (Kd.int .i64) w A1 l1.length l1) (hc1 : l1.length ≤ c1) (hTAB : Tab w) (h : impl_RenameOf.f k a0_0 l0_1 l1 = some (r1, r2, r3)) :
  Calls Tryd.prog 15 #[.agg #[.int .i64 a0_0, .slice A0_1 l0_1.length c0_1], .slice A1 l1.length c1] w fun e w' => ∃ v1_ : Value, e = .returned (.tuple #[.agg #[.int .i64 r1, v1_], .bool r3]) ∧ Kd.R (Kd.int .i64) 3 w' w.heap.size (fun _ => True) v1_ r2 ∧ Below w.heap.size w w' := by
 have HTAB := mkA hTAB
 clear hTAB
 have hu27 := Tryd.underlying27
 have HR0_1 := mkA hr0_1
 have HC0_1 := mkA hc0_1
 clear hr0_1 hc0_1
 have HR1 := mkA hr1
 have HC1 := mkA hc1
 clear hr1 hc1
 have HB := mkA (Below.refl w.heap.size w)
 have H := h
 clear h
 unfold impl_RenameOf.f at H
 have HC3 := mkA H
 clear H
 go_enter Tryd.func15, Tryd.ntmps15
 go_upto_region 1 with (first | ((with_reducible refine gate_dst (N := 2) rfl ?_); refine boxG HB #[.int .i64 a0_0, .slice A0_1 l0_1.length c0_1] 27 ?_; intro gb450 hg w4 BK450 GE450 hb; replace HB := bst HB hb; clear hb hg) | ((with_reducible refine gate_dst (N := 4) rfl ?_); refine boxG HB #[.int .i64 0, .slice none 0 0] 27 ?_; intro gb451 hg w5 BK451 GE451 hb; have NB450_451 := neL7 BK450 hg; have NB451_450 := neR7 BK450 hg; replace BK450 := blkB BK450 hb; replace HB := bst HB hb; clear hb hg))
 (try simp only [Act.put, List.setIfInBounds_toArray, List.set_cons_zero, List.set_cons_succ])
 go_cut [20] (fun v20 wc => ∃ (kq : Nat) (x20_2 : Bool), v20 = .bool x20_2 ∧ Fc (impl_RenameOf.j0 kq l1 x20_2 a0_0 l0_1 = some (r1, r2, r3)) ∧ Fc (kq ≤ k) ∧ Fc (wc.heap[gb450]? = some (.cells #[.int .i64 a0_0, (.slice A0_1 l0_1.length c0_1)] 27 (0, 0))) ∧ Fc (wc.heap[gb451]? = some (.cells #[.int .i64 0, (.slice none 0 0)] 27 (0, 0))) ∧ Fc (Below w.heap.size w wc))
 case first =>
  have H := HC3.out
  clear HC3
  obtain ⟨t452, A6, H⟩ := obE H
  by_cases c7 : t452 = true
  ·subst c7
   replace H := ifT H
   obtain ⟨t453, A8, H⟩ := obE H
   have H' := mkA H
   clear H
   obtain ⟨_, _, _, _⟩ := blk2 BK450
   go_wp2_with (first | ((with_reducible refine gate_callee (f := 32) rfl ?_); refine goesQ (some 12) Tryd.func32 #[.agg #[.int .i64 a0_0, .slice A0_1 l0_1.length c0_1]] ?_; (with_reducible refine (impl_IsRelation.calls k a0_0 _ _ l0_1 true _ ?_ ?_ A6.out).mono ?_); exact C_g HR0_1 HB; exact HC0_1.out; rintro e w11 ⟨rfl, hb⟩; refine ⟨_, rfl, ?_⟩; replace BK450 := blkB BK450 hb; replace BK451 := blkB BK451 hb; replace HB := bst HB hb; clear hb; obtain ⟨_, _, _, _⟩ := blk2 BK450) | (go_at_call 33; (with_reducible refine (impl_isNaming.calls k _ _ l1 a0_0 t453 _ ?_ ?_ A8.out).mono ?_); exact C_g HR1 HB; exact HC1.out; rintro e w' ⟨rfl, ⟨nd, rfl⟩⟩))
   go_meet
   case rel => exact ⟨_, (!t453), eqS, H', ⟨by first | omega | exact Nat.le_refl _⟩, bg BK450, bg BK451, hbg HB⟩
  ·replace c7 := Bool.eq_false_iff.mpr c7
   subst c7
   replace H := ifF H
   have H' := mkA H
   clear H
   obtain ⟨_, _, _, _⟩ := blk2 BK450
   go_wp2_with (first | ((with_reducible refine gate_callee (f := 32) rfl ?_); refine goesQ (some 12) Tryd.func32 #[.agg #[.int .i64 a0_0, .slice A0_1 l0_1.length c0_1]] ?_; (with_reducible refine (impl_IsRelation.calls k a0_0 _ _ l0_1 false _ ?_ ?_ A6.out).mono ?_); exact C_g HR0_1 HB; exact HC0_1.out; rintro e w15 ⟨rfl, hb⟩; refine ⟨_, rfl, ?_⟩; replace BK450 := blkB BK450 hb; replace BK451 := blkB BK451 hb; replace HB := bst HB hb; clear hb))
   go_meet
   case rel => exact ⟨_, (true), eqS, H', ⟨by first | omega | exact Nat.le_refl _⟩, bg BK450, bg BK451, hbg HB⟩
 case rest =>
  clear HC3
  try clear c1
  try clear c7
  obtain ⟨kq, x20_2, rfl, HA, HJ2, BK450, BK451, HB⟩ := hcut
  cases kq with
  | zero => exact absurd HA.out (by simp [impl_RenameOf.j0])
  | succ kj2 =>
   have H := HA.out
   clear HA
   simp only [impl_RenameOf.j0] at H
   by_cases c16 : x20_2 = true
   ·subst c16
    replace H := ifT H
    simp only [Option.some.injEq, Prod.mk.injEq] at H
    obtain ⟨rfl, rfl, rfl⟩ := H
    obtain ⟨_, _, _, _⟩ := blk2 BK451
    go_wp2
    refine bodyPost_ret (results_ct rfl _ _ gb451 27 #[.int .i64 0, .slice none 0 0] (0, 0) _ rfl (blkT BK451) Tryd.underlying27 rfl (by kernel_rfl)) rfl ?_
    exact ⟨_, eqE, nilE, bel_g HB.out⟩
   ·replace c16 := Bool.eq_false_iff.mpr c16
    subst c16
    replace H := ifF H
    obtain ⟨c19b0, c19b1, H⟩ := itNQ H
    obtain ⟨c20b0, c20b1, H⟩ := itNQ H
    obtain ⟨y454, hy454⟩ : ∃ y_ : List Int, y_ = (List.replicate (a0_0 : Int).toNat 0) := ⟨_, rfl⟩
    rw [← hy454] at H
    have Ny454 := mkA hy454
    clear hy454
    have H' := mkA H
    clear H
    try go_wp2
    replace BK450 := mkA (blk_drew BK450.out)
    replace BK451 := mkA (blk_drew BK451.out)
    replace HB := mkA (below_drew1 HB.out)
    refine start_ (n := 8) (S := fun w' => w'.cell? ⟨gb450, 0, none⟩ = some (.int .i64 a0_0) ∧ w'.cell? ⟨gb450, 1, none⟩ = some (.slice A0_1 l0_1.length c0_1)) (ds := []) (bm 8 0) (by kernel_rfl) rfl (by kernel_rfl) ⟨(blk_cell BK450.out 0).trans rfl, (blk_cell BK450.out 1).trans rfl⟩ (fun hHeld => ?_); refine with_tabW impl_RenameOf.tab3 impl_RenameOf.bits3 (fun HT_ HW_ => ?_)
    generalize wc.drew = w21 at BK450 BK451 HB hHeld ⊢
    refine purW 0 22 8 1 HT_ ?_
    refine purW 2 24 8 5 HT_ ?_
    refine takeW 1 (some 23) (bm 8 7) HT_ HW_ hHeld ?_
    refine takeW 3 (some 25) (bm 8 15) HT_ HW_ hHeld ?_
    refine join_ (σ := Value × Nat) 1 (bm 8 127) (fun s_ => [(26, s_.1), (6, .pointer (some ⟨s_.2, 0, none⟩)), (27, .agg #[.int .i64 a0_0, s_.1])]) (fun s_ w' => (w'.cell? ⟨gb450, 0, none⟩ = some (.int .i64 a0_0) ∧ w'.cell? ⟨gb450, 1, none⟩ = some (.slice A0_1 l0_1.length c0_1)) ∧ (Kd.R (Kd.int .i64) 3 w' w.heap.size (fun _ => True) s_.1 y454) ∧ (w'.heap[gb450]? = some (.cells #[.int .i64 a0_0, .slice A0_1 l0_1.length c0_1] 27 (0, 0))) ∧ (w'.heap[gb451]? = some (.cells #[.int .i64 0, .slice none 0 0] 27 (0, 0))) ∧ (w'.heap[s_.2]? = some (.cells #[.int .i64 0, .slice none 0 0] 27 (0, 0))) ∧ (w.heap.size ≤ s_.2) ∧ (w.heap.size ≤ s_.2) ∧ (gb450 ≠ s_.2) ∧ (s_.2 ≠ gb450) ∧ (gb451 ≠ s_.2) ∧ (s_.2 ≠ gb451) ∧ (Below w.heap.size w w')) ?_ ?_
    rotate_left
    ·intro hCont
     refine two_ (i := 4) (j := 6) (Ni := some 26) (Nj := some 6) (bm 8 31) (bm 8 79) rfl rfl rfl rfl (two_of HT_.out (by kernel_rfl)) (by decide) (by decide) (fun K hK => ?_) (fun K hK => ?_)
     ·skip
      refine Kd.R_make_step (Kd.int .i64) _ 3 (by rfl) (N := 26) rfl 24 _ _ rfl a0_0 rfl rfl Tryd.underlying24 (.int .i64 0) 8 info3 rfl (by decide) (by omega) 0 (ok := fun _ => True) (okp := fun _ => True) rfl (fun _ hk => hk) trivial (ofd) (Nat.le_trans (Nat.mul_le_mul_right _ (ofd : a0_0.toNat ≤ 35184372088832)) (by omega)) (Below.refl _ _) (Nat.le_refl _) ?_
      intro v455 w22 ho23 hb hg_ hnew_
      clear hg_ hnew_
      (first | rw [← Ny454.out] at ho23 | (simp only [Int.reduceToNat] at ho23; rw [← Ny454.out] at ho23))
      have HO456 := rLo ho23 HB
      replace BK450 := blkB BK450 hb
      replace BK451 := blkB BK451 hb
      replace HB := bst HB hb
      clear hb ho23
      obtain ⟨Ao24, co24, eo24⟩ := Kd.R_slice HO456.out
      (first | subst eo24 | (injection eo24 with f1_ f2_ f3_; have f4_ := f1_.symm; have f5_ := f3_.symm; clear f1_ f2_ f3_; subst f4_; subst f5_))
      refine hK.out _ _ ⟨(blk_cell BK450.out 0).trans rfl, (blk_cell BK450.out 1).trans rfl⟩ (fun hHeld => ?_)
      clear hK K
      refine normW 26 ?_
      refine purW 5 27 8 63 HT_ ?_
      refine oneW 6 (some 6) (bm 8 127) HT_ (fun K hK => ?_)
      refine box_step ?hg (N := 6) ?hd (cs := #[.int .i64 0, .slice none 0 0]) (t := 27) ?hr ?_; (case hd => rfl); (case hg => rfl); (case hr => first | (go_simp; done) | (go_simp; rfl))
      intro gb457 hg w25 hbox hb
      replace HO456 := rB HO456 hb
      have BK457 := mkA (hbox)
      have GW457 := geB HB hg
      have GE457 := geB HB hg
      have NB450_457 := neL7 BK450 hg
      have NB457_450 := neR7 BK450 hg
      replace BK450 := blkB BK450 hb
      have NB451_457 := neL7 BK451 hg
      have NB457_451 := neR7 BK451 hg
      replace BK451 := blkB BK451 hb
      replace HB := bst HB hb
      clear hb hbox hg
      refine hK.out _ _ ⟨(blk_cell BK450.out 0).trans rfl, (blk_cell BK450.out 1).trans rfl⟩ (fun hHeld => ?_)
      clear hK K
      refine normW 6 ?_
      exact norm_ (by simp only [putAll, Act.put, List.setIfInBounds_toArray, List.set_cons_zero, List.set_cons_succ]) (hCont (.slice Ao24 y454.length co24, gb457) _ ⟨hHeld, (Kd.R_g HO456.out), (blk_g BK450.out), (blk_g BK451.out), (blk_g BK457.out), GW457.out, GE457.out, NB450_457.out, NB457_450.out, NB451_457.out, NB457_451.out, (bel_g HB.out)⟩)
     ·skip
      refine box_step ?hg (N := 6) ?hd (cs := #[.int .i64 0, .slice none 0 0]) (t := 27) ?hr ?_; (case hd => rfl); (case hg => rfl); (case hr => first | (go_simp; done) | (go_simp; rfl))
      intro gb457 hg w22 hbox hb
      have BK457 := mkA (hbox)
      have GW457 := geB HB hg
      have GE457 := geB HB hg
      have NB450_457 := neL7 BK450 hg
      have NB457_450 := neR7 BK450 hg
      replace BK450 := blkB BK450 hb
      have NB451_457 := neL7 BK451 hg
      have NB457_451 := neR7 BK451 hg
      replace BK451 := blkB BK451 hb
      replace HB := bst HB hb
      clear hb hbox hg
      refine hK.out _ _ ⟨(blk_cell BK450.out 0).trans rfl, (blk_cell BK450.out 1).trans rfl⟩ (fun hHeld => ?_)
      clear hK K
      refine normW 6 ?_
      refine oneW 4 (some 26) (bm 8 95) HT_ (fun K hK => ?_)
      refine Kd.R_make_step (Kd.int .i64) _ 3 (by rfl) (N := 26) rfl 24 _ _ rfl a0_0 rfl rfl Tryd.underlying24 (.int .i64 0) 8 info3 rfl (by decide) (by omega) 0 (ok := fun _ => True) (okp := fun _ => True) rfl (fun _ hk => hk) trivial (ofd) (Nat.le_trans (Nat.mul_le_mul_right _ (ofd : a0_0.toNat ≤ 35184372088832)) (by omega)) (Below.refl _ _) (Nat.le_refl _) ?_
      intro v455 w23 ho24 hb hg_ hnew_
      clear hg_ hnew_
      (first | rw [← Ny454.out] at ho24 | (simp only [Int.reduceToNat] at ho24; rw [← Ny454.out] at ho24))
      have HO456 := rLo ho24 HB
      replace BK450 := blkB BK450 hb
      replace BK451 := blkB BK451 hb
      replace BK457 := blkB BK457 hb
      replace HB := bst HB hb
      clear hb ho24
      obtain ⟨Ao25, co25, eo25⟩ := Kd.R_slice HO456.out
      (first | subst eo25 | (injection eo25 with f1_ f2_ f3_; have f4_ := f1_.symm; have f5_ := f3_.symm; clear f1_ f2_ f3_; subst f4_; subst f5_))
      refine hK.out _ _ ⟨(blk_cell BK450.out 0).trans rfl, (blk_cell BK450.out 1).trans rfl⟩ (fun hHeld => ?_)
      clear hK K
      refine normW 26 ?_
      refine purW 5 27 8 127 HT_ ?_
      exact norm_ (by simp only [putAll, Act.put, List.setIfInBounds_toArray, List.set_cons_zero, List.set_cons_succ]) (hCont (.slice Ao25 y454.length co25, gb457) _ ⟨hHeld, (Kd.R_g HO456.out), (blk_g BK450.out), (blk_g BK451.out), (blk_g BK457.out), GW457.out, GE457.out, NB450_457.out, NB457_450.out, NB451_457.out, NB457_451.out, (bel_g HB.out)⟩)
    rintro ⟨v455, gb457⟩ w26 ⟨hS_, h0_, h1_, h2_, h3_, h4_, h5_, h6_, h7_, h8_, h9_, h10_⟩
    have n0_ : Fc (Kd.R (Kd.int .i64) 3 w26 w.heap.size (fun _ => True) v455 y454) := ⟨h0_⟩
    have n1_ : Fc (w26.heap[gb450]? = some (.cells #[.int .i64 a0_0, .slice A0_1 l0_1.length c0_1] 27 (0, 0))) := ⟨h1_⟩
    have n2_ : Fc (w26.heap[gb451]? = some (.cells #[.int .i64 0, .slice none 0 0] 27 (0, 0))) := ⟨h2_⟩
    have n3_ : Fc (w26.heap[gb457]? = some (.cells #[.int .i64 0, .slice none 0 0] 27 (0, 0))) := ⟨h3_⟩
    have n4_ : Ge w.heap.size gb457 := ⟨h4_⟩
    have n5_ : Ge w.heap.size gb457 := ⟨h5_⟩
    have n6_ : NeB gb450 gb457 := ⟨h6_⟩
    have n7_ : NeB gb457 gb450 := ⟨h7_⟩
    have n8_ : NeB gb451 gb457 := ⟨h8_⟩
    have n9_ : NeB gb457 gb451 := ⟨h9_⟩
    have n10_ : Fc (Below w.heap.size w w26) := ⟨h10_⟩
    clear BK450
    clear BK451
    clear HB
    clear h0_ h1_ h2_ h3_ h4_ h5_ h6_ h7_ h8_ h9_ h10_
    have HO456 := n0_
    have BK450 := n1_
    have BK451 := n2_
    have BK457 := n3_
    have GW457 := n4_
    have GE457 := n5_
    have NB450_457 := n6_
    have NB457_450 := n7_
    have NB451_457 := n8_
    have NB457_451 := n9_
    have HB := n10_
    clear n0_ n1_ n2_ n3_ n4_ n5_ n6_ n7_ n8_ n9_ n10_
    have hHeld : w26.cell? ⟨gb450, 0, none⟩ = some (.int .i64 a0_0) ∧ w26.cell? ⟨gb450, 1, none⟩ = some (.slice A0_1 l0_1.length c0_1) := hS_
    obtain ⟨Ao27, co27, eo27⟩ := Kd.R_slice HO456.out
    (first | subst eo27 | (injection eo27 with f1_ f2_ f3_; have f4_ := f1_.symm; have f5_ := f3_.symm; clear f1_ f2_ f3_; subst f4_; subst f5_))
    refine norm_ (a' := ?_) ?_ ?_
    rotate_left
    ·simp only [putAll, Act.put, List.setIfInBounds_toArray, List.set_cons_zero, List.set_cons_succ]
     rfl
    refine oneW 7 (none) (bm 8 255) HT_ (fun K hK => ?_)
    obtain ⟨_, _, _, _⟩ := blk2 BK457
    refine skip_ (w1 := ?_) (by rfl) rfl ?_ ?_
    rotate_left
    ·go_simp
     rfl
    refine hK.out _ _ ⟨(cF (cF hHeld.1)), (cF (cF hHeld.2))⟩ (fun hHeld => ?_)
    clear hK K
    refine doneW HT_ ?_
    obtain ⟨_, _, _, _⟩ := blk2 BK450
    try go_wp2
    go_loopg [31] kj2 (fun kq v31 w' => ∃ (x31_2 : Int) (x458001_2 : List Int) (u458001 : Value), v31 = .int .i64 x31_2 ∧ Fc (impl_RenameOf.l0 kq l1 l0_1 (l0_1.length : Int) x31_2 a0_0 x458001_2 = some (r1, r2, r3)) ∧ Fc (kq ≤ kj2) ∧ Fc (Kd.R (Kd.int .i64) 3 w' w.heap.size (fun _ => True) u458001 x458001_2) ∧ Fc (w'.heap[gb450]? = some (.cells #[.int .i64 a0_0, (.slice A0_1 l0_1.length c0_1)] 27 (0, 0))) ∧ Fc (w'.heap[gb451]? = some (.cells #[.int .i64 0, (.slice none 0 0)] 27 (0, 0))) ∧ Fc (w'.heap[gb457]? = some (.cells #[.int .i64 a0_0, u458001] 27 (0, 0))) ∧ Fc (Below w.heap.size w w'))
    case atStart => exact ⟨(0), (y454), (.slice Ao27 y454.length co27), eqS, H', ⟨Nat.le_refl _⟩, ⟨Kd.R_g (Kd.R_mono (rF HO456 BK457) (fun _ _ => trivial))⟩, ⟨blkT BK450⟩, ⟨blkT BK451⟩, ⟨blkT BK457⟩, hbg HB⟩
    case round =>
     clear H'
     try clear c1
     try clear c7
     try clear c16
     try clear c19
     try clear c19b0
     try clear c19b1
     try clear c20
     try clear c20b0
     try clear c20b1
     obtain ⟨x31_2, x458001_2, u458001, rfl, HA, HK2, HO_458001, BK450, BK451, BK457, HB⟩ := hrel
     cases gk with
     | zero => exact absurd HA.out (by simp [impl_RenameOf.l0])
     | succ k2 =>
      have H := HA.out
      clear HA
      simp only [impl_RenameOf.l0] at H
      rcases iteE H with ⟨c33b0, H⟩ | ⟨c33b0, H⟩
      ·obtain ⟨c34b0, H⟩ := itND H
       obtain ⟨c35b0, H⟩ := itND H
       obtain ⟨t459, A36, H⟩ := obE H
       have H' := mkA H
       clear H
       obtain ⟨p458, q458, ad458, e458, hx458_0⟩ := atI HR0_1.out x31_2
       cases e458
       replace hx458_0 := (HB.out.cell (World.block_lt_of_cell? w _ hx458_0)).trans hx458_0
       go_wp2_with (first | ((with_reducible refine gate_callee (f := 34) rfl ?_); refine goesQ (some 37) Tryd.func34 #[.int .i64 (rd l0_1 x31_2)] ?_; (with_reducible refine (impl_members.calls k2 (rd l0_1 x31_2) t459 _ ?_ A36.out).mono ?_); exact Tab.below HTAB.out (bel_g HB.out); rintro e w37 ⟨v460, rfl, ho0, hb⟩; refine ⟨_, rfl, ?_⟩; have HO461 := rLo (rN ho0 HO_458001) HB; replace HO_458001 := rE HO_458001 ho0 hb; replace BK450 := blkB BK450 hb; replace BK451 := blkB BK451 hb; replace BK457 := blkB BK457 hb; replace HB := bst HB hb; clear hb ho0; obtain ⟨Ao38, co38, rfl⟩ := Kd.R_slice HO461.out))
       go_loopg [39] k2 (fun kq v39 w' => ∃ (x37_3 : List Int) (x39_3 : Int) (x458001_3 : List Int) (u458001 : Value), v39 = .int .i64 x39_3 ∧ Fc (impl_RenameOf.l1 kq l1 x31_2 l0_1 (l0_1.length : Int) x31_2 x37_3 (t459.length : Int) x39_3 a0_0 x458001_3 = some (r1, r2, r3)) ∧ Fc (kq ≤ k2) ∧ Fc (Kd.R (Kd.int .i64) 3 w' w.heap.size (fun k_ => some k_ ≠ (u458001 : Value).ownBlock) (.slice Ao38 t459.length co38) x37_3) ∧ Fc (Kd.R (Kd.int .i64) 3 w' w.heap.size (fun k_ => some k_ ≠ ((.slice Ao38 t459.length co38) : Value).ownBlock) u458001 x458001_3) ∧ Fc (w'.heap[gb450]? = some (.cells #[.int .i64 a0_0, (.slice (some ad458) l0_1.length c0_1)] 27 (0, 0))) ∧ Fc (w'.heap[gb451]? = some (.cells #[.int .i64 0, (.slice none 0 0)] 27 (0, 0))) ∧ Fc (w'.heap[gb457]? = some (.cells #[.int .i64 a0_0, u458001] 27 (0, 0))) ∧ Fc (Below w.heap.size w w'))
       case atStart => exact ⟨(t459), (0), (x458001_2), (u458001), eqS, H', ⟨Nat.le_refl _⟩, ⟨Kd.R_g (Kd.R_mono HO461.out (fun _ hk => hk.2))⟩, ⟨Kd.R_g (Kd.R_mono HO_458001.out (fun _ hk => hk.2))⟩, bg BK450, bg BK451, bg BK457, hbg HB⟩
       case round =>
        clear H'
        try clear c1
        try clear c7
        try clear c16
        try clear c19
        try clear c19b0
        try clear c19b1
        try clear c20
        try clear c20b0
        try clear c20b1
        try clear c33b0
        try clear c34
        try clear c34b0
        try clear c35
        try clear c35b0
        try clear hx458_0
        try clear p458
        try clear q458
        obtain ⟨x37_3, x39_3, x458001_3, u458001, rfl, HA, HK3, HO_37, HO_458001, BK450, BK451, BK457, HB⟩ := hrel
        have hl37_3 := (Kd.R_reads' HO_37.out).1
        rw [hl37_3] at HO_37
        (try simp only [hl37_3])
        (try simp only [hl37_3] at BK450)
        (try simp only [hl37_3] at BK451)
        (try simp only [hl37_3] at BK457)
        (try simp only [hl37_3] at HO_458001)
        cases gk with
        | zero => exact absurd HA.out (by simp [impl_RenameOf.l1])
        | succ k3 =>
         have H := HA.out
         clear HA
         simp only [impl_RenameOf.l1] at H
         rcases iteE H with ⟨c39b0, H⟩ | ⟨c39b0, H⟩ <;> try rw [hl37_3] at c39b0
         ·obtain ⟨c40b0, H⟩ := itND H
          obtain ⟨c41, H⟩ := itNP H
          have c41b0 := decide_eq_true c41
          (try (have c41l0 := c41b0; simp only [hl37_3] at c41l0))
          clear c41
          obtain ⟨c42b0, H⟩ := itND H
          obtain ⟨c43b0, H⟩ := itND H
          obtain ⟨c44b0, H⟩ := itND H
          obtain ⟨c45b0, H⟩ := itND H
          obtain ⟨c46b0, H⟩ := itND H
          obtain ⟨c47b0, H⟩ := itND H
          obtain ⟨c48b0, c48b1, H⟩ := itNQ H
          obtain ⟨ji49, hji49⟩ : ∃ j_ : Int, (shl .i64 1 (rd l1 (rd x37_3 x39_3))) = j_ := ⟨_, rfl⟩
          first | rw [hji49] at H | simp only [hji49] at H
          have hji49_ : (IntKind.i64.wrap (1 * 2 ^ min (rd l1 (rd x37_3 x39_3)).toNat 64)) = ji49 := hji49
          have hji49z : (rd l1 (rd x37_3 x39_3)) ≤ 64 → (IntKind.i64.wrap (1 * 2 ^ (rd l1 (rd x37_3 x39_3)).toNat)) = ji49 := shl_small hji49
          have hji49u : (IntKind.i64.wrap (2 ^ min (rd l1 (rd x37_3 x39_3)).toNat 64)) = ji49 := by have h_ := hji49_; rw [Int.one_mul] at h_; exact h_
          have hji49v : (rd l1 (rd x37_3 x39_3)) ≤ 64 → (IntKind.i64.wrap (2 ^ (rd l1 (rd x37_3 x39_3)).toNat)) = ji49 := fun hle_ => by have h_ := hji49z hle_; rw [Int.one_mul] at h_; exact h_
          have hji49y : (wrap64 (1 * 2 ^ min (rd l1 (rd x37_3 x39_3)).toNat 64)) = ji49 := (i64_w _).symm.trans hji49_
          have hji49x : (rd l1 (rd x37_3 x39_3)) ≤ 64 → (wrap64 (1 * 2 ^ (rd l1 (rd x37_3 x39_3)).toNat)) = ji49 := fun h_ => (i64_w _).symm.trans (hji49z h_)
          obtain ⟨y466, hy466⟩ : ∃ y_ : List Int, y_ = (x458001_3.set ((rd l1 x31_2) : Int).toNat (Go.bits .or .i64 (rd x458001_3 (rd l1 x31_2)) (ji49))) := ⟨_, rfl⟩
          rw [← hy466] at H
          have Ny466 := mkA hy466
          clear hy466
          have H' := mkA H
          clear H
          obtain ⟨p462, q462, ad462, e462, hx462_0⟩ := atI (Kd.R_reads' HO_37.out).2.2 x39_3
          cases e462
          try go_wp2
          replace HO_37 := mkA (Kd.R_drew HO_37.out)
          replace HO_458001 := mkA (Kd.R_drew HO_458001.out)
          replace BK450 := mkA (blk_drew BK450.out)
          replace BK451 := mkA (blk_drew BK451.out)
          replace BK457 := mkA (blk_drew BK457.out)
          replace HB := mkA (below_drew1 HB.out)
          obtain ⟨p463, q463, ad463, e463, hx463_0⟩ := atI HR1.out x31_2
          have hw463_0 := hx463_0
          cases e463
          replace hx463_0 := (HB.out.cell (World.block_lt_of_cell? w _ hx463_0)).trans hx463_0
          obtain ⟨Ao52, co52, eo52⟩ := Kd.R_slice HO_458001.out
          (first | subst eo52 | (injection eo52 with f1_ f2_ f3_; have f4_ := f1_.symm; have f5_ := f3_.symm; clear f1_ f2_ f3_; subst f4_; subst f5_))
          obtain ⟨p464, q464, ad464, e464, hx464_0⟩ := atI (Kd.R_reads' HO_458001.out).2.2 (rd l1 x31_2)
          cases e464
          obtain ⟨p465, q465, ad465, e465, hx465_0⟩ := atI HR1.out (rd x37_3 x39_3)
          have hw465_0 := hx465_0
          obtain rfl : ad463 = ad465 := (by injection e465)
          replace hx465_0 := (HB.out.cell (World.block_lt_of_cell? w _ hx465_0)).trans hx465_0
          have p50 : 0 ≤ ((rd l1 x31_2) : Int) := ofd
          have q50 : ((rd l1 x31_2) : Int) < ((x458001_3.length : Int) : Int) := ofd
          obtain ⟨go50, co50, eo50, gb50, gl50, cl50, HG50⟩ := Kd.R_form HO_458001.out (by omega)
          (first | cases eo50 | (injection eo50 with ea_ en_ ec_; (first | subst ea_ | (injection ea_ with ea_; subst ea_)); subst ec_; clear en_))
          have GB50 : Ge _ _ := ⟨gb50⟩
          have GG50 := mkA HG50
          clear gb50 gl50 HG50
          (first | simp only [add_plain] at hx464_0 | skip)
          obtain ⟨hx50_0, hf50_0⟩ := Kd.R_celln 0 HO_458001.out ((rd l1 x31_2) : Int) p50 q50
          replace p50 := eq_true p50
          replace q50 := eq_true q50
          have HP53 := Kd.R_putn HO_458001.out ((rd l1 x31_2) : Int) (Go.bits .or .i64 (rd x458001_3 (rd l1 x31_2)) (ji49))
          rw [← Ny466.out] at HP53
          have HQ53 := mkA HP53
          clear HP53
          refine start_ (n := 16) (S := fun w' => w'.cell? ⟨gb457, 0, none⟩ = some (.int .i64 a0_0) ∧ w'.cell? ⟨gb457, 1, none⟩ = some (.slice (some ⟨go50, 0, none⟩) x458001_3.length co52) ∧ w'.cell? (ad463.add (x31_2).toNat) = some (.int .i64 (rd l1 x31_2)) ∧ w'.cell? ⟨go50, ((rd l1 x31_2)).toNat, none⟩ = some (.int .i64 (rd x458001_3 (rd l1 x31_2))) ∧ w'.cell? (ad463.add ((rd x37_3 x39_3)).toNat) = some (.int .i64 (rd l1 (rd x37_3 x39_3)))) (ds := [15]) (bm 16 0) (by kernel_rfl) rfl rfl ⟨(blk_cell BK457.out 0).trans rfl, (blk_cell BK457.out 1).trans rfl, ((HB.out.cell (World.block_lt_of_cell? w _ hw463_0)).trans hw463_0), hx464_0, ((HB.out.cell (World.block_lt_of_cell? w _ hw465_0)).trans hw465_0)⟩ (fun hHeld => ?_); refine with_tabW impl_RenameOf.tab10 impl_RenameOf.bits10 (fun HT_ HW_ => ?_)
          generalize wr.drew = w51 at HO_37 HO_458001 BK450 BK451 BK457 HB GG50 HQ53 hf50_0 hx463_0 hx464_0 hx465_0 hx50_0 hHeld ⊢
          refine purW 0 43 16 1 HT_ ?_
          refine purW 2 45 16 5 HT_ ?_
          refine purW 3 46 16 13 HT_ ?_
          refine purW 4 47 16 29 HT_ ?_
          refine purW 8 51 16 285 HT_ ?_
          refine purW 9 52 16 797 HT_ ?_
          refine purW 10 53 16 1821 HT_ ?_
          refine takeW 1 (some 44) (bm 16 1823) HT_ HW_ hHeld ?_
          refine takeW 5 (some 48) (bm 16 1855) HT_ HW_ hHeld ?_
          refine purW 6 49 16 1919 HT_ ?_
          refine takeW 7 (some 50) (bm 16 2047) HT_ HW_ hHeld ?_
          refine takeW 11 (some 54) (bm 16 4095) HT_ HW_ hHeld ?_
          refine purW 12 55 16 8191 HT_ ?_
          refine purW 13 56 16 16383 HT_ ?_
          refine purW 14 57 16 32767 HT_ ?_
          refine last_ (i := 15) (N := none) (bm 16 65535) rfl rfl (one_of HT_.out (by kernel_rfl)) (by decide) (fun K hK => ?_)
          refine skip_ (w1 := ?_) (by rfl) rfl ?_ ?_
          rotate_left
          ·go_simp
           rfl
          refine hK.out _ _ ?_
          clear hK K
          refine doneW HT_ ?_
          try go_wp2
          (try simp only [← hl37_3])
          go_roundg k3
          case measure => have := HJ2.out; have := HK2.out; have := HK3.out; omega
          case rel => exact ⟨(x37_3), (wrap64 (x39_3 + 1)), (y466), (.slice (some ⟨go50, 0, none⟩) x458001_3.length co52), eqS, H', ⟨by have := HJ2.out; have := HK2.out; have := HK3.out; omega⟩, ⟨by (try simp only [hl37_3]); (with_reducible repeat (first | apply Kd.R_alloc | apply Kd.R_drewN | apply Kd.R_drew)); exact Kd.R_mono (Kd.R_far (p := ⟨go50, ((rd l1 x31_2) : Int).toNat, none⟩) (Kd.R_mono HO_37.out (fun k_ hk => (⟨hk, fun e_ => hk (by rw [e_]; rfl)⟩ : _ ∧ k_ ≠ go50))) (fun _ hk => hk.2) (.int .i64 (Go.bits .or .i64 (rd x458001_3 (rd l1 x31_2)) (ji49)))) (fun _ hk => hk.1)⟩, ⟨by (try simp only [hl37_3]); (with_reducible repeat (first | apply Kd.R_alloc | apply Kd.R_drewN | apply Kd.R_drew)); exact HQ53.out⟩, ⟨by (try simp only [hl37_3]); (with_reducible repeat (first | refine blk_drewN ?_ _ | refine blk_drew ?_ | refine blk_alloc ?_ _)); refine blk_far ?_ (by have h_ := Kd.R_ne HO_458001.out BK450.out (by decide); intro e_; exact h_ (by rw [e_]; rfl)) _; (with_reducible repeat (first | refine blk_drewN ?_ _ | refine blk_drew ?_ | refine blk_alloc ?_ _)); exact BK450.out⟩, ⟨by (try simp only [hl37_3]); (with_reducible repeat (first | refine blk_drewN ?_ _ | refine blk_drew ?_ | refine blk_alloc ?_ _)); refine blk_far ?_ (by have h_ := Kd.R_ne HO_458001.out BK451.out (by decide); intro e_; exact h_ (by rw [e_]; rfl)) _; (with_reducible repeat (first | refine blk_drewN ?_ _ | refine blk_drew ?_ | refine blk_alloc ?_ _)); exact BK451.out⟩, ⟨by (try simp only [hl37_3]); (with_reducible repeat (first | refine blk_drewN ?_ _ | refine blk_drew ?_ | refine blk_alloc ?_ _)); refine blk_far ?_ (by have h_ := Kd.R_ne HO_458001.out BK457.out (by decide); intro e_; exact h_ (by rw [e_]; rfl)) _; (with_reducible repeat (first | refine blk_drewN ?_ _ | refine blk_drew ?_ | refine blk_alloc ?_ _)); exact BK457.out⟩, hbg HB⟩
         ·have H' := mkA H
          clear H
          go_wp2
          (try simp only [← hl37_3])
          go_roundg k3
          case measure => have := HJ2.out; have := HK2.out; have := HK3.out; omega
          case rel => exact ⟨(wrap64 (x31_2 + 1)), (x458001_3), (u458001), eqS, H', ⟨by have := HJ2.out; have := HK2.out; have := HK3.out; omega⟩, ⟨by (try simp only [hl37_3]); (with_reducible repeat (first | apply Kd.R_alloc | apply Kd.R_drewN | apply Kd.R_drew)); exact Kd.R_mono HO_458001.out (fun _ hk => trivial)⟩, ⟨by (try simp only [hl37_3]); (with_reducible repeat (first | refine blk_drewN ?_ _ | refine blk_drew ?_ | refine blk_alloc ?_ _)); exact BK450.out⟩, ⟨by (try simp only [hl37_3]); (with_reducible repeat (first | refine blk_drewN ?_ _ | refine blk_drew ?_ | refine blk_alloc ?_ _)); exact BK451.out⟩, ⟨by (try simp only [hl37_3]); (with_reducible repeat (first | refine blk_drewN ?_ _ | refine blk_drew ?_ | refine blk_alloc ?_ _)); exact BK457.out⟩, hbg HB⟩
      ·simp only [Option.some.injEq, Prod.mk.injEq] at H
       obtain ⟨rfl, rfl, rfl⟩ := H
       obtain ⟨_, _, _, _⟩ := blk2 BK457
       obtain ⟨_, _, _, _⟩ := blk2 BK451
       obtain ⟨Ao59, co59, rfl⟩ := Kd.R_slice HO_458001.out
       go_wp2
       refine bodyPost_ret (results_ct rfl _ _ gb451 27 #[.int .i64 a0_0, .slice Ao59 x458001_2.length co59] (0, 0) _ rfl (blkT BK451) Tryd.underlying27 rfl (by kernel_rfl)) rfl ?_
       exact ⟨_, eqE, Kd.R_g (Kd.R_mono (rF HO_458001 BK451) (fun _ _ => trivial)), bel_g HB.out⟩
end Go.Proofs.YtcalgdljcphjaaaDoor.Q
