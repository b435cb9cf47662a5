import Derived.Test.YtlfjnllnddpgoaaDoorBFnStretchedIntervals22
import Derived.Test.YtlfjnllnddpgoaaDoorBFnStretchedIntervals25
namespace Go.Proofs.YtlfjnllnddpgoaaDoor.Q
open Go.RowKit Go.Proofs.YtlfjnllnddpgoaaDoorW.PrintWords Go.Proofs.YtlfjnllnddpgoaaDoorW.PrintLast Go.Proofs.YtlfjnllnddpgoaaDoorW.PrintMore
attribute [local go_sem] max2_int min2_int max_two min_two max_three min_three max_four min_four neB_f
set_option linter.unusedVariables false
set_option maxHeartbeats 8000000
set_option maxRecDepth 100000
set_option linter.unusedSimpArgs false
def spec_InsertInterval.j0 : Nat → Bool → Int → List Int → Int → Int → Option (Int × List Int × Bool)
 | 0, _, _, _, _, _ => none
 | k + 1, x19, x773000, x773001, x774000, x774001 => if x19 = true then (some (0, ([] : List Int), false)) else ((spec_ivEnds.f k x773000 x773001).bind fun t780 => ((some (([(⟨x774000, x774001⟩ : S37)] : List (S37)) : List (S37))).bind fun y783 => (if t780.length + y783.length < 8796093022208 then ((spec_ivOrder.f k (t780 ++ y783)).bind fun bt789 => (some (bt789.1, bt789.2, true))) else (none))))
def spec_InsertInterval.f (k : Nat) (a0_0 : Int) (l0_1 : List Int) (a1_0 : Int) (a1_1 : Int) : Option (Int × List Int × Bool) := (spec_ivGoodOrder.f k a0_0 l0_1).bind fun t775 => (if t775 = true then ((spec_ivGood.f k (([(⟨a1_0, a1_1⟩ : S37)] : List (S37)))).bind fun t779 => (if t779 = true then (spec_InsertInterval.j0 k (a0_0 == 10) a0_0 l0_1 a1_0 a1_1) else (spec_InsertInterval.j0 k true a0_0 l0_1 a1_0 a1_1))) else (spec_InsertInterval.j0 k true a0_0 l0_1 a1_0 a1_1))
theorem spec_InsertInterval.mono_l : ∀ k, (∀ y0 y1 y2 y3 y4, LeO (spec_InsertInterval.j0 k y0 y1 y2 y3 y4) (spec_InsertInterval.j0 (k + 1) y0 y1 y2 y3 y4))
 | 0 => fun _ _ _ _ _ r h => by simp [spec_InsertInterval.j0] at h
 | k + 1 => by
  have ih0 := spec_InsertInterval.mono_l k
  ·intro y0 y1 y2 y3 y4
   unfold spec_InsertInterval.j0
   repeat' (with_reducible first|apply ih0|apply spec_ivEnds.mono|apply spec_ivGood.mono|apply spec_ivGoodOrder.mono|apply spec_ivOrder.mono|apply LeO.refl|apply LeO.none|apply LeO.ite|apply LeO.bind|intro)
theorem spec_InsertInterval.mono : ∀ a0 a1 a2 a3 k, LeO (spec_InsertInterval.f k a0 a1 a2 a3) (spec_InsertInterval.f (k + 1) a0 a1 a2 a3) := by
 intro a0 a1 a2 a3 k
 have ih0 := spec_InsertInterval.mono_l k
 unfold spec_InsertInterval.f
 repeat' (with_reducible first|apply ih0|apply spec_ivEnds.mono|apply spec_ivGood.mono|apply spec_ivGoodOrder.mono|apply spec_ivOrder.mono|apply LeO.refl|apply LeO.none|apply LeO.ite|apply LeO.bind|intro)
def spec_InsertInterval.T3 : Bool × List (List Nat × List Nat) := (true, [([], []), ([0], [0]), ([], []), ([2], [2]), ([1, 3, 1], [1, 3]), ([4, 4], [4]), ([5, 5, 0, 1, 2, 3, 4, 5], [5]), ([6, 0, 1, 2, 3, 4, 5, 6], [])])
def spec_InsertInterval.B3 : List Nat := [0, 1, 0, 4, 15, 31, 63, 127]
theorem spec_InsertInterval.tab3 : rtab .any (opsOf Tryd.f13 3) = spec_InsertInterval.T3 := by kernel_rfl
theorem spec_InsertInterval.bits3 : waitsOk spec_InsertInterval.T3.2 spec_InsertInterval.B3 = true := by kernel_rfl
theorem spec_InsertInterval.calls (k : Nat) (a0_0 : Int) (A0_1 : Option Addr) (c0_1 : Nat) (l0_1 : List Int) (a1_0 : Int) (a1_1 : Int) (r1 : Int) (r2 : List Int) (r3 : Bool) (w : World) (hr0_1 : Kd.C (Kd.int .i64) w A0_1 l0_1.length l0_1) (hc0_1 : l0_1.length ≤ c0_1) (h : spec_InsertInterval.f k a0_0 l0_1 a1_0 a1_1 = some (r1, r2, r3)) :
  Calls Tryd.prog 13 #[.agg #[.int .i64 a0_0, .slice A0_1 l0_1.length c0_1], .agg #[.int .i64 a1_0, .int .i64 a1_1]] w fun e w' => ∃ v1_ : Value, e = .returned (.tuple #[.agg #[.int .i64 r1, v1_], .bool r3]) ∧ Kd.R (Kd.int .i64) 3 w' w.heap.size (fun _ => True) v1_ r2 ∧ Below w.heap.size w w' := by
 have hu32 := Tryd.underlying32
 have hu37 := Tryd.underlying37
 have HR0_1 := mkA hr0_1
 have HC0_1 := mkA hc0_1
 clear hr0_1 hc0_1
 have HB := mkA (Below.refl w.heap.size w)
 have H := h
 clear h
 unfold spec_InsertInterval.f at H
 have HC3 := mkA H
 clear H
 go_enter Tryd.func13, Tryd.ntmps13
 go_upto_region 1 with (first | ((with_reducible refine gate_dst (N := 2) rfl ?_); (try (refine gate_guard (by rfl) ?_; dsimp only)); refine boxG HB #[.int .i64 a0_0, .slice A0_1 l0_1.length c0_1] 32 ?_; intro gb772 hg w4 BK772 GE772 hb; replace HB := bst HB hb; clear hb hg) | ((with_reducible refine gate_dst (N := 3) rfl ?_); (try (refine gate_guard (by rfl) ?_; dsimp only)); refine boxG HB #[.int .i64 a1_0, .int .i64 a1_1] 37 ?_; intro gb773 hg w5 BK773 GE773 hb; have NB772_773 := neL7 BK772 hg; have NB773_772 := neR7 BK772 hg; replace BK772 := blkB BK772 hb; replace HB := bst HB hb; clear hb hg) | ((with_reducible refine gate_dst (N := 4) rfl ?_); (try (refine gate_guard (by rfl) ?_; dsimp only)); refine boxG HB #[.int .i64 0, .slice none 0 0] 32 ?_; intro gb774 hg w6 BK774 GE774 hb; have NB772_774 := neL7 BK772 hg; have NB774_772 := neR7 BK772 hg; replace BK772 := blkB BK772 hb; have NB773_774 := neL7 BK773 hg; have NB774_773 := neR7 BK773 hg; replace BK773 := blkB BK773 hb; replace HB := bst HB hb; clear hb hg))
 (try simp only [Act.put, List.setIfInBounds_toArray, List.set_cons_zero, List.set_cons_succ])
 go_cut [19] (fun v19 wc => ∃ (kq : Nat) (x19_2 : Bool), v19 = .bool x19_2 ∧ Fc (spec_InsertInterval.j0 kq x19_2 a0_0 l0_1 a1_0 a1_1 = some (r1, r2, r3)) ∧ Fc (kq ≤ k) ∧ Fc (wc.heap[gb772]? = some (.cells #[.int .i64 a0_0, (.slice A0_1 l0_1.length c0_1)] 32 (0, 0))) ∧ Fc (wc.heap[gb773]? = some (.cells #[.int .i64 a1_0, .int .i64 a1_1] 37 (0, 0))) ∧ Fc (wc.heap[gb774]? = some (.cells #[.int .i64 0, (.slice none 0 0)] 32 (0, 0))) ∧ Fc (Below w.heap.size w wc))
 case first =>
  have H := HC3.out
  clear HC3
  obtain ⟨t775, A7, H⟩ := obE H
  by_cases c8 : t775 = true
  ·subst c8
   replace H := ifT H
   obtain ⟨y776, hy776⟩ : ∃ y_ : List (S37), y_ = (([(⟨a1_0, a1_1⟩ : S37)] : List (S37))) := ⟨_, rfl⟩
   rw [← hy776] at H
   have Ny776 := mkA hy776
   clear hy776
   obtain ⟨t779, A9, H⟩ := obE H
   by_cases c10 : t779 = true
   ·subst c10
    replace H := ifT H
    have H' := mkA H
    clear H
    obtain ⟨_, _, _, _⟩ := blk2 BK772
    go_wp2_with (first | ((with_reducible refine gate_callee (f := 33) rfl ?_); refine goesQ (some 7) Tryd.func33 #[.agg #[.int .i64 a0_0, .slice A0_1 l0_1.length c0_1]] ?_; (with_reducible refine (spec_ivGoodOrder.calls k a0_0 _ _ l0_1 true _ ?_ ?_ A7.out).mono ?_); exact C_g HR0_1 HB; exact HC0_1.out; rintro e w14 ⟨rfl, hb⟩; refine ⟨_, rfl, ?_⟩; replace BK772 := blkB BK772 hb; replace BK773 := blkB BK773 hb; replace BK774 := blkB BK774 hb; replace HB := bst HB hb; clear hb; obtain ⟨_, _, _, _⟩ := blk2 BK773) | ((with_reducible refine gate_dst (N := 11) rfl ?_); (try (refine gate_guard (by rfl) ?_; dsimp only)); refine Kd.R_lit k37 _ 37 ?hg (N := 11) ?hd (xs := ([(⟨a1_0, a1_1⟩ : S37)] : List (S37))) (inner := [.int .i64 a1_0, .int .i64 a1_1]) (ok := fun _ => True) (okp := fun _ => True) ?hr ?hp (fun _ hk => hk) trivial (Below.refl _ _) (Nat.le_refl _) (by simp) ?_; (case hd => rfl); (case hg => rfl); (case hr => first | (go_simp; done) | (go_simp; rfl)); (case hp => exact (Reps.c2 (show Kd.M k37 _ _ _ (⟨a1_0, a1_1⟩ : S37) [.int .i64 a1_0, .int .i64 a1_1] from (k37_mkM _ _ _ (⟨a1_0, a1_1⟩ : S37) )) (Reps.none _ _))); intro v777 w17 ho18 hb hg_ hnew_; clear hg_ hnew_; (first | rw [← Ny776.out] at ho18 | (simp only [Int.reduceToNat] at ho18; rw [← Ny776.out] at ho18)); have HO778 := rLo (Kd.R_newB ho18 (g := gb773) (o := .cells #[.int .i64 a1_0, .int .i64 a1_1] 37 (0, 0)) (blk_g BK773.out)) HB; replace BK772 := blkB BK772 hb; replace BK773 := blkB BK773 hb; replace BK774 := blkB BK774 hb; replace HB := bst HB hb; clear hb ho18; obtain ⟨Ao19, co19, rfl⟩ := Kd.R_slice HO778.out) | (go_at_call 24; (with_reducible refine (spec_ivGood.calls k _ _ y776 true _ ?_ ?_ A9.out).mono ?_); exact rC HO778; exact rL HO778; rintro e w20 ⟨rfl, hb⟩; replace HO778 := rB HO778 hb; replace BK772 := blkB BK772 hb; replace BK773 := blkB BK773 hb; replace BK774 := blkB BK774 hb; replace HB := bst HB hb; clear hb; obtain ⟨_, _, _, _⟩ := blk2 BK772))
    go_meet
    case rel => exact ⟨_, ((a0_0 == 10)), eqS, H', ⟨by first | omega | exact Nat.le_refl _⟩, bg BK772, bg BK773, bg BK774, hbg HB⟩
   ·replace c10 := Bool.eq_false_iff.mpr c10
    subst c10
    replace H := ifF H
    have H' := mkA H
    clear H
    obtain ⟨_, _, _, _⟩ := blk2 BK772
    go_wp2_with (first | ((with_reducible refine gate_callee (f := 33) rfl ?_); refine goesQ (some 7) Tryd.func33 #[.agg #[.int .i64 a0_0, .slice A0_1 l0_1.length c0_1]] ?_; (with_reducible refine (spec_ivGoodOrder.calls k a0_0 _ _ l0_1 true _ ?_ ?_ A7.out).mono ?_); exact C_g HR0_1 HB; exact HC0_1.out; rintro e w25 ⟨rfl, hb⟩; refine ⟨_, rfl, ?_⟩; replace BK772 := blkB BK772 hb; replace BK773 := blkB BK773 hb; replace BK774 := blkB BK774 hb; replace HB := bst HB hb; clear hb; obtain ⟨_, _, _, _⟩ := blk2 BK773) | ((with_reducible refine gate_dst (N := 11) rfl ?_); (try (refine gate_guard (by rfl) ?_; dsimp only)); refine Kd.R_lit k37 _ 37 ?hg (N := 11) ?hd (xs := ([(⟨a1_0, a1_1⟩ : S37)] : List (S37))) (inner := [.int .i64 a1_0, .int .i64 a1_1]) (ok := fun _ => True) (okp := fun _ => True) ?hr ?hp (fun _ hk => hk) trivial (Below.refl _ _) (Nat.le_refl _) (by simp) ?_; (case hd => rfl); (case hg => rfl); (case hr => first | (go_simp; done) | (go_simp; rfl)); (case hp => exact (Reps.c2 (show Kd.M k37 _ _ _ (⟨a1_0, a1_1⟩ : S37) [.int .i64 a1_0, .int .i64 a1_1] from (k37_mkM _ _ _ (⟨a1_0, a1_1⟩ : S37) )) (Reps.none _ _))); intro v777 w28 ho29 hb hg_ hnew_; clear hg_ hnew_; (first | rw [← Ny776.out] at ho29 | (simp only [Int.reduceToNat] at ho29; rw [← Ny776.out] at ho29)); have HO778 := rLo (Kd.R_newB ho29 (g := gb773) (o := .cells #[.int .i64 a1_0, .int .i64 a1_1] 37 (0, 0)) (blk_g BK773.out)) HB; replace BK772 := blkB BK772 hb; replace BK773 := blkB BK773 hb; replace BK774 := blkB BK774 hb; replace HB := bst HB hb; clear hb ho29; obtain ⟨Ao30, co30, rfl⟩ := Kd.R_slice HO778.out) | (go_at_call 24; (with_reducible refine (spec_ivGood.calls k _ _ y776 false _ ?_ ?_ A9.out).mono ?_); exact rC HO778; exact rL HO778; rintro e w31 ⟨rfl, hb⟩; replace HO778 := rB HO778 hb; replace BK772 := blkB BK772 hb; replace BK773 := blkB BK773 hb; replace BK774 := blkB BK774 hb; replace HB := bst HB hb; clear hb))
    go_meet
    case rel => exact ⟨_, (true), eqS, H', ⟨by first | omega | exact Nat.le_refl _⟩, bg BK772, bg BK773, bg BK774, hbg HB⟩
  ·replace c8 := Bool.eq_false_iff.mpr c8
   subst c8
   replace H := ifF H
   have H' := mkA H
   clear H
   obtain ⟨_, _, _, _⟩ := blk2 BK772
   go_wp2_with (first | ((with_reducible refine gate_callee (f := 33) rfl ?_); refine goesQ (some 7) Tryd.func33 #[.agg #[.int .i64 a0_0, .slice A0_1 l0_1.length c0_1]] ?_; (with_reducible refine (spec_ivGoodOrder.calls k a0_0 _ _ l0_1 false _ ?_ ?_ A7.out).mono ?_); exact C_g HR0_1 HB; exact HC0_1.out; rintro e w35 ⟨rfl, hb⟩; refine ⟨_, rfl, ?_⟩; replace BK772 := blkB BK772 hb; replace BK773 := blkB BK773 hb; replace BK774 := blkB BK774 hb; replace HB := bst HB hb; clear hb))
   go_meet
   case rel => exact ⟨_, (true), eqS, H', ⟨by first | omega | exact Nat.le_refl _⟩, bg BK772, bg BK773, bg BK774, hbg HB⟩
 case rest =>
  clear HC3
  try clear c8
  try clear c10
  obtain ⟨kq, x19_2, rfl, HA, HJ2, BK772, BK773, BK774, HB⟩ := hcut
  cases kq with
  | zero => exact absurd HA.out (by simp [spec_InsertInterval.j0])
  | succ kj2 =>
   have H := HA.out
   clear HA
   simp only [spec_InsertInterval.j0] at H
   by_cases c36 : x19_2 = true
   ·subst c36
    replace H := ifT H
    simp only [Option.some.injEq, Prod.mk.injEq] at H
    obtain ⟨rfl, rfl, rfl⟩ := H
    obtain ⟨_, _, _, _⟩ := blk2 BK774
    go_wp2
    refine bodyPost_ret (results_ct rfl _ _ gb774 32 #[.int .i64 0, .slice none 0 0] (0, 0) _ rfl (blkT BK774) Tryd.underlying32 rfl (by kernel_rfl)) rfl ?_
    exact ⟨_, eqE, nilE, bel_g HB.out⟩
   ·replace c36 := Bool.eq_false_iff.mpr c36
    subst c36
    replace H := ifF H
    obtain ⟨t780, A40, H⟩ := obE H
    obtain ⟨y783, Ny783, H⟩ := nmE H
    obtain ⟨c41, H⟩ := itNP H
    have LMc41 := mkA c41
    clear c41
    obtain ⟨y786, hy786⟩ : ∃ y_ : List (S37), y_ = (t780 ++ y783) := ⟨_, rfl⟩
    rw [← hy786] at H
    have Ny786 := mkA hy786
    clear hy786
    obtain ⟨⟨t789, t790⟩, A42, H⟩ := obE H
    dsimp only at H
    simp only [Option.some.injEq, Prod.mk.injEq] at H
    obtain ⟨rfl, rfl, rfl⟩ := H
    try go_wp2
    replace BK772 := mkA (blk_drew BK772.out)
    replace BK773 := mkA (blk_drew BK773.out)
    replace BK774 := mkA (blk_drew BK774.out)
    replace HB := mkA (below_drew1 HB.out)
    refine start_ (n := 8) (S := fun w' => w'.cell? ⟨gb772, 0, none⟩ = some (.int .i64 a0_0) ∧ w'.cell? ⟨gb772, 1, none⟩ = some (.slice A0_1 l0_1.length c0_1) ∧ w'.cell? ⟨gb773, 0, none⟩ = some (.int .i64 a1_0) ∧ w'.cell? ⟨gb773, 1, none⟩ = some (.int .i64 a1_1)) (ds := []) (bm 8 0) (by kernel_rfl) rfl (by kernel_rfl) ⟨(blk_cell BK772.out 0).trans rfl, (blk_cell BK772.out 1).trans rfl, (blk_cell BK773.out 0).trans rfl, (blk_cell BK773.out 1).trans rfl⟩ (fun hHeld => ?_); refine with_tabW spec_InsertInterval.tab3 spec_InsertInterval.bits3 (fun HT_ HW_ => ?_)
    generalize wc.drew = w43 at BK772 BK773 BK774 HB hHeld ⊢
    refine takeW 0 (some 21) (bm 8 1) HT_ HW_ hHeld ?_
    refine takeW 2 (some 23) (bm 8 5) HT_ HW_ hHeld ?_
    refine join_ (σ := Value × Value) 4 (bm 8 15) (fun s_ => [(22, s_.1), (24, s_.2)]) (fun s_ w' => (w'.cell? ⟨gb772, 0, none⟩ = some (.int .i64 a0_0) ∧ w'.cell? ⟨gb772, 1, none⟩ = some (.slice A0_1 l0_1.length c0_1) ∧ w'.cell? ⟨gb773, 0, none⟩ = some (.int .i64 a1_0) ∧ w'.cell? ⟨gb773, 1, none⟩ = some (.int .i64 a1_1)) ∧ (Kd.R k37 37 w' w.heap.size (fun k_ => some k_ ≠ (s_.2 : Value).ownBlock ∧ k_ ≠ gb773) s_.1 t780) ∧ (Kd.R k37 37 w' w.heap.size (fun k_ => some k_ ≠ (s_.1 : Value).ownBlock ∧ k_ ≠ gb773) s_.2 y783) ∧ (w'.heap[gb772]? = some (.cells #[.int .i64 a0_0, .slice A0_1 l0_1.length c0_1] 32 (0, 0))) ∧ (w'.heap[gb773]? = some (.cells #[.int .i64 a1_0, .int .i64 a1_1] 37 (0, 0))) ∧ (w'.heap[gb774]? = some (.cells #[.int .i64 0, .slice none 0 0] 32 (0, 0))) ∧ (Below w.heap.size w w')) ?_ ?_
    rotate_left
    ·intro hCont
     refine two_ (i := 1) (j := 3) (Ni := some 22) (Nj := some 24) (bm 8 7) (bm 8 13) rfl rfl rfl rfl (two_of HT_.out (by kernel_rfl)) (by decide) (by decide) (fun K hK => ?_) (fun K hK => ?_)
     ·skip
      refine goesR Tryd.func35 #[.agg #[.int .i64 a0_0, .slice A0_1 l0_1.length c0_1]] ?_
      with_reducible refine (spec_ivEnds.calls kj2 a0_0 _ _ l0_1 t780 _ ?s1 ?s2 A40.out).mono ?_
      (case s1 => exact C_g HR0_1 HB)
      (case s2 => exact HC0_1.out)
      rintro e w44 ⟨v781, rfl, ho0, hb⟩
      refine ⟨_, rfl, ?_⟩
      have HO782 := rLo (Kd.R_newB ho0 (g := gb773) (o := .cells #[.int .i64 a1_0, .int .i64 a1_1] 37 (0, 0)) (blk_g BK773.out)) HB
      replace BK772 := blkB BK772 hb
      replace BK773 := blkB BK773 hb
      replace BK774 := blkB BK774 hb
      replace HB := bst HB hb
      (try clear hb)
      (try clear hb2)
      (try clear hk)
      (try clear hi)
      (try clear ho0)
      refine hK.out _ _ ⟨(blk_cell BK772.out 0).trans rfl, (blk_cell BK772.out 1).trans rfl, (blk_cell BK773.out 0).trans rfl, (blk_cell BK773.out 1).trans rfl⟩ (fun hHeld => ?_)
      clear hK K
      refine normW 22 ?_
      refine oneW 3 (some 24) (bm 8 15) HT_ (fun K hK => ?_)
      refine Kd.R_lit_step k37 _ 37 ?hg (N := 24) ?hd (xs := ([(⟨a1_0, a1_1⟩ : S37)] : List (S37))) (inner := [.int .i64 a1_0, .int .i64 a1_1]) (ok := fun _ => True) (okp := fun _ => True) ?hr ?hp (fun _ hk => hk) trivial (Below.refl _ _) (Nat.le_refl _) (by simp) ?_; (case hd => rfl); (case hg => rfl); (case hr => first | (go_simp; done) | (go_simp; rfl)); (case hp => exact (Reps.c2 (show Kd.M k37 _ _ _ (⟨a1_0, a1_1⟩ : S37) [.int .i64 a1_0, .int .i64 a1_1] from (k37_mkM _ _ _ (⟨a1_0, a1_1⟩ : S37) )) (Reps.none _ _)))
      intro v784 w45 ho46 hb hg_ hnew_
      clear hg_ hnew_
      (first | rw [← Ny783.out] at ho46 | (simp only [Int.reduceToNat] at ho46; rw [← Ny783.out] at ho46))
      have HO785 := rLo (Kd.R_newB (rN ho46 HO782) (g := gb773) (o := .cells #[.int .i64 a1_0, .int .i64 a1_1] 37 (0, 0)) (blk_g BK773.out)) HB
      replace HO782 := rE HO782 ho46 hb
      replace BK772 := blkB BK772 hb
      replace BK773 := blkB BK773 hb
      replace BK774 := blkB BK774 hb
      replace HB := bst HB hb
      clear hb ho46
      refine hK.out _ _ ⟨(blk_cell BK772.out 0).trans rfl, (blk_cell BK772.out 1).trans rfl, (blk_cell BK773.out 0).trans rfl, (blk_cell BK773.out 1).trans rfl⟩ (fun hHeld => ?_)
      clear hK K
      refine normW 24 ?_
      exact norm_ (by simp only [putAll, Act.put, List.setIfInBounds_toArray, List.set_cons_zero, List.set_cons_succ]) (hCont (v781, v784) _ ⟨hHeld, (Kd.R_g (Kd.R_mono HO782.out (fun _ hk => ⟨hk.2, hk.1.2⟩))), (Kd.R_g (Kd.R_mono HO785.out (fun _ hk => ⟨hk.1.2, hk.2⟩))), (blk_g BK772.out), (blk_g BK773.out), (blk_g BK774.out), (bel_g HB.out)⟩)
     ·skip
      refine Kd.R_lit_step k37 _ 37 ?hg (N := 24) ?hd (xs := ([(⟨a1_0, a1_1⟩ : S37)] : List (S37))) (inner := [.int .i64 a1_0, .int .i64 a1_1]) (ok := fun _ => True) (okp := fun _ => True) ?hr ?hp (fun _ hk => hk) trivial (Below.refl _ _) (Nat.le_refl _) (by simp) ?_; (case hd => rfl); (case hg => rfl); (case hr => first | (go_simp; done) | (go_simp; rfl)); (case hp => exact (Reps.c2 (show Kd.M k37 _ _ _ (⟨a1_0, a1_1⟩ : S37) [.int .i64 a1_0, .int .i64 a1_1] from (k37_mkM _ _ _ (⟨a1_0, a1_1⟩ : S37) )) (Reps.none _ _)))
      intro v784 w44 ho45 hb hg_ hnew_
      clear hg_ hnew_
      (first | rw [← Ny783.out] at ho45 | (simp only [Int.reduceToNat] at ho45; rw [← Ny783.out] at ho45))
      have HO785 := rLo (Kd.R_newB ho45 (g := gb773) (o := .cells #[.int .i64 a1_0, .int .i64 a1_1] 37 (0, 0)) (blk_g BK773.out)) HB
      replace BK772 := blkB BK772 hb
      replace BK773 := blkB BK773 hb
      replace BK774 := blkB BK774 hb
      replace HB := bst HB hb
      clear hb ho45
      refine hK.out _ _ ⟨(blk_cell BK772.out 0).trans rfl, (blk_cell BK772.out 1).trans rfl, (blk_cell BK773.out 0).trans rfl, (blk_cell BK773.out 1).trans rfl⟩ (fun hHeld => ?_)
      clear hK K
      refine normW 24 ?_
      refine oneW 1 (some 22) (bm 8 15) HT_ (fun K hK => ?_)
      refine goesR Tryd.func35 #[.agg #[.int .i64 a0_0, .slice A0_1 l0_1.length c0_1]] ?_
      with_reducible refine (spec_ivEnds.calls kj2 a0_0 _ _ l0_1 t780 _ ?s1 ?s2 A40.out).mono ?_
      (case s1 => exact C_g HR0_1 HB)
      (case s2 => exact HC0_1.out)
      rintro e w46 ⟨v781, rfl, ho0, hb⟩
      refine ⟨_, rfl, ?_⟩
      have HO782 := rLo (Kd.R_newB (rN ho0 HO785) (g := gb773) (o := .cells #[.int .i64 a1_0, .int .i64 a1_1] 37 (0, 0)) (blk_g BK773.out)) HB
      replace HO785 := rE HO785 ho0 hb
      replace BK772 := blkB BK772 hb
      replace BK773 := blkB BK773 hb
      replace BK774 := blkB BK774 hb
      replace HB := bst HB hb
      (try clear hb)
      (try clear hb2)
      (try clear hk)
      (try clear hi)
      (try clear ho0)
      refine hK.out _ _ ⟨(blk_cell BK772.out 0).trans rfl, (blk_cell BK772.out 1).trans rfl, (blk_cell BK773.out 0).trans rfl, (blk_cell BK773.out 1).trans rfl⟩ (fun hHeld => ?_)
      clear hK K
      refine normW 22 ?_
      exact norm_ (by simp only [putAll, Act.put, List.setIfInBounds_toArray, List.set_cons_zero, List.set_cons_succ]) (hCont (v781, v784) _ ⟨hHeld, (Kd.R_g (Kd.R_mono HO782.out (fun _ hk => ⟨hk.1.2, hk.2⟩))), (Kd.R_g (Kd.R_mono HO785.out (fun _ hk => ⟨hk.2, hk.1.2⟩))), (blk_g BK772.out), (blk_g BK773.out), (blk_g BK774.out), (bel_g HB.out)⟩)
    rintro ⟨v781, v784⟩ w47 ⟨hS_, h0_, h1_, h2_, h3_, h4_, h5_⟩
    have n0_ : Fc (Kd.R k37 37 w47 w.heap.size (fun k_ => some k_ ≠ (v784 : Value).ownBlock ∧ k_ ≠ gb773) v781 t780) := ⟨h0_⟩
    have n1_ : Fc (Kd.R k37 37 w47 w.heap.size (fun k_ => some k_ ≠ (v781 : Value).ownBlock ∧ k_ ≠ gb773) v784 y783) := ⟨h1_⟩
    have n2_ : Fc (w47.heap[gb772]? = some (.cells #[.int .i64 a0_0, .slice A0_1 l0_1.length c0_1] 32 (0, 0))) := ⟨h2_⟩
    have n3_ : Fc (w47.heap[gb773]? = some (.cells #[.int .i64 a1_0, .int .i64 a1_1] 37 (0, 0))) := ⟨h3_⟩
    have n4_ : Fc (w47.heap[gb774]? = some (.cells #[.int .i64 0, .slice none 0 0] 32 (0, 0))) := ⟨h4_⟩
    have n5_ : Fc (Below w.heap.size w w47) := ⟨h5_⟩
    clear BK772
    clear BK773
    clear BK774
    clear HB
    clear h0_ h1_ h2_ h3_ h4_ h5_
    have HO782 := n0_
    have HO785 := n1_
    have BK772 := n2_
    have BK773 := n3_
    have BK774 := n4_
    have HB := n5_
    clear n0_ n1_ n2_ n3_ n4_ n5_
    have hHeld : w47.cell? ⟨gb772, 0, none⟩ = some (.int .i64 a0_0) ∧ w47.cell? ⟨gb772, 1, none⟩ = some (.slice A0_1 l0_1.length c0_1) ∧ w47.cell? ⟨gb773, 0, none⟩ = some (.int .i64 a1_0) ∧ w47.cell? ⟨gb773, 1, none⟩ = some (.int .i64 a1_1) := hS_
    obtain ⟨Ao49, co49, eo49⟩ := Kd.R_slice HO785.out
    (first | subst eo49 | (injection eo49 with f1_ f2_ f3_; have f4_ := f1_.symm; have f5_ := f3_.symm; clear f1_ f2_ f3_; subst f4_; subst f5_))
    refine norm_ (a' := ?_) ?_ ?_
    rotate_left
    ·simp only [putAll, Act.put, List.setIfInBounds_toArray, List.set_cons_zero, List.set_cons_succ]
     rfl
    refine oneW 4 (some 25) (bm 8 31) HT_ (fun K hK => ?_)
    refine Kd.R_append_rows_step k37 (w0 := w) w.heap.size (by rfl) (.tmp 22) (.tmp 24) 24 37 (.agg #[(.int .i64 0), (.int .i64 0)]) 16 rfl Tryd.underlying24 info37 rfl (by decide) (by omega) v781 t780 y783 _ _ _ (fun k_ => some k_ ≠ (.slice Ao49 y783.length co49 : Value).ownBlock ∧ k_ ≠ gb773) (fun _ => False) rfl rfl ?aO ?aR (fun _ _ h => h) (fun _ h => h.elim) ?aF ?aB ?aS ?aL ?_
    (case aR => repeat (first | exact (Kd.R_reads' HO785.out).2.2 | (with_reducible refine Kd.C_alloc ?_ _) | (with_reducible refine Kd.C_drewN ?_ _) | (with_reducible refine Kd.C_drew ?_)))
    (case aB => exact (bel_g HB.out))
    (case aF => exact (fun k_ hk => ⟨Kd.fresh' (Kd.R_lt (Kd.R_g HO785.out)) k_ hk, Kd.freshB (g := gb773) (o := .cells #[.int .i64 a1_0, .int .i64 a1_1] 37 (0, 0)) (blk_g BK773.out) k_ hk⟩))
    (case aO => exact (Kd.R_g HO782.out))
    (case aS => exact (below_size (bel_g HB.out)))
    (case aL => have := LMc41.out; omega)
    intro v787 w48 ho hb hg hat
    rw [← Ny786.out] at ho
    replace BK772 := mkA (blk_grown (g := gb772) (o := .cells #[.int .i64 a0_0, .slice A0_1 l0_1.length c0_1] 32 (0, 0)) (blk_g BK772.out) hg (Kd.R_ne HO782.out BK772.out (by decide)))
    replace BK773 := mkA (blk_grown (g := gb773) (o := .cells #[.int .i64 a1_0, .int .i64 a1_1] 37 (0, 0)) (blk_g BK773.out) hg (Kd.R_away HO782.out (fun _ hk => hk.2)))
    replace BK774 := mkA (blk_grown (g := gb774) (o := .cells #[.int .i64 0, .slice none 0 0] 32 (0, 0)) (blk_g BK774.out) hg (Kd.R_ne HO782.out BK774.out (by decide)))
    replace HO785 := mkA (Kd.R_after (ok := (fun k_ => k_ ≠ gb773)) (Kd.R_g (Kd.R_mono HO785.out (fun _ hk => ⟨hk.2, hk.1⟩))) hg hat)
    have HO788 := mkA (ho)
    replace HB := mkA (hb)
    clear HO782
    clear ho hb hg hat
    obtain ⟨Ao50, co50, eo50⟩ := Kd.R_slice HO788.out
    (first | subst eo50 | (injection eo50 with f1_ f2_ f3_; have f4_ := f1_.symm; have f5_ := f3_.symm; clear f1_ f2_ f3_; subst f4_; subst f5_))
    refine hK.out _ _ ⟨(blk_cell BK772.out 0).trans rfl, (blk_cell BK772.out 1).trans rfl, (blk_cell BK773.out 0).trans rfl, (blk_cell BK773.out 1).trans rfl⟩ (fun hHeld => ?_)
    clear hK K
    refine normW 25 ?_
    refine oneW 5 (some 26) (bm 8 63) HT_ (fun K hK => ?_)
    refine goesR Tryd.func34 #[.slice Ao50 y786.length co50] ?_
    with_reducible refine (spec_ivOrder.calls kj2 _ _ y786 t789 t790 _ ?s1 ?s2 A42.out).mono ?_
    (case s1 => exact rC HO788)
    (case s2 => exact rL HO788)
    rintro e w51 ⟨v791, rfl, ho0, hb⟩
    refine ⟨_, rfl, ?_⟩
    replace HO785 := rB HO785 hb
    replace HO788 := rB HO788 hb
    have HO792 := rLo ho0 HB
    replace BK772 := blkB BK772 hb
    replace BK773 := blkB BK773 hb
    replace BK774 := blkB BK774 hb
    replace HB := bst HB hb
    (try clear hb)
    (try clear hb2)
    (try clear hk)
    (try clear hi)
    (try clear ho0)
    obtain ⟨Ao53, co53, eo53⟩ := Kd.R_slice HO792.out
    (first | subst eo53 | (injection eo53 with f1_ f2_ f3_; have f4_ := f1_.symm; have f5_ := f3_.symm; clear f1_ f2_ f3_; subst f4_; subst f5_))
    refine hK.out _ _ ⟨(blk_cell BK772.out 0).trans rfl, (blk_cell BK772.out 1).trans rfl, (blk_cell BK773.out 0).trans rfl, (blk_cell BK773.out 1).trans rfl⟩ (fun hHeld => ?_)
    clear hK K
    refine normW 26 ?_
    refine oneW 6 (none) (bm 8 127) HT_ (fun K hK => ?_)
    obtain ⟨_, _, _, _⟩ := blk2 BK774
    refine skip_ (w1 := ?_) (by rfl) rfl ?_ ?_
    rotate_left
    ·go_simp
     rfl
    refine hK.out _ _ ⟨(cF (cF hHeld.1)), (cF (cF hHeld.2.1)), (cF (cF hHeld.2.2.1)), (cF (cF hHeld.2.2.2))⟩ (fun hHeld => ?_)
    clear hK K
    refine purW 7 5 8 255 HT_ ?_
    refine doneW HT_ ?_
    try go_wp2
    refine bodyPost_ret (results_ct rfl _ _ gb774 32 #[.int .i64 t789, .slice Ao53 t790.length co53] (0, 0) _ rfl (blkT BK774) Tryd.underlying32 rfl (by kernel_rfl)) rfl ?_
    exact ⟨_, eqE, Kd.R_g (Kd.R_mono (rF HO792 BK774) (fun _ _ => trivial)), bel_g HB.out⟩
def impl_Order_has.f (k : Nat) (a0_0 : Int) (l0_1 : List Int) (l1 : List Int) : Option (Bool) := (impl_allWithin.f k l1 0 (wrap64 (a0_0 - 1))).bind fun t794 => (some t794)
theorem impl_Order_has.mono : ∀ a0 a1 a2 k, LeO (impl_Order_has.f k a0 a1 a2) (impl_Order_has.f (k + 1) a0 a1 a2) := by
 intro a0 a1 a2 k
 unfold impl_Order_has.f
 repeat' (with_reducible first|apply impl_allWithin.mono|apply LeO.refl|apply LeO.none|apply LeO.ite|apply LeO.bind|intro)
theorem impl_Order_has.calls (k : Nat) (a0_0 : Int) (A0_1 : Option Addr) (c0_1 : Nat) (l0_1 : List Int) (A1 : Option Addr) (c1 : Nat) (l1 : List Int) (r : Bool) (w : World) (hr0_1 : Kd.C (Kd.int .i64) w A0_1 l0_1.length l0_1) (hc0_1 : l0_1.length ≤ c0_1) (hr1 : Kd.C (Kd.int .i64) w A1 l1.length l1) (hc1 : l1.length ≤ c1) (h : impl_Order_has.f k a0_0 l0_1 l1 = some r) :
  Calls Tryd.prog 37 #[.agg #[.int .i64 a0_0, .slice A0_1 l0_1.length c0_1], .slice A1 l1.length c1] w fun e w' => e = .returned (.bool r) ∧ Below w.heap.size w w' := by
 have hu32 := Tryd.underlying32
 have HR0_1 := mkA hr0_1
 have HC0_1 := mkA hc0_1
 clear hr0_1 hc0_1
 have HR1 := mkA hr1
 have HC1 := mkA hc1
 clear hr1 hc1
 have HB := mkA (Below.refl w.heap.size w)
 have H := h
 clear h
 unfold impl_Order_has.f at H
 obtain ⟨t794, A3, H⟩ := obE H
 obtain rfl := Option.some.inj H
 go_enter Tryd.func37, Tryd.ntmps37
 go_wp2_with (first | ((with_reducible refine gate_dst (N := 2) rfl ?_); refine boxG HB #[.int .i64 a0_0, .slice A0_1 l0_1.length c0_1] 32 ?_; intro gb793 hg w4 BK793 GE793 hb; replace HB := bst HB hb; clear hb hg; obtain ⟨_, _, _, _⟩ := blk2 BK793) | ((with_reducible refine gate_callee (f := 53) rfl ?_); refine goesQ (some 9) Tryd.func53 #[.slice A1 l1.length c1, .int .i64 0, .int .i64 (wrap64 (a0_0 - 1))] ?_; (with_reducible refine (impl_allWithin.calls k _ _ l1 0 (wrap64 (a0_0 - 1)) t794 _ ?_ ?_ A3.out).mono ?_); exact C_g HR1 HB; exact HC1.out; rintro e w' ⟨rfl, ⟨nd, rfl⟩⟩; refine ⟨_, rfl, ?_⟩))
 go_ret
 exact ⟨eqE, bel_g HB.out⟩
end Go.Proofs.YtlfjnllnddpgoaaDoor.Q
