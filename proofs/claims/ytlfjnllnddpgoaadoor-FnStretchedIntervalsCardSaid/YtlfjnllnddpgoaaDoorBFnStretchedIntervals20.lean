import Derived.Test.YtlfjnllnddpgoaaDoorBFnStretchedIntervals7
import Derived.Test.YtlfjnllnddpgoaaDoorBFnStretchedIntervals19
namespace Go.Proofs.YtlfjnllnddpgoaaDoor.Q
open Go.RowKit Go.Proofs.YtlfjnllnddpgoaaDoorW.PrintWords Go.Proofs.YtlfjnllnddpgoaaDoorW.PrintLast Go.Proofs.YtlfjnllnddpgoaaDoorW.PrintMore
attribute [local go_sem] max2_int min2_int max_two min_two max_three min_three max_four min_four neB_f
set_option linter.unusedVariables false
set_option maxHeartbeats 8000000
set_option maxRecDepth 100000
set_option linter.unusedSimpArgs false
def impl_InsertInterval.j0 : Nat → Bool → Int → List Int → Int → Int → Option (Int × List Int × Bool)
 | 0, _, _, _, _, _ => none
 | k + 1, x19, x648000, x648001, x649000, x649001 => if x19 = true then (some (0, ([] : List Int), false)) else ((impl_Order_ends.f k x648000 x648001).bind fun t655 => ((some (([(⟨x649000, x649001⟩ : S37)] : List (S37)) : List (S37))).bind fun y658 => (if t655.length + y658.length < 8796093022208 then ((impl_orderOf.f k (t655 ++ y658)).bind fun bt664 => (some (bt664.1, bt664.2, true))) else (none))))
def impl_InsertInterval.f (k : Nat) (a0_0 : Int) (l0_1 : List Int) (a1_0 : Int) (a1_1 : Int) : Option (Int × List Int × Bool) := (impl_isInterval.f k a0_0 l0_1).bind fun t650 => (if t650 = true then ((impl_AreIntervals.f k (([(⟨a1_0, a1_1⟩ : S37)] : List (S37)))).bind fun t654 => (if t654 = true then (impl_InsertInterval.j0 k (a0_0 == 10) a0_0 l0_1 a1_0 a1_1) else (impl_InsertInterval.j0 k true a0_0 l0_1 a1_0 a1_1))) else (impl_InsertInterval.j0 k true a0_0 l0_1 a1_0 a1_1))
theorem impl_InsertInterval.mono_l : ∀ k, (∀ y0 y1 y2 y3 y4, LeO (impl_InsertInterval.j0 k y0 y1 y2 y3 y4) (impl_InsertInterval.j0 (k + 1) y0 y1 y2 y3 y4))
 | 0 => fun _ _ _ _ _ r h => by simp [impl_InsertInterval.j0] at h
 | k + 1 => by
  have ih0 := impl_InsertInterval.mono_l k
  ·intro y0 y1 y2 y3 y4
   unfold impl_InsertInterval.j0
   repeat' (with_reducible first|apply ih0|apply impl_AreIntervals.mono|apply impl_Order_ends.mono|apply impl_isInterval.mono|apply impl_orderOf.mono|apply LeO.refl|apply LeO.none|apply LeO.ite|apply LeO.bind|intro)
theorem impl_InsertInterval.mono : ∀ a0 a1 a2 a3 k, LeO (impl_InsertInterval.f k a0 a1 a2 a3) (impl_InsertInterval.f (k + 1) a0 a1 a2 a3) := by
 intro a0 a1 a2 a3 k
 have ih0 := impl_InsertInterval.mono_l k
 unfold impl_InsertInterval.f
 repeat' (with_reducible first|apply ih0|apply impl_AreIntervals.mono|apply impl_Order_ends.mono|apply impl_isInterval.mono|apply impl_orderOf.mono|apply LeO.refl|apply LeO.none|apply LeO.ite|apply LeO.bind|intro)
def impl_InsertInterval.T3 : Bool × List (List Nat × List Nat) := (true, [([], []), ([0], [0]), ([], []), ([2], [2]), ([1, 3, 1], [1, 3]), ([4, 4], [4]), ([5, 5, 0, 1, 2, 3, 4, 5], [5]), ([6, 0, 1, 2, 3, 4, 5, 6], [])])
def impl_InsertInterval.B3 : List Nat := [0, 1, 0, 4, 15, 31, 63, 127]
theorem impl_InsertInterval.tab3 : rtab .any (opsOf Tryd.f12 3) = impl_InsertInterval.T3 := by kernel_rfl
theorem impl_InsertInterval.bits3 : waitsOk impl_InsertInterval.T3.2 impl_InsertInterval.B3 = true := by kernel_rfl
theorem impl_InsertInterval.calls (k : Nat) (a0_0 : Int) (A0_1 : Option Addr) (c0_1 : Nat) (l0_1 : List Int) (a1_0 : Int) (a1_1 : Int) (r1 : Int) (r2 : List Int) (r3 : Bool) (w : World) (hr0_1 : Kd.C (Kd.int .i64) w A0_1 l0_1.length l0_1) (hc0_1 : l0_1.length ≤ c0_1) (hTAB : Tab w) (h : impl_InsertInterval.f k a0_0 l0_1 a1_0 a1_1 = some (r1, r2, r3)) :
  Calls Tryd.prog 12 #[.agg #[.int .i64 a0_0, .slice A0_1 l0_1.length c0_1], .agg #[.int .i64 a1_0, .int .i64 a1_1]] w fun e w' => ∃ v1_ : Value, e = .returned (.tuple #[.agg #[.int .i64 r1, v1_], .bool r3]) ∧ Kd.R (Kd.int .i64) 3 w' w.heap.size (fun _ => True) v1_ r2 ∧ Below w.heap.size w w' := by
 have HTAB := mkA hTAB
 clear hTAB
 have hu32 := Tryd.underlying32
 have hu37 := Tryd.underlying37
 have HR0_1 := mkA hr0_1
 have HC0_1 := mkA hc0_1
 clear hr0_1 hc0_1
 have HB := mkA (Below.refl w.heap.size w)
 have H := h
 clear h
 unfold impl_InsertInterval.f at H
 have HC3 := mkA H
 clear H
 go_enter Tryd.func12, Tryd.ntmps12
 go_upto_region 1 with (first | ((with_reducible refine gate_dst (N := 2) rfl ?_); (try (refine gate_guard (by rfl) ?_; dsimp only)); refine boxG HB #[.int .i64 a0_0, .slice A0_1 l0_1.length c0_1] 32 ?_; intro gb647 hg w4 BK647 GE647 hb; replace HB := bst HB hb; clear hb hg) | ((with_reducible refine gate_dst (N := 3) rfl ?_); (try (refine gate_guard (by rfl) ?_; dsimp only)); refine boxG HB #[.int .i64 a1_0, .int .i64 a1_1] 37 ?_; intro gb648 hg w5 BK648 GE648 hb; have NB647_648 := neL7 BK647 hg; have NB648_647 := neR7 BK647 hg; replace BK647 := blkB BK647 hb; replace HB := bst HB hb; clear hb hg) | ((with_reducible refine gate_dst (N := 4) rfl ?_); (try (refine gate_guard (by rfl) ?_; dsimp only)); refine boxG HB #[.int .i64 0, .slice none 0 0] 32 ?_; intro gb649 hg w6 BK649 GE649 hb; have NB647_649 := neL7 BK647 hg; have NB649_647 := neR7 BK647 hg; replace BK647 := blkB BK647 hb; have NB648_649 := neL7 BK648 hg; have NB649_648 := neR7 BK648 hg; replace BK648 := blkB BK648 hb; replace HB := bst HB hb; clear hb hg))
 (try simp only [Act.put, List.setIfInBounds_toArray, List.set_cons_zero, List.set_cons_succ])
 go_cut [19] (fun v19 wc => ∃ (kq : Nat) (x19_2 : Bool), v19 = .bool x19_2 ∧ Fc (impl_InsertInterval.j0 kq x19_2 a0_0 l0_1 a1_0 a1_1 = some (r1, r2, r3)) ∧ Fc (kq ≤ k) ∧ Fc (wc.heap[gb647]? = some (.cells #[.int .i64 a0_0, (.slice A0_1 l0_1.length c0_1)] 32 (0, 0))) ∧ Fc (wc.heap[gb648]? = some (.cells #[.int .i64 a1_0, .int .i64 a1_1] 37 (0, 0))) ∧ Fc (wc.heap[gb649]? = some (.cells #[.int .i64 0, (.slice none 0 0)] 32 (0, 0))) ∧ Fc (Below w.heap.size w wc))
 case first =>
  have H := HC3.out
  clear HC3
  obtain ⟨t650, A7, H⟩ := obE H
  by_cases c8 : t650 = true
  ·subst c8
   replace H := ifT H
   obtain ⟨y651, hy651⟩ : ∃ y_ : List (S37), y_ = (([(⟨a1_0, a1_1⟩ : S37)] : List (S37))) := ⟨_, rfl⟩
   rw [← hy651] at H
   have Ny651 := mkA hy651
   clear hy651
   obtain ⟨t654, A9, H⟩ := obE H
   by_cases c10 : t654 = true
   ·subst c10
    replace H := ifT H
    have H' := mkA H
    clear H
    obtain ⟨_, _, _, _⟩ := blk2 BK647
    go_wp2_with (first | ((with_reducible refine gate_callee (f := 31) rfl ?_); refine goesQ (some 7) Tryd.func31 #[.agg #[.int .i64 a0_0, .slice A0_1 l0_1.length c0_1]] ?_; (with_reducible refine (impl_isInterval.calls k a0_0 _ _ l0_1 true _ ?_ ?_ ?_ A7.out).mono ?_); exact C_g HR0_1 HB; exact HC0_1.out; exact Tab.below HTAB.out (bel_g HB.out); rintro e w14 ⟨rfl, hb⟩; refine ⟨_, rfl, ?_⟩; replace BK647 := blkB BK647 hb; replace BK648 := blkB BK648 hb; replace BK649 := blkB BK649 hb; replace HB := bst HB hb; clear hb; obtain ⟨_, _, _, _⟩ := blk2 BK648) | ((with_reducible refine gate_dst (N := 11) rfl ?_); (try (refine gate_guard (by rfl) ?_; dsimp only)); refine Kd.R_lit k37 _ 37 ?hg (N := 11) ?hd (xs := ([(⟨a1_0, a1_1⟩ : S37)] : List (S37))) (inner := [.int .i64 a1_0, .int .i64 a1_1]) (ok := fun _ => True) (okp := fun _ => True) ?hr ?hp (fun _ hk => hk) trivial (Below.refl _ _) (Nat.le_refl _) (by simp) ?_; (case hd => rfl); (case hg => rfl); (case hr => first | (go_simp; done) | (go_simp; rfl)); (case hp => exact (Reps.c2 (show Kd.M k37 _ _ _ (⟨a1_0, a1_1⟩ : S37) [.int .i64 a1_0, .int .i64 a1_1] from (k37_mkM _ _ _ (⟨a1_0, a1_1⟩ : S37) )) (Reps.none _ _))); intro v652 w17 ho18 hb hg_ hnew_; clear hg_ hnew_; (first | rw [← Ny651.out] at ho18 | (simp only [Int.reduceToNat] at ho18; rw [← Ny651.out] at ho18)); have HO653 := rLo (Kd.R_newB ho18 (g := gb648) (o := .cells #[.int .i64 a1_0, .int .i64 a1_1] 37 (0, 0)) (blk_g BK648.out)) HB; replace BK647 := blkB BK647 hb; replace BK648 := blkB BK648 hb; replace BK649 := blkB BK649 hb; replace HB := bst HB hb; clear hb ho18; obtain ⟨Ao19, co19, rfl⟩ := Kd.R_slice HO653.out) | (go_at_call 21; (with_reducible refine (impl_AreIntervals.calls k _ _ y651 true _ ?_ ?_ A9.out).mono ?_); exact rC HO653; exact rL HO653; rintro e w20 ⟨rfl, hb⟩; replace HO653 := rB HO653 hb; replace BK647 := blkB BK647 hb; replace BK648 := blkB BK648 hb; replace BK649 := blkB BK649 hb; replace HB := bst HB hb; clear hb; obtain ⟨_, _, _, _⟩ := blk2 BK647))
    go_meet
    case rel => exact ⟨_, ((a0_0 == 10)), eqS, H', ⟨by first | omega | exact Nat.le_refl _⟩, bg BK647, bg BK648, bg BK649, hbg HB⟩
   ·replace c10 := Bool.eq_false_iff.mpr c10
    subst c10
    replace H := ifF H
    have H' := mkA H
    clear H
    obtain ⟨_, _, _, _⟩ := blk2 BK647
    go_wp2_with (first | ((with_reducible refine gate_callee (f := 31) rfl ?_); refine goesQ (some 7) Tryd.func31 #[.agg #[.int .i64 a0_0, .slice A0_1 l0_1.length c0_1]] ?_; (with_reducible refine (impl_isInterval.calls k a0_0 _ _ l0_1 true _ ?_ ?_ ?_ A7.out).mono ?_); exact C_g HR0_1 HB; exact HC0_1.out; exact Tab.below HTAB.out (bel_g HB.out); rintro e w25 ⟨rfl, hb⟩; refine ⟨_, rfl, ?_⟩; replace BK647 := blkB BK647 hb; replace BK648 := blkB BK648 hb; replace BK649 := blkB BK649 hb; replace HB := bst HB hb; clear hb; obtain ⟨_, _, _, _⟩ := blk2 BK648) | ((with_reducible refine gate_dst (N := 11) rfl ?_); (try (refine gate_guard (by rfl) ?_; dsimp only)); refine Kd.R_lit k37 _ 37 ?hg (N := 11) ?hd (xs := ([(⟨a1_0, a1_1⟩ : S37)] : List (S37))) (inner := [.int .i64 a1_0, .int .i64 a1_1]) (ok := fun _ => True) (okp := fun _ => True) ?hr ?hp (fun _ hk => hk) trivial (Below.refl _ _) (Nat.le_refl _) (by simp) ?_; (case hd => rfl); (case hg => rfl); (case hr => first | (go_simp; done) | (go_simp; rfl)); (case hp => exact (Reps.c2 (show Kd.M k37 _ _ _ (⟨a1_0, a1_1⟩ : S37) [.int .i64 a1_0, .int .i64 a1_1] from (k37_mkM _ _ _ (⟨a1_0, a1_1⟩ : S37) )) (Reps.none _ _))); intro v652 w28 ho29 hb hg_ hnew_; clear hg_ hnew_; (first | rw [← Ny651.out] at ho29 | (simp only [Int.reduceToNat] at ho29; rw [← Ny651.out] at ho29)); have HO653 := rLo (Kd.R_newB ho29 (g := gb648) (o := .cells #[.int .i64 a1_0, .int .i64 a1_1] 37 (0, 0)) (blk_g BK648.out)) HB; replace BK647 := blkB BK647 hb; replace BK648 := blkB BK648 hb; replace BK649 := blkB BK649 hb; replace HB := bst HB hb; clear hb ho29; obtain ⟨Ao30, co30, rfl⟩ := Kd.R_slice HO653.out) | (go_at_call 21; (with_reducible refine (impl_AreIntervals.calls k _ _ y651 false _ ?_ ?_ A9.out).mono ?_); exact rC HO653; exact rL HO653; rintro e w31 ⟨rfl, hb⟩; replace HO653 := rB HO653 hb; replace BK647 := blkB BK647 hb; replace BK648 := blkB BK648 hb; replace BK649 := blkB BK649 hb; replace HB := bst HB hb; clear hb))
    go_meet
    case rel => exact ⟨_, (true), eqS, H', ⟨by first | omega | exact Nat.le_refl _⟩, bg BK647, bg BK648, bg BK649, hbg HB⟩
  ·replace c8 := Bool.eq_false_iff.mpr c8
   subst c8
   replace H := ifF H
   have H' := mkA H
   clear H
   obtain ⟨_, _, _, _⟩ := blk2 BK647
   go_wp2_with (first | ((with_reducible refine gate_callee (f := 31) rfl ?_); refine goesQ (some 7) Tryd.func31 #[.agg #[.int .i64 a0_0, .slice A0_1 l0_1.length c0_1]] ?_; (with_reducible refine (impl_isInterval.calls k a0_0 _ _ l0_1 false _ ?_ ?_ ?_ A7.out).mono ?_); exact C_g HR0_1 HB; exact HC0_1.out; exact Tab.below HTAB.out (bel_g HB.out); rintro e w35 ⟨rfl, hb⟩; refine ⟨_, rfl, ?_⟩; replace BK647 := blkB BK647 hb; replace BK648 := blkB BK648 hb; replace BK649 := blkB BK649 hb; replace HB := bst HB hb; clear hb))
   go_meet
   case rel => exact ⟨_, (true), eqS, H', ⟨by first | omega | exact Nat.le_refl _⟩, bg BK647, bg BK648, bg BK649, hbg HB⟩
 case rest =>
  clear HC3
  try clear c8
  try clear c10
  obtain ⟨kq, x19_2, rfl, HA, HJ2, BK647, BK648, BK649, HB⟩ := hcut
  cases kq with
  | zero => exact absurd HA.out (by simp [impl_InsertInterval.j0])
  | succ kj2 =>
   have H := HA.out
   clear HA
   simp only [impl_InsertInterval.j0] at H
   by_cases c36 : x19_2 = true
   ·subst c36
    replace H := ifT H
    simp only [Option.some.injEq, Prod.mk.injEq] at H
    obtain ⟨rfl, rfl, rfl⟩ := H
    obtain ⟨_, _, _, _⟩ := blk2 BK649
    go_wp2
    refine bodyPost_ret (results_ct rfl _ _ gb649 32 #[.int .i64 0, .slice none 0 0] (0, 0) _ rfl (blkT BK649) Tryd.underlying32 rfl (by kernel_rfl)) rfl ?_
    exact ⟨_, eqE, nilE, bel_g HB.out⟩
   ·replace c36 := Bool.eq_false_iff.mpr c36
    subst c36
    replace H := ifF H
    obtain ⟨t655, A40, H⟩ := obE H
    obtain ⟨y658, Ny658, H⟩ := nmE H
    obtain ⟨c41, H⟩ := itNP H
    have LMc41 := mkA c41
    clear c41
    obtain ⟨y661, hy661⟩ : ∃ y_ : List (S37), y_ = (t655 ++ y658) := ⟨_, rfl⟩
    rw [← hy661] at H
    have Ny661 := mkA hy661
    clear hy661
    obtain ⟨⟨t664, t665⟩, A42, H⟩ := obE H
    dsimp only at H
    simp only [Option.some.injEq, Prod.mk.injEq] at H
    obtain ⟨rfl, rfl, rfl⟩ := H
    try go_wp2
    replace BK647 := mkA (blk_drew BK647.out)
    replace BK648 := mkA (blk_drew BK648.out)
    replace BK649 := mkA (blk_drew BK649.out)
    replace HB := mkA (below_drew1 HB.out)
    refine start_ (n := 8) (S := fun w' => w'.cell? ⟨gb647, 0, none⟩ = some (.int .i64 a0_0) ∧ w'.cell? ⟨gb647, 1, none⟩ = some (.slice A0_1 l0_1.length c0_1) ∧ w'.cell? ⟨gb648, 0, none⟩ = some (.int .i64 a1_0) ∧ w'.cell? ⟨gb648, 1, none⟩ = some (.int .i64 a1_1)) (ds := []) (bm 8 0) (by kernel_rfl) rfl (by kernel_rfl) ⟨(blk_cell BK647.out 0).trans rfl, (blk_cell BK647.out 1).trans rfl, (blk_cell BK648.out 0).trans rfl, (blk_cell BK648.out 1).trans rfl⟩ (fun hHeld => ?_); refine with_tabW impl_InsertInterval.tab3 impl_InsertInterval.bits3 (fun HT_ HW_ => ?_)
    generalize wc.drew = w43 at BK647 BK648 BK649 HB hHeld ⊢
    refine takeW 0 (some 21) (bm 8 1) HT_ HW_ hHeld ?_
    refine takeW 2 (some 23) (bm 8 5) HT_ HW_ hHeld ?_
    refine join_ (σ := Value × Value) 4 (bm 8 15) (fun s_ => [(22, s_.1), (24, s_.2)]) (fun s_ w' => (w'.cell? ⟨gb647, 0, none⟩ = some (.int .i64 a0_0) ∧ w'.cell? ⟨gb647, 1, none⟩ = some (.slice A0_1 l0_1.length c0_1) ∧ w'.cell? ⟨gb648, 0, none⟩ = some (.int .i64 a1_0) ∧ w'.cell? ⟨gb648, 1, none⟩ = some (.int .i64 a1_1)) ∧ (Kd.R k37 37 w' w.heap.size (fun k_ => some k_ ≠ (s_.2 : Value).ownBlock ∧ k_ ≠ gb648) s_.1 t655) ∧ (Kd.R k37 37 w' w.heap.size (fun k_ => some k_ ≠ (s_.1 : Value).ownBlock ∧ k_ ≠ gb648) s_.2 y658) ∧ (w'.heap[gb647]? = some (.cells #[.int .i64 a0_0, .slice A0_1 l0_1.length c0_1] 32 (0, 0))) ∧ (w'.heap[gb648]? = some (.cells #[.int .i64 a1_0, .int .i64 a1_1] 37 (0, 0))) ∧ (w'.heap[gb649]? = some (.cells #[.int .i64 0, .slice none 0 0] 32 (0, 0))) ∧ (Below w.heap.size w w')) ?_ ?_
    rotate_left
    ·intro hCont
     refine two_ (i := 1) (j := 3) (Ni := some 22) (Nj := some 24) (bm 8 7) (bm 8 13) rfl rfl rfl rfl (two_of HT_.out (by kernel_rfl)) (by decide) (by decide) (fun K hK => ?_) (fun K hK => ?_)
     ·skip
      refine goesR Tryd.func32 #[.agg #[.int .i64 a0_0, .slice A0_1 l0_1.length c0_1]] ?_
      with_reducible refine (impl_Order_ends.calls kj2 a0_0 _ _ l0_1 t655 _ ?s1 ?s2 A40.out).mono ?_
      (case s1 => exact C_g HR0_1 HB)
      (case s2 => exact HC0_1.out)
      rintro e w44 ⟨v656, rfl, ho0, hb⟩
      refine ⟨_, rfl, ?_⟩
      have HO657 := rLo (Kd.R_newB ho0 (g := gb648) (o := .cells #[.int .i64 a1_0, .int .i64 a1_1] 37 (0, 0)) (blk_g BK648.out)) HB
      replace BK647 := blkB BK647 hb
      replace BK648 := blkB BK648 hb
      replace BK649 := blkB BK649 hb
      replace HB := bst HB hb
      (try clear hb)
      (try clear hb2)
      (try clear hk)
      (try clear hi)
      (try clear ho0)
      refine hK.out _ _ ⟨(blk_cell BK647.out 0).trans rfl, (blk_cell BK647.out 1).trans rfl, (blk_cell BK648.out 0).trans rfl, (blk_cell BK648.out 1).trans rfl⟩ (fun hHeld => ?_)
      clear hK K
      refine normW 22 ?_
      refine oneW 3 (some 24) (bm 8 15) HT_ (fun K hK => ?_)
      refine Kd.R_lit_step k37 _ 37 ?hg (N := 24) ?hd (xs := ([(⟨a1_0, a1_1⟩ : S37)] : List (S37))) (inner := [.int .i64 a1_0, .int .i64 a1_1]) (ok := fun _ => True) (okp := fun _ => True) ?hr ?hp (fun _ hk => hk) trivial (Below.refl _ _) (Nat.le_refl _) (by simp) ?_; (case hd => rfl); (case hg => rfl); (case hr => first | (go_simp; done) | (go_simp; rfl)); (case hp => exact (Reps.c2 (show Kd.M k37 _ _ _ (⟨a1_0, a1_1⟩ : S37) [.int .i64 a1_0, .int .i64 a1_1] from (k37_mkM _ _ _ (⟨a1_0, a1_1⟩ : S37) )) (Reps.none _ _)))
      intro v659 w45 ho46 hb hg_ hnew_
      clear hg_ hnew_
      (first | rw [← Ny658.out] at ho46 | (simp only [Int.reduceToNat] at ho46; rw [← Ny658.out] at ho46))
      have HO660 := rLo (Kd.R_newB (rN ho46 HO657) (g := gb648) (o := .cells #[.int .i64 a1_0, .int .i64 a1_1] 37 (0, 0)) (blk_g BK648.out)) HB
      replace HO657 := rE HO657 ho46 hb
      replace BK647 := blkB BK647 hb
      replace BK648 := blkB BK648 hb
      replace BK649 := blkB BK649 hb
      replace HB := bst HB hb
      clear hb ho46
      refine hK.out _ _ ⟨(blk_cell BK647.out 0).trans rfl, (blk_cell BK647.out 1).trans rfl, (blk_cell BK648.out 0).trans rfl, (blk_cell BK648.out 1).trans rfl⟩ (fun hHeld => ?_)
      clear hK K
      refine normW 24 ?_
      exact norm_ (by simp only [putAll, Act.put, List.setIfInBounds_toArray, List.set_cons_zero, List.set_cons_succ]) (hCont (v656, v659) _ ⟨hHeld, (Kd.R_g (Kd.R_mono HO657.out (fun _ hk => ⟨hk.2, hk.1.2⟩))), (Kd.R_g (Kd.R_mono HO660.out (fun _ hk => ⟨hk.1.2, hk.2⟩))), (blk_g BK647.out), (blk_g BK648.out), (blk_g BK649.out), (bel_g HB.out)⟩)
     ·skip
      refine Kd.R_lit_step k37 _ 37 ?hg (N := 24) ?hd (xs := ([(⟨a1_0, a1_1⟩ : S37)] : List (S37))) (inner := [.int .i64 a1_0, .int .i64 a1_1]) (ok := fun _ => True) (okp := fun _ => True) ?hr ?hp (fun _ hk => hk) trivial (Below.refl _ _) (Nat.le_refl _) (by simp) ?_; (case hd => rfl); (case hg => rfl); (case hr => first | (go_simp; done) | (go_simp; rfl)); (case hp => exact (Reps.c2 (show Kd.M k37 _ _ _ (⟨a1_0, a1_1⟩ : S37) [.int .i64 a1_0, .int .i64 a1_1] from (k37_mkM _ _ _ (⟨a1_0, a1_1⟩ : S37) )) (Reps.none _ _)))
      intro v659 w44 ho45 hb hg_ hnew_
      clear hg_ hnew_
      (first | rw [← Ny658.out] at ho45 | (simp only [Int.reduceToNat] at ho45; rw [← Ny658.out] at ho45))
      have HO660 := rLo (Kd.R_newB ho45 (g := gb648) (o := .cells #[.int .i64 a1_0, .int .i64 a1_1] 37 (0, 0)) (blk_g BK648.out)) HB
      replace BK647 := blkB BK647 hb
      replace BK648 := blkB BK648 hb
      replace BK649 := blkB BK649 hb
      replace HB := bst HB hb
      clear hb ho45
      refine hK.out _ _ ⟨(blk_cell BK647.out 0).trans rfl, (blk_cell BK647.out 1).trans rfl, (blk_cell BK648.out 0).trans rfl, (blk_cell BK648.out 1).trans rfl⟩ (fun hHeld => ?_)
      clear hK K
      refine normW 24 ?_
      refine oneW 1 (some 22) (bm 8 15) HT_ (fun K hK => ?_)
      refine goesR Tryd.func32 #[.agg #[.int .i64 a0_0, .slice A0_1 l0_1.length c0_1]] ?_
      with_reducible refine (impl_Order_ends.calls kj2 a0_0 _ _ l0_1 t655 _ ?s1 ?s2 A40.out).mono ?_
      (case s1 => exact C_g HR0_1 HB)
      (case s2 => exact HC0_1.out)
      rintro e w46 ⟨v656, rfl, ho0, hb⟩
      refine ⟨_, rfl, ?_⟩
      have HO657 := rLo (Kd.R_newB (rN ho0 HO660) (g := gb648) (o := .cells #[.int .i64 a1_0, .int .i64 a1_1] 37 (0, 0)) (blk_g BK648.out)) HB
      replace HO660 := rE HO660 ho0 hb
      replace BK647 := blkB BK647 hb
      replace BK648 := blkB BK648 hb
      replace BK649 := blkB BK649 hb
      replace HB := bst HB hb
      (try clear hb)
      (try clear hb2)
      (try clear hk)
      (try clear hi)
      (try clear ho0)
      refine hK.out _ _ ⟨(blk_cell BK647.out 0).trans rfl, (blk_cell BK647.out 1).trans rfl, (blk_cell BK648.out 0).trans rfl, (blk_cell BK648.out 1).trans rfl⟩ (fun hHeld => ?_)
      clear hK K
      refine normW 22 ?_
      exact norm_ (by simp only [putAll, Act.put, List.setIfInBounds_toArray, List.set_cons_zero, List.set_cons_succ]) (hCont (v656, v659) _ ⟨hHeld, (Kd.R_g (Kd.R_mono HO657.out (fun _ hk => ⟨hk.1.2, hk.2⟩))), (Kd.R_g (Kd.R_mono HO660.out (fun _ hk => ⟨hk.2, hk.1.2⟩))), (blk_g BK647.out), (blk_g BK648.out), (blk_g BK649.out), (bel_g HB.out)⟩)
    rintro ⟨v656, v659⟩ w47 ⟨hS_, h0_, h1_, h2_, h3_, h4_, h5_⟩
    have n0_ : Fc (Kd.R k37 37 w47 w.heap.size (fun k_ => some k_ ≠ (v659 : Value).ownBlock ∧ k_ ≠ gb648) v656 t655) := ⟨h0_⟩
    have n1_ : Fc (Kd.R k37 37 w47 w.heap.size (fun k_ => some k_ ≠ (v656 : Value).ownBlock ∧ k_ ≠ gb648) v659 y658) := ⟨h1_⟩
    have n2_ : Fc (w47.heap[gb647]? = some (.cells #[.int .i64 a0_0, .slice A0_1 l0_1.length c0_1] 32 (0, 0))) := ⟨h2_⟩
    have n3_ : Fc (w47.heap[gb648]? = some (.cells #[.int .i64 a1_0, .int .i64 a1_1] 37 (0, 0))) := ⟨h3_⟩
    have n4_ : Fc (w47.heap[gb649]? = some (.cells #[.int .i64 0, .slice none 0 0] 32 (0, 0))) := ⟨h4_⟩
    have n5_ : Fc (Below w.heap.size w w47) := ⟨h5_⟩
    clear BK647
    clear BK648
    clear BK649
    clear HB
    clear h0_ h1_ h2_ h3_ h4_ h5_
    have HO657 := n0_
    have HO660 := n1_
    have BK647 := n2_
    have BK648 := n3_
    have BK649 := n4_
    have HB := n5_
    clear n0_ n1_ n2_ n3_ n4_ n5_
    have hHeld : w47.cell? ⟨gb647, 0, none⟩ = some (.int .i64 a0_0) ∧ w47.cell? ⟨gb647, 1, none⟩ = some (.slice A0_1 l0_1.length c0_1) ∧ w47.cell? ⟨gb648, 0, none⟩ = some (.int .i64 a1_0) ∧ w47.cell? ⟨gb648, 1, none⟩ = some (.int .i64 a1_1) := hS_
    obtain ⟨Ao49, co49, eo49⟩ := Kd.R_slice HO660.out
    (first | subst eo49 | (injection eo49 with f1_ f2_ f3_; have f4_ := f1_.symm; have f5_ := f3_.symm; clear f1_ f2_ f3_; subst f4_; subst f5_))
    refine norm_ (a' := ?_) ?_ ?_
    rotate_left
    ·simp only [putAll, Act.put, List.setIfInBounds_toArray, List.set_cons_zero, List.set_cons_succ]
     rfl
    refine oneW 4 (some 25) (bm 8 31) HT_ (fun K hK => ?_)
    refine Kd.R_append_rows_step k37 (w0 := w) w.heap.size (by rfl) (.tmp 22) (.tmp 24) 24 37 (.agg #[(.int .i64 0), (.int .i64 0)]) 16 rfl Tryd.underlying24 info37 rfl (by decide) (by omega) v656 t655 y658 _ _ _ (fun k_ => some k_ ≠ (.slice Ao49 y658.length co49 : Value).ownBlock ∧ k_ ≠ gb648) (fun _ => False) rfl rfl ?aO ?aR (fun _ _ h => h) (fun _ h => h.elim) ?aF ?aB ?aS ?aL ?_
    (case aR => repeat (first | exact (Kd.R_reads' HO660.out).2.2 | (with_reducible refine Kd.C_alloc ?_ _) | (with_reducible refine Kd.C_drewN ?_ _) | (with_reducible refine Kd.C_drew ?_)))
    (case aB => exact (bel_g HB.out))
    (case aF => exact (fun k_ hk => ⟨Kd.fresh' (Kd.R_lt (Kd.R_g HO660.out)) k_ hk, Kd.freshB (g := gb648) (o := .cells #[.int .i64 a1_0, .int .i64 a1_1] 37 (0, 0)) (blk_g BK648.out) k_ hk⟩))
    (case aO => exact (Kd.R_g HO657.out))
    (case aS => exact (below_size (bel_g HB.out)))
    (case aL => have := LMc41.out; omega)
    intro v662 w48 ho hb hg hat
    rw [← Ny661.out] at ho
    replace BK647 := mkA (blk_grown (g := gb647) (o := .cells #[.int .i64 a0_0, .slice A0_1 l0_1.length c0_1] 32 (0, 0)) (blk_g BK647.out) hg (Kd.R_ne HO657.out BK647.out (by decide)))
    replace BK648 := mkA (blk_grown (g := gb648) (o := .cells #[.int .i64 a1_0, .int .i64 a1_1] 37 (0, 0)) (blk_g BK648.out) hg (Kd.R_away HO657.out (fun _ hk => hk.2)))
    replace BK649 := mkA (blk_grown (g := gb649) (o := .cells #[.int .i64 0, .slice none 0 0] 32 (0, 0)) (blk_g BK649.out) hg (Kd.R_ne HO657.out BK649.out (by decide)))
    replace HO660 := mkA (Kd.R_after (ok := (fun k_ => k_ ≠ gb648)) (Kd.R_g (Kd.R_mono HO660.out (fun _ hk => ⟨hk.2, hk.1⟩))) hg hat)
    have HO663 := mkA (ho)
    replace HB := mkA (hb)
    clear HO657
    clear ho hb hg hat
    obtain ⟨Ao50, co50, eo50⟩ := Kd.R_slice HO663.out
    (first | subst eo50 | (injection eo50 with f1_ f2_ f3_; have f4_ := f1_.symm; have f5_ := f3_.symm; clear f1_ f2_ f3_; subst f4_; subst f5_))
    refine hK.out _ _ ⟨(blk_cell BK647.out 0).trans rfl, (blk_cell BK647.out 1).trans rfl, (blk_cell BK648.out 0).trans rfl, (blk_cell BK648.out 1).trans rfl⟩ (fun hHeld => ?_)
    clear hK K
    refine normW 25 ?_
    refine oneW 5 (some 26) (bm 8 63) HT_ (fun K hK => ?_)
    refine goesR Tryd.func27 #[.slice Ao50 y661.length co50] ?_
    with_reducible refine (impl_orderOf.calls kj2 _ _ y661 t664 t665 _ ?s1 ?s2 A42.out).mono ?_
    (case s1 => exact rC HO663)
    (case s2 => exact rL HO663)
    rintro e w51 ⟨v666, rfl, ho0, hb⟩
    refine ⟨_, rfl, ?_⟩
    replace HO660 := rB HO660 hb
    replace HO663 := rB HO663 hb
    have HO667 := rLo ho0 HB
    replace BK647 := blkB BK647 hb
    replace BK648 := blkB BK648 hb
    replace BK649 := blkB BK649 hb
    replace HB := bst HB hb
    (try clear hb)
    (try clear hb2)
    (try clear hk)
    (try clear hi)
    (try clear ho0)
    obtain ⟨Ao53, co53, eo53⟩ := Kd.R_slice HO667.out
    (first | subst eo53 | (injection eo53 with f1_ f2_ f3_; have f4_ := f1_.symm; have f5_ := f3_.symm; clear f1_ f2_ f3_; subst f4_; subst f5_))
    refine hK.out _ _ ⟨(blk_cell BK647.out 0).trans rfl, (blk_cell BK647.out 1).trans rfl, (blk_cell BK648.out 0).trans rfl, (blk_cell BK648.out 1).trans rfl⟩ (fun hHeld => ?_)
    clear hK K
    refine normW 26 ?_
    refine oneW 6 (none) (bm 8 127) HT_ (fun K hK => ?_)
    obtain ⟨_, _, _, _⟩ := blk2 BK649
    refine skip_ (w1 := ?_) (by rfl) rfl ?_ ?_
    rotate_left
    ·go_simp
     rfl
    refine hK.out _ _ ⟨(cF (cF hHeld.1)), (cF (cF hHeld.2.1)), (cF (cF hHeld.2.2.1)), (cF (cF hHeld.2.2.2))⟩ (fun hHeld => ?_)
    clear hK K
    refine purW 7 5 8 255 HT_ ?_
    refine doneW HT_ ?_
    try go_wp2
    refine bodyPost_ret (results_ct rfl _ _ gb649 32 #[.int .i64 t664, .slice Ao53 t665.length co53] (0, 0) _ rfl (blkT BK649) Tryd.underlying32 rfl (by kernel_rfl)) rfl ?_
    exact ⟨_, eqE, Kd.R_g (Kd.R_mono (rF HO667 BK649) (fun _ _ => trivial)), bel_g HB.out⟩
def spec_orList.l0 : Nat → Int → List Int → Int → Option (List Int)
 | 0, _, _, _ => none
 | k + 1, x0, x3, x4 => if 0 ≤ x4 then (if (shr .i64 x0 x4) > 0 then ((spec_orHas.f x0 x4).bind fun t668 => (if t668 = true then (if x3.length < 17592186044416 then (spec_orList.l0 k x0 (x3 ++ [x4]) (wrap64 (x4 + 1))) else (none)) else (spec_orList.l0 k x0 x3 (wrap64 (x4 + 1))))) else (some x3)) else (none)
def spec_orList.f (k : Nat) (a0 : Int) : Option (List Int) := spec_orList.l0 k a0 ([] : List Int) 0
theorem spec_orList.mono_l : ∀ k, (∀ y0 y1 y2, LeO (spec_orList.l0 k y0 y1 y2) (spec_orList.l0 (k + 1) y0 y1 y2))
 | 0 => fun _ _ _ r h => by simp [spec_orList.l0] at h
 | k + 1 => by
  have ih0 := spec_orList.mono_l k
  ·intro y0 y1 y2
   unfold spec_orList.l0
   repeat' (with_reducible first|apply ih0|apply LeO.refl|apply LeO.none|apply LeO.ite|apply LeO.bind|intro)
theorem spec_orList.mono : ∀ a0 k, LeO (spec_orList.f k a0) (spec_orList.f (k + 1) a0) := by
 intro a0 k
 have ih0 := spec_orList.mono_l k
 unfold spec_orList.f
 repeat' (with_reducible first|apply ih0|apply LeO.refl|apply LeO.none|apply LeO.ite|apply LeO.bind|intro)
theorem spec_orList.calls (k : Nat) (a0 : Int) (r : List Int) (w : World) (h : spec_orList.f k a0 = some r) :
  Calls Tryd.prog 61 #[.int .i64 a0] w fun e w' => ∃ v0_ : Value, e = .returned (v0_) ∧ Kd.R (Kd.int .i64) 3 w' w.heap.size (fun _ => True) v0_ r ∧ Below w.heap.size w w' := by
 have HB := mkA (Below.refl w.heap.size w)
 have H := h
 clear h
 unfold spec_orList.f at H
 have H' := mkA H
 clear H
 go_enter Tryd.func61, Tryd.ntmps61
 go_wp2
 go_loopg [3, 4] k (fun kq v3 v4 w' => ∃ (x3_1 : List Int) (x4_1 : Int), v4 = .int .i64 x4_1 ∧ Fc (spec_orList.l0 kq a0 x3_1 x4_1 = some r) ∧ Fc (kq ≤ k) ∧ Fc (Kd.R (Kd.int .i64) 3 w' w.heap.size (fun _ => True) v3 x3_1) ∧ Fc (Below w.heap.size w w'))
 case atStart => exact ⟨(([] : List Int)), (0), eqS, H', ⟨Nat.le_refl _⟩, ⟨nilE⟩, hbg HB⟩
 case round =>
  clear H'
  obtain ⟨x3_1, x4_1, rfl, HA, HK1, HO_3, HB⟩ := hrel
  cases gk with
  | zero => exact absurd HA.out (by simp [spec_orList.l0])
  | succ k1 =>
   have H := HA.out
   clear HA
   simp only [spec_orList.l0] at H
   obtain ⟨c2b0, c2b1, H⟩ := itNQ H
   obtain ⟨ji3, hji3⟩ : ∃ j_ : Int, (shr .i64 a0 x4_1) = j_ := ⟨_, rfl⟩
   first | rw [hji3] at H | simp only [hji3] at H
   have hji3_ : (a0 / 2 ^ min x4_1.toNat 64) = ji3 := hji3
   have hji3z : x4_1 ≤ 64 → (a0 / 2 ^ x4_1.toNat) = ji3 := shr_small hji3
   rcases iteP H with ⟨c4, H⟩ | ⟨c4, H⟩
   ·have c4b0 := decide_eq_true c4
    clear c4
    obtain ⟨t668, A5, H⟩ := obE H
    by_cases c6 : t668 = true
    ·subst c6
     replace H := ifT H
     obtain ⟨c7, H⟩ := itNP H
     have LMc7 := mkA c7
     clear c7
     obtain ⟨y669, hy669⟩ : ∃ y_ : List Int, y_ = (x3_1 ++ [x4_1]) := ⟨_, rfl⟩
     rw [← hy669] at H
     have Ny669 := mkA hy669
     clear hy669
     have H' := mkA H
     clear H
     go_wp2_with (first | ((with_reducible refine gate_callee (f := 51) rfl ?_); refine goesQ (some 13) Tryd.func51 #[.int .i64 a0, .int .i64 x4_1] ?_; (with_reducible refine (spec_orHas.calls a0 x4_1 true _ A5.out).mono ?_); rintro e w' ⟨rfl, ⟨nd, rfl⟩⟩; refine ⟨_, rfl, ?_⟩) | ((with_reducible refine gate_builtin (b := .append) (xs := #[.tmp 14, .tmp 16]) rfl ?_); at_builtin; refine Kd.R_append (Kd.int .i64) (w0 := w) w.heap.size rfl (.tmp 14) (.tmp 16) 30 3 (.int .i64 0) 8 rfl Tryd.underlying30 info3 rfl (by decide) (by omega) u3 x3_1 x4_1 [.int .i64 x4_1] (fun _ => True) (fun _ => False) rfl rfl ?aP (fun _ hk => hk.elim) ?aF ?aO ?aB ?aS ?aL ?_; (case aP => exact rfl); (case aB => exact (bel_g HB.out)); (case aF => exact (fun _ _ => trivial)); (case aO => exact (Kd.R_g HO_3.out)); (case aS => exact (below_size (bel_g HB.out))); (case aL => have := LMc7.out; omega); intro v670 w8 ho hb hg hat; rw [← Ny669.out] at ho; have HO671 := mkA (ho); replace HB := mkA (hb); clear HO_3; clear ho hb hg hat))
     go_roundg k1
     case measure => have := HK1.out; omega
     case rel => exact ⟨(y669), (wrap64 (x4_1 + 1)), eqS, H', ⟨by have := HK1.out; omega⟩, rg HO671, hbg HB⟩
    ·replace c6 := Bool.eq_false_iff.mpr c6
     subst c6
     replace H := ifF H
     have H' := mkA H
     clear H
     go_wp2_with (first | ((with_reducible refine gate_callee (f := 51) rfl ?_); refine goesQ (some 13) Tryd.func51 #[.int .i64 a0, .int .i64 x4_1] ?_; (with_reducible refine (spec_orHas.calls a0 x4_1 false _ A5.out).mono ?_); rintro e w' ⟨rfl, ⟨nd, rfl⟩⟩; refine ⟨_, rfl, ?_⟩))
     go_roundg k1
     case measure => have := HK1.out; omega
     case rel => exact ⟨(x3_1), (wrap64 (x4_1 + 1)), eqS, H', ⟨by have := HK1.out; omega⟩, rg HO_3, hbg HB⟩
   ·have c4b0 := decide_eq_false c4
    clear c4
    obtain rfl := Option.some.inj H
    go_wp2
    go_ret
    exact ⟨_, by first | rfl | (simp [errW_none, errW_some] <;> rfl) | (simp only [← hji3]; first | rfl | (simp [errW_none, errW_some] <;> rfl)) | (simp [*, errW_none, errW_some] <;> rfl), Kd.R_g HO_3.out, bel_g HB.out⟩
end Go.Proofs.YtlfjnllnddpgoaaDoor.Q
