import Derived.Test.YtdmheeenoklijaaDoorBFnSetsAlong24
namespace Go.Proofs.YtdmheeenoklijaaDoor.Q
open Go.RowKit Go.Proofs.YtdmheeenoklijaaDoorW.PrintWords Go.Proofs.YtdmheeenoklijaaDoorW.PrintLast Go.Proofs.YtdmheeenoklijaaDoorW.PrintMore
attribute [local go_sem] max2_int min2_int max_two min_two max_three min_three max_four min_four neB_f
set_option linter.unusedVariables false
set_option maxHeartbeats 8000000
set_option maxRecDepth 100000
set_option linter.unusedSimpArgs false
def impl_Order_has.f (k : Nat) (a0_0 : Int) (l0_1 : List Int) (l1 : List Int) : Option (Bool) := (impl_allWithin.f k l1 0 (wrap64 (a0_0 - 1))).bind fun t906 => (some t906)
theorem impl_Order_has.mono : ∀ a0 a1 a2 k, LeO (impl_Order_has.f k a0 a1 a2) (impl_Order_has.f (k + 1) a0 a1 a2) := by
 intro a0 a1 a2 k
 unfold impl_Order_has.f
 repeat' (with_reducible first|apply impl_allWithin.mono|apply LeO.refl|apply LeO.none|apply LeO.ite|apply LeO.bind|intro)
theorem impl_Order_has.calls (k : Nat) (a0_0 : Int) (A0_1 : Option Addr) (c0_1 : Nat) (l0_1 : List Int) (A1 : Option Addr) (c1 : Nat) (l1 : List Int) (r : Bool) (w : World) (hr0_1 : Kd.C (Kd.int .i64) w A0_1 l0_1.length l0_1) (hc0_1 : l0_1.length ≤ c0_1) (hr1 : Kd.C (Kd.int .i64) w A1 l1.length l1) (hc1 : l1.length ≤ c1) (h : impl_Order_has.f k a0_0 l0_1 l1 = some r) :
  Calls Tryd.prog 52 #[.agg #[.int .i64 a0_0, .slice A0_1 l0_1.length c0_1], .slice A1 l1.length c1] w fun e w' => e = .returned (.bool r) ∧ Below w.heap.size w w' := by
 have hu26 := Tryd.underlying26
 have HR0_1 := mkA hr0_1
 have HC0_1 := mkA hc0_1
 clear hr0_1 hc0_1
 have HR1 := mkA hr1
 have HC1 := mkA hc1
 clear hr1 hc1
 have HB := mkA (Below.refl w.heap.size w)
 have H := h
 clear h
 unfold impl_Order_has.f at H
 obtain ⟨t906, A3, H⟩ := obE H
 obtain rfl := Option.some.inj H
 go_enter Tryd.func52, Tryd.ntmps52
 go_wp2_with (first | ((with_reducible refine gate_dst (N := 2) rfl ?_); refine boxG HB #[.int .i64 a0_0, .slice A0_1 l0_1.length c0_1] 26 ?_; intro gb905 hg w4 BK905 GE905 hb; replace HB := bst HB hb; clear hb hg; obtain ⟨_, _, _, _⟩ := blk2 BK905) | ((with_reducible refine gate_callee (f := 62) rfl ?_); refine goesQ (some 9) Tryd.func62 #[.slice A1 l1.length c1, .int .i64 0, .int .i64 (wrap64 (a0_0 - 1))] ?_; (with_reducible refine (impl_allWithin.calls k _ _ l1 0 (wrap64 (a0_0 - 1)) t906 _ ?_ ?_ A3.out).mono ?_); exact C_g HR1 HB; exact HC1.out; rintro e w' ⟨rfl, ⟨nd, rfl⟩⟩; refine ⟨_, rfl, ?_⟩))
 go_ret
 exact ⟨eqE, bel_g HB.out⟩
def impl_IndifferentTo.f (k : Nat) (a0_0 : Int) (l0_1 : List Int) (a1 : Int) : Option (Int × Bool) := (impl_IsRelation.f k a0_0 l0_1).bind fun t908 => (if t908 = true then ((impl_Order_has.f k a0_0 l0_1 (([a1] : List Int))).bind fun t912 => (if t912 = true then ((impl_Order_indifferent.f k a0_0 l0_1).bind fun t913 => (if 0 ≤ a1 then (if a1 < (t913.length : Int) then (some (rd t913 a1, true)) else (none)) else (none))) else (some (0, false)))) else (some (0, false)))
theorem impl_IndifferentTo.mono : ∀ a0 a1 a2 k, LeO (impl_IndifferentTo.f k a0 a1 a2) (impl_IndifferentTo.f (k + 1) a0 a1 a2) := by
 intro a0 a1 a2 k
 unfold impl_IndifferentTo.f
 repeat' (with_reducible first|apply impl_IsRelation.mono|apply impl_Order_has.mono|apply impl_Order_indifferent.mono|apply LeO.refl|apply LeO.none|apply LeO.ite|apply LeO.bind|intro)
theorem impl_IndifferentTo.calls (k : Nat) (a0_0 : Int) (A0_1 : Option Addr) (c0_1 : Nat) (l0_1 : List Int) (a1 : Int) (r1 : Int) (r2 : Bool) (w : World) (hr0_1 : Kd.C (Kd.int .i64) w A0_1 l0_1.length l0_1) (hc0_1 : l0_1.length ≤ c0_1) (h : impl_IndifferentTo.f k a0_0 l0_1 a1 = some (r1, r2)) :
  Calls Tryd.prog 28 #[.agg #[.int .i64 a0_0, .slice A0_1 l0_1.length c0_1], .int .i64 a1] w fun e w' => e = .returned (.tuple #[.int .i64 r1, .bool r2]) ∧ Below w.heap.size w w' := by
 have hu26 := Tryd.underlying26
 have HR0_1 := mkA hr0_1
 have HC0_1 := mkA hc0_1
 clear hr0_1 hc0_1
 have HB := mkA (Below.refl w.heap.size w)
 have H := h
 clear h
 unfold impl_IndifferentTo.f at H
 obtain ⟨t908, A3, H⟩ := obE H
 by_cases c4 : t908 = true
 ·subst c4
  replace H := ifT H
  obtain ⟨y909, hy909⟩ : ∃ y_ : List Int, y_ = (([a1] : List Int)) := ⟨_, rfl⟩
  rw [← hy909] at H
  have Ny909 := mkA hy909
  clear hy909
  obtain ⟨t912, A5, H⟩ := obE H
  by_cases c6 : t912 = true
  ·subst c6
   replace H := ifT H
   obtain ⟨t913, A7, H⟩ := obE H
   obtain ⟨c8b0, H⟩ := itND H
   obtain ⟨c9b0, H⟩ := itND H
   simp only [Option.some.injEq, Prod.mk.injEq] at H
   obtain ⟨rfl, rfl⟩ := H
   go_enter Tryd.func28, Tryd.ntmps28
   go_wp2_with (first | ((with_reducible refine gate_dst (N := 2) rfl ?_); (try (refine gate_guard (by rfl) ?_; dsimp only)); refine boxG HB #[.int .i64 a0_0, .slice A0_1 l0_1.length c0_1] 26 ?_; intro gb907 hg w10 BK907 GE907 hb; replace HB := bst HB hb; clear hb hg; obtain ⟨_, _, _, _⟩ := blk2 BK907) | ((with_reducible refine gate_callee (f := 35) rfl ?_); refine goesQ (some 7) Tryd.func35 #[.agg #[.int .i64 a0_0, .slice A0_1 l0_1.length c0_1]] ?_; (with_reducible refine (impl_IsRelation.calls k a0_0 _ _ l0_1 true _ ?_ ?_ A3.out).mono ?_); exact C_g HR0_1 HB; exact HC0_1.out; rintro e w12 ⟨rfl, hb⟩; refine ⟨_, rfl, ?_⟩; replace BK907 := blkB BK907 hb; replace HB := bst HB hb; clear hb; obtain ⟨_, _, _, _⟩ := blk2 BK907) | ((with_reducible refine gate_dst (N := 12) rfl ?_); (try (refine gate_guard (by rfl) ?_; dsimp only)); refine litE (Kd.int .i64) 3 ([a1] : List Int) [.int .i64 a1] ?hp ?_; (case hp => exact (Reps.one (show Kd.M (Kd.int .i64) _ _ _ a1 [.int .i64 a1] from rfl) (Reps.none _ _))); intro v910 w14 ho15 hb hg_ hnew_; clear hg_ hnew_; (first | rw [← Ny909.out] at ho15 | (simp only [Int.reduceToNat] at ho15; rw [← Ny909.out] at ho15)); have HO911 := rLo ho15 HB; replace BK907 := blkB BK907 hb; replace HB := bst HB hb; clear hb ho15; obtain ⟨Ao16, co16, rfl⟩ := Kd.R_slice HO911.out) | (go_at_call 52; (with_reducible refine (impl_Order_has.calls k a0_0 _ _ l0_1 _ _ y909 true _ ?_ ?_ ?_ ?_ A5.out).mono ?_); exact C_g HR0_1 HB; exact HC0_1.out; exact rC HO911; exact rL HO911; rintro e w17 ⟨rfl, hb⟩; replace HO911 := rB HO911 hb; replace BK907 := blkB BK907 hb; replace HB := bst HB hb; clear hb; obtain ⟨_, _, _, _⟩ := blk2 BK907) | ((with_reducible refine gate_callee (f := 53) rfl ?_); refine goesQ (some 17) Tryd.func53 #[.agg #[.int .i64 a0_0, .slice A0_1 l0_1.length c0_1]] ?_; (with_reducible refine (impl_Order_indifferent.calls k a0_0 _ _ l0_1 t913 _ ?_ ?_ A7.out).mono ?_); exact C_g HR0_1 HB; exact HC0_1.out; rintro e w19 ⟨v914, rfl, ho0, hb⟩; refine ⟨_, rfl, ?_⟩; have HO915 := rLo (rN ho0 HO911) HB; replace HO911 := rE HO911 ho0 hb; replace BK907 := blkB BK907 hb; replace HB := bst HB hb; clear hb ho0; obtain ⟨Ao20, co20, rfl⟩ := Kd.R_slice HO915.out; have p916 : 0 ≤ (a1 : Int) := ofd; have q916 : a1 < (t913.length : Int) := ofd; obtain ⟨ad916, e916, hx916_0⟩ := Kd.at_int (Kd.R_reads' HO915.out).2.2 a1 p916 q916; cases e916; replace p916 := eq_true p916; replace q916 := eq_true q916))
   go_ret2
   exact ⟨eqE, bel_g HB.out⟩
  ·replace c6 := Bool.eq_false_iff.mpr c6
   subst c6
   replace H := ifF H
   simp only [Option.some.injEq, Prod.mk.injEq] at H
   obtain ⟨rfl, rfl⟩ := H
   go_enter Tryd.func28, Tryd.ntmps28
   go_wp2_with (first | ((with_reducible refine gate_dst (N := 2) rfl ?_); (try (refine gate_guard (by rfl) ?_; dsimp only)); refine boxG HB #[.int .i64 a0_0, .slice A0_1 l0_1.length c0_1] 26 ?_; intro gb907 hg w21 BK907 GE907 hb; replace HB := bst HB hb; clear hb hg; obtain ⟨_, _, _, _⟩ := blk2 BK907) | ((with_reducible refine gate_callee (f := 35) rfl ?_); refine goesQ (some 7) Tryd.func35 #[.agg #[.int .i64 a0_0, .slice A0_1 l0_1.length c0_1]] ?_; (with_reducible refine (impl_IsRelation.calls k a0_0 _ _ l0_1 true _ ?_ ?_ A3.out).mono ?_); exact C_g HR0_1 HB; exact HC0_1.out; rintro e w23 ⟨rfl, hb⟩; refine ⟨_, rfl, ?_⟩; replace BK907 := blkB BK907 hb; replace HB := bst HB hb; clear hb; obtain ⟨_, _, _, _⟩ := blk2 BK907) | ((with_reducible refine gate_dst (N := 12) rfl ?_); (try (refine gate_guard (by rfl) ?_; dsimp only)); refine litE (Kd.int .i64) 3 ([a1] : List Int) [.int .i64 a1] ?hp ?_; (case hp => exact (Reps.one (show Kd.M (Kd.int .i64) _ _ _ a1 [.int .i64 a1] from rfl) (Reps.none _ _))); intro v910 w25 ho26 hb hg_ hnew_; clear hg_ hnew_; (first | rw [← Ny909.out] at ho26 | (simp only [Int.reduceToNat] at ho26; rw [← Ny909.out] at ho26)); have HO911 := rLo ho26 HB; replace BK907 := blkB BK907 hb; replace HB := bst HB hb; clear hb ho26; obtain ⟨Ao27, co27, rfl⟩ := Kd.R_slice HO911.out) | (go_at_call 52; (with_reducible refine (impl_Order_has.calls k a0_0 _ _ l0_1 _ _ y909 false _ ?_ ?_ ?_ ?_ A5.out).mono ?_); exact C_g HR0_1 HB; exact HC0_1.out; exact rC HO911; exact rL HO911; rintro e w28 ⟨rfl, hb⟩; replace HO911 := rB HO911 hb; replace BK907 := blkB BK907 hb; replace HB := bst HB hb; clear hb))
   go_ret2
   exact ⟨eqE, bel_g HB.out⟩
 ·replace c4 := Bool.eq_false_iff.mpr c4
  subst c4
  replace H := ifF H
  simp only [Option.some.injEq, Prod.mk.injEq] at H
  obtain ⟨rfl, rfl⟩ := H
  go_enter Tryd.func28, Tryd.ntmps28
  go_wp2_with (first | ((with_reducible refine gate_dst (N := 2) rfl ?_); (try (refine gate_guard (by rfl) ?_; dsimp only)); refine boxG HB #[.int .i64 a0_0, .slice A0_1 l0_1.length c0_1] 26 ?_; intro gb907 hg w29 BK907 GE907 hb; replace HB := bst HB hb; clear hb hg; obtain ⟨_, _, _, _⟩ := blk2 BK907) | ((with_reducible refine gate_callee (f := 35) rfl ?_); refine goesQ (some 7) Tryd.func35 #[.agg #[.int .i64 a0_0, .slice A0_1 l0_1.length c0_1]] ?_; (with_reducible refine (impl_IsRelation.calls k a0_0 _ _ l0_1 false _ ?_ ?_ A3.out).mono ?_); exact C_g HR0_1 HB; exact HC0_1.out; rintro e w31 ⟨rfl, hb⟩; refine ⟨_, rfl, ?_⟩; replace BK907 := blkB BK907 hb; replace HB := bst HB hb; clear hb))
  go_ret2
  exact ⟨eqE, bel_g HB.out⟩
def laws_pIn.f (a0 : Int) (a1 : Int) : Option (Bool) := if 0 ≤ a1 then (some ((Int.tmod (shr .i64 a0 a1) 2) == 1)) else (none)
theorem laws_pIn.calls (a0 : Int) (a1 : Int) (r : Bool) (w : World) (h : laws_pIn.f a0 a1 = some r) :
  Calls Tryd.prog 29 #[.int .i64 a0, .int .i64 a1] w fun e w' => e = .returned (.bool r) ∧ Drawn0 w w' := by
 have H := h
 clear h
 unfold laws_pIn.f at H
 obtain ⟨c3b0, c3b1, H⟩ := itNQ H
 obtain ⟨ji4, hji4⟩ : ∃ j_ : Int, (shr .i64 a0 a1) = j_ := ⟨_, rfl⟩
 first | rw [hji4] at H | simp only [hji4] at H
 have hji4_ : (a0 / 2 ^ min a1.toNat 64) = ji4 := hji4
 have hji4z : a1 ≤ 64 → (a0 / 2 ^ a1.toNat) = ji4 := shr_small hji4
 obtain rfl := Option.some.inj H
 go_enter Tryd.func29, Tryd.ntmps29
 go_wp2
 go_ret
 exact ⟨by first | rfl | (simp; done) | (simp only [← hji4] <;> (first | rfl | simp)) | (simp [*]; done), by repeat (first | exact Drawn0.refl _ | apply Drawn0.step)⟩
end Go.Proofs.YtdmheeenoklijaaDoor.Q
