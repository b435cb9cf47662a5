import Derived.Test.YtgbdjchdfcodcaaGreatDoorBFnWeakOrders12
namespace Go.Proofs.YtgbdjchdfcodcaaGreatDoor.Q
open Go.RowKit Go.Proofs.YtgbdjchdfcodcaaGreatDoorW.PrintWords Go.Proofs.YtgbdjchdfcodcaaGreatDoorW.PrintLast Go.Proofs.YtgbdjchdfcodcaaGreatDoorW.PrintMore
attribute [local go_sem] max2_int min2_int max_two min_two max_three min_three max_four min_four neB_f
set_option linter.unusedVariables false
set_option maxHeartbeats 8000000
set_option maxRecDepth 100000
set_option linter.unusedSimpArgs false
def impl_MirrorOf.f (k : Nat) (a0_0 : Int) (l0_1 : List Int) : Option (Int × List Int × Bool) := (impl_IsRelation.f k a0_0 l0_1).bind fun t799 => (if t799 = true then ((impl_Order_mirror.f k a0_0 l0_1).bind fun bt800 => (some (bt800.1, bt800.2, true))) else (some (0, ([] : List Int), false)))
theorem impl_MirrorOf.mono : ∀ a0 a1 k, LeO (impl_MirrorOf.f k a0 a1) (impl_MirrorOf.f (k + 1) a0 a1) := by
 intro a0 a1 k
 unfold impl_MirrorOf.f
 repeat' (with_reducible first|apply impl_IsRelation.mono|apply impl_Order_mirror.mono|apply LeO.refl|apply LeO.none|apply LeO.ite|apply LeO.bind|intro)
theorem impl_MirrorOf.calls (k : Nat) (a0_0 : Int) (A0_1 : Option Addr) (c0_1 : Nat) (l0_1 : List Int) (r1 : Int) (r2 : List Int) (r3 : Bool) (w : World) (hr0_1 : Kd.C (Kd.int .i64) w A0_1 l0_1.length l0_1) (hc0_1 : l0_1.length ≤ c0_1) (h : impl_MirrorOf.f k a0_0 l0_1 = some (r1, r2, r3)) :
  Calls Tryz.prog 21 #[.agg #[.int .i64 a0_0, .slice A0_1 l0_1.length c0_1]] w fun e w' => ∃ v1_ : Value, e = .returned (.tuple #[.agg #[.int .i64 r1, v1_], .bool r3]) ∧ Kd.R (Kd.int .i64) 3 w' w.heap.size (fun _ => True) v1_ r2 ∧ Below w.heap.size w w' := by
 have hu26 := Tryz.underlying26
 have HR0_1 := mkA hr0_1
 have HC0_1 := mkA hc0_1
 clear hr0_1 hc0_1
 have HB := mkA (Below.refl w.heap.size w)
 have H := h
 clear h
 unfold impl_MirrorOf.f at H
 obtain ⟨t799, A2, H⟩ := obE H
 by_cases c3 : t799 = true
 ·subst c3
  replace H := ifT H
  obtain ⟨⟨t800, t801⟩, A4, H⟩ := obE H
  dsimp only at H
  simp only [Option.some.injEq, Prod.mk.injEq] at H
  obtain ⟨rfl, rfl, rfl⟩ := H
  go_enter Tryz.func21, Tryz.ntmps21
  go_wp2_with (first | ((with_reducible refine gate_dst (N := 1) rfl ?_); refine boxG HB #[.int .i64 a0_0, .slice A0_1 l0_1.length c0_1] 26 ?_; intro gb797 hg w5 BK797 GE797 hb; replace HB := bst HB hb; clear hb hg) | ((with_reducible refine gate_dst (N := 2) rfl ?_); refine boxG HB #[.int .i64 0, .slice none 0 0] 26 ?_; intro gb798 hg w6 BK798 GE798 hb; have NB797_798 := neL7 BK797 hg; have NB798_797 := neR7 BK797 hg; replace BK797 := blkB BK797 hb; replace HB := bst HB hb; clear hb hg; obtain ⟨_, _, _, _⟩ := blk2 BK797) | ((with_reducible refine gate_callee (f := 30) rfl ?_); refine goesQ (some 5) Tryz.func30 #[.agg #[.int .i64 a0_0, .slice A0_1 l0_1.length c0_1]] ?_; (with_reducible refine (impl_IsRelation.calls k a0_0 _ _ l0_1 true _ ?_ ?_ A2.out).mono ?_); exact C_g HR0_1 HB; exact HC0_1.out; rintro e w9 ⟨rfl, hb⟩; refine ⟨_, rfl, ?_⟩; replace BK797 := blkB BK797 hb; replace BK798 := blkB BK798 hb; replace HB := bst HB hb; clear hb; obtain ⟨_, _, _, _⟩ := blk2 BK797) | ((with_reducible refine gate_callee (f := 35) rfl ?_); refine goesQ (some 9) Tryz.func35 #[.agg #[.int .i64 a0_0, .slice A0_1 l0_1.length c0_1]] ?_; (with_reducible refine (impl_Order_mirror.calls k a0_0 _ _ l0_1 t800 t801 _ ?_ ?_ A4.out).mono ?_); exact C_g HR0_1 HB; exact HC0_1.out; rintro e w11 ⟨v802, rfl, ho0, hb⟩; refine ⟨_, rfl, ?_⟩; have HO803 := rLo ho0 HB; replace BK797 := blkB BK797 hb; replace BK798 := blkB BK798 hb; replace HB := bst HB hb; clear hb ho0; obtain ⟨_, _, _, _⟩ := blk2 BK798; obtain ⟨Ao13, co13, rfl⟩ := Kd.R_slice HO803.out))
  refine bodyPost_ret (results_ct rfl _ _ gb798 26 #[.int .i64 t800, .slice Ao13 t801.length co13] (0, 0) _ rfl (blkT BK798) Tryz.underlying26 rfl (by kernel_rfl)) rfl ?_
  exact ⟨_, eqE, Kd.R_g (Kd.R_mono (rF HO803 BK798) (fun _ _ => trivial)), bel_g HB.out⟩
 ·replace c3 := Bool.eq_false_iff.mpr c3
  subst c3
  replace H := ifF H
  simp only [Option.some.injEq, Prod.mk.injEq] at H
  obtain ⟨rfl, rfl, rfl⟩ := H
  go_enter Tryz.func21, Tryz.ntmps21
  go_wp2_with (first | ((with_reducible refine gate_dst (N := 1) rfl ?_); refine boxG HB #[.int .i64 a0_0, .slice A0_1 l0_1.length c0_1] 26 ?_; intro gb797 hg w14 BK797 GE797 hb; replace HB := bst HB hb; clear hb hg) | ((with_reducible refine gate_dst (N := 2) rfl ?_); refine boxG HB #[.int .i64 0, .slice none 0 0] 26 ?_; intro gb798 hg w15 BK798 GE798 hb; have NB797_798 := neL7 BK797 hg; have NB798_797 := neR7 BK797 hg; replace BK797 := blkB BK797 hb; replace HB := bst HB hb; clear hb hg; obtain ⟨_, _, _, _⟩ := blk2 BK797) | ((with_reducible refine gate_callee (f := 30) rfl ?_); refine goesQ (some 5) Tryz.func30 #[.agg #[.int .i64 a0_0, .slice A0_1 l0_1.length c0_1]] ?_; (with_reducible refine (impl_IsRelation.calls k a0_0 _ _ l0_1 false _ ?_ ?_ A2.out).mono ?_); exact C_g HR0_1 HB; exact HC0_1.out; rintro e w18 ⟨rfl, hb⟩; refine ⟨_, rfl, ?_⟩; replace BK797 := blkB BK797 hb; replace BK798 := blkB BK798 hb; replace HB := bst HB hb; clear hb; obtain ⟨_, _, _, _⟩ := blk2 BK798))
  refine bodyPost_ret (results_ct rfl _ _ gb798 26 #[.int .i64 0, .slice none 0 0] (0, 0) _ rfl (blkT BK798) Tryz.underlying26 rfl (by kernel_rfl)) rfl ?_
  exact ⟨_, eqE, nilE, bel_g HB.out⟩
end Go.Proofs.YtgbdjchdfcodcaaGreatDoor.Q
