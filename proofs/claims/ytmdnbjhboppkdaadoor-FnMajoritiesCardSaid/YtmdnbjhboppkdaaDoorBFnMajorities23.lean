import Derived.Test.YtmdnbjhboppkdaaDoorBFnMajorities22
namespace Go.Proofs.YtmdnbjhboppkdaaDoor.Q
open Go.RowKit Go.Proofs.YtmdnbjhboppkdaaDoorW.PrintWords Go.Proofs.YtmdnbjhboppkdaaDoorW.PrintLast Go.Proofs.YtmdnbjhboppkdaaDoorW.PrintMore
attribute [local go_sem] max2_int min2_int max_two min_two max_three min_three max_four min_four neB_f
set_option linter.unusedVariables false
set_option maxHeartbeats 8000000
set_option maxRecDepth 100000
set_option linter.unusedSimpArgs false
def impl_areOrders.f (k : Nat) (a0_0 : Int) (l0_1 : List Int) (a1_0 : Int) (l1_1 : List Int) : Option (Bool) := (impl_IsOrder.f k a0_0 l0_1).bind fun t741 => (if t741 = true then ((impl_IsOrder.f k a1_0 l1_1).bind fun t742 => (if t742 = true then (some (a0_0 == a1_0)) else (some false))) else (some false))
theorem impl_areOrders.mono : ∀ a0 a1 a2 a3 k, LeO (impl_areOrders.f k a0 a1 a2 a3) (impl_areOrders.f (k + 1) a0 a1 a2 a3) := by
 intro a0 a1 a2 a3 k
 unfold impl_areOrders.f
 repeat' (with_reducible first|apply impl_IsOrder.mono|apply LeO.refl|apply LeO.none|apply LeO.ite|apply LeO.bind|intro)
theorem impl_areOrders.calls (k : Nat) (a0_0 : Int) (A0_1 : Option Addr) (c0_1 : Nat) (l0_1 : List Int) (a1_0 : Int) (A1_1 : Option Addr) (c1_1 : Nat) (l1_1 : List Int) (r : Bool) (w : World) (hr0_1 : Kd.C (Kd.int .i64) w A0_1 l0_1.length l0_1) (hc0_1 : l0_1.length ≤ c0_1) (hr1_1 : Kd.C (Kd.int .i64) w A1_1 l1_1.length l1_1) (hc1_1 : l1_1.length ≤ c1_1) (hTAB : Tab w) (h : impl_areOrders.f k a0_0 l0_1 a1_0 l1_1 = some r) :
  Calls Tryd.prog 33 #[.agg #[.int .i64 a0_0, .slice A0_1 l0_1.length c0_1], .agg #[.int .i64 a1_0, .slice A1_1 l1_1.length c1_1]] w fun e w' => e = .returned (.bool r) ∧ Below w.heap.size w w' := by
 have HTAB := mkA hTAB
 clear hTAB
 have hu28 := Tryd.underlying28
 have HR0_1 := mkA hr0_1
 have HC0_1 := mkA hc0_1
 clear hr0_1 hc0_1
 have HR1_1 := mkA hr1_1
 have HC1_1 := mkA hc1_1
 clear hr1_1 hc1_1
 have HB := mkA (Below.refl w.heap.size w)
 have H := h
 clear h
 unfold impl_areOrders.f at H
 obtain ⟨t741, A3, H⟩ := obE H
 by_cases c4 : t741 = true
 ·subst c4
  replace H := ifT H
  obtain ⟨t742, A5, H⟩ := obE H
  by_cases c6 : t742 = true
  ·subst c6
   replace H := ifT H
   obtain rfl := Option.some.inj H
   go_enter Tryd.func33, Tryd.ntmps33
   go_wp2_with (first | ((with_reducible refine gate_dst (N := 2) rfl ?_); refine boxG HB #[.int .i64 a0_0, .slice A0_1 l0_1.length c0_1] 28 ?_; intro gb739 hg w7 BK739 GE739 hb; replace HB := bst HB hb; clear hb hg) | ((with_reducible refine gate_dst (N := 3) rfl ?_); refine boxG HB #[.int .i64 a1_0, .slice A1_1 l1_1.length c1_1] 28 ?_; intro gb740 hg w8 BK740 GE740 hb; have NB739_740 := neL7 BK739 hg; have NB740_739 := neR7 BK739 hg; replace BK739 := blkB BK739 hb; replace HB := bst HB hb; clear hb hg; obtain ⟨_, _, _, _⟩ := blk2 BK739) | ((with_reducible refine gate_callee (f := 53) rfl ?_); refine goesQ (some 6) Tryd.func53 #[.agg #[.int .i64 a0_0, .slice A0_1 l0_1.length c0_1]] ?_; (with_reducible refine (impl_IsOrder.calls k a0_0 _ _ l0_1 true _ ?_ ?_ ?_ A3.out).mono ?_); exact C_g HR0_1 HB; exact HC0_1.out; exact Tab.below HTAB.out (bel_g HB.out); rintro e w11 ⟨rfl, hb⟩; refine ⟨_, rfl, ?_⟩; replace BK739 := blkB BK739 hb; replace BK740 := blkB BK740 hb; replace HB := bst HB hb; clear hb; obtain ⟨_, _, _, _⟩ := blk2 BK740) | (go_at_call 53; (with_reducible refine (impl_IsOrder.calls k a1_0 _ _ l1_1 true _ ?_ ?_ ?_ A5.out).mono ?_); exact C_g HR1_1 HB; exact HC1_1.out; exact Tab.below HTAB.out (bel_g HB.out); rintro e w13 ⟨rfl, hb⟩; replace BK739 := blkB BK739 hb; replace BK740 := blkB BK740 hb; replace HB := bst HB hb; clear hb; obtain ⟨_, _, _, _⟩ := blk2 BK739; obtain ⟨_, _, _, _⟩ := blk2 BK740))
   go_ret
   exact ⟨eqE, bel_g HB.out⟩
  ·replace c6 := Bool.eq_false_iff.mpr c6
   subst c6
   replace H := ifF H
   obtain rfl := Option.some.inj H
   go_enter Tryd.func33, Tryd.ntmps33
   go_wp2_with (first | ((with_reducible refine gate_dst (N := 2) rfl ?_); refine boxG HB #[.int .i64 a0_0, .slice A0_1 l0_1.length c0_1] 28 ?_; intro gb739 hg w16 BK739 GE739 hb; replace HB := bst HB hb; clear hb hg) | ((with_reducible refine gate_dst (N := 3) rfl ?_); refine boxG HB #[.int .i64 a1_0, .slice A1_1 l1_1.length c1_1] 28 ?_; intro gb740 hg w17 BK740 GE740 hb; have NB739_740 := neL7 BK739 hg; have NB740_739 := neR7 BK739 hg; replace BK739 := blkB BK739 hb; replace HB := bst HB hb; clear hb hg; obtain ⟨_, _, _, _⟩ := blk2 BK739) | ((with_reducible refine gate_callee (f := 53) rfl ?_); refine goesQ (some 6) Tryd.func53 #[.agg #[.int .i64 a0_0, .slice A0_1 l0_1.length c0_1]] ?_; (with_reducible refine (impl_IsOrder.calls k a0_0 _ _ l0_1 true _ ?_ ?_ ?_ A3.out).mono ?_); exact C_g HR0_1 HB; exact HC0_1.out; exact Tab.below HTAB.out (bel_g HB.out); rintro e w20 ⟨rfl, hb⟩; refine ⟨_, rfl, ?_⟩; replace BK739 := blkB BK739 hb; replace BK740 := blkB BK740 hb; replace HB := bst HB hb; clear hb; obtain ⟨_, _, _, _⟩ := blk2 BK740) | (go_at_call 53; (with_reducible refine (impl_IsOrder.calls k a1_0 _ _ l1_1 false _ ?_ ?_ ?_ A5.out).mono ?_); exact C_g HR1_1 HB; exact HC1_1.out; exact Tab.below HTAB.out (bel_g HB.out); rintro e w22 ⟨rfl, hb⟩; replace BK739 := blkB BK739 hb; replace BK740 := blkB BK740 hb; replace HB := bst HB hb; clear hb))
   go_ret
   exact ⟨eqE, bel_g HB.out⟩
 ·replace c4 := Bool.eq_false_iff.mpr c4
  subst c4
  replace H := ifF H
  obtain rfl := Option.some.inj H
  go_enter Tryd.func33, Tryd.ntmps33
  go_wp2_with (first | ((with_reducible refine gate_dst (N := 2) rfl ?_); refine boxG HB #[.int .i64 a0_0, .slice A0_1 l0_1.length c0_1] 28 ?_; intro gb739 hg w23 BK739 GE739 hb; replace HB := bst HB hb; clear hb hg) | ((with_reducible refine gate_dst (N := 3) rfl ?_); refine boxG HB #[.int .i64 a1_0, .slice A1_1 l1_1.length c1_1] 28 ?_; intro gb740 hg w24 BK740 GE740 hb; have NB739_740 := neL7 BK739 hg; have NB740_739 := neR7 BK739 hg; replace BK739 := blkB BK739 hb; replace HB := bst HB hb; clear hb hg; obtain ⟨_, _, _, _⟩ := blk2 BK739) | ((with_reducible refine gate_callee (f := 53) rfl ?_); refine goesQ (some 6) Tryd.func53 #[.agg #[.int .i64 a0_0, .slice A0_1 l0_1.length c0_1]] ?_; (with_reducible refine (impl_IsOrder.calls k a0_0 _ _ l0_1 false _ ?_ ?_ ?_ A3.out).mono ?_); exact C_g HR0_1 HB; exact HC0_1.out; exact Tab.below HTAB.out (bel_g HB.out); rintro e w27 ⟨rfl, hb⟩; refine ⟨_, rfl, ?_⟩; replace BK739 := blkB BK739 hb; replace BK740 := blkB BK740 hb; replace HB := bst HB hb; clear hb))
  go_ret
  exact ⟨eqE, bel_g HB.out⟩
def impl_Order_told.f (a0_0 : Int) (l0_1 : List Int) (a1 : Int) (a2 : Int) : Option (Int) := (impl_Order_better.f a0_0 l0_1 a1 a2).bind fun t744 => (if t744 = true then (some 1) else ((impl_Order_better.f a0_0 l0_1 a2 a1).bind fun t745 => (if t745 = true then (some (-1)) else (some 0))))
theorem impl_Order_told.calls (a0_0 : Int) (A0_1 : Option Addr) (c0_1 : Nat) (l0_1 : List Int) (a1 : Int) (a2 : Int) (r : Int) (w : World) (hr0_1 : Kd.C (Kd.int .i64) w A0_1 l0_1.length l0_1) (hc0_1 : l0_1.length ≤ c0_1) (h : impl_Order_told.f a0_0 l0_1 a1 a2 = some r) :
  Calls Tryd.prog 34 #[.agg #[.int .i64 a0_0, .slice A0_1 l0_1.length c0_1], .int .i64 a1, .int .i64 a2] w fun e w' => e = .returned (.int .i64 r) ∧ Below w.heap.size w w' := by
 have hu28 := Tryd.underlying28
 have HR0_1 := mkA hr0_1
 have HC0_1 := mkA hc0_1
 clear hr0_1 hc0_1
 have HB := mkA (Below.refl w.heap.size w)
 have H := h
 clear h
 unfold impl_Order_told.f at H
 obtain ⟨t744, A4, H⟩ := obE H
 by_cases c5 : t744 = true
 ·subst c5
  replace H := ifT H
  obtain rfl := Option.some.inj H
  go_enter Tryd.func34, Tryd.ntmps34
  go_wp2_with (first | ((with_reducible refine gate_dst (N := 3) rfl ?_); refine boxG HB #[.int .i64 a0_0, .slice A0_1 l0_1.length c0_1] 28 ?_; intro gb743 hg w6 BK743 GE743 hb; replace HB := bst HB hb; clear hb hg; obtain ⟨_, _, _, _⟩ := blk2 BK743) | ((with_reducible refine gate_callee (f := 31) rfl ?_); refine goesQ (some 11) Tryd.func31 #[.agg #[.int .i64 a0_0, .slice A0_1 l0_1.length c0_1], .int .i64 a1, .int .i64 a2] ?_; (with_reducible refine (impl_Order_better.calls a0_0 _ _ l0_1 a1 a2 true _ ?_ ?_ A4.out).mono ?_); exact C_g HR0_1 HB; exact HC0_1.out; rintro e w8 ⟨rfl, hb⟩; refine ⟨_, rfl, ?_⟩; replace BK743 := blkB BK743 hb; replace HB := bst HB hb; clear hb))
  go_ret
  exact ⟨eqE, bel_g HB.out⟩
 ·replace c5 := Bool.eq_false_iff.mpr c5
  subst c5
  replace H := ifF H
  obtain ⟨t745, A9, H⟩ := obE H
  by_cases c10 : t745 = true
  ·subst c10
   replace H := ifT H
   obtain rfl := Option.some.inj H
   go_enter Tryd.func34, Tryd.ntmps34
   go_wp2_with (first | ((with_reducible refine gate_dst (N := 3) rfl ?_); refine boxG HB #[.int .i64 a0_0, .slice A0_1 l0_1.length c0_1] 28 ?_; intro gb743 hg w11 BK743 GE743 hb; replace HB := bst HB hb; clear hb hg; obtain ⟨_, _, _, _⟩ := blk2 BK743) | ((with_reducible refine gate_callee (f := 31) rfl ?_); refine goesQ (some 11) Tryd.func31 #[.agg #[.int .i64 a0_0, .slice A0_1 l0_1.length c0_1], .int .i64 a1, .int .i64 a2] ?_; (with_reducible refine (impl_Order_better.calls a0_0 _ _ l0_1 a1 a2 false _ ?_ ?_ A4.out).mono ?_); exact C_g HR0_1 HB; exact HC0_1.out; rintro e w13 ⟨rfl, hb⟩; refine ⟨_, rfl, ?_⟩; replace BK743 := blkB BK743 hb; replace HB := bst HB hb; clear hb; obtain ⟨_, _, _, _⟩ := blk2 BK743) | ((with_reducible refine gate_callee (f := 31) rfl ?_); refine goesQ (some 16) Tryd.func31 #[.agg #[.int .i64 a0_0, .slice A0_1 l0_1.length c0_1], .int .i64 a2, .int .i64 a1] ?_; (with_reducible refine (impl_Order_better.calls a0_0 _ _ l0_1 a2 a1 true _ ?_ ?_ A9.out).mono ?_); exact C_g HR0_1 HB; exact HC0_1.out; rintro e w15 ⟨rfl, hb⟩; refine ⟨_, rfl, ?_⟩; replace BK743 := blkB BK743 hb; replace HB := bst HB hb; clear hb))
   go_ret
   exact ⟨eqE, bel_g HB.out⟩
  ·replace c10 := Bool.eq_false_iff.mpr c10
   subst c10
   replace H := ifF H
   obtain rfl := Option.some.inj H
   go_enter Tryd.func34, Tryd.ntmps34
   go_wp2_with (first | ((with_reducible refine gate_dst (N := 3) rfl ?_); refine boxG HB #[.int .i64 a0_0, .slice A0_1 l0_1.length c0_1] 28 ?_; intro gb743 hg w16 BK743 GE743 hb; replace HB := bst HB hb; clear hb hg; obtain ⟨_, _, _, _⟩ := blk2 BK743) | ((with_reducible refine gate_callee (f := 31) rfl ?_); refine goesQ (some 11) Tryd.func31 #[.agg #[.int .i64 a0_0, .slice A0_1 l0_1.length c0_1], .int .i64 a1, .int .i64 a2] ?_; (with_reducible refine (impl_Order_better.calls a0_0 _ _ l0_1 a1 a2 false _ ?_ ?_ A4.out).mono ?_); exact C_g HR0_1 HB; exact HC0_1.out; rintro e w18 ⟨rfl, hb⟩; refine ⟨_, rfl, ?_⟩; replace BK743 := blkB BK743 hb; replace HB := bst HB hb; clear hb; obtain ⟨_, _, _, _⟩ := blk2 BK743) | ((with_reducible refine gate_callee (f := 31) rfl ?_); refine goesQ (some 16) Tryd.func31 #[.agg #[.int .i64 a0_0, .slice A0_1 l0_1.length c0_1], .int .i64 a2, .int .i64 a1] ?_; (with_reducible refine (impl_Order_better.calls a0_0 _ _ l0_1 a2 a1 false _ ?_ ?_ A9.out).mono ?_); exact C_g HR0_1 HB; exact HC0_1.out; rintro e w20 ⟨rfl, hb⟩; refine ⟨_, rfl, ?_⟩; replace BK743 := blkB BK743 hb; replace HB := bst HB hb; clear hb))
   go_ret
   exact ⟨eqE, bel_g HB.out⟩
mutual
def impl_PairDistance.l0 : Nat → Int → Int → Int → Int → List Int → Int → List Int → Option (Int × Bool)
 | 0, _, _, _, _, _, _, _ => none
 | k + 1, x6, x15, x16, x747000, x747001, x748000, x748001 => if x16 < x15 then (impl_PairDistance.l1 k x6 x16 x15 x16 x16 0 x747000 x747001 x748000 x748001) else (some (x6, true))
def impl_PairDistance.l1 : Nat → Int → Int → Int → Int → Int → Int → Int → List Int → Int → List Int → Option (Int × Bool)
 | 0, _, _, _, _, _, _, _, _, _, _ => none
 | k + 1, x6, x7, x15, x16, x19, x20, x747000, x747001, x748000, x748001 => if x20 < x19 then ((impl_Order_told.f x747000 x747001 x7 x20).bind fun t749 => ((impl_Order_told.f x748000 x748001 x7 x20).bind fun t750 => (impl_PairDistance.l1 k (wrap64 (x6 + (mx (wrap64 (t749 - t750)) (wrap64 (-(wrap64 (t749 - t750))))))) x7 x15 x16 x19 (wrap64 (x20 + 1)) x747000 x747001 x748000 x748001))) else (impl_PairDistance.l0 k x6 x15 (wrap64 (x16 + 1)) x747000 x747001 x748000 x748001)
end
def impl_PairDistance.f (k : Nat) (a0_0 : Int) (l0_1 : List Int) (a1_0 : Int) (l1_1 : List Int) : Option (Int × Bool) := (impl_areOrders.f k a0_0 l0_1 a1_0 l1_1).bind fun t748 => (if t748 = true then (impl_PairDistance.l0 k 0 a0_0 0 a0_0 l0_1 a1_0 l1_1) else (some (0, false)))
theorem impl_PairDistance.mono_l : ∀ k, (∀ y0 y1 y2 y3 y4 y5 y6, LeO (impl_PairDistance.l0 k y0 y1 y2 y3 y4 y5 y6) (impl_PairDistance.l0 (k + 1) y0 y1 y2 y3 y4 y5 y6)) ∧ (∀ y0 y1 y2 y3 y4 y5 y6 y7 y8 y9, LeO (impl_PairDistance.l1 k y0 y1 y2 y3 y4 y5 y6 y7 y8 y9) (impl_PairDistance.l1 (k + 1) y0 y1 y2 y3 y4 y5 y6 y7 y8 y9))
 | 0 => ⟨fun _ _ _ _ _ _ _ r h => by simp [impl_PairDistance.l0] at h, fun _ _ _ _ _ _ _ _ _ _ r h => by simp [impl_PairDistance.l1] at h⟩
 | k + 1 => by
  obtain ⟨ih0, ih1⟩ := impl_PairDistance.mono_l k
  refine ⟨?_, ?_⟩ <;> intros
  unfold impl_PairDistance.l0
  rotate_left
  unfold impl_PairDistance.l1
  rotate_left
  all_goals repeat' (with_reducible first|apply ih0|apply ih1|apply impl_areOrders.mono|apply LeO.refl|apply LeO.none|apply LeO.ite|apply LeO.bind|intro)
theorem impl_PairDistance.mono : ∀ a0 a1 a2 a3 k, LeO (impl_PairDistance.f k a0 a1 a2 a3) (impl_PairDistance.f (k + 1) a0 a1 a2 a3) := by
 intro a0 a1 a2 a3 k
 obtain ⟨ih0, ih1⟩ := impl_PairDistance.mono_l k
 unfold impl_PairDistance.f
 repeat' (with_reducible first|apply ih0|apply ih1|apply impl_areOrders.mono|apply LeO.refl|apply LeO.none|apply LeO.ite|apply LeO.bind|intro)
def impl_PairDistance.T10 : Bool × List (List Nat × List Nat) := (true, [([], []), ([], []), ([], []), ([0, 1, 2], [0, 1, 2]), ([], []), ([], []), ([], []), ([4, 5, 6, 3], [4, 5, 6]), ([3, 7], [3, 7]), ([8, 7, 0, 1, 2, 3, 4, 5, 6, 7, 8], [8])])
def impl_PairDistance.B10 : List Nat := [0, 0, 0, 7, 0, 0, 0, 127, 255, 511]
theorem impl_PairDistance.tab10 : rtab .any (opsOf Tryd.f16 10) = impl_PairDistance.T10 := by kernel_rfl
theorem impl_PairDistance.bits10 : waitsOk impl_PairDistance.T10.2 impl_PairDistance.B10 = true := by kernel_rfl
theorem impl_PairDistance.calls (k : Nat) (a0_0 : Int) (A0_1 : Option Addr) (c0_1 : Nat) (l0_1 : List Int) (a1_0 : Int) (A1_1 : Option Addr) (c1_1 : Nat) (l1_1 : List Int) (r1 : Int) (r2 : Bool) (w : World) (hr0_1 : Kd.C (Kd.int .i64) w A0_1 l0_1.length l0_1) (hc0_1 : l0_1.length ≤ c0_1) (hr1_1 : Kd.C (Kd.int .i64) w A1_1 l1_1.length l1_1) (hc1_1 : l1_1.length ≤ c1_1) (hTAB : Tab w) (h : impl_PairDistance.f k a0_0 l0_1 a1_0 l1_1 = some (r1, r2)) :
  Calls Tryd.prog 16 #[.agg #[.int .i64 a0_0, .slice A0_1 l0_1.length c0_1], .agg #[.int .i64 a1_0, .slice A1_1 l1_1.length c1_1]] w fun e w' => e = .returned (.tuple #[.int .i64 r1, .bool r2]) ∧ Below w.heap.size w w' := by
 have HTAB := mkA hTAB
 clear hTAB
 have hu28 := Tryd.underlying28
 have HR0_1 := mkA hr0_1
 have HC0_1 := mkA hc0_1
 clear hr0_1 hc0_1
 have HR1_1 := mkA hr1_1
 have HC1_1 := mkA hc1_1
 clear hr1_1 hc1_1
 have HB := mkA (Below.refl w.heap.size w)
 have H := h
 clear h
 unfold impl_PairDistance.f at H
 obtain ⟨t748, A3, H⟩ := obE H
 by_cases c4 : t748 = true
 ·subst c4
  replace H := ifT H
  have H' := mkA H
  clear H
  go_enter Tryd.func16, Tryd.ntmps16
  go_wp2_with (first | ((with_reducible refine gate_dst (N := 2) rfl ?_); refine boxG HB #[.int .i64 a0_0, .slice A0_1 l0_1.length c0_1] 28 ?_; intro gb746 hg w5 BK746 GE746 hb; replace HB := bst HB hb; clear hb hg) | ((with_reducible refine gate_dst (N := 3) rfl ?_); refine boxG HB #[.int .i64 a1_0, .slice A1_1 l1_1.length c1_1] 28 ?_; intro gb747 hg w6 BK747 GE747 hb; have NB746_747 := neL7 BK746 hg; have NB747_746 := neR7 BK746 hg; replace BK746 := blkB BK746 hb; replace HB := bst HB hb; clear hb hg; obtain ⟨_, _, _, _⟩ := blk2 BK746; obtain ⟨_, _, _, _⟩ := blk2 BK747) | ((with_reducible refine gate_callee (f := 33) rfl ?_); refine goesQ (some 12) Tryd.func33 #[.agg #[.int .i64 a0_0, .slice A0_1 l0_1.length c0_1], .agg #[.int .i64 a1_0, .slice A1_1 l1_1.length c1_1]] ?_; (with_reducible refine (impl_areOrders.calls k a0_0 _ _ l0_1 a1_0 _ _ l1_1 true _ ?_ ?_ ?_ ?_ ?_ A3.out).mono ?_); exact C_g HR0_1 HB; exact HC0_1.out; exact C_g HR1_1 HB; exact HC1_1.out; exact Tab.below HTAB.out (bel_g HB.out); rintro e w10 ⟨rfl, hb⟩; refine ⟨_, rfl, ?_⟩; replace BK746 := blkB BK746 hb; replace BK747 := blkB BK747 hb; replace HB := bst HB hb; clear hb; obtain ⟨_, _, _, _⟩ := blk2 BK746))
  go_loopg [6, 16] k (fun kq v6 v16 w' => ∃ (x6_1 : Int) (x16_1 : Int), v6 = .int .i64 x6_1 ∧ v16 = .int .i64 x16_1 ∧ Fc (impl_PairDistance.l0 kq x6_1 a0_0 x16_1 a0_0 l0_1 a1_0 l1_1 = some (r1, r2)) ∧ Fc (kq ≤ k) ∧ Fc (w'.heap[gb746]? = some (.cells #[.int .i64 a0_0, (.slice A0_1 l0_1.length c0_1)] 28 (0, 0))) ∧ Fc (w'.heap[gb747]? = some (.cells #[.int .i64 a1_0, (.slice A1_1 l1_1.length c1_1)] 28 (0, 0))) ∧ Fc (Below w.heap.size w w'))
  case atStart => exact ⟨(0), (0), eqS, eqS, H', ⟨Nat.le_refl _⟩, bg BK746, bg BK747, hbg HB⟩
  case round =>
   clear H'
   try clear c4
   obtain ⟨x6_1, x16_1, rfl, rfl, HA, HK1, BK746, BK747, HB⟩ := hrel
   cases gk with
   | zero => exact absurd HA.out (by simp [impl_PairDistance.l0])
   | succ k1 =>
    have H := HA.out
    clear HA
    simp only [impl_PairDistance.l0] at H
    rcases iteE H with ⟨c12b0, H⟩ | ⟨c12b0, H⟩
    ·have H' := mkA H
     clear H
     go_wp2
     go_loopg [6, 20] k1 (fun kq v6 v20 w' => ∃ (x6_2 : Int) (x20_2 : Int), v6 = .int .i64 x6_2 ∧ v20 = .int .i64 x20_2 ∧ Fc (impl_PairDistance.l1 kq x6_2 x16_1 a0_0 x16_1 x16_1 x20_2 a0_0 l0_1 a1_0 l1_1 = some (r1, r2)) ∧ Fc (kq ≤ k1) ∧ Fc (w'.heap[gb746]? = some (.cells #[.int .i64 a0_0, (.slice A0_1 l0_1.length c0_1)] 28 (0, 0))) ∧ Fc (w'.heap[gb747]? = some (.cells #[.int .i64 a1_0, (.slice A1_1 l1_1.length c1_1)] 28 (0, 0))) ∧ Fc (Below w.heap.size w w'))
     case atStart => exact ⟨(x6_1), (0), eqS, eqS, H', ⟨Nat.le_refl _⟩, bg BK746, bg BK747, hbg HB⟩
     case round =>
      clear H'
      try clear c4
      try clear c12b0
      obtain ⟨x6_2, x20_2, rfl, rfl, HA, HK2, BK746, BK747, HB⟩ := hrel
      cases gk with
      | zero => exact absurd HA.out (by simp [impl_PairDistance.l1])
      | succ k2 =>
       have H := HA.out
       clear HA
       simp only [impl_PairDistance.l1] at H
       rcases iteE H with ⟨c13b0, H⟩ | ⟨c13b0, H⟩
       ·obtain ⟨t749, A14, H⟩ := obE H
        obtain ⟨t750, A15, H⟩ := obE H
        obtain ⟨ji16, hji16⟩ : ∃ j_ : Int, (mx (wrap64 (t749 - t750)) (wrap64 (-(wrap64 (t749 - t750))))) = j_ := ⟨_, rfl⟩
        first | rw [hji16] at H | simp only [hji16] at H
        (try rw [hji16] at A14)
        (try rw [hji16] at A15)
        have hji16_ : (if (wrap64 (t749 - t750)) < (wrap64 (-(wrap64 (t749 - t750)))) then (wrap64 (-(wrap64 (t749 - t750)))) else (wrap64 (t749 - t750))) = ji16 := hji16
        have H' := mkA H
        clear H
        try go_wp2
        replace BK746 := mkA (blk_drew BK746.out)
        replace BK747 := mkA (blk_drew BK747.out)
        replace HB := mkA (below_drew1 HB.out)
        refine start_ (n := 10) (S := fun w' => w'.cell? ⟨gb746, 0, none⟩ = some (.int .i64 a0_0) ∧ w'.cell? ⟨gb746, 1, none⟩ = some (.slice A0_1 l0_1.length c0_1) ∧ w'.cell? ⟨gb747, 0, none⟩ = some (.int .i64 a1_0) ∧ w'.cell? ⟨gb747, 1, none⟩ = some (.slice A1_1 l1_1.length c1_1)) (ds := []) (bm 10 0) (by kernel_rfl) rfl (by kernel_rfl) ⟨(blk_cell BK746.out 0).trans rfl, (blk_cell BK746.out 1).trans rfl, (blk_cell BK747.out 0).trans rfl, (blk_cell BK747.out 1).trans rfl⟩ (fun hHeld => ?_); refine with_tabW impl_PairDistance.tab10 impl_PairDistance.bits10 (fun HT_ HW_ => ?_)
        generalize wr.drew = w17 at BK746 BK747 HB hHeld ⊢
        refine purW 1 24 10 2 HT_ ?_
        refine purW 2 25 10 6 HT_ ?_
        refine purW 5 28 10 38 HT_ ?_
        refine purW 6 29 10 102 HT_ ?_
        refine takeW 0 (some 23) (bm 10 103) HT_ HW_ hHeld ?_
        refine takeW 4 (some 27) (bm 10 119) HT_ HW_ hHeld ?_
        refine oneW 3 (some 26) (bm 10 127) HT_ (fun K hK => ?_)
        refine goesR Tryd.func34 #[.agg #[.int .i64 a0_0, .slice A0_1 l0_1.length c0_1], .int .i64 x16_1, .int .i64 x20_2] ?_
        with_reducible refine (impl_Order_told.calls a0_0 _ _ l0_1 x16_1 x20_2 t749 _ ?s1 ?s2 A14.out).mono ?_
        (case s1 => exact C_g HR0_1 HB)
        (case s2 => exact HC0_1.out)
        rintro e w18 ⟨rfl, hb⟩
        refine ⟨_, rfl, ?_⟩
        replace BK746 := blkB BK746 hb
        replace BK747 := blkB BK747 hb
        replace HB := bst HB hb
        (try clear hb)
        (try clear hb2)
        (try clear hk)
        (try clear hi)
        refine hK.out _ _ ⟨(blk_cell BK746.out 0).trans rfl, (blk_cell BK746.out 1).trans rfl, (blk_cell BK747.out 0).trans rfl, (blk_cell BK747.out 1).trans rfl⟩ (fun hHeld => ?_)
        clear hK K
        refine normW 26 ?_
        refine oneW 7 (some 30) (bm 10 255) HT_ (fun K hK => ?_)
        refine goesR Tryd.func34 #[.agg #[.int .i64 a1_0, .slice A1_1 l1_1.length c1_1], .int .i64 x16_1, .int .i64 x20_2] ?_
        with_reducible refine (impl_Order_told.calls a1_0 _ _ l1_1 x16_1 x20_2 t750 _ ?s1 ?s2 A15.out).mono ?_
        (case s1 => exact C_g HR1_1 HB)
        (case s2 => exact HC1_1.out)
        rintro e w19 ⟨rfl, hb⟩
        refine ⟨_, rfl, ?_⟩
        replace BK746 := blkB BK746 hb
        replace BK747 := blkB BK747 hb
        replace HB := bst HB hb
        (try clear hb)
        (try clear hb2)
        (try clear hk)
        (try clear hi)
        refine hK.out _ _ ⟨(blk_cell BK746.out 0).trans rfl, (blk_cell BK746.out 1).trans rfl, (blk_cell BK747.out 0).trans rfl, (blk_cell BK747.out 1).trans rfl⟩ (fun hHeld => ?_)
        clear hK K
        refine normW 30 ?_
        refine purW 8 31 10 511 HT_ ?_
        refine purW 9 9 10 1023 HT_ ?_
        refine doneW HT_ ?_
        try go_wp2
        go_roundg k2
        case measure => have := HK1.out; have := HK2.out; omega
        case rel => exact ⟨(wrap64 (x6_2 + (ji16))), (wrap64 (x20_2 + 1)), (by first | rfl | (simp; done) | (simp only [← hji16] <;> (first | rfl | simp)) | (simp [*]; done)), eqS, H', ⟨by have := HK1.out; have := HK2.out; omega⟩, bg BK746, bg BK747, hbg HB⟩
       ·have H' := mkA H
        clear H
        go_wp2
        go_roundg k2
        case measure => have := HK1.out; have := HK2.out; omega
        case rel => exact ⟨(x6_2), (wrap64 (x16_1 + 1)), eqS, eqS, H', ⟨by have := HK1.out; have := HK2.out; omega⟩, bg BK746, bg BK747, hbg HB⟩
    ·simp only [Option.some.injEq, Prod.mk.injEq] at H
     obtain ⟨rfl, rfl⟩ := H
     go_wp2
     go_ret2
     exact ⟨eqE, bel_g HB.out⟩
 ·replace c4 := Bool.eq_false_iff.mpr c4
  subst c4
  replace H := ifF H
  simp only [Option.some.injEq, Prod.mk.injEq] at H
  obtain ⟨rfl, rfl⟩ := H
  go_enter Tryd.func16, Tryd.ntmps16
  go_wp2_with (first | ((with_reducible refine gate_dst (N := 2) rfl ?_); refine boxG HB #[.int .i64 a0_0, .slice A0_1 l0_1.length c0_1] 28 ?_; intro gb746 hg w20 BK746 GE746 hb; replace HB := bst HB hb; clear hb hg) | ((with_reducible refine gate_dst (N := 3) rfl ?_); refine boxG HB #[.int .i64 a1_0, .slice A1_1 l1_1.length c1_1] 28 ?_; intro gb747 hg w21 BK747 GE747 hb; have NB746_747 := neL7 BK746 hg; have NB747_746 := neR7 BK746 hg; replace BK746 := blkB BK746 hb; replace HB := bst HB hb; clear hb hg; obtain ⟨_, _, _, _⟩ := blk2 BK746; obtain ⟨_, _, _, _⟩ := blk2 BK747) | ((with_reducible refine gate_callee (f := 33) rfl ?_); refine goesQ (some 12) Tryd.func33 #[.agg #[.int .i64 a0_0, .slice A0_1 l0_1.length c0_1], .agg #[.int .i64 a1_0, .slice A1_1 l1_1.length c1_1]] ?_; (with_reducible refine (impl_areOrders.calls k a0_0 _ _ l0_1 a1_0 _ _ l1_1 false _ ?_ ?_ ?_ ?_ ?_ A3.out).mono ?_); exact C_g HR0_1 HB; exact HC0_1.out; exact C_g HR1_1 HB; exact HC1_1.out; exact Tab.below HTAB.out (bel_g HB.out); rintro e w25 ⟨rfl, hb⟩; refine ⟨_, rfl, ?_⟩; replace BK746 := blkB BK746 hb; replace BK747 := blkB BK747 hb; replace HB := bst HB hb; clear hb))
  go_ret2
  exact ⟨eqE, bel_g HB.out⟩
def spec_l1Most.f (a0 : Int) (a1 : Int) : Option (Int) := if a0 > a1 then (some a0) else (some a1)
theorem spec_l1Most.calls (a0 : Int) (a1 : Int) (r : Int) (w : World) (h : spec_l1Most.f a0 a1 = some r) :
  Calls Tryd.prog 73 #[.int .i64 a0, .int .i64 a1] w fun e w' => e = .returned (.int .i64 r) ∧ Drawn0 w w' := by
 have H := h
 clear h
 unfold spec_l1Most.f at H
 rcases iteP H with ⟨c3, H⟩ | ⟨c3, H⟩
 ·have c3b0 := decide_eq_true c3
  clear c3
  obtain rfl := Option.some.inj H
  go_enter Tryd.func73, Tryd.ntmps73
  go_wp2
  go_ret
  exact ⟨eqS, drE⟩
 ·have c3b0 := decide_eq_false c3
  clear c3
  obtain rfl := Option.some.inj H
  go_enter Tryd.func73, Tryd.ntmps73
  go_wp2
  go_ret
  exact ⟨eqS, drE⟩
def spec_l1Abs.f (a0 : Int) : Option (Int) := (spec_l1Most.f a0 (wrap64 (-a0))).bind fun t751 => (some t751)
theorem spec_l1Abs.calls (a0 : Int) (r : Int) (w : World) (h : spec_l1Abs.f a0 = some r) :
  Calls Tryd.prog 57 #[.int .i64 a0] w fun e w' => e = .returned (.int .i64 r) ∧ Drawn0 w w' := by
 have H := h
 clear h
 unfold spec_l1Abs.f at H
 obtain ⟨t751, A2, H⟩ := obE H
 obtain rfl := Option.some.inj H
 go_enter Tryd.func57, Tryd.ntmps57
 go_wp2_with (first | ((with_reducible refine gate_callee (f := 73) rfl ?_); refine goesQ (some 6) Tryd.func73 #[.int .i64 a0, .int .i64 (wrap64 (-a0))] ?_; (with_reducible refine (spec_l1Most.calls a0 (wrap64 (-a0)) t751 _ A2.out).mono ?_); rintro e w' ⟨rfl, ⟨nd, rfl⟩⟩; refine ⟨_, rfl, ?_⟩))
 go_ret
 exact ⟨eqS, drE⟩
end Go.Proofs.YtmdnbjhboppkdaaDoor.Q
