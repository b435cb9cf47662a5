import Derived.Test.YtmoemabbmjdhgaaDoorBFnThresholds22
namespace Go.Proofs.YtmoemabbmjdhgaaDoor.Q
open Go.RowKit Go.Proofs.YtmoemabbmjdhgaaDoorW.PrintWords Go.Proofs.YtmoemabbmjdhgaaDoorW.PrintLast Go.Proofs.YtmoemabbmjdhgaaDoorW.PrintMore
attribute [local go_sem] max2_int min2_int max_two min_two max_three min_three max_four min_four neB_f
set_option linter.unusedVariables false
set_option maxHeartbeats 8000000
set_option maxRecDepth 100000
set_option linter.unusedSimpArgs false
def impl_Order_isPlaces.f (k : Nat) (a0_0 : Int) (l0_1 : List Int) (a1 : Int) (l2 : List Int) : Option (Bool) := (impl_allWithin.f k l2 0 1000).bind fun t561 => (if t561 = true then ((impl_placed.f k a1 l2).bind fun bt562 => ((impl_Order_same.f k bt562.1 bt562.2 a0_0 l0_1).bind fun t566 => (some t566))) else (some false))
theorem impl_Order_isPlaces.mono : ∀ a0 a1 a2 a3 k, LeO (impl_Order_isPlaces.f k a0 a1 a2 a3) (impl_Order_isPlaces.f (k + 1) a0 a1 a2 a3) := by
 intro a0 a1 a2 a3 k
 unfold impl_Order_isPlaces.f
 repeat' (with_reducible first|apply impl_Order_same.mono|apply impl_allWithin.mono|apply impl_placed.mono|apply LeO.refl|apply LeO.none|apply LeO.ite|apply LeO.bind|intro)
def impl_Order_isPlaces.T1 : Bool × List (List Nat × List Nat) := (true, [([], []), ([0], [0]), ([1, 1], [1]), ([2], [2]), ([2], [2]), ([3, 4, 2, 2], [2, 3, 4]), ([2], [2]), ([5, 6, 5, 2], [2, 5, 6]), ([2, 7], [2, 7]), ([8, 7, 0, 1, 2, 3, 4, 5, 6, 7, 8], [8])])
def impl_Order_isPlaces.B1 : List Nat := [0, 1, 3, 7, 7, 31, 7, 127, 255, 511]
theorem impl_Order_isPlaces.tab1 : rtab .any (opsOf Tryd.f33 1) = impl_Order_isPlaces.T1 := by kernel_rfl
theorem impl_Order_isPlaces.bits1 : waitsOk impl_Order_isPlaces.T1.2 impl_Order_isPlaces.B1 = true := by kernel_rfl
theorem impl_Order_isPlaces.calls (k : Nat) (a0_0 : Int) (A0_1 : Option Addr) (c0_1 : Nat) (l0_1 : List Int) (a1 : Int) (A2 : Option Addr) (c2 : Nat) (l2 : List Int) (r : Bool) (w : World) (hr0_1 : Kd.C (Kd.int .i64) w A0_1 l0_1.length l0_1) (hc0_1 : l0_1.length ≤ c0_1) (hr2 : Kd.C (Kd.int .i64) w A2 l2.length l2) (hc2 : l2.length ≤ c2) (h : impl_Order_isPlaces.f k a0_0 l0_1 a1 l2 = some r) :
  Calls Tryd.prog 33 #[.agg #[.int .i64 a0_0, .slice A0_1 l0_1.length c0_1], .int .i64 a1, .slice A2 l2.length c2] w fun e w' => e = .returned (.bool r) ∧ Below w.heap.size w w' := by
 have hu26 := Tryd.underlying26
 have HR0_1 := mkA hr0_1
 have HC0_1 := mkA hc0_1
 clear hr0_1 hc0_1
 have HR2 := mkA hr2
 have HC2 := mkA hc2
 clear hr2 hc2
 have HB := mkA (Below.refl w.heap.size w)
 have H := h
 clear h
 unfold impl_Order_isPlaces.f at H
 obtain ⟨t561, A4, H⟩ := obE H
 by_cases c5 : t561 = true
 ·subst c5
  replace H := ifT H
  obtain ⟨⟨t562, t563⟩, A6, H⟩ := obE H
  dsimp only at H
  obtain ⟨t566, A7, H⟩ := obE H
  obtain rfl := Option.some.inj H
  go_enter Tryd.func33, Tryd.ntmps33
  try go_wp2_with (first | ((with_reducible refine gate_dst (N := 3) rfl ?_); refine boxG HB #[.int .i64 a0_0, .slice A0_1 l0_1.length c0_1] 26 ?_; intro gb560 hg w8 BK560 GE560 hb; replace HB := bst HB hb; clear hb hg))
  replace BK560 := mkA (blk_drew BK560.out)
  replace HB := mkA (below_drew1 HB.out)
  refine start_ (n := 10) (S := fun w' => w'.cell? ⟨gb560, 0, none⟩ = some (.int .i64 a0_0) ∧ w'.cell? ⟨gb560, 1, none⟩ = some (.slice A0_1 l0_1.length c0_1)) (ds := []) (bm 10 0) (by kernel_rfl) rfl (by kernel_rfl) ⟨(blk_cell BK560.out 0).trans rfl, (blk_cell BK560.out 1).trans rfl⟩ (fun hHeld => ?_); refine with_tabW impl_Order_isPlaces.tab1 impl_Order_isPlaces.bits1 (fun HT_ HW_ => ?_)
  generalize w8.drew = w9 at BK560 HB hHeld ⊢
  refine purW 0 7 10 1 HT_ ?_
  refine oneW 1 (some 8) (bm 10 3) HT_ (fun K hK => ?_)
  refine goesR Tryd.func42 #[.slice A2 l2.length c2, .int .i64 0, .int .i64 1000] ?_
  with_reducible refine (impl_allWithin.calls k _ _ l2 0 1000 true _ ?s1 ?s2 A4.out).mono ?_
  (case s1 => exact C_g HR2 HB)
  (case s2 => exact HC2.out)
  rintro e w' ⟨rfl, ⟨nd, rfl⟩⟩
  refine ⟨_, rfl, ?_⟩
  refine hK.out _ _ ⟨(blk_cell BK560.out 0).trans rfl, (blk_cell BK560.out 1).trans rfl⟩ (fun hHeld => ?_)
  clear hK K
  refine normW 8 ?_
  refine purW 2 9 10 7 HT_ ?_
  refine purW 3 10 10 15 HT_ ?_
  refine purW 4 11 10 31 HT_ ?_
  refine takeW 6 (some 13) (bm 10 95) HT_ HW_ hHeld ?_
  refine oneW 5 (some 12) (bm 10 127) HT_ (fun K hK => ?_)
  refine goesR Tryd.func47 #[.int .i64 a1, .slice A2 l2.length c2] ?_
  with_reducible refine (impl_placed.calls k a1 _ _ l2 t562 t563 _ ?s1 ?s2 A6.out).mono ?_
  (case s1 => repeat (first | exact (Kd.C_below HR2.out (bel_g HB.out)) | (with_reducible refine Kd.C_alloc ?_ _) | (with_reducible refine Kd.C_drewN ?_ _) | (with_reducible refine Kd.C_drew ?_)))
  (case s2 => exact HC2.out)
  rintro e w10 ⟨v564, rfl, ho0, hb⟩
  refine ⟨_, rfl, ?_⟩
  have HO565 := rLo ho0 HB
  replace BK560 := blkB BK560 hb
  replace HB := bst HB hb
  (try clear hb)
  (try clear hb2)
  (try clear hk)
  (try clear hi)
  (try clear ho0)
  obtain ⟨Ao11, co11, eo11⟩ := Kd.R_slice HO565.out
  (first | subst eo11 | (injection eo11 with f1_ f2_ f3_; have f4_ := f1_.symm; have f5_ := f3_.symm; clear f1_ f2_ f3_; subst f4_; subst f5_))
  refine hK.out _ _ ⟨(blk_cell BK560.out 0).trans rfl, (blk_cell BK560.out 1).trans rfl⟩ (fun hHeld => ?_)
  clear hK K
  refine normW 12 ?_
  refine oneW 7 (some 14) (bm 10 255) HT_ (fun K hK => ?_)
  refine goesR Tryd.func48 #[.agg #[.int .i64 t562, .slice Ao11 t563.length co11], .agg #[.int .i64 a0_0, .slice A0_1 l0_1.length c0_1]] ?_
  with_reducible refine (impl_Order_same.calls k t562 _ _ t563 a0_0 _ _ l0_1 t566 _ ?s1 ?s2 ?s3 ?s4 A7.out).mono ?_
  (case s1 => exact rC HO565)
  (case s2 => exact rL HO565)
  (case s3 => exact C_g HR0_1 HB)
  (case s4 => exact HC0_1.out)
  rintro e w12 ⟨rfl, hb⟩
  refine ⟨_, rfl, ?_⟩
  replace HO565 := rB HO565 hb
  replace BK560 := blkB BK560 hb
  replace HB := bst HB hb
  (try clear hb)
  (try clear hb2)
  (try clear hk)
  (try clear hi)
  refine hK.out _ _ ⟨(blk_cell BK560.out 0).trans rfl, (blk_cell BK560.out 1).trans rfl⟩ (fun hHeld => ?_)
  clear hK K
  refine normW 14 ?_
  refine purW 8 15 10 511 HT_ ?_
  refine purW 9 6 10 1023 HT_ ?_
  refine doneW HT_ ?_
  try go_wp2
  go_ret
  exact ⟨eqE, bel_g HB.out⟩
 ·replace c5 := Bool.eq_false_iff.mpr c5
  subst c5
  replace H := ifF H
  obtain rfl := Option.some.inj H
  go_enter Tryd.func33, Tryd.ntmps33
  try go_wp2_with (first | ((with_reducible refine gate_dst (N := 3) rfl ?_); refine boxG HB #[.int .i64 a0_0, .slice A0_1 l0_1.length c0_1] 26 ?_; intro gb560 hg w13 BK560 GE560 hb; replace HB := bst HB hb; clear hb hg))
  replace BK560 := mkA (blk_drew BK560.out)
  replace HB := mkA (below_drew1 HB.out)
  refine start_ (n := 10) (S := fun w' => True) (ds := []) (bm 10 0) (by kernel_rfl) rfl (by kernel_rfl) trivial (fun hHeld => ?_); refine with_tabW impl_Order_isPlaces.tab1 impl_Order_isPlaces.bits1 (fun HT_ HW_ => ?_)
  generalize w13.drew = w14 at BK560 HB hHeld ⊢
  refine purW 0 7 10 1 HT_ ?_
  refine oneW 1 (some 8) (bm 10 3) HT_ (fun K hK => ?_)
  refine goesR Tryd.func42 #[.slice A2 l2.length c2, .int .i64 0, .int .i64 1000] ?_
  with_reducible refine (impl_allWithin.calls k _ _ l2 0 1000 false _ ?s1 ?s2 A4.out).mono ?_
  (case s1 => exact C_g HR2 HB)
  (case s2 => exact HC2.out)
  rintro e w' ⟨rfl, ⟨nd, rfl⟩⟩
  refine ⟨_, rfl, ?_⟩
  refine hK.out _ _ trivial (fun hHeld => ?_)
  clear hK K
  refine normW 8 ?_
  refine purW 2 9 10 7 HT_ ?_
  refine purG 3 10 10 15 HT_ ?_
  refine purG 4 11 10 31 HT_ ?_
  refine purG 5 12 10 63 HT_ ?_
  refine purG 6 13 10 127 HT_ ?_
  refine purG 7 14 10 255 HT_ ?_
  refine purW 8 15 10 511 HT_ ?_
  refine purW 9 6 10 1023 HT_ ?_
  refine doneW HT_ ?_
  try go_wp2
  go_ret
  exact ⟨eqE, bel_g HB.out⟩
def impl_IsPlaces.f (k : Nat) (a0_0 : Int) (l0_1 : List Int) (a1 : Int) (l2 : List Int) : Option (Bool × Bool) := (impl_isThreshold.f k a0_0 l0_1 a1).bind fun t568 => (if t568 = true then ((impl_Order_isPlaces.f k a0_0 l0_1 a1 l2).bind fun t569 => (some (t569, true))) else (some (false, false)))
theorem impl_IsPlaces.mono : ∀ a0 a1 a2 a3 k, LeO (impl_IsPlaces.f k a0 a1 a2 a3) (impl_IsPlaces.f (k + 1) a0 a1 a2 a3) := by
 intro a0 a1 a2 a3 k
 unfold impl_IsPlaces.f
 repeat' (with_reducible first|apply impl_Order_isPlaces.mono|apply impl_isThreshold.mono|apply LeO.refl|apply LeO.none|apply LeO.ite|apply LeO.bind|intro)
theorem impl_IsPlaces.calls (k : Nat) (a0_0 : Int) (A0_1 : Option Addr) (c0_1 : Nat) (l0_1 : List Int) (a1 : Int) (A2 : Option Addr) (c2 : Nat) (l2 : List Int) (r1 : Bool) (r2 : Bool) (w : World) (hr0_1 : Kd.C (Kd.int .i64) w A0_1 l0_1.length l0_1) (hc0_1 : l0_1.length ≤ c0_1) (hr2 : Kd.C (Kd.int .i64) w A2 l2.length l2) (hc2 : l2.length ≤ c2) (hTAB : Tab w) (h : impl_IsPlaces.f k a0_0 l0_1 a1 l2 = some (r1, r2)) :
  Calls Tryd.prog 17 #[.agg #[.int .i64 a0_0, .slice A0_1 l0_1.length c0_1], .int .i64 a1, .slice A2 l2.length c2] w fun e w' => e = .returned (.tuple #[.bool r1, .bool r2]) ∧ Below w.heap.size w w' := by
 have HTAB := mkA hTAB
 clear hTAB
 have hu26 := Tryd.underlying26
 have HR0_1 := mkA hr0_1
 have HC0_1 := mkA hc0_1
 clear hr0_1 hc0_1
 have HR2 := mkA hr2
 have HC2 := mkA hc2
 clear hr2 hc2
 have HB := mkA (Below.refl w.heap.size w)
 have H := h
 clear h
 unfold impl_IsPlaces.f at H
 obtain ⟨t568, A4, H⟩ := obE H
 by_cases c5 : t568 = true
 ·subst c5
  replace H := ifT H
  obtain ⟨t569, A6, H⟩ := obE H
  simp only [Option.some.injEq, Prod.mk.injEq] at H
  obtain ⟨rfl, rfl⟩ := H
  go_enter Tryd.func17, Tryd.ntmps17
  go_wp2_with (first | ((with_reducible refine gate_dst (N := 3) rfl ?_); refine boxG HB #[.int .i64 a0_0, .slice A0_1 l0_1.length c0_1] 26 ?_; intro gb567 hg w7 BK567 GE567 hb; replace HB := bst HB hb; clear hb hg; obtain ⟨_, _, _, _⟩ := blk2 BK567) | ((with_reducible refine gate_callee (f := 32) rfl ?_); refine goesQ (some 10) Tryd.func32 #[.agg #[.int .i64 a0_0, .slice A0_1 l0_1.length c0_1], .int .i64 a1] ?_; (with_reducible refine (impl_isThreshold.calls k a0_0 _ _ l0_1 a1 true _ ?_ ?_ ?_ A4.out).mono ?_); exact C_g HR0_1 HB; exact HC0_1.out; exact Tab.below HTAB.out (bel_g HB.out); rintro e w9 ⟨rfl, hb⟩; refine ⟨_, rfl, ?_⟩; replace BK567 := blkB BK567 hb; replace HB := bst HB hb; clear hb; obtain ⟨_, _, _, _⟩ := blk2 BK567) | ((with_reducible refine gate_callee (f := 33) rfl ?_); refine goesQ (some 15) Tryd.func33 #[.agg #[.int .i64 a0_0, .slice A0_1 l0_1.length c0_1], .int .i64 a1, .slice A2 l2.length c2] ?_; (with_reducible refine (impl_Order_isPlaces.calls k a0_0 _ _ l0_1 a1 _ _ l2 t569 _ ?_ ?_ ?_ ?_ A6.out).mono ?_); exact C_g HR0_1 HB; exact HC0_1.out; exact C_g HR2 HB; exact HC2.out; rintro e w11 ⟨rfl, hb⟩; refine ⟨_, rfl, ?_⟩; replace BK567 := blkB BK567 hb; replace HB := bst HB hb; clear hb))
  go_ret2
  exact ⟨eqE, bel_g HB.out⟩
 ·replace c5 := Bool.eq_false_iff.mpr c5
  subst c5
  replace H := ifF H
  simp only [Option.some.injEq, Prod.mk.injEq] at H
  obtain ⟨rfl, rfl⟩ := H
  go_enter Tryd.func17, Tryd.ntmps17
  go_wp2_with (first | ((with_reducible refine gate_dst (N := 3) rfl ?_); refine boxG HB #[.int .i64 a0_0, .slice A0_1 l0_1.length c0_1] 26 ?_; intro gb567 hg w12 BK567 GE567 hb; replace HB := bst HB hb; clear hb hg; obtain ⟨_, _, _, _⟩ := blk2 BK567) | ((with_reducible refine gate_callee (f := 32) rfl ?_); refine goesQ (some 10) Tryd.func32 #[.agg #[.int .i64 a0_0, .slice A0_1 l0_1.length c0_1], .int .i64 a1] ?_; (with_reducible refine (impl_isThreshold.calls k a0_0 _ _ l0_1 a1 false _ ?_ ?_ ?_ A4.out).mono ?_); exact C_g HR0_1 HB; exact HC0_1.out; exact Tab.below HTAB.out (bel_g HB.out); rintro e w14 ⟨rfl, hb⟩; refine ⟨_, rfl, ?_⟩; replace BK567 := blkB BK567 hb; replace HB := bst HB hb; clear hb))
  go_ret2
  exact ⟨eqE, bel_g HB.out⟩
end Go.Proofs.YtmoemabbmjdhgaaDoor.Q
