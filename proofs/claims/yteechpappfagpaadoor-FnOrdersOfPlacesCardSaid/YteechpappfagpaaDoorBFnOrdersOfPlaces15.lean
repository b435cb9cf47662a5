import Derived.Test.YteechpappfagpaaDoorBFnOrdersOfPlaces0
import Derived.Test.YteechpappfagpaaDoorBFnOrdersOfPlaces4
import Derived.Test.YteechpappfagpaaDoorBFnOrdersOfPlaces6
import Derived.Test.YteechpappfagpaaDoorBFnOrdersOfPlaces14
-- printed by this project's own program (wip/mp/mp.py) over the kit's print, for this seat; Lean checks it
namespace Go.Proofs.YteechpappfagpaaDoor.Q
open Go.RowKit Go.Proofs.YteechpappfagpaaDoorW.PrintWords Go.Proofs.YteechpappfagpaaDoorW.PrintLast Go.Proofs.YteechpappfagpaaDoorW.PrintMore
attribute [local go_sem] max2_int min2_int max_two min_two max_three min_three max_four min_four   -- for this text's walks alone
set_option linter.unusedVariables false
set_option maxHeartbeats 8000000
set_option maxRecDepth 100000
set_option linter.unusedSimpArgs false

/-! ### impl_Order_isPlaces: function 107 -/
def impl_Order_isPlaces.f (k : Nat) (a0_0 : Int) (l0_1 : List Int) (a1 : Int) (l2 : List Int) : Option (Bool) := (impl_allWithin.f k l2 0 1000).bind fun t679 => (if t679 = true then ((impl_placed.f k a1 l2).bind fun bt680 => ((impl_Order_same.f k bt680.1 bt680.2 a0_0 l0_1).bind fun t684 => (some t684))) else (some false))
theorem impl_Order_isPlaces.mono : ∀ a0 a1 a2 a3 k, LeO (impl_Order_isPlaces.f k a0 a1 a2 a3) (impl_Order_isPlaces.f (k + 1) a0 a1 a2 a3) := by
 intro a0 a1 a2 a3 k
 unfold impl_Order_isPlaces.f
 repeat' (with_reducible first|exact impl_Order_same.mono _ _ _ _ _|exact impl_allWithin.mono _ _ _ _|exact impl_placed.mono _ _ _|exact LeO.refl _|exact LeO.none _|refine LeO.ite ?_ ?_|refine LeO.bind ?_ (fun _ => ?_))
def impl_Order_isPlaces.T1 : Bool × List (List Nat × List Nat) := (true, [([], []), ([0], [0]), ([1, 1], [1]), ([2], [2]), ([2], [2]), ([3, 4, 2, 2], [2, 3, 4]), ([2], [2]), ([5, 6, 5, 2], [2, 5, 6]), ([2, 7], [2, 7]), ([8, 7, 0, 1, 2, 3, 4, 5, 6, 7, 8], [8])])
def impl_Order_isPlaces.B1 : List Nat := [0, 1, 3, 7, 7, 31, 7, 127, 255, 511]
theorem impl_Order_isPlaces.tab1 : rtab .any (opsOf Tryd.f107 1) = impl_Order_isPlaces.T1 := by kernel_rfl
theorem impl_Order_isPlaces.bits1 : waitsOk impl_Order_isPlaces.T1.2 impl_Order_isPlaces.B1 = true := by kernel_rfl
theorem impl_Order_isPlaces.calls (k : Nat) (a0_0 : Int) (A0_1 : Option Addr) (c0_1 : Nat) (l0_1 : List Int) (a1 : Int) (A2 : Option Addr) (c2 : Nat) (l2 : List Int) (r : Bool) (w : World) (hr0_1 : Kd.C (Kd.int .i64) w A0_1 l0_1.length l0_1) (hc0_1 : l0_1.length ≤ c0_1) (hr2 : Kd.C (Kd.int .i64) w A2 l2.length l2) (hc2 : l2.length ≤ c2) (h : impl_Order_isPlaces.f k a0_0 l0_1 a1 l2 = some r) :
  Calls Tryd.prog 107 #[.agg #[.int .i64 a0_0, .slice A0_1 l0_1.length c0_1], .int .i64 a1, .slice A2 l2.length c2] w fun e w' => e = .returned (.bool r) ∧ Below w.heap.size w w' := by
 have hu28 := Tryd.underlying28
 have HR0_1 := Aside0.mk hr0_1
 have HC0_1 := Aside0.mk hc0_1
 clear hr0_1 hc0_1
 have HR2 := Aside0.mk hr2
 have HC2 := Aside0.mk hc2
 clear hr2 hc2
 have HB := Aside0.mk (Below.refl w.heap.size w)
 have H : ((impl_allWithin.f k l2 0 1000).bind fun t679 => (if t679 = true then ((impl_placed.f k a1 l2).bind fun bt680 => ((impl_Order_same.f k bt680.1 bt680.2 a0_0 l0_1).bind fun t684 => (some t684))) else (some false))) = some r := h
 clear h
 obtain ⟨t679, A4, H⟩ := obE H
 by_cases c5 : t679 = true
 ·subst c5
  replace H := ifT H
  obtain ⟨⟨t680, t681⟩, A6, H⟩ := obE H
  dsimp only at H
  obtain ⟨t684, A7, H⟩ := obE H
  obtain rfl := Option.some.inj H
  go_enter Tryd.func107, Tryd.ntmps107
  try go_wp2_with (first | ((with_reducible refine gate_dst (N := 3) rfl ?_); refine boxE (N := 3) (cs := #[.int .i64 a0_0, .slice A0_1 l0_1.length c0_1]) (t := 28) ?_; intro gb678 hg w8 hbox hb; have BK678 := Aside0.mk (hbox); have GE678 := geB HB hg; replace HB := bst HB hb; clear hb hbox hg))
  replace BK678 := Aside0.mk (blk_drew BK678.out)
  replace HB := Aside0.mk (below_drew1 HB.out)
  refine start_ (n := 10) (S := fun w' => w'.cell? ⟨gb678, 0, none⟩ = some (.int .i64 a0_0) ∧ w'.cell? ⟨gb678, 1, none⟩ = some (.slice A0_1 l0_1.length c0_1)) (ds := []) (bm 10 0) (by kernel_rfl) rfl (by kernel_rfl) ⟨(blk_cell BK678.out 0).trans rfl, (blk_cell BK678.out 1).trans rfl⟩ (fun hHeld => ?_); refine with_tabW impl_Order_isPlaces.tab1 impl_Order_isPlaces.bits1 (fun HT_ HW_ => ?_)
  generalize w8.drew = w9 at BK678 HB hHeld ⊢
  refine pureW 0 (some 7) (bm 10 1) HT_ ?_
  refine oneW 1 (some 8) (bm 10 3) HT_ (fun K hK => ?_)
  refine goesR Tryd.func100 #[.slice A2 l2.length c2, .int .i64 0, .int .i64 1000] ?_
  with_reducible refine (impl_allWithin.calls k _ _ l2 0 1000 true _ ?side1 ?side2 A4.out).mono ?_
  (case side1 => exact C_g HR2 HB)
  (case side2 => exact HC2.out)
  rintro e w' ⟨rfl, ⟨nd, rfl⟩⟩
  refine ⟨_, rfl, ?_⟩
  refine hK.out _ _ ⟨(blk_cell BK678.out 0).trans rfl, (blk_cell BK678.out 1).trans rfl⟩ (fun hHeld => ?_)
  clear hK K
  refine normW 8 ?_
  refine pureW 2 (some 9) (bm 10 7) HT_ ?_
  refine pureW 3 (some 10) (bm 10 15) HT_ ?_
  refine pureW 4 (some 11) (bm 10 31) HT_ ?_
  refine takeW 6 (some 13) (bm 10 95) HT_ HW_ hHeld ?_
  refine oneW 5 (some 12) (bm 10 127) HT_ (fun K hK => ?_)
  refine goesR Tryd.func101 #[.int .i64 a1, .slice A2 l2.length c2] ?_
  with_reducible refine (impl_placed.calls k a1 _ _ l2 t680 t681 _ ?side1 ?side2 A6.out).mono ?_
  (case side1 => repeat (first | exact (Kd.C_below HR2.out (bel_g HB.out)) | (with_reducible refine Kd.C_alloc ?_ _) | (with_reducible refine Kd.C_drewN ?_ _) | (with_reducible refine Kd.C_drew ?_)))
  (case side2 => exact HC2.out)
  rintro e w10 ⟨v682, rfl, ho0, hb⟩
  refine ⟨_, rfl, ?_⟩
  have HO683 := Aside0.mk (Kd.R_lower ho0 (below_size (bel_g HB.out)))
  replace BK678 := blkB BK678 hb
  replace HB := bst HB hb
  (try clear hb)
  (try clear hb2)
  (try clear hk)
  (try clear hi)
  (try clear ho0)
  obtain ⟨Ao11, co11, eo11⟩ := Kd.R_slice HO683.out
  (first | subst eo11 | (injection eo11 with f1_ f2_ f3_; have f4_ := f1_.symm; have f5_ := f3_.symm; clear f1_ f2_ f3_; subst f4_; subst f5_))
  refine hK.out _ _ ⟨(blk_cell BK678.out 0).trans rfl, (blk_cell BK678.out 1).trans rfl⟩ (fun hHeld => ?_)
  clear hK K
  refine normW 12 ?_
  refine oneW 7 (some 14) (bm 10 255) HT_ (fun K hK => ?_)
  refine goesR Tryd.func153 #[.agg #[.int .i64 t680, .slice Ao11 t681.length co11], .agg #[.int .i64 a0_0, .slice A0_1 l0_1.length c0_1]] ?_
  with_reducible refine (impl_Order_same.calls k t680 _ _ t681 a0_0 _ _ l0_1 t684 _ ?side1 ?side2 ?side3 ?side4 A7.out).mono ?_
  (case side1 => repeat (first | exact (Kd.R_reads' HO683.out).2.2 | (with_reducible refine Kd.C_alloc ?_ _) | (with_reducible refine Kd.C_drewN ?_ _) | (with_reducible refine Kd.C_drew ?_)))
  (case side2 => exact (Kd.R_reads' HO683.out).2.1)
  (case side3 => exact C_g HR0_1 HB)
  (case side4 => exact HC0_1.out)
  rintro e w12 ⟨rfl, hb⟩
  refine ⟨_, rfl, ?_⟩
  replace HO683 := Aside0.mk (Kd.R_below (Kd.R_g HO683.out) hb)
  replace BK678 := blkB BK678 hb
  replace HB := bst HB hb
  (try clear hb)
  (try clear hb2)
  (try clear hk)
  (try clear hi)
  refine hK.out _ _ ⟨(blk_cell BK678.out 0).trans rfl, (blk_cell BK678.out 1).trans rfl⟩ (fun hHeld => ?_)
  clear hK K
  refine normW 14 ?_
  refine pureW 8 (some 15) (bm 10 511) HT_ ?_
  refine pureW 9 (some 6) (bm 10 1023) HT_ ?_
  refine doneW HT_ ?_
  try go_wp2
  go_ret
  exact ⟨eqE, bel_g HB.out⟩
 ·replace c5 := Bool.eq_false_iff.mpr c5
  subst c5
  replace H := ifF H
  obtain rfl := Option.some.inj H
  go_enter Tryd.func107, Tryd.ntmps107
  try go_wp2_with (first | ((with_reducible refine gate_dst (N := 3) rfl ?_); refine boxE (N := 3) (cs := #[.int .i64 a0_0, .slice A0_1 l0_1.length c0_1]) (t := 28) ?_; intro gb678 hg w13 hbox hb; have BK678 := Aside0.mk (hbox); have GE678 := geB HB hg; replace HB := bst HB hb; clear hb hbox hg))
  replace BK678 := Aside0.mk (blk_drew BK678.out)
  replace HB := Aside0.mk (below_drew1 HB.out)
  refine start_ (n := 10) (S := fun w' => True) (ds := []) (bm 10 0) (by kernel_rfl) rfl (by kernel_rfl) trivial (fun hHeld => ?_); refine with_tabW impl_Order_isPlaces.tab1 impl_Order_isPlaces.bits1 (fun HT_ HW_ => ?_)
  generalize w13.drew = w14 at BK678 HB hHeld ⊢
  refine pureW 0 (some 7) (bm 10 1) HT_ ?_
  refine oneW 1 (some 8) (bm 10 3) HT_ (fun K hK => ?_)
  refine goesR Tryd.func100 #[.slice A2 l2.length c2, .int .i64 0, .int .i64 1000] ?_
  with_reducible refine (impl_allWithin.calls k _ _ l2 0 1000 false _ ?side1 ?side2 A4.out).mono ?_
  (case side1 => exact C_g HR2 HB)
  (case side2 => exact HC2.out)
  rintro e w' ⟨rfl, ⟨nd, rfl⟩⟩
  refine ⟨_, rfl, ?_⟩
  refine hK.out _ _ trivial (fun hHeld => ?_)
  clear hK K
  refine normW 8 ?_
  refine pureW 2 (some 9) (bm 10 7) HT_ ?_
  refine pure_ (i := 3) (N := some 10) (v := undef) (a' := ?_) (bm 10 15) rfl rfl (any_of HT_.out (by kernel_rfl)) (fun _ _ _ h => h) (Or.inr ⟨by rfl, rfl⟩) ?_ ?_
  rotate_left
  ·simp only [Act.put, List.setIfInBounds_toArray, List.set_cons_zero, List.set_cons_succ, i64_w, i32_w]
   rfl
  refine pure_ (i := 4) (N := some 11) (v := undef) (a' := ?_) (bm 10 31) rfl rfl (any_of HT_.out (by kernel_rfl)) (fun _ _ _ h => h) (Or.inr ⟨by rfl, rfl⟩) ?_ ?_
  rotate_left
  ·simp only [Act.put, List.setIfInBounds_toArray, List.set_cons_zero, List.set_cons_succ, i64_w, i32_w]
   rfl
  refine pure_ (i := 5) (N := some 12) (v := undef) (a' := ?_) (bm 10 63) rfl rfl (any_of HT_.out (by kernel_rfl)) (fun _ _ _ h => h) (Or.inr ⟨by rfl, rfl⟩) ?_ ?_
  rotate_left
  ·simp only [Act.put, List.setIfInBounds_toArray, List.set_cons_zero, List.set_cons_succ, i64_w, i32_w]
   rfl
  refine pure_ (i := 6) (N := some 13) (v := undef) (a' := ?_) (bm 10 127) rfl rfl (any_of HT_.out (by kernel_rfl)) (fun _ _ _ h => h) (Or.inr ⟨by rfl, rfl⟩) ?_ ?_
  rotate_left
  ·simp only [Act.put, List.setIfInBounds_toArray, List.set_cons_zero, List.set_cons_succ, i64_w, i32_w]
   rfl
  refine pure_ (i := 7) (N := some 14) (v := undef) (a' := ?_) (bm 10 255) rfl rfl (any_of HT_.out (by kernel_rfl)) (fun _ _ _ h => h) (Or.inr ⟨by rfl, rfl⟩) ?_ ?_
  rotate_left
  ·simp only [Act.put, List.setIfInBounds_toArray, List.set_cons_zero, List.set_cons_succ, i64_w, i32_w]
   rfl
  refine pureW 8 (some 15) (bm 10 511) HT_ ?_
  refine pureW 9 (some 6) (bm 10 1023) HT_ ?_
  refine doneW HT_ ?_
  try go_wp2
  go_ret
  exact ⟨eqE, bel_g HB.out⟩

end Go.Proofs.YteechpappfagpaaDoor.Q

-- printed by this project's own program (wip/mp/mp.py) over the kit's print, for this seat; Lean checks it
namespace Go.Proofs.YteechpappfagpaaDoor.Q
open Go.RowKit Go.Proofs.YteechpappfagpaaDoorW.PrintWords Go.Proofs.YteechpappfagpaaDoorW.PrintLast Go.Proofs.YteechpappfagpaaDoorW.PrintMore
attribute [local go_sem] max2_int min2_int max_two min_two max_three min_three max_four min_four   -- for this text's walks alone
set_option linter.unusedVariables false
set_option maxHeartbeats 8000000
set_option maxRecDepth 100000
set_option linter.unusedSimpArgs false

/-! ### impl_IsPlaces: function 39 -/
def impl_IsPlaces.f (k : Nat) (a0_0 : Int) (l0_1 : List Int) (a1 : Int) (l2 : List Int) : Option (Bool × Bool) := (impl_isThreshold.f k a0_0 l0_1 a1).bind fun t686 => (if t686 = true then ((impl_Order_isPlaces.f k a0_0 l0_1 a1 l2).bind fun t687 => (some (t687, true))) else (some (false, false)))
theorem impl_IsPlaces.mono : ∀ a0 a1 a2 a3 k, LeO (impl_IsPlaces.f k a0 a1 a2 a3) (impl_IsPlaces.f (k + 1) a0 a1 a2 a3) := by
 intro a0 a1 a2 a3 k
 unfold impl_IsPlaces.f
 repeat' (with_reducible first|exact impl_Order_isPlaces.mono _ _ _ _ _|exact impl_isThreshold.mono _ _ _ _|exact LeO.refl _|exact LeO.none _|refine LeO.ite ?_ ?_|refine LeO.bind ?_ (fun _ => ?_))
theorem impl_IsPlaces.calls (k : Nat) (a0_0 : Int) (A0_1 : Option Addr) (c0_1 : Nat) (l0_1 : List Int) (a1 : Int) (A2 : Option Addr) (c2 : Nat) (l2 : List Int) (r1 : Bool) (r2 : Bool) (w : World) (hr0_1 : Kd.C (Kd.int .i64) w A0_1 l0_1.length l0_1) (hc0_1 : l0_1.length ≤ c0_1) (hr2 : Kd.C (Kd.int .i64) w A2 l2.length l2) (hc2 : l2.length ≤ c2) (hTAB : Tab w) (h : impl_IsPlaces.f k a0_0 l0_1 a1 l2 = some (r1, r2)) :
  Calls Tryd.prog 39 #[.agg #[.int .i64 a0_0, .slice A0_1 l0_1.length c0_1], .int .i64 a1, .slice A2 l2.length c2] w fun e w' => e = .returned (.tuple #[.bool r1, .bool r2]) ∧ Below w.heap.size w w' := by
 have HTAB := Aside0.mk hTAB
 clear hTAB
 have hu28 := Tryd.underlying28
 have HR0_1 := Aside0.mk hr0_1
 have HC0_1 := Aside0.mk hc0_1
 clear hr0_1 hc0_1
 have HR2 := Aside0.mk hr2
 have HC2 := Aside0.mk hc2
 clear hr2 hc2
 have HB := Aside0.mk (Below.refl w.heap.size w)
 have H : ((impl_isThreshold.f k a0_0 l0_1 a1).bind fun t686 => (if t686 = true then ((impl_Order_isPlaces.f k a0_0 l0_1 a1 l2).bind fun t687 => (some (t687, true))) else (some (false, false)))) = some (r1, r2) := h
 clear h
 obtain ⟨t686, A4, H⟩ := obE H
 by_cases c5 : t686 = true
 ·subst c5
  replace H := ifT H
  obtain ⟨t687, A6, H⟩ := obE H
  simp only [Option.some.injEq, Prod.mk.injEq] at H
  obtain ⟨rfl, rfl⟩ := H
  go_enter Tryd.func39, Tryd.ntmps39
  go_wp2_with (first | ((with_reducible refine gate_dst (N := 3) rfl ?_); refine boxE (N := 3) (cs := #[.int .i64 a0_0, .slice A0_1 l0_1.length c0_1]) (t := 28) ?_; intro gb685 hg w7 hbox hb; have BK685 := Aside0.mk (hbox); have GE685 := geB HB hg; replace HB := bst HB hb; clear hb hbox hg; obtain ⟨hcz8_0, hcz8_1, hfz8_0, hfz8_1⟩ := blk2 BK685) | ((with_reducible refine gate_callee (f := 106) rfl ?_); refine goesQ (some 10) Tryd.func106 #[.agg #[.int .i64 a0_0, .slice A0_1 l0_1.length c0_1], .int .i64 a1] ?_; (with_reducible refine (impl_isThreshold.calls k a0_0 _ _ l0_1 a1 true _ ?side1 ?side2 ?side3 A4.out).mono ?_); (case side1 => exact C_g HR0_1 HB); (case side2 => exact HC0_1.out); (case side3 => first | exact HTAB.out | exact Tab.drewN HTAB.out _ | exact Tab.below HTAB.out (bel_g HB.out) | exact Tab.below HTAB.out (by repeat (first | exact Below.refl _ _ | apply below_alloc | apply pw_below_drewN | apply below_drew1))); rintro e w9 ⟨rfl, hb⟩; refine ⟨_, rfl, ?_⟩; replace BK685 := blkB BK685 hb; replace HB := bst HB hb; (try clear hb); obtain ⟨hcz10_0, hcz10_1, hfz10_0, hfz10_1⟩ := blk2 BK685) | ((with_reducible refine gate_callee (f := 107) rfl ?_); refine goesQ (some 15) Tryd.func107 #[.agg #[.int .i64 a0_0, .slice A0_1 l0_1.length c0_1], .int .i64 a1, .slice A2 l2.length c2] ?_; (with_reducible refine (impl_Order_isPlaces.calls k a0_0 _ _ l0_1 a1 _ _ l2 t687 _ ?side1 ?side2 ?side3 ?side4 A6.out).mono ?_); (case side1 => exact C_g HR0_1 HB); (case side2 => exact HC0_1.out); (case side3 => exact C_g HR2 HB); (case side4 => exact HC2.out); rintro e w11 ⟨rfl, hb⟩; refine ⟨_, rfl, ?_⟩; replace BK685 := blkB BK685 hb; replace HB := bst HB hb; (try clear hb)))
  go_ret2
  exact ⟨eqE, bel_g HB.out⟩
 ·replace c5 := Bool.eq_false_iff.mpr c5
  subst c5
  replace H := ifF H
  simp only [Option.some.injEq, Prod.mk.injEq] at H
  obtain ⟨rfl, rfl⟩ := H
  go_enter Tryd.func39, Tryd.ntmps39
  go_wp2_with (first | ((with_reducible refine gate_dst (N := 3) rfl ?_); refine boxE (N := 3) (cs := #[.int .i64 a0_0, .slice A0_1 l0_1.length c0_1]) (t := 28) ?_; intro gb685 hg w12 hbox hb; have BK685 := Aside0.mk (hbox); have GE685 := geB HB hg; replace HB := bst HB hb; clear hb hbox hg; obtain ⟨hcz13_0, hcz13_1, hfz13_0, hfz13_1⟩ := blk2 BK685) | ((with_reducible refine gate_callee (f := 106) rfl ?_); refine goesQ (some 10) Tryd.func106 #[.agg #[.int .i64 a0_0, .slice A0_1 l0_1.length c0_1], .int .i64 a1] ?_; (with_reducible refine (impl_isThreshold.calls k a0_0 _ _ l0_1 a1 false _ ?side1 ?side2 ?side3 A4.out).mono ?_); (case side1 => exact C_g HR0_1 HB); (case side2 => exact HC0_1.out); (case side3 => first | exact HTAB.out | exact Tab.drewN HTAB.out _ | exact Tab.below HTAB.out (bel_g HB.out) | exact Tab.below HTAB.out (by repeat (first | exact Below.refl _ _ | apply below_alloc | apply pw_below_drewN | apply below_drew1))); rintro e w14 ⟨rfl, hb⟩; refine ⟨_, rfl, ?_⟩; replace BK685 := blkB BK685 hb; replace HB := bst HB hb; (try clear hb)))
  go_ret2
  exact ⟨eqE, bel_g HB.out⟩

end Go.Proofs.YteechpappfagpaaDoor.Q

-- printed by this project's own program (wip/mp/mp.py) over the kit's print, for this seat; Lean checks it
namespace Go.Proofs.YteechpappfagpaaDoor.Q
open Go.RowKit Go.Proofs.YteechpappfagpaaDoorW.PrintWords Go.Proofs.YteechpappfagpaaDoorW.PrintLast Go.Proofs.YteechpappfagpaaDoorW.PrintMore
attribute [local go_sem] max2_int min2_int max_two min_two max_three min_three max_four min_four   -- for this text's walks alone
set_option linter.unusedVariables false
set_option maxHeartbeats 8000000
set_option maxRecDepth 100000
set_option linter.unusedSimpArgs false

/-! ### laws_vNumber: function 40 -/
def laws_vNumber.l0 : Nat → Int → List Int → Int → Int → Option (Int)
 | 0, _, _, _, _ => none
 | k + 1, x3, x6, x7, x8 => if x8 < x7 then (if 0 ≤ x8 then (if x8 < (x6.length : Int) then (laws_vNumber.l0 k (Int.tmod (wrap64 ((wrap64 (31 * x3)) + (wrap64 (rd x6 x8)))) 1000003) x6 x7 (wrap64 (x8 + 1))) else (none)) else (none)) else (some x3)
def laws_vNumber.f (k : Nat) (l0 : List Int) : Option (Int) := laws_vNumber.l0 k 0 l0 (l0.length : Int) 0
theorem laws_vNumber.mono_l : ∀ k, (∀ y0 y1 y2 y3, LeO (laws_vNumber.l0 k y0 y1 y2 y3) (laws_vNumber.l0 (k + 1) y0 y1 y2 y3))
 | 0 => fun _ _ _ _ r h => by simp [laws_vNumber.l0] at h
 | k + 1 => by
  have ih0 := laws_vNumber.mono_l k
  ·intro y0 y1 y2 y3
   unfold laws_vNumber.l0
   repeat' (with_reducible first|exact ih0 _ _ _ _|exact LeO.refl _|exact LeO.none _|refine LeO.ite ?_ ?_|refine LeO.bind ?_ (fun _ => ?_))
theorem laws_vNumber.mono : ∀ a0 k, LeO (laws_vNumber.f k a0) (laws_vNumber.f (k + 1) a0) := by
 intro a0 k
 have ih0 := laws_vNumber.mono_l k
 unfold laws_vNumber.f
 repeat' (with_reducible first|exact ih0 _ _ _ _|exact LeO.refl _|exact LeO.none _|refine LeO.ite ?_ ?_|refine LeO.bind ?_ (fun _ => ?_))
theorem laws_vNumber.calls (k : Nat) (A0 : Option Addr) (c0 : Nat) (l0 : List Int) (r : Int) (w : World) (hr0 : Kd.C (Kd.int .u8) w A0 l0.length l0) (hc0 : l0.length ≤ c0) (h : laws_vNumber.f k l0 = some r) :
  Calls Tryd.prog 40 #[.slice A0 l0.length c0] w fun e w' => e = .returned (.int .i64 r) ∧ Drawn0 w w' := by
 have HR0 := Aside0.mk hr0
 have HC0 := Aside0.mk hc0
 clear hr0 hc0
 have H : (laws_vNumber.l0 k 0 l0 (l0.length : Int) 0) = some r := h
 clear h
 have H' := Aside0.mk H
 clear H
 go_enter Tryd.func40, Tryd.ntmps40
 go_wp2
 go_loopg [3, 8] k (fun kq v3 v8 w' => ∃ (x3_1 : Int) (x8_1 : Int), v3 = .int .i64 x3_1 ∧ v8 = .int .i64 x8_1 ∧ Aside0 (laws_vNumber.l0 kq x3_1 l0 (l0.length : Int) x8_1 = some r) ∧ Aside0 (kq ≤ k) ∧ Drawn0 w w')
 case atStart => exact ⟨(0), (0), eqS, eqS, H', ⟨Nat.le_refl _⟩, by repeat (first | exact Drawn0.refl _ | apply Drawn0.step)⟩
 case round =>
  clear H'
  obtain ⟨x3_1, x8_1, rfl, rfl, HA, HK1, ⟨m1, rfl⟩⟩ := hrel
  cases gk with
  | zero => exact absurd HA.out (by simp [laws_vNumber.l0])
  | succ k1 =>
   have H := HA.out
   clear HA
   simp only [laws_vNumber.l0] at H
   rcases iteE H with ⟨c2b0, H⟩ | ⟨c2b0, H⟩
   ·rcases iteP H with ⟨c3, H⟩ | ⟨c3, H⟩
    ·have c3b0 : decide (0 ≤ x8_1) = true := decide_eq_true c3
     clear c3
     rcases iteP H with ⟨c4, H⟩ | ⟨c4, H⟩
     ·have c4b0 : decide (x8_1 < (l0.length : Int)) = true := decide_eq_true c4
      clear c4
      have H' := Aside0.mk H
      clear H
      have p688 : 0 ≤ (x8_1 : Int) := ofd
      have q688 : x8_1 < (l0.length : Int) := ofd
      obtain ⟨ad688, e688, hx688_0⟩ := Kd.at_int HR0.out x8_1 p688 q688
      cases e688
      replace p688 := eq_true p688
      replace q688 := eq_true q688
      go_wp2
      go_roundg k1
      case measure => have := HK1.out; omega
      case rel => exact ⟨(Int.tmod (wrap64 ((wrap64 (31 * x3_1)) + (wrap64 (rd l0 x8_1)))) 1000003), (wrap64 (x8_1 + 1)), eqS, eqS, H', ⟨by have := HK1.out; omega⟩, by repeat (first | exact Drawn0.refl _ | apply Drawn0.step)⟩
     ·exact absurd H (by simp)
    ·exact absurd H (by simp)
   ·obtain rfl := Option.some.inj H
    go_wp2
    go_ret
    exact ⟨by first | rfl | (simp; done) | (simp [*]; done), by repeat (first | exact Drawn0.refl _ | apply Drawn0.step)⟩

end Go.Proofs.YteechpappfagpaaDoor.Q
