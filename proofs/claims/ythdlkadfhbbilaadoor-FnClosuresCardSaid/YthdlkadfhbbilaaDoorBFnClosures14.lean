import Derived.Test.YthdlkadfhbbilaaDoorBFnClosures9
import Derived.Test.YthdlkadfhbbilaaDoorBFnClosures13
namespace Go.Proofs.YthdlkadfhbbilaaDoor.Q
open Go.RowKit Go.Proofs.YthdlkadfhbbilaaDoorW.PrintWords Go.Proofs.YthdlkadfhbbilaaDoorW.PrintLast Go.Proofs.YthdlkadfhbbilaaDoorW.PrintMore
attribute [local go_sem] max2_int min2_int max_two min_two max_three min_three max_four min_four neB_f
set_option linter.unusedVariables false
set_option maxHeartbeats 8000000
set_option maxRecDepth 100000
set_option linter.unusedSimpArgs false
mutual
def laws_FnClosures.j0 : Nat → Bool → Bool → Int → List Int → Int → List Int → Option (Bool)
 | 0, _, _, _, _, _, _ => none
 | k + 1, x9, x49, x360000, x360001, x366000, x366001 => if x49 = true then (some false) else ((impl_CoversOf.f k x360000 x360001).bind fun bt373 => ((spec_CoversOf.f k x360000 x360001).bind fun bt379 => (if (bt373.2.2 != bt379.2.2) = true then (laws_FnClosures.j1 k x9 bt373.2.2 true x360000 x360001 x366000 x366001 bt373.1 bt373.2.1) else ((laws_pSameOrder.f k bt373.1 bt373.2.1 bt379.1 bt379.2.1).bind fun t385 => (if t385 = true then ((impl_IsOrder.f k x360000 x360001).bind fun t386 => (laws_FnClosures.j1 k x9 bt373.2.2 (bt373.2.2 != t386) x360000 x360001 x366000 x366001 bt373.1 bt373.2.1)) else (laws_FnClosures.j1 k x9 bt373.2.2 true x360000 x360001 x366000 x366001 bt373.1 bt373.2.1))))))
def laws_FnClosures.j1 : Nat → Bool → Bool → Bool → Int → List Int → Int → List Int → Int → List Int → Option (Bool)
 | 0, _, _, _, _, _, _, _, _, _ => none
 | k + 1, x9, x11, x74, x360000, x360001, x366000, x366001, x379000, x379001 => if x74 = true then (some false) else (if x9 = true then ((impl_CloseRelation.f k x366000 x366001).bind fun bt387 => (if bt387.2.2 = true then ((laws_pSameOrder.f k bt387.1 bt387.2.1 x366000 x366001).bind fun t393 => (if t393 = true then ((impl_IsOrder.f k x360000 x360001).bind fun t394 => (if t394 = true then ((laws_pSameOrder.f k x366000 x366001 x360000 x360001).bind fun t395 => (laws_FnClosures.j2 k x11 (!t395) x360000 x360001 x366000 x366001 x379000 x379001)) else (laws_FnClosures.j2 k x11 false x360000 x360001 x366000 x366001 x379000 x379001))) else (laws_FnClosures.j2 k x11 true x360000 x360001 x366000 x366001 x379000 x379001))) else (laws_FnClosures.j2 k x11 true x360000 x360001 x366000 x366001 x379000 x379001))) else (some true))
def laws_FnClosures.j2 : Nat → Bool → Bool → Int → List Int → Int → List Int → Int → List Int → Option (Bool)
 | 0, _, _, _, _, _, _, _, _ => none
 | k + 1, x11, x99, x360000, x360001, x366000, x366001, x379000, x379001 => if x99 = true then (some false) else (laws_FnClosures.l0 k x11 false x366001 (x366001.length : Int) 0 x360000 x360001 x366000 x366001 x379000 x379001)
def laws_FnClosures.l0 : Nat → Bool → Bool → List Int → Int → Int → Int → List Int → Int → List Int → Int → List Int → Option (Bool)
 | 0, _, _, _, _, _, _, _, _, _, _, _ => none
 | k + 1, x11, x16, x101, x102, x103, x360000, x360001, x366000, x366001, x379000, x379001 => if x103 < x102 then (if 0 ≤ x103 then (if x103 < (x101.length : Int) then (if x103 < (x360001.length : Int) then (if (Go.bits .andNot .i64 (rd x360001 x103) (rd x101 x103)) = 0 then (if x16 = true then (laws_FnClosures.l0 k x11 true x101 x102 (wrap64 (x103 + 1)) x360000 x360001 x366000 x366001 x379000 x379001) else ((laws_pIn.f (rd x101 x103) x103).bind fun t398 => (laws_FnClosures.l0 k x11 t398 x101 x102 (wrap64 (x103 + 1)) x360000 x360001 x366000 x366001 x379000 x379001))) else (some false)) else (none)) else (none)) else (none)) else ((impl_IsOrder.f k x366000 x366001).bind fun t399 => (if (t399 == x16) = true then (some false) else (if x11 = true then ((impl_CloseRelation.f k x379000 x379001).bind fun bt400 => (if bt400.2.2 = true then ((laws_pSameOrder.f k bt400.1 bt400.2.1 x360000 x360001).bind fun t406 => (laws_FnClosures.j4 k (!t406) x379000 x379001)) else (laws_FnClosures.j4 k true x379000 x379001))) else (some true))))
def laws_FnClosures.j4 : Nat → Bool → Int → List Int → Option (Bool)
 | 0, _, _, _ => none
 | k + 1, x141, x379000, x379001 => if x141 = true then (some false) else (laws_FnClosures.l1 k (x379001.length : Int) 0 x379000 x379001)
def laws_FnClosures.l1 : Nat → Int → Int → Int → List Int → Option (Bool)
 | 0, _, _, _, _ => none
 | k + 1, x144, x145, x379000, x379001 => if x145 < x144 then (laws_FnClosures.l2 k x145 x144 x145 (x379001.length : Int) 0 x379000 x379001) else (some true)
def laws_FnClosures.l2 : Nat → Int → Int → Int → Int → Int → Int → List Int → Option (Bool)
 | 0, _, _, _, _, _, _, _ => none
 | k + 1, x21, x144, x145, x150, x151, x379000, x379001 => if x151 < x150 then (if 0 ≤ x21 then (if x21 < (x379001.length : Int) then ((laws_pIn.f (rd x379001 x21) x151).bind fun t408 => (if t408 = true then ((some (([] : List Int) : List Int)).bind fun y409 => (if y409.length + x379001.length < 17592186044416 then ((some (y409 ++ x379001 : List Int)).bind fun y412 => (if x21 < (y412.length : Int) then (if 0 ≤ x151 then ((impl_CloseRelation.f k x379000 (y412.set (x21 : Int).toNat (wrap64 ((rd y412 x21) - (shl .i64 1 x151))))).bind fun bt418 => (if bt418.2.2 = true then (if x21 < (bt418.2.1.length : Int) then ((laws_pIn.f (rd bt418.2.1 x21) x151).bind fun t425 => (if t425 = true then (some false) else (laws_FnClosures.l2 k x21 x144 x145 x150 (wrap64 (x151 + 1)) x379000 x379001))) else (none)) else (some false))) else (none)) else (none))) else (none))) else (laws_FnClosures.l2 k x21 x144 x145 x150 (wrap64 (x151 + 1)) x379000 x379001))) else (none)) else (none)) else (laws_FnClosures.l1 k x144 (wrap64 (x145 + 1)) x379000 x379001)
end
def laws_FnClosures.f (k : Nat) (l0 : List Int) (l1 : List Int) : Option (Bool) := (laws_big.f l0 l1).bind fun t354 => (if t354 = true then (some true) else ((spec_DrawCloseRelation.f k l0).bind fun bt355 => ((impl_CloseRelation.f k bt355.1 bt355.2).bind fun bt360 => ((spec_CloseRelation.f k bt355.1 bt355.2).bind fun bt366 => (if (bt360.2.2 != bt366.2.2) = true then (laws_FnClosures.j0 k bt366.2.2 true bt355.1 bt355.2 bt360.1 bt360.2.1) else ((laws_pSameOrder.f k bt360.1 bt360.2.1 bt366.1 bt366.2.1).bind fun t372 => (laws_FnClosures.j0 k bt366.2.2 (!t372) bt355.1 bt355.2 bt360.1 bt360.2.1)))))))
theorem rM2 {α : Type} {d : Kd α} {e : Nat} {w : World} {base : Nat} {ok ok2 : Nat → Prop} {v : Value} {xs : List α} (h : d.R e w base ok v xs) (f : ∀ k, ok k → ok2 k := by intro _ hk; and_intros <;> (with_reducible first | exact hk | exact hk.1 | exact hk.2 | exact hk.2.1 | exact hk.2.2 | exact hk.2.2.1 | exact hk.2.2.2 | exact hk.2.2.2.1 | exact hk.2.2.2.2 | exact hk.2.2.2.2.1 | exact hk.2.2.2.2.2 | exact hk.2.2.2.2.2.1 | exact hk.2.2.2.2.2.2 | exact hk.2.2.2.2.2.2.1 | exact hk.1.1 | exact hk.1.2 | exact hk.1.2.1 | exact hk.1.2.2 | exact hk.1.2.2.1 | exact hk.1.2.2.2 | exact hk.1.2.2.2.1 | exact hk.1.2.2.2.2 | exact hk.1.2.2.2.2.1 | exact hk.1.2.2.2.2.2 | exact hk.1.2.2.2.2.2.1 | exact hk.1.2.2.2.2.2.2 | exact hk.1.2.2.2.2.2.2.1 | exact hk.1.1.1 | exact hk.1.1.2 | exact hk.1.1.2.1 | exact hk.1.1.2.2 | exact hk.1.1.2.2.1 | exact hk.1.1.2.2.2 | exact hk.1.1.2.2.2.1 | exact hk.1.1.2.2.2.2 | exact hk.1.1.2.2.2.2.1 | exact hk.1.1.2.2.2.2.2 | exact hk.1.1.2.2.2.2.2.1 | exact hk.1.1.2.2.2.2.2.2 | exact hk.1.1.2.2.2.2.2.2.1 | exact hk.1.1.1.1 | exact hk.1.1.1.2 | exact hk.1.1.1.2.1 | exact hk.1.1.1.2.2 | exact hk.1.1.1.2.2.1 | exact hk.1.1.1.2.2.2 | exact hk.1.1.1.2.2.2.1 | exact hk.1.1.1.2.2.2.2 | exact hk.1.1.1.2.2.2.2.1 | exact hk.1.1.1.2.2.2.2.2 | exact hk.1.1.1.2.2.2.2.2.1 | exact hk.1.1.1.2.2.2.2.2.2 | exact hk.1.1.1.2.2.2.2.2.2.1 | exact hk.1.1.1.1.1 | exact hk.1.1.1.1.2 | exact hk.1.1.1.1.2.1 | exact hk.1.1.1.1.2.2 | exact hk.1.1.1.1.2.2.1 | exact hk.1.1.1.1.1.1 | exact hk.1.1.1.1.1.2 | exact hk.1.1.1.1.1.2.1 | exact hk.1.1.1.1.1.2.2 | exact hk.1.1.1.1.1.2.2.1 | exact hk.1.1.1.1.1.1.1 | exact hk.1.1.1.1.1.1.2 | exact hk.1.1.1.1.1.1.2.1 | exact hk.1.1.1.1.1.1.2.2 | exact hk.1.1.1.1.1.1.2.2.1 | exact hk.1.1.1.1.1.1.1.1 | exact hk.1.1.1.1.1.1.1.2 | exact hk.1.1.1.1.1.1.1.2.1 | exact hk.1.1.1.1.1.1.1.2.2 | exact hk.1.1.1.1.1.1.1.2.2.1)) : d.R e w base ok2 v xs := Kd.R_mono h f
theorem laws_FnClosures.mono_l : ∀ k, (∀ y0 y1 y2 y3 y4 y5, LeO (laws_FnClosures.j0 k y0 y1 y2 y3 y4 y5) (laws_FnClosures.j0 (k + 1) y0 y1 y2 y3 y4 y5)) ∧ (∀ y0 y1 y2 y3 y4 y5 y6 y7 y8, LeO (laws_FnClosures.j1 k y0 y1 y2 y3 y4 y5 y6 y7 y8) (laws_FnClosures.j1 (k + 1) y0 y1 y2 y3 y4 y5 y6 y7 y8)) ∧ (∀ y0 y1 y2 y3 y4 y5 y6 y7, LeO (laws_FnClosures.j2 k y0 y1 y2 y3 y4 y5 y6 y7) (laws_FnClosures.j2 (k + 1) y0 y1 y2 y3 y4 y5 y6 y7)) ∧ (∀ y0 y1 y2 y3 y4 y5 y6 y7 y8 y9 y10, LeO (laws_FnClosures.l0 k y0 y1 y2 y3 y4 y5 y6 y7 y8 y9 y10) (laws_FnClosures.l0 (k + 1) y0 y1 y2 y3 y4 y5 y6 y7 y8 y9 y10)) ∧ (∀ y0 y1 y2, LeO (laws_FnClosures.j4 k y0 y1 y2) (laws_FnClosures.j4 (k + 1) y0 y1 y2)) ∧ (∀ y0 y1 y2 y3, LeO (laws_FnClosures.l1 k y0 y1 y2 y3) (laws_FnClosures.l1 (k + 1) y0 y1 y2 y3)) ∧ (∀ y0 y1 y2 y3 y4 y5 y6, LeO (laws_FnClosures.l2 k y0 y1 y2 y3 y4 y5 y6) (laws_FnClosures.l2 (k + 1) y0 y1 y2 y3 y4 y5 y6))
 | 0 => ⟨fun _ _ _ _ _ _ r h => by simp [laws_FnClosures.j0] at h, fun _ _ _ _ _ _ _ _ _ r h => by simp [laws_FnClosures.j1] at h, fun _ _ _ _ _ _ _ _ r h => by simp [laws_FnClosures.j2] at h, fun _ _ _ _ _ _ _ _ _ _ _ r h => by simp [laws_FnClosures.l0] at h, fun _ _ _ r h => by simp [laws_FnClosures.j4] at h, fun _ _ _ _ r h => by simp [laws_FnClosures.l1] at h, fun _ _ _ _ _ _ _ r h => by simp [laws_FnClosures.l2] at h⟩
 | k + 1 => by
  obtain ⟨ih0, ih1, ih2, ih3, ih4, ih5, ih6⟩ := laws_FnClosures.mono_l k
  refine ⟨?_, ?_, ?_, ?_, ?_, ?_, ?_⟩ <;> intros
  unfold laws_FnClosures.j0
  rotate_left
  unfold laws_FnClosures.j1
  rotate_left
  unfold laws_FnClosures.j2
  rotate_left
  unfold laws_FnClosures.l0
  rotate_left
  unfold laws_FnClosures.j4
  rotate_left
  unfold laws_FnClosures.l1
  rotate_left
  unfold laws_FnClosures.l2
  rotate_left
  all_goals repeat' (with_reducible first|apply ih0|apply ih1|apply ih2|apply ih3|apply ih4|apply ih5|apply ih6|apply impl_CloseRelation.mono|apply impl_CoversOf.mono|apply impl_IsOrder.mono|apply laws_pSameOrder.mono|apply spec_CloseRelation.mono|apply spec_CoversOf.mono|apply spec_DrawCloseRelation.mono|apply LeO.refl|apply LeO.none|apply LeO.ite|apply LeO.bind|intro)
theorem laws_FnClosures.mono : ∀ a0 a1 k, LeO (laws_FnClosures.f k a0 a1) (laws_FnClosures.f (k + 1) a0 a1) := by
 intro a0 a1 k
 obtain ⟨ih0, ih1, ih2, ih3, ih4, ih5, ih6⟩ := laws_FnClosures.mono_l k
 unfold laws_FnClosures.f
 repeat' (with_reducible first|apply ih0|apply ih1|apply ih2|apply ih3|apply ih4|apply ih5|apply ih6|apply impl_CloseRelation.mono|apply impl_CoversOf.mono|apply impl_IsOrder.mono|apply laws_pSameOrder.mono|apply spec_CloseRelation.mono|apply spec_CoversOf.mono|apply spec_DrawCloseRelation.mono|apply LeO.refl|apply LeO.none|apply LeO.ite|apply LeO.bind|intro)
def laws_FnClosures.T39 : Bool × List (List Nat × List Nat) := (true, [([], []), ([0], [0]), ([], []), ([], []), ([3], [3]), ([2, 4], [2, 4]), ([1, 5], [1, 5]), ([], []), ([7, 6, 5, 0, 1, 2, 3, 4, 5, 6, 7], [6, 7])])
def laws_FnClosures.B39 : List Nat := [0, 1, 0, 0, 8, 28, 63, 0, 255]
theorem laws_FnClosures.tab39 : rtab .any (opsOf Tryd.f3 39) = laws_FnClosures.T39 := by kernel_rfl
theorem laws_FnClosures.bits39 : waitsOk laws_FnClosures.T39.2 laws_FnClosures.B39 = true := by kernel_rfl
def laws_FnClosures.T40 : Bool × List (List Nat × List Nat) := (true, [([], []), ([0], [0]), ([], []), ([1, 2], [1, 2]), ([3], [3]), ([], []), ([5], [5]), ([4, 6], [4, 6]), ([1, 2, 0, 1, 2, 3, 4, 5, 6, 7], [1, 2]), ([8, 7, 0, 1, 2, 3, 4, 5, 6, 7], [7, 8])])
def laws_FnClosures.B40 : List Nat := [0, 1, 0, 7, 15, 0, 32, 127, 255, 511]
theorem laws_FnClosures.tab40 : rtab .any (opsOf Tryd.f3 40) = laws_FnClosures.T40 := by kernel_rfl
theorem laws_FnClosures.bits40 : waitsOk laws_FnClosures.T40.2 laws_FnClosures.B40 = true := by kernel_rfl
theorem laws_FnClosures.calls (k : Nat) (A0 : Option Addr) (c0 : Nat) (l0 : List Int) (A1 : Option Addr) (c1 : Nat) (l1 : List Int) (r : Bool) (w : World) (hr0 : Kd.C (Kd.int .u8) w A0 l0.length l0) (hc0 : l0.length ≤ c0) (hr1 : Kd.C (Kd.int .u8) w A1 l1.length l1) (hc1 : l1.length ≤ c1) (hTAB : Tab w) (h : laws_FnClosures.f k l0 l1 = some r) :
  Calls Tryd.prog 3 #[.slice A0 l0.length c0, .slice A1 l1.length c1] w fun e w' => e = .returned (.bool r) ∧ Below w.heap.size w w' := by
 have HTAB := mkA hTAB
 clear hTAB
 have hu26 := Tryd.underlying26
 have HR0 := mkA hr0
 have HC0 := mkA hc0
 clear hr0 hc0
 have HR1 := mkA hr1
 have HC1 := mkA hc1
 clear hr1 hc1
 have HB := mkA (Below.refl w.heap.size w)
 have H := h
 clear h
 unfold laws_FnClosures.f at H
 obtain ⟨t354, A3, H⟩ := obE H
 by_cases c4 : t354 = true
 ·subst c4
  replace H := ifT H
  obtain rfl := Option.some.inj H
  go_enter Tryd.func3, Tryd.ntmps3
  go_wp2_with (first | ((with_reducible refine gate_callee (f := 4) rfl ?_); refine goesQ (some 28) Tryd.func4 #[.slice A0 l0.length c0, .slice A1 l1.length c1] ?_; (with_reducible refine (laws_big.calls _ _ l0 _ _ l1 true _ ?s1 ?s2 ?s3 ?s4 A3.out).mono ?_); (case s1 => repeat (first | exact HR0.out | (with_reducible refine Kd.C_alloc ?_ _) | (with_reducible refine Kd.C_drewN ?_ _) | (with_reducible refine Kd.C_drew ?_))); (case s2 => exact HC0.out); (case s3 => repeat (first | exact HR1.out | (with_reducible refine Kd.C_alloc ?_ _) | (with_reducible refine Kd.C_drewN ?_ _) | (with_reducible refine Kd.C_drew ?_))); (case s4 => exact HC1.out); rintro e w' ⟨rfl, ⟨nd, rfl⟩⟩; refine ⟨_, rfl, ?_⟩))
  go_ret
  exact ⟨eqE, bel_g HB.out⟩
 ·replace c4 := Bool.eq_false_iff.mpr c4
  subst c4
  replace H := ifF H
  obtain ⟨⟨t355, t356⟩, A5, H⟩ := obE H
  dsimp only at H
  obtain ⟨⟨t360, t361, t364⟩, A6, H⟩ := obE H
  dsimp only at H
  obtain ⟨⟨t366, t367, t370⟩, A7, H⟩ := obE H
  dsimp only at H
  have HC8 := mkA H
  clear H
  go_enter Tryd.func3, Tryd.ntmps3
  go_upto_region 6 with (first | ((with_reducible refine gate_callee (f := 4) rfl ?_); refine goesQ (some 28) Tryd.func4 #[.slice A0 l0.length c0, .slice A1 l1.length c1] ?_; (with_reducible refine (laws_big.calls _ _ l0 _ _ l1 false _ ?s1 ?s2 ?s3 ?s4 A3.out).mono ?_); (case s1 => repeat (first | exact HR0.out | (with_reducible refine Kd.C_alloc ?_ _) | (with_reducible refine Kd.C_drewN ?_ _) | (with_reducible refine Kd.C_drew ?_))); (case s2 => exact HC0.out); (case s3 => repeat (first | exact HR1.out | (with_reducible refine Kd.C_alloc ?_ _) | (with_reducible refine Kd.C_drewN ?_ _) | (with_reducible refine Kd.C_drew ?_))); (case s4 => exact HC1.out); rintro e w' ⟨rfl, ⟨nd, rfl⟩⟩; refine ⟨_, rfl, ?_⟩) | ((with_reducible refine gate_callee (f := 5) rfl ?_); refine goesQ (some 30) Tryd.func5 #[.slice A0 l0.length c0] ?_; (with_reducible refine (spec_DrawCloseRelation.calls k _ _ l0 t355 t356 _ ?s1 ?s2 A5.out).mono ?_); (case s1 => repeat (first | exact HR0.out | (with_reducible refine Kd.C_alloc ?_ _) | (with_reducible refine Kd.C_drewN ?_ _) | (with_reducible refine Kd.C_drew ?_))); (case s2 => exact HC0.out); rintro e w9 ⟨v357, rfl, ho0, hb⟩; refine ⟨_, rfl, ?_⟩; have HO358 := rLo ho0 HB; replace HB := bst HB hb; clear hb ho0) | ((with_reducible refine gate_dst (N := 5) rfl ?_); refine boxG HB #[.int .i64 0, .slice none 0 0] 26 ?_; intro gb359 hg w10 BK359 GE359 hb; replace HO358 := rB HO358 hb; replace HB := bst HB hb; clear hb hg; obtain ⟨_, _, _, _⟩ := blk2 BK359; obtain ⟨Ao12, co12, rfl⟩ := Kd.R_slice HO358.out) | ((with_reducible refine gate_callee (f := 6) rfl ?_); refine goesQ (some 33) Tryd.func6 #[.agg #[.int .i64 t355, .slice Ao12 t356.length co12]] ?_; (with_reducible refine (impl_CloseRelation.calls k t355 _ _ t356 t360 t361 t364 _ ?_ ?_ A6.out).mono ?_); exact rCF HO358 BK359; exact rL HO358; rintro e w13 ⟨v362, rfl, ho0, hb⟩; refine ⟨_, rfl, ?_⟩; have HO363 := rLo (rNF ho0 HO358 BK359) HB; replace HO358 := rEF HO358 BK359 ho0 hb; replace BK359 := blkS BK359 hb; replace HB := bst HB hb; clear hb ho0) | ((with_reducible refine gate_dst (N := 6) rfl ?_); refine boxG HB #[.int .i64 0, .slice none 0 0] 26 ?_; intro gb365 hg w14 BK365 GE365 hb; replace HO358 := rB HO358 hb; replace HO363 := rB HO363 hb; have NB359_365 := neL7 BK359 hg; have NB365_359 := neR7 BK359 hg; replace BK359 := blkB BK359 hb; replace HB := bst HB hb; clear hb hg; obtain ⟨_, _, _, _⟩ := blk2 BK365; obtain ⟨Ao17, co17, rfl⟩ := Kd.R_slice HO363.out; obtain ⟨_, _, _, _⟩ := blk2 BK359) | ((with_reducible refine gate_callee (f := 7) rfl ?_); refine goesQ (some 38) Tryd.func7 #[.agg #[.int .i64 t355, .slice Ao12 t356.length co12]] ?_; (with_reducible refine (spec_CloseRelation.calls k t355 _ _ t356 t366 t367 t370 _ ?_ ?_ A7.out).mono ?_); exact rCF HO358 BK365; exact rL HO358; rintro e w19 ⟨v368, rfl, ho0, hb⟩; refine ⟨_, rfl, ?_⟩; have HO369 := rLo (rNF (rNF ho0 HO358 BK365) HO363 BK365) HB; replace HO358 := rEF HO358 BK365 ho0 hb; replace HO363 := rEF HO363 BK365 ho0 hb; replace BK359 := blkS BK359 hb; replace BK365 := blkS BK365 hb; replace HB := bst HB hb; clear hb ho0) | ((with_reducible refine gate_dst (N := 8) rfl ?_); refine boxG HB #[.int .i64 0, .slice none 0 0] 26 ?_; intro gb371 hg w20 BK371 GE371 hb; replace HO358 := rB HO358 hb; replace HO363 := rB HO363 hb; replace HO369 := rB HO369 hb; have NB359_371 := neL7 BK359 hg; have NB371_359 := neR7 BK359 hg; replace BK359 := blkB BK359 hb; have NB365_371 := neL7 BK365 hg; have NB371_365 := neR7 BK365 hg; replace BK365 := blkB BK365 hb; replace HB := bst HB hb; clear hb hg; obtain ⟨_, _, _, _⟩ := blk2 BK371; obtain ⟨Ao24, co24, rfl⟩ := Kd.R_slice HO369.out))
  (try simp only [Act.put, List.setIfInBounds_toArray, List.set_cons_zero, List.set_cons_succ])
  go_cut [49] (fun v49 wc => ∃ (kq : Nat) (x49_7 : Bool), v49 = .bool x49_7 ∧ Fc (laws_FnClosures.j0 kq t370 x49_7 t355 t356 t360 t361 = some r) ∧ Fc (kq ≤ k) ∧ Fc (Kd.R (Kd.int .i64) 3 wc w.heap.size (O2 ((.slice Ao17 t361.length co17)) ((.slice Ao24 t367.length co24))) (.slice Ao12 t356.length co12) t356) ∧ Fc (Kd.R (Kd.int .i64) 3 wc w.heap.size (O2 ((.slice Ao12 t356.length co12)) ((.slice Ao24 t367.length co24))) (.slice Ao17 t361.length co17) t361) ∧ Fc (Kd.R (Kd.int .i64) 3 wc w.heap.size (O2 ((.slice Ao12 t356.length co12)) ((.slice Ao17 t361.length co17))) (.slice Ao24 t367.length co24) t367) ∧ Fc (wc.heap[gb359]? = some (.cells #[.int .i64 t355, (.slice Ao12 t356.length co12)] 26 (0, 0))) ∧ Fc (wc.heap[gb365]? = some (.cells #[.int .i64 t360, (.slice Ao17 t361.length co17)] 26 (0, 0))) ∧ Fc (wc.heap[gb371]? = some (.cells #[.int .i64 t366, (.slice Ao24 t367.length co24)] 26 (0, 0))) ∧ Fc (Below w.heap.size w wc))
  case first =>
   have H := HC8.out
   clear HC8
   rcases iteP H with ⟨c25, H⟩ | ⟨c25, H⟩
   ·have c25b0 : (t364 != t370) = true := c25
    (try (have c25b1 : decide (t364 = t370) = false := by simpa using c25))
    (try (have c25b2 : (t364 == t370) = false := by simpa using c25))
    (try (have c25b3 : ¬ (t364 = t370) := by simpa using c25))
    clear c25
    (first | rw [c25b0] | (simp only [i64_w, i32_w]; rw [c25b0]) | skip)
    have H' := mkA H
    clear H
    as_aux_lemma =>
     go_wp2
     go_meet
     case rel => exact ⟨_, (true), eqS, H', ⟨by first | omega | exact Nat.le_refl _⟩, ⟨Kd.R_g (rM2 (Kd.R_far (p := ⟨gb371, 1, none⟩) (Kd.R_far (p := ⟨gb371, 0, none⟩) (Kd.R_types HO358.out BK371.out (by decide)) (fun _ hk => hk.2) (.int .i64 t366)) (fun _ hk => hk.2) (.slice Ao24 t367.length co24)))⟩, ⟨Kd.R_g (rM2 (Kd.R_far (p := ⟨gb371, 1, none⟩) (Kd.R_far (p := ⟨gb371, 0, none⟩) (Kd.R_types HO363.out BK371.out (by decide)) (fun _ hk => hk.2) (.int .i64 t366)) (fun _ hk => hk.2) (.slice Ao24 t367.length co24)))⟩, ⟨Kd.R_g (rM2 (Kd.R_far (p := ⟨gb371, 1, none⟩) (Kd.R_far (p := ⟨gb371, 0, none⟩) (Kd.R_types HO369.out BK371.out (by decide)) (fun _ hk => hk.2) (.int .i64 t366)) (fun _ hk => hk.2) (.slice Ao24 t367.length co24)))⟩, ⟨blkT BK359⟩, ⟨blkT BK365⟩, ⟨blkT BK371⟩, hbg HB⟩
   ·have c25b0 : (t364 != t370) = false := by simpa using c25
    (try (have c25b1 : decide (t364 = t370) = true := by simpa using c25))
    (try (have c25b2 : (t364 == t370) = true := by simpa using c25))
    clear c25
    (first | rw [c25b0] | (simp only [i64_w, i32_w]; rw [c25b0]) | skip)
    obtain ⟨t372, A26, H⟩ := obE H
    have H' := mkA H
    clear H
    obtain ⟨_, _, _, _⟩ := blk2 BK365
    obtain ⟨_, _, _, _⟩ := blk2 BK371
    as_aux_lemma =>
     go_wp2_with (first | (go_at_call 8; (with_reducible refine (laws_pSameOrder.calls k t360 _ _ t361 t366 _ _ t367 t372 _ ?_ ?_ ?_ ?_ A26.out).mono ?_); exact rCF HO363 BK371; exact rL HO363; exact rCF HO369 BK371; exact rL HO369; rintro e w32 ⟨rfl, hb⟩; replace HO358 := mkA (Kd.R_below (rFg HO358 BK371) hb); replace HO363 := mkA (Kd.R_below (rFg HO363 BK371) hb); replace HO369 := mkA (Kd.R_below (rFg HO369 BK371) hb); replace BK359 := blkS BK359 hb; replace BK365 := blkS BK365 hb; replace BK371 := blkS BK371 hb; replace HB := bst HB hb; clear hb))
     go_meet
     case rel => exact ⟨_, (!t372), eqS, H', ⟨by first | omega | exact Nat.le_refl _⟩, ⟨Kd.R_g (rM2 HO358.out)⟩, ⟨Kd.R_g (rM2 HO363.out)⟩, ⟨Kd.R_g (rM2 HO369.out)⟩, bg BK359, bg BK365, bg BK371, hbg HB⟩
  case rest =>
   clear HC8
   try clear c1
   try clear c4
   try clear c25
   try clear c25b0
   try clear c25b1
   try clear c25b2
   obtain ⟨kq, x49_7, rfl, HA, HJ7, HO_360001, HO_366001, HO_372001, BK359, BK365, BK371, HB⟩ := hcut
   cases kq with
   | zero => exact absurd HA.out (by simp [laws_FnClosures.j0])
   | succ kj7 =>
    have H := HA.out
    clear HA
    simp only [laws_FnClosures.j0] at H
    by_cases c33 : x49_7 = true
    ·subst c33
     replace H := ifT H
     obtain rfl := Option.some.inj H
     go_wp2
     go_ret
     exact ⟨eqE, bel_g HB.out⟩
    ·replace c33 := Bool.eq_false_iff.mpr c33
     subst c33
     replace H := ifF H
     obtain ⟨⟨t373, t374, t377⟩, A34, H⟩ := obE H
     dsimp only at H
     obtain ⟨⟨t379, t380, t383⟩, A35, H⟩ := obE H
     dsimp only at H
     have HC36 := mkA H
     clear H
     obtain ⟨_, _, _, _⟩ := blk2 BK359
     go_upto_region 10 with (first | ((with_reducible refine gate_callee (f := 9) rfl ?_); refine goesQ (some 52) Tryd.func9 #[.agg #[.int .i64 t355, .slice Ao12 t356.length co12]] ?_; (with_reducible refine (impl_CoversOf.calls kj7 t355 _ _ t356 t373 t374 t377 _ ?_ ?_ ?_ A34.out).mono ?_); exact rC HO_360001; exact rL HO_360001; exact Tab.below HTAB.out (bel_g HB.out); rintro e w40 ⟨v375, rfl, ho0, hb⟩; refine ⟨_, rfl, ?_⟩; have HO376 := rLo (rN (rN (rN ho0 HO_360001) HO_366001) HO_372001) HB; replace HO_360001 := rE HO_360001 ho0 hb; replace HO_366001 := rE HO_366001 ho0 hb; replace HO_372001 := rE HO_372001 ho0 hb; replace BK359 := blkB BK359 hb; replace BK365 := blkB BK365 hb; replace BK371 := blkB BK371 hb; replace HB := bst HB hb; clear hb ho0) | ((with_reducible refine gate_dst (N := 10) rfl ?_); refine boxG HB #[.int .i64 0, .slice none 0 0] 26 ?_; intro gb378 hg w41 BK378 GE378 hb; replace HO_360001 := rB HO_360001 hb; replace HO_366001 := rB HO_366001 hb; replace HO_372001 := rB HO_372001 hb; replace HO376 := rB HO376 hb; have NB359_378 := neL7 BK359 hg; have NB378_359 := neR7 BK359 hg; replace BK359 := blkB BK359 hb; have NB365_378 := neL7 BK365 hg; have NB378_365 := neR7 BK365 hg; replace BK365 := blkB BK365 hb; have NB371_378 := neL7 BK371 hg; have NB378_371 := neR7 BK371 hg; replace BK371 := blkB BK371 hb; replace HB := bst HB hb; clear hb hg; obtain ⟨_, _, _, _⟩ := blk2 BK378; obtain ⟨Ao46, co46, rfl⟩ := Kd.R_slice HO376.out; obtain ⟨_, _, _, _⟩ := blk2 BK359) | ((with_reducible refine gate_callee (f := 10) rfl ?_); refine goesQ (some 57) Tryd.func10 #[.agg #[.int .i64 t355, .slice Ao12 t356.length co12]] ?_; (with_reducible refine (spec_CoversOf.calls kj7 t355 _ _ t356 t379 t380 t383 _ ?_ ?_ A35.out).mono ?_); exact rCF HO_360001 BK378; exact rL HO_360001; rintro e w48 ⟨v381, rfl, ho0, hb⟩; refine ⟨_, rfl, ?_⟩; have HO382 := rLo (rNF (rNF (rNF (rNF ho0 HO_360001 BK378) HO_366001 BK378) HO_372001 BK378) HO376 BK378) HB; replace HO_360001 := rEF HO_360001 BK378 ho0 hb; replace HO_366001 := rEF HO_366001 BK378 ho0 hb; replace HO_372001 := rEF HO_372001 BK378 ho0 hb; replace HO376 := rEF HO376 BK378 ho0 hb; replace BK359 := blkS BK359 hb; replace BK365 := blkS BK365 hb; replace BK371 := blkS BK371 hb; replace BK378 := blkS BK378 hb; replace HB := bst HB hb; clear hb ho0) | ((with_reducible refine gate_dst (N := 12) rfl ?_); refine boxG HB #[.int .i64 0, .slice none 0 0] 26 ?_; intro gb384 hg w49 BK384 GE384 hb; replace HO_360001 := rB HO_360001 hb; replace HO_366001 := rB HO_366001 hb; replace HO_372001 := rB HO_372001 hb; replace HO376 := rB HO376 hb; replace HO382 := rB HO382 hb; have NB359_384 := neL7 BK359 hg; have NB384_359 := neR7 BK359 hg; replace BK359 := blkB BK359 hb; have NB365_384 := neL7 BK365 hg; have NB384_365 := neR7 BK365 hg; replace BK365 := blkB BK365 hb; have NB371_384 := neL7 BK371 hg; have NB384_371 := neR7 BK371 hg; replace BK371 := blkB BK371 hb; have NB378_384 := neL7 BK378 hg; have NB384_378 := neR7 BK378 hg; replace BK378 := blkB BK378 hb; replace HB := bst HB hb; clear hb hg; obtain ⟨_, _, _, _⟩ := blk2 BK384; obtain ⟨Ao55, co55, rfl⟩ := Kd.R_slice HO382.out))
     (try simp only [Act.put, List.setIfInBounds_toArray, List.set_cons_zero, List.set_cons_succ])
     go_cut [74] (fun v74 wc => ∃ (kq : Nat) (x74_35 : Bool), v74 = .bool x74_35 ∧ Fc (laws_FnClosures.j1 kq t370 t377 x74_35 t355 t356 t360 t361 t373 t374 = some r) ∧ Fc (kq ≤ kj7) ∧ Fc (Kd.R (Kd.int .i64) 3 wc w.heap.size (O4 ((.slice Ao17 t361.length co17)) ((.slice Ao24 t367.length co24)) ((.slice Ao46 t374.length co46)) ((.slice Ao55 t380.length co55))) (.slice Ao12 t356.length co12) t356) ∧ Fc (Kd.R (Kd.int .i64) 3 wc w.heap.size (O4 ((.slice Ao12 t356.length co12)) ((.slice Ao24 t367.length co24)) ((.slice Ao46 t374.length co46)) ((.slice Ao55 t380.length co55))) (.slice Ao17 t361.length co17) t361) ∧ Fc (Kd.R (Kd.int .i64) 3 wc w.heap.size (O4 ((.slice Ao12 t356.length co12)) ((.slice Ao17 t361.length co17)) ((.slice Ao46 t374.length co46)) ((.slice Ao55 t380.length co55))) (.slice Ao24 t367.length co24) t367) ∧ Fc (Kd.R (Kd.int .i64) 3 wc w.heap.size (O4 ((.slice Ao12 t356.length co12)) ((.slice Ao17 t361.length co17)) ((.slice Ao24 t367.length co24)) ((.slice Ao55 t380.length co55))) (.slice Ao46 t374.length co46) t374) ∧ Fc (Kd.R (Kd.int .i64) 3 wc w.heap.size (O4 ((.slice Ao12 t356.length co12)) ((.slice Ao17 t361.length co17)) ((.slice Ao24 t367.length co24)) ((.slice Ao46 t374.length co46))) (.slice Ao55 t380.length co55) t380) ∧ Fc (wc.heap[gb359]? = some (.cells #[.int .i64 t355, (.slice Ao12 t356.length co12)] 26 (0, 0))) ∧ Fc (wc.heap[gb365]? = some (.cells #[.int .i64 t360, (.slice Ao17 t361.length co17)] 26 (0, 0))) ∧ Fc (wc.heap[gb371]? = some (.cells #[.int .i64 t366, (.slice Ao24 t367.length co24)] 26 (0, 0))) ∧ Fc (wc.heap[gb378]? = some (.cells #[.int .i64 t373, (.slice Ao46 t374.length co46)] 26 (0, 0))) ∧ Fc (wc.heap[gb384]? = some (.cells #[.int .i64 t379, (.slice Ao55 t380.length co55)] 26 (0, 0))) ∧ Fc (Below w.heap.size w wc))
     case first =>
      have H := HC36.out
      clear HC36
      rcases iteP H with ⟨c56, H⟩ | ⟨c56, H⟩
      ·have c56b0 : (t377 != t383) = true := c56
       (try (have c56b1 : decide (t377 = t383) = false := by simpa using c56))
       (try (have c56b2 : (t377 == t383) = false := by simpa using c56))
       (try (have c56b3 : ¬ (t377 = t383) := by simpa using c56))
       clear c56
       (first | rw [c56b0] | (simp only [i64_w, i32_w]; rw [c56b0]) | skip)
       have H' := mkA H
       clear H
       as_aux_lemma =>
        go_wp2
        go_meet
        case rel => exact ⟨_, (true), eqS, H', ⟨by have := HJ7.out; first | omega | exact Nat.le_refl _⟩, ⟨Kd.R_g (rM2 (Kd.R_far (p := ⟨gb384, 1, none⟩) (Kd.R_far (p := ⟨gb384, 0, none⟩) (Kd.R_types HO_360001.out BK384.out (by decide)) (fun _ hk => hk.2) (.int .i64 t379)) (fun _ hk => hk.2) (.slice Ao55 t380.length co55)))⟩, ⟨Kd.R_g (rM2 (Kd.R_far (p := ⟨gb384, 1, none⟩) (Kd.R_far (p := ⟨gb384, 0, none⟩) (Kd.R_types HO_366001.out BK384.out (by decide)) (fun _ hk => hk.2) (.int .i64 t379)) (fun _ hk => hk.2) (.slice Ao55 t380.length co55)))⟩, ⟨Kd.R_g (rM2 (Kd.R_far (p := ⟨gb384, 1, none⟩) (Kd.R_far (p := ⟨gb384, 0, none⟩) (Kd.R_types HO_372001.out BK384.out (by decide)) (fun _ hk => hk.2) (.int .i64 t379)) (fun _ hk => hk.2) (.slice Ao55 t380.length co55)))⟩, ⟨Kd.R_g (rM2 (Kd.R_far (p := ⟨gb384, 1, none⟩) (Kd.R_far (p := ⟨gb384, 0, none⟩) (Kd.R_types HO376.out BK384.out (by decide)) (fun _ hk => hk.2) (.int .i64 t379)) (fun _ hk => hk.2) (.slice Ao55 t380.length co55)))⟩, ⟨Kd.R_g (rM2 (Kd.R_far (p := ⟨gb384, 1, none⟩) (Kd.R_far (p := ⟨gb384, 0, none⟩) (Kd.R_types HO382.out BK384.out (by decide)) (fun _ hk => hk.2) (.int .i64 t379)) (fun _ hk => hk.2) (.slice Ao55 t380.length co55)))⟩, ⟨blkT BK359⟩, ⟨blkT BK365⟩, ⟨blkT BK371⟩, ⟨blkT BK378⟩, ⟨blkT BK384⟩, hbg HB⟩
      ·have c56b0 : (t377 != t383) = false := by simpa using c56
       (try (have c56b1 : decide (t377 = t383) = true := by simpa using c56))
       (try (have c56b2 : (t377 == t383) = true := by simpa using c56))
       clear c56
       (first | rw [c56b0] | (simp only [i64_w, i32_w]; rw [c56b0]) | skip)
       obtain ⟨t385, A57, H⟩ := obE H
       by_cases c58 : t385 = true
       ·subst c58
        replace H := ifT H
        obtain ⟨t386, A59, H⟩ := obE H
        have H' := mkA H
        clear H
        obtain ⟨_, _, _, _⟩ := blk2 BK378
        obtain ⟨_, _, _, _⟩ := blk2 BK384
        as_aux_lemma =>
         go_wp2_with (first | (go_at_call 8; (with_reducible refine (laws_pSameOrder.calls kj7 t373 _ _ t374 t379 _ _ t380 true _ ?_ ?_ ?_ ?_ A57.out).mono ?_); exact rCF HO376 BK384; exact rL HO376; exact rCF HO382 BK384; exact rL HO382; rintro e w69 ⟨rfl, hb⟩; replace HO_360001 := mkA (Kd.R_below (rFg HO_360001 BK384) hb); replace HO_366001 := mkA (Kd.R_below (rFg HO_366001 BK384) hb); replace HO_372001 := mkA (Kd.R_below (rFg HO_372001 BK384) hb); replace HO376 := mkA (Kd.R_below (rFg HO376 BK384) hb); replace HO382 := mkA (Kd.R_below (rFg HO382 BK384) hb); replace BK359 := blkS BK359 hb; replace BK365 := blkS BK365 hb; replace BK371 := blkS BK371 hb; replace BK378 := blkS BK378 hb; replace BK384 := blkS BK384 hb; replace HB := bst HB hb; clear hb; obtain ⟨_, _, _, _⟩ := blk2 BK359) | (go_at_call 11; (with_reducible refine (impl_IsOrder.calls kj7 t355 _ _ t356 t386 _ ?_ ?_ ?_ A59.out).mono ?_); exact rC HO_360001; exact rL HO_360001; exact Tab.below HTAB.out (bel_g HB.out); rintro e w73 ⟨rfl, hb⟩; replace HO_360001 := rB HO_360001 hb; replace HO_366001 := rB HO_366001 hb; replace HO_372001 := rB HO_372001 hb; replace HO376 := rB HO376 hb; replace HO382 := rB HO382 hb; replace BK359 := blkB BK359 hb; replace BK365 := blkB BK365 hb; replace BK371 := blkB BK371 hb; replace BK378 := blkB BK378 hb; replace BK384 := blkB BK384 hb; replace HB := bst HB hb; clear hb))
         go_meet
         case rel => exact ⟨_, ((t377 != t386)), eqS, H', ⟨by have := HJ7.out; first | omega | exact Nat.le_refl _⟩, ⟨Kd.R_g (rM2 HO_360001.out)⟩, ⟨Kd.R_g (rM2 HO_366001.out)⟩, ⟨Kd.R_g (rM2 HO_372001.out)⟩, ⟨Kd.R_g (rM2 HO376.out)⟩, ⟨Kd.R_g (rM2 HO382.out)⟩, bg BK359, bg BK365, bg BK371, bg BK378, bg BK384, hbg HB⟩
       ·replace c58 := Bool.eq_false_iff.mpr c58
        subst c58
        replace H := ifF H
        have H' := mkA H
        clear H
        obtain ⟨_, _, _, _⟩ := blk2 BK378
        obtain ⟨_, _, _, _⟩ := blk2 BK384
        as_aux_lemma =>
         go_wp2_with (first | (go_at_call 8; (with_reducible refine (laws_pSameOrder.calls kj7 t373 _ _ t374 t379 _ _ t380 false _ ?_ ?_ ?_ ?_ A57.out).mono ?_); exact rCF HO376 BK384; exact rL HO376; exact rCF HO382 BK384; exact rL HO382; rintro e w83 ⟨rfl, hb⟩; replace HO_360001 := mkA (Kd.R_below (rFg HO_360001 BK384) hb); replace HO_366001 := mkA (Kd.R_below (rFg HO_366001 BK384) hb); replace HO_372001 := mkA (Kd.R_below (rFg HO_372001 BK384) hb); replace HO376 := mkA (Kd.R_below (rFg HO376 BK384) hb); replace HO382 := mkA (Kd.R_below (rFg HO382 BK384) hb); replace BK359 := blkS BK359 hb; replace BK365 := blkS BK365 hb; replace BK371 := blkS BK371 hb; replace BK378 := blkS BK378 hb; replace BK384 := blkS BK384 hb; replace HB := bst HB hb; clear hb))
         go_meet
         case rel => exact ⟨_, (true), eqS, H', ⟨by have := HJ7.out; first | omega | exact Nat.le_refl _⟩, ⟨Kd.R_g (rM2 HO_360001.out)⟩, ⟨Kd.R_g (rM2 HO_366001.out)⟩, ⟨Kd.R_g (rM2 HO_372001.out)⟩, ⟨Kd.R_g (rM2 HO376.out)⟩, ⟨Kd.R_g (rM2 HO382.out)⟩, bg BK359, bg BK365, bg BK371, bg BK378, bg BK384, hbg HB⟩
     case rest =>
      clear HC36
      try clear c1
      try clear c4
      try clear c25
      try clear c25b0
      try clear c25b1
      try clear c25b2
      try clear c33
      try clear c56
      try clear c56b0
      try clear c56b1
      try clear c56b2
      try clear c58
      obtain ⟨kq, x74_35, rfl, HA, HJ35, HO_360001, HO_366001, HO_372001, HO_379001, HO_385001, BK359, BK365, BK371, BK378, BK384, HB⟩ := hcut
      cases kq with
      | zero => exact absurd HA.out (by simp [laws_FnClosures.j1])
      | succ kj35 =>
       have H := HA.out
       clear HA
       simp only [laws_FnClosures.j1] at H
       by_cases c84 : x74_35 = true
       ·subst c84
        replace H := ifT H
        obtain rfl := Option.some.inj H
        go_wp2
        go_ret
        exact ⟨eqE, bel_g HB.out⟩
       ·replace c84 := Bool.eq_false_iff.mpr c84
        subst c84
        replace H := ifF H
        by_cases c85 : t370 = true
        ·subst c85
         replace H := ifT H
         obtain ⟨⟨t387, t388, t391⟩, A86, H⟩ := obE H
         dsimp only at H
         have HC87 := mkA H
         clear H
         obtain ⟨_, _, _, _⟩ := blk2 BK365
         go_upto_region 15 with (first | ((with_reducible refine gate_callee (f := 6) rfl ?_); refine goesQ (some 79) Tryd.func6 #[.agg #[.int .i64 t360, .slice Ao17 t361.length co17]] ?_; (with_reducible refine (impl_CloseRelation.calls kj35 t360 _ _ t361 t387 t388 t391 _ ?_ ?_ A86.out).mono ?_); exact rC HO_366001; exact rL HO_366001; rintro e w93 ⟨v389, rfl, ho0, hb⟩; refine ⟨_, rfl, ?_⟩; have HO390 := rLo (rN (rN (rN (rN (rN ho0 HO_360001) HO_366001) HO_372001) HO_379001) HO_385001) HB; replace HO_360001 := rE HO_360001 ho0 hb; replace HO_366001 := rE HO_366001 ho0 hb; replace HO_372001 := rE HO_372001 ho0 hb; replace HO_379001 := rE HO_379001 ho0 hb; replace HO_385001 := rE HO_385001 ho0 hb; replace BK359 := blkB BK359 hb; replace BK365 := blkB BK365 hb; replace BK371 := blkB BK371 hb; replace BK378 := blkB BK378 hb; replace BK384 := blkB BK384 hb; replace HB := bst HB hb; clear hb ho0) | ((with_reducible refine gate_dst (N := 14) rfl ?_); refine boxG HB #[.int .i64 0, .slice none 0 0] 26 ?_; intro gb392 hg w94 BK392 GE392 hb; replace HO_360001 := rB HO_360001 hb; replace HO_366001 := rB HO_366001 hb; replace HO_372001 := rB HO_372001 hb; replace HO_379001 := rB HO_379001 hb; replace HO_385001 := rB HO_385001 hb; replace HO390 := rB HO390 hb; have NB359_392 := neL7 BK359 hg; have NB392_359 := neR7 BK359 hg; replace BK359 := blkB BK359 hb; have NB365_392 := neL7 BK365 hg; have NB392_365 := neR7 BK365 hg; replace BK365 := blkB BK365 hb; have NB371_392 := neL7 BK371 hg; have NB392_371 := neR7 BK371 hg; replace BK371 := blkB BK371 hb; have NB378_392 := neL7 BK378 hg; have NB392_378 := neR7 BK378 hg; replace BK378 := blkB BK378 hb; have NB384_392 := neL7 BK384 hg; have NB392_384 := neR7 BK384 hg; replace BK384 := blkB BK384 hb; replace HB := bst HB hb; clear hb hg; obtain ⟨_, _, _, _⟩ := blk2 BK392; obtain ⟨Ao101, co101, rfl⟩ := Kd.R_slice HO390.out))
         (try simp only [Act.put, List.setIfInBounds_toArray, List.set_cons_zero, List.set_cons_succ])
         go_cut [99] (fun v99 wc => ∃ (kq : Nat) (x99_86 : Bool), v99 = .bool x99_86 ∧ Fc (laws_FnClosures.j2 kq t377 x99_86 t355 t356 t360 t361 t373 t374 = some r) ∧ Fc (kq ≤ kj35) ∧ Fc (Kd.R (Kd.int .i64) 3 wc w.heap.size (O5 ((.slice Ao17 t361.length co17)) ((.slice Ao24 t367.length co24)) ((.slice Ao46 t374.length co46)) ((.slice Ao55 t380.length co55)) ((.slice Ao101 t388.length co101))) (.slice Ao12 t356.length co12) t356) ∧ Fc (Kd.R (Kd.int .i64) 3 wc w.heap.size (O5 ((.slice Ao12 t356.length co12)) ((.slice Ao24 t367.length co24)) ((.slice Ao46 t374.length co46)) ((.slice Ao55 t380.length co55)) ((.slice Ao101 t388.length co101))) (.slice Ao17 t361.length co17) t361) ∧ Fc (Kd.R (Kd.int .i64) 3 wc w.heap.size (O5 ((.slice Ao12 t356.length co12)) ((.slice Ao17 t361.length co17)) ((.slice Ao46 t374.length co46)) ((.slice Ao55 t380.length co55)) ((.slice Ao101 t388.length co101))) (.slice Ao24 t367.length co24) t367) ∧ Fc (Kd.R (Kd.int .i64) 3 wc w.heap.size (O5 ((.slice Ao12 t356.length co12)) ((.slice Ao17 t361.length co17)) ((.slice Ao24 t367.length co24)) ((.slice Ao55 t380.length co55)) ((.slice Ao101 t388.length co101))) (.slice Ao46 t374.length co46) t374) ∧ Fc (Kd.R (Kd.int .i64) 3 wc w.heap.size (O5 ((.slice Ao12 t356.length co12)) ((.slice Ao17 t361.length co17)) ((.slice Ao24 t367.length co24)) ((.slice Ao46 t374.length co46)) ((.slice Ao101 t388.length co101))) (.slice Ao55 t380.length co55) t380) ∧ Fc (Kd.R (Kd.int .i64) 3 wc w.heap.size (O5 ((.slice Ao12 t356.length co12)) ((.slice Ao17 t361.length co17)) ((.slice Ao24 t367.length co24)) ((.slice Ao46 t374.length co46)) ((.slice Ao55 t380.length co55))) (.slice Ao101 t388.length co101) t388) ∧ Fc (wc.heap[gb359]? = some (.cells #[.int .i64 t355, (.slice Ao12 t356.length co12)] 26 (0, 0))) ∧ Fc (wc.heap[gb365]? = some (.cells #[.int .i64 t360, (.slice Ao17 t361.length co17)] 26 (0, 0))) ∧ Fc (wc.heap[gb371]? = some (.cells #[.int .i64 t366, (.slice Ao24 t367.length co24)] 26 (0, 0))) ∧ Fc (wc.heap[gb378]? = some (.cells #[.int .i64 t373, (.slice Ao46 t374.length co46)] 26 (0, 0))) ∧ Fc (wc.heap[gb384]? = some (.cells #[.int .i64 t379, (.slice Ao55 t380.length co55)] 26 (0, 0))) ∧ Fc (wc.heap[gb392]? = some (.cells #[.int .i64 t387, (.slice Ao101 t388.length co101)] 26 (0, 0))) ∧ Fc (Below w.heap.size w wc))
         case first =>
          have H := HC87.out
          clear HC87
          by_cases c102 : t391 = true
          ·as_aux_lemma => (
 subst c102
 replace H := ifT H
 obtain ⟨t393, A103, H⟩ := obE H
 by_cases c104 : t393 = true
 ·subst c104
  replace H := ifT H
  obtain ⟨t394, A105, H⟩ := obE H
  by_cases c106 : t394 = true
  ·subst c106
   replace H := ifT H
   obtain ⟨t395, A107, H⟩ := obE H
   have H' := mkA H
   clear H
   obtain ⟨_, _, _, _⟩ := blk2 BK392
   obtain ⟨_, _, _, _⟩ := blk2 BK365
   as_aux_lemma =>
    go_wp2_with (first | (go_at_call 8; (with_reducible refine (laws_pSameOrder.calls kj35 t387 _ _ t388 t360 _ _ t361 true _ ?_ ?_ ?_ ?_ A103.out).mono ?_); exact rCF HO390 BK392; exact rL HO390; exact rCF HO_366001 BK392; exact rL HO_366001; rintro e w119 ⟨rfl, hb⟩; replace HO_360001 := mkA (Kd.R_below (rFg HO_360001 BK392) hb); replace HO_366001 := mkA (Kd.R_below (rFg HO_366001 BK392) hb); replace HO_372001 := mkA (Kd.R_below (rFg HO_372001 BK392) hb); replace HO_379001 := mkA (Kd.R_below (rFg HO_379001 BK392) hb); replace HO_385001 := mkA (Kd.R_below (rFg HO_385001 BK392) hb); replace HO390 := mkA (Kd.R_below (rFg HO390 BK392) hb); replace BK359 := blkS BK359 hb; replace BK365 := blkS BK365 hb; replace BK371 := blkS BK371 hb; replace BK378 := blkS BK378 hb; replace BK384 := blkS BK384 hb; replace BK392 := blkS BK392 hb; replace HB := bst HB hb; clear hb; obtain ⟨_, _, _, _⟩ := blk2 BK359) | (go_at_call 11; (with_reducible refine (impl_IsOrder.calls kj35 t355 _ _ t356 true _ ?_ ?_ ?_ A105.out).mono ?_); exact rC HO_360001; exact rL HO_360001; exact Tab.below HTAB.out (bel_g HB.out); rintro e w124 ⟨rfl, hb⟩; replace HO_360001 := rB HO_360001 hb; replace HO_366001 := rB HO_366001 hb; replace HO_372001 := rB HO_372001 hb; replace HO_379001 := rB HO_379001 hb; replace HO_385001 := rB HO_385001 hb; replace HO390 := rB HO390 hb; replace BK359 := blkB BK359 hb; replace BK365 := blkB BK365 hb; replace BK371 := blkB BK371 hb; replace BK378 := blkB BK378 hb; replace BK384 := blkB BK384 hb; replace BK392 := blkB BK392 hb; replace HB := bst HB hb; clear hb; obtain ⟨_, _, _, _⟩ := blk2 BK365; obtain ⟨_, _, _, _⟩ := blk2 BK359) | (go_at_call 8; (with_reducible refine (laws_pSameOrder.calls kj35 t360 _ _ t361 t355 _ _ t356 t395 _ ?_ ?_ ?_ ?_ A107.out).mono ?_); exact rC HO_366001; exact rL HO_366001; exact rC HO_360001; exact rL HO_360001; rintro e w127 ⟨rfl, hb⟩; replace HO_360001 := rB HO_360001 hb; replace HO_366001 := rB HO_366001 hb; replace HO_372001 := rB HO_372001 hb; replace HO_379001 := rB HO_379001 hb; replace HO_385001 := rB HO_385001 hb; replace HO390 := rB HO390 hb; replace BK359 := blkB BK359 hb; replace BK365 := blkB BK365 hb; replace BK371 := blkB BK371 hb; replace BK378 := blkB BK378 hb; replace BK384 := blkB BK384 hb; replace BK392 := blkB BK392 hb; replace HB := bst HB hb; clear hb))
    go_meet
    case rel => exact ⟨_, (!t395), eqS, H', ⟨by have := HJ7.out; have := HJ35.out; first | omega | exact Nat.le_refl _⟩, ⟨Kd.R_g (rM2 HO_360001.out)⟩, ⟨Kd.R_g (rM2 HO_366001.out)⟩, ⟨Kd.R_g (rM2 HO_372001.out)⟩, ⟨Kd.R_g (rM2 HO_379001.out)⟩, ⟨Kd.R_g (rM2 HO_385001.out)⟩, ⟨Kd.R_g (rM2 HO390.out)⟩, bg BK359, bg BK365, bg BK371, bg BK378, bg BK384, bg BK392, hbg HB⟩
  ·replace c106 := Bool.eq_false_iff.mpr c106
   subst c106
   replace H := ifF H
   have H' := mkA H
   clear H
   obtain ⟨_, _, _, _⟩ := blk2 BK392
   obtain ⟨_, _, _, _⟩ := blk2 BK365
   as_aux_lemma =>
    go_wp2_with (first | (go_at_call 8; (with_reducible refine (laws_pSameOrder.calls kj35 t387 _ _ t388 t360 _ _ t361 true _ ?_ ?_ ?_ ?_ A103.out).mono ?_); exact rCF HO390 BK392; exact rL HO390; exact rCF HO_366001 BK392; exact rL HO_366001; rintro e w139 ⟨rfl, hb⟩; replace HO_360001 := mkA (Kd.R_below (rFg HO_360001 BK392) hb); replace HO_366001 := mkA (Kd.R_below (rFg HO_366001 BK392) hb); replace HO_372001 := mkA (Kd.R_below (rFg HO_372001 BK392) hb); replace HO_379001 := mkA (Kd.R_below (rFg HO_379001 BK392) hb); replace HO_385001 := mkA (Kd.R_below (rFg HO_385001 BK392) hb); replace HO390 := mkA (Kd.R_below (rFg HO390 BK392) hb); replace BK359 := blkS BK359 hb; replace BK365 := blkS BK365 hb; replace BK371 := blkS BK371 hb; replace BK378 := blkS BK378 hb; replace BK384 := blkS BK384 hb; replace BK392 := blkS BK392 hb; replace HB := bst HB hb; clear hb; obtain ⟨_, _, _, _⟩ := blk2 BK359) | (go_at_call 11; (with_reducible refine (impl_IsOrder.calls kj35 t355 _ _ t356 false _ ?_ ?_ ?_ A105.out).mono ?_); exact rC HO_360001; exact rL HO_360001; exact Tab.below HTAB.out (bel_g HB.out); rintro e w144 ⟨rfl, hb⟩; replace HO_360001 := rB HO_360001 hb; replace HO_366001 := rB HO_366001 hb; replace HO_372001 := rB HO_372001 hb; replace HO_379001 := rB HO_379001 hb; replace HO_385001 := rB HO_385001 hb; replace HO390 := rB HO390 hb; replace BK359 := blkB BK359 hb; replace BK365 := blkB BK365 hb; replace BK371 := blkB BK371 hb; replace BK378 := blkB BK378 hb; replace BK384 := blkB BK384 hb; replace BK392 := blkB BK392 hb; replace HB := bst HB hb; clear hb))
    go_meet
    case rel => exact ⟨_, (false), eqS, H', ⟨by have := HJ7.out; have := HJ35.out; first | omega | exact Nat.le_refl _⟩, ⟨Kd.R_g (rM2 HO_360001.out)⟩, ⟨Kd.R_g (rM2 HO_366001.out)⟩, ⟨Kd.R_g (rM2 HO_372001.out)⟩, ⟨Kd.R_g (rM2 HO_379001.out)⟩, ⟨Kd.R_g (rM2 HO_385001.out)⟩, ⟨Kd.R_g (rM2 HO390.out)⟩, bg BK359, bg BK365, bg BK371, bg BK378, bg BK384, bg BK392, hbg HB⟩
 ·replace c104 := Bool.eq_false_iff.mpr c104
  subst c104
  replace H := ifF H
  have H' := mkA H
  clear H
  obtain ⟨_, _, _, _⟩ := blk2 BK392
  obtain ⟨_, _, _, _⟩ := blk2 BK365
  as_aux_lemma =>
   go_wp2_with (first | (go_at_call 8; (with_reducible refine (laws_pSameOrder.calls kj35 t387 _ _ t388 t360 _ _ t361 false _ ?_ ?_ ?_ ?_ A103.out).mono ?_); exact rCF HO390 BK392; exact rL HO390; exact rCF HO_366001 BK392; exact rL HO_366001; rintro e w156 ⟨rfl, hb⟩; replace HO_360001 := mkA (Kd.R_below (rFg HO_360001 BK392) hb); replace HO_366001 := mkA (Kd.R_below (rFg HO_366001 BK392) hb); replace HO_372001 := mkA (Kd.R_below (rFg HO_372001 BK392) hb); replace HO_379001 := mkA (Kd.R_below (rFg HO_379001 BK392) hb); replace HO_385001 := mkA (Kd.R_below (rFg HO_385001 BK392) hb); replace HO390 := mkA (Kd.R_below (rFg HO390 BK392) hb); replace BK359 := blkS BK359 hb; replace BK365 := blkS BK365 hb; replace BK371 := blkS BK371 hb; replace BK378 := blkS BK378 hb; replace BK384 := blkS BK384 hb; replace BK392 := blkS BK392 hb; replace HB := bst HB hb; clear hb))
   go_meet
   case rel => exact ⟨_, (true), eqS, H', ⟨by have := HJ7.out; have := HJ35.out; first | omega | exact Nat.le_refl _⟩, ⟨Kd.R_g (rM2 HO_360001.out)⟩, ⟨Kd.R_g (rM2 HO_366001.out)⟩, ⟨Kd.R_g (rM2 HO_372001.out)⟩, ⟨Kd.R_g (rM2 HO_379001.out)⟩, ⟨Kd.R_g (rM2 HO_385001.out)⟩, ⟨Kd.R_g (rM2 HO390.out)⟩, bg BK359, bg BK365, bg BK371, bg BK378, bg BK384, bg BK392, hbg HB⟩)
          ·(
 replace c102 := Bool.eq_false_iff.mpr c102
 subst c102
 replace H := ifF H
 have H' := mkA H
 clear H
 as_aux_lemma =>
  go_wp2
  go_meet
  case rel => exact ⟨_, (true), eqS, H', ⟨by have := HJ7.out; have := HJ35.out; first | omega | exact Nat.le_refl _⟩, ⟨Kd.R_g (rM2 (Kd.R_far (p := ⟨gb392, 1, none⟩) (Kd.R_far (p := ⟨gb392, 0, none⟩) (Kd.R_types HO_360001.out BK392.out (by decide)) (fun _ hk => hk.2) (.int .i64 t387)) (fun _ hk => hk.2) (.slice Ao101 t388.length co101)))⟩, ⟨Kd.R_g (rM2 (Kd.R_far (p := ⟨gb392, 1, none⟩) (Kd.R_far (p := ⟨gb392, 0, none⟩) (Kd.R_types HO_366001.out BK392.out (by decide)) (fun _ hk => hk.2) (.int .i64 t387)) (fun _ hk => hk.2) (.slice Ao101 t388.length co101)))⟩, ⟨Kd.R_g (rM2 (Kd.R_far (p := ⟨gb392, 1, none⟩) (Kd.R_far (p := ⟨gb392, 0, none⟩) (Kd.R_types HO_372001.out BK392.out (by decide)) (fun _ hk => hk.2) (.int .i64 t387)) (fun _ hk => hk.2) (.slice Ao101 t388.length co101)))⟩, ⟨Kd.R_g (rM2 (Kd.R_far (p := ⟨gb392, 1, none⟩) (Kd.R_far (p := ⟨gb392, 0, none⟩) (Kd.R_types HO_379001.out BK392.out (by decide)) (fun _ hk => hk.2) (.int .i64 t387)) (fun _ hk => hk.2) (.slice Ao101 t388.length co101)))⟩, ⟨Kd.R_g (rM2 (Kd.R_far (p := ⟨gb392, 1, none⟩) (Kd.R_far (p := ⟨gb392, 0, none⟩) (Kd.R_types HO_385001.out BK392.out (by decide)) (fun _ hk => hk.2) (.int .i64 t387)) (fun _ hk => hk.2) (.slice Ao101 t388.length co101)))⟩, ⟨Kd.R_g (rM2 (Kd.R_far (p := ⟨gb392, 1, none⟩) (Kd.R_far (p := ⟨gb392, 0, none⟩) (Kd.R_types HO390.out BK392.out (by decide)) (fun _ hk => hk.2) (.int .i64 t387)) (fun _ hk => hk.2) (.slice Ao101 t388.length co101)))⟩, ⟨blkT BK359⟩, ⟨blkT BK365⟩, ⟨blkT BK371⟩, ⟨blkT BK378⟩, ⟨blkT BK384⟩, ⟨blkT BK392⟩, hbg HB⟩)
         case rest =>
          clear HC87
          try clear c1
          try clear c4
          try clear c25
          try clear c25b0
          try clear c25b1
          try clear c25b2
          try clear c33
          try clear c56
          try clear c56b0
          try clear c56b1
          try clear c56b2
          try clear c58
          try clear c84
          try clear c85
          try clear c102
          try clear c104
          try clear c106
          obtain ⟨kq, x99_86, rfl, HA, HJ86, HO_360001, HO_366001, HO_372001, HO_379001, HO_385001, HO_393001, BK359, BK365, BK371, BK378, BK384, BK392, HB⟩ := hcut
          cases kq with
          | zero => exact absurd HA.out (by simp [laws_FnClosures.j2])
          | succ kj86 =>
           have H := HA.out
           clear HA
           simp only [laws_FnClosures.j2] at H
           by_cases c157 : x99_86 = true
           ·subst c157
            replace H := ifT H
            obtain rfl := Option.some.inj H
            go_wp2
            go_ret
            exact ⟨eqE, bel_g HB.out⟩
           ·as_aux_lemma => (
 replace c157 := Bool.eq_false_iff.mpr c157
 subst c157
 replace H := ifF H
 have H' := mkA H
 clear H
 obtain ⟨_, _, _, _⟩ := blk2 BK365
 as_aux_lemma =>
  go_wp2
  go_loopg [16, 103] kj86 (fun kq v16 v103 w' => ∃ (x16_4 : Bool) (x103_4 : Int), v16 = .bool x16_4 ∧ v103 = .int .i64 x103_4 ∧ Fc (laws_FnClosures.l0 kq t377 x16_4 t361 (t361.length : Int) x103_4 t355 t356 t360 t361 t373 t374 = some r) ∧ Fc (kq ≤ kj86) ∧ Fc (Kd.R (Kd.int .i64) 3 w' w.heap.size (O5 ((.slice Ao12 t356.length co12)) ((.slice Ao24 t367.length co24)) ((.slice Ao46 t374.length co46)) ((.slice Ao55 t380.length co55)) ((.slice Ao101 t388.length co101))) (.slice Ao17 t361.length co17) t361) ∧ Fc (Kd.R (Kd.int .i64) 3 w' w.heap.size (O6 ((.slice Ao17 t361.length co17)) ((.slice Ao17 t361.length co17)) ((.slice Ao24 t367.length co24)) ((.slice Ao46 t374.length co46)) ((.slice Ao55 t380.length co55)) ((.slice Ao101 t388.length co101))) (.slice Ao12 t356.length co12) t356) ∧ Fc (Kd.R (Kd.int .i64) 3 w' w.heap.size (O5 ((.slice Ao12 t356.length co12)) ((.slice Ao24 t367.length co24)) ((.slice Ao46 t374.length co46)) ((.slice Ao55 t380.length co55)) ((.slice Ao101 t388.length co101))) (.slice Ao17 t361.length co17) t361) ∧ Fc (Kd.R (Kd.int .i64) 3 w' w.heap.size (O6 ((.slice Ao17 t361.length co17)) ((.slice Ao12 t356.length co12)) ((.slice Ao17 t361.length co17)) ((.slice Ao46 t374.length co46)) ((.slice Ao55 t380.length co55)) ((.slice Ao101 t388.length co101))) (.slice Ao24 t367.length co24) t367) ∧ Fc (Kd.R (Kd.int .i64) 3 w' w.heap.size (O6 ((.slice Ao17 t361.length co17)) ((.slice Ao12 t356.length co12)) ((.slice Ao17 t361.length co17)) ((.slice Ao24 t367.length co24)) ((.slice Ao55 t380.length co55)) ((.slice Ao101 t388.length co101))) (.slice Ao46 t374.length co46) t374) ∧ Fc (Kd.R (Kd.int .i64) 3 w' w.heap.size (O6 ((.slice Ao17 t361.length co17)) ((.slice Ao12 t356.length co12)) ((.slice Ao17 t361.length co17)) ((.slice Ao24 t367.length co24)) ((.slice Ao46 t374.length co46)) ((.slice Ao101 t388.length co101))) (.slice Ao55 t380.length co55) t380) ∧ Fc (Kd.R (Kd.int .i64) 3 w' w.heap.size (O6 ((.slice Ao17 t361.length co17)) ((.slice Ao12 t356.length co12)) ((.slice Ao17 t361.length co17)) ((.slice Ao24 t367.length co24)) ((.slice Ao46 t374.length co46)) ((.slice Ao55 t380.length co55))) (.slice Ao101 t388.length co101) t388) ∧ Fc (w'.heap[gb359]? = some (.cells #[.int .i64 t355, (.slice Ao12 t356.length co12)] 26 (0, 0))) ∧ Fc (w'.heap[gb365]? = some (.cells #[.int .i64 t360, (.slice Ao17 t361.length co17)] 26 (0, 0))) ∧ Fc (w'.heap[gb371]? = some (.cells #[.int .i64 t366, (.slice Ao24 t367.length co24)] 26 (0, 0))) ∧ Fc (w'.heap[gb378]? = some (.cells #[.int .i64 t373, (.slice Ao46 t374.length co46)] 26 (0, 0))) ∧ Fc (w'.heap[gb384]? = some (.cells #[.int .i64 t379, (.slice Ao55 t380.length co55)] 26 (0, 0))) ∧ Fc (w'.heap[gb392]? = some (.cells #[.int .i64 t387, (.slice Ao101 t388.length co101)] 26 (0, 0))) ∧ Fc (Below w.heap.size w w'))
  case atStart => exact ⟨(false), (0), eqS, eqS, H', ⟨Nat.le_refl _⟩, rg HO_366001, ⟨Kd.R_g (rM2 HO_360001.out)⟩, rg HO_366001, ⟨Kd.R_g (rM2 HO_372001.out)⟩, ⟨Kd.R_g (rM2 HO_379001.out)⟩, ⟨Kd.R_g (rM2 HO_385001.out)⟩, ⟨Kd.R_g (rM2 HO_393001.out)⟩, bg BK359, bg BK365, bg BK371, bg BK378, bg BK384, bg BK392, hbg HB⟩
  case round =>
   clear H'
   try clear c1
   try clear c4
   try clear c25
   try clear c25b0
   try clear c25b1
   try clear c25b2
   try clear c33
   try clear c56
   try clear c56b0
   try clear c56b1
   try clear c56b2
   try clear c58
   try clear c84
   try clear c85
   try clear c102
   try clear c104
   try clear c106
   try clear c157
   obtain ⟨x16_4, x103_4, rfl, rfl, HA, HK4, HO_101, HO_360001, HO_366001, HO_372001, HO_379001, HO_385001, HO_393001, BK359, BK365, BK371, BK378, BK384, BK392, HB⟩ := hrel
   cases gk with
   | zero => exact absurd HA.out (by simp [laws_FnClosures.l0])
   | succ k4 =>
    have H := HA.out
    clear HA
    simp only [laws_FnClosures.l0] at H
    rcases iteE H with ⟨c164b0, H⟩ | ⟨c164b0, H⟩
    ·obtain ⟨c165b0, H⟩ := itND H
     obtain ⟨c166b0, H⟩ := itND H
     obtain ⟨c167b0, H⟩ := itND H
     rcases iteP H with ⟨c168, H⟩ | ⟨c168, H⟩
     ·have c168b0 := beq_iff_eq.mpr c168
      have c168b1 := bne_eq_false_iff_eq.mpr c168
      clear c168
      by_cases c169 : x16_4 = true
      ·subst c169
       replace H := ifT H
       have H' := mkA H
       clear H
       obtain ⟨p396, q396, ad396, e396, hx396_0⟩ := atI (Kd.R_reads' HO_101.out).2.2 x103_4
       cases e396
       obtain ⟨_, _, _, _⟩ := blk2 BK359
       obtain ⟨p397, q397, ad397, e397, hx397_0⟩ := atI (Kd.R_reads' HO_360001.out).2.2 x103_4
       cases e397
       go_wp2
       go_roundg k4
       case measure => have := HJ7.out; have := HJ35.out; have := HJ86.out; have := HK4.out; omega
       case rel => exact ⟨(true), (wrap64 (x103_4 + 1)), eqS, eqS, H', ⟨by have := HJ7.out; have := HJ35.out; have := HJ86.out; have := HK4.out; omega⟩, rg HO_101, rg HO_360001, rg HO_366001, rg HO_372001, rg HO_379001, rg HO_385001, rg HO_393001, bg BK359, bg BK365, bg BK371, bg BK378, bg BK384, bg BK392, hbg HB⟩
      ·replace c169 := Bool.eq_false_iff.mpr c169
       subst c169
       replace H := ifF H
       obtain ⟨t398, A176, H⟩ := obE H
       have H' := mkA H
       clear H
       obtain ⟨p396, q396, ad396, e396, hx396_0⟩ := atI (Kd.R_reads' HO_101.out).2.2 x103_4
       cases e396
       obtain ⟨_, _, _, _⟩ := blk2 BK359
       obtain ⟨p397, q397, ad397, e397, hx397_0⟩ := atI (Kd.R_reads' HO_360001.out).2.2 x103_4
       cases e397
       go_wp2_with (first | (go_at_call 12; (with_reducible refine (laws_pIn.calls (rd t361 x103_4) x103_4 t398 _ A176.out).mono ?_); rintro e w' ⟨rfl, ⟨nd, rfl⟩⟩))
       go_roundg k4
       case measure => have := HJ7.out; have := HJ35.out; have := HJ86.out; have := HK4.out; omega
       case rel => exact ⟨(t398), (wrap64 (x103_4 + 1)), eqS, eqS, H', ⟨by have := HJ7.out; have := HJ35.out; have := HJ86.out; have := HK4.out; omega⟩, rg HO_101, rg HO_360001, rg HO_366001, rg HO_372001, rg HO_379001, rg HO_385001, rg HO_393001, bg BK359, bg BK365, bg BK371, bg BK378, bg BK384, bg BK392, hbg HB⟩
     ·have c168b0 := beq_eq_false_iff_ne.mpr c168
      have c168b1 := bne_iff_ne.mpr c168
      obtain rfl := Option.some.inj H
      obtain ⟨p396, q396, ad396, e396, hx396_0⟩ := atI (Kd.R_reads' HO_101.out).2.2 x103_4
      cases e396
      obtain ⟨_, _, _, _⟩ := blk2 BK359
      obtain ⟨p397, q397, ad397, e397, hx397_0⟩ := atI (Kd.R_reads' HO_360001.out).2.2 x103_4
      cases e397
      go_wp2
      go_ret
      exact ⟨eqE, bel_g HB.out⟩
    ·obtain ⟨t399, A189, H⟩ := obE H
     rcases iteP H with ⟨c190, H⟩ | ⟨c190, H⟩
     ·have c190b0 : (t399 == x16_4) = true := c190
      (try (have c190b1 : decide (t399 = x16_4) = true := by simpa using c190))
      (try (have c190b2 : (t399 == x16_4) = true := by simpa using c190))
      clear c190
      obtain rfl := Option.some.inj H
      obtain ⟨_, _, _, _⟩ := blk2 BK365
      go_wp2_with (first | ((with_reducible refine gate_callee (f := 11) rfl ?_); refine goesQ (some 124) Tryd.func11 #[.agg #[.int .i64 t360, .slice Ao17 t361.length co17]] ?_; (with_reducible refine (impl_IsOrder.calls k4 t360 _ _ t361 t399 _ ?_ ?_ ?_ A189.out).mono ?_); exact rC HO_366001; exact rL HO_366001; exact Tab.below HTAB.out (bel_g HB.out); rintro e w197 ⟨rfl, hb⟩; refine ⟨_, rfl, ?_⟩; replace HO_101 := rB HO_101 hb; replace HO_360001 := rB HO_360001 hb; replace HO_366001 := rB HO_366001 hb; replace HO_372001 := rB HO_372001 hb; replace HO_379001 := rB HO_379001 hb; replace HO_385001 := rB HO_385001 hb; replace HO_393001 := rB HO_393001 hb; replace BK359 := blkB BK359 hb; replace BK365 := blkB BK365 hb; replace BK371 := blkB BK371 hb; replace BK378 := blkB BK378 hb; replace BK384 := blkB BK384 hb; replace BK392 := blkB BK392 hb; replace HB := bst HB hb; clear hb))
      go_ret
      exact ⟨eqE, bel_g HB.out⟩
     ·have c190b0 : (t399 == x16_4) = false := by simpa using c190
      (try (have c190b1 : decide (t399 = x16_4) = false := by simpa using c190))
      (try (have c190b2 : (t399 == x16_4) = false := by simpa using c190))
      (try (have c190b3 : ¬ (t399 = x16_4) := by simpa using c190))
      clear c190
      by_cases c198 : t377 = true
      ·subst c198
       replace H := ifT H
       obtain ⟨⟨t400, t401, t404⟩, A199, H⟩ := obE H
       dsimp only at H
       have HC200 := mkA H
       clear H
       obtain ⟨_, _, _, _⟩ := blk2 BK365
       go_upto_region 30 with (first | ((with_reducible refine gate_callee (f := 11) rfl ?_); refine goesQ (some 124) Tryd.func11 #[.agg #[.int .i64 t360, .slice Ao17 t361.length co17]] ?_; (with_reducible refine (impl_IsOrder.calls k4 t360 _ _ t361 t399 _ ?_ ?_ ?_ A189.out).mono ?_); exact rC HO_366001; exact rL HO_366001; exact Tab.below HTAB.out (bel_g HB.out); rintro e w207 ⟨rfl, hb⟩; refine ⟨_, rfl, ?_⟩; replace HO_101 := rB HO_101 hb; replace HO_360001 := rB HO_360001 hb; replace HO_366001 := rB HO_366001 hb; replace HO_372001 := rB HO_372001 hb; replace HO_379001 := rB HO_379001 hb; replace HO_385001 := rB HO_385001 hb; replace HO_393001 := rB HO_393001 hb; replace BK359 := blkB BK359 hb; replace BK365 := blkB BK365 hb; replace BK371 := blkB BK371 hb; replace BK378 := blkB BK378 hb; replace BK384 := blkB BK384 hb; replace BK392 := blkB BK392 hb; replace HB := bst HB hb; clear hb; obtain ⟨_, _, _, _⟩ := blk2 BK378) | ((with_reducible refine gate_callee (f := 6) rfl ?_); refine goesQ (some 131) Tryd.func6 #[.agg #[.int .i64 t373, .slice Ao46 t374.length co46]] ?_; (with_reducible refine (impl_CloseRelation.calls k4 t373 _ _ t374 t400 t401 t404 _ ?_ ?_ A199.out).mono ?_); exact rC HO_379001; exact rL HO_379001; rintro e w213 ⟨v402, rfl, ho0, hb⟩; refine ⟨_, rfl, ?_⟩; have HO403 := rLo (rN (rN (rN (rN (rN (rN (rN ho0 HO_101) HO_360001) HO_366001) HO_372001) HO_379001) HO_385001) HO_393001) HB; replace HO_101 := rE HO_101 ho0 hb; replace HO_360001 := rE HO_360001 ho0 hb; replace HO_366001 := rE HO_366001 ho0 hb; replace HO_372001 := rE HO_372001 ho0 hb; replace HO_379001 := rE HO_379001 ho0 hb; replace HO_385001 := rE HO_385001 ho0 hb; replace HO_393001 := rE HO_393001 ho0 hb; replace BK359 := blkB BK359 hb; replace BK365 := blkB BK365 hb; replace BK371 := blkB BK371 hb; replace BK378 := blkB BK378 hb; replace BK384 := blkB BK384 hb; replace BK392 := blkB BK392 hb; replace HB := bst HB hb; clear hb ho0) | ((with_reducible refine gate_dst (N := 19) rfl ?_); refine boxG HB #[.int .i64 0, .slice none 0 0] 26 ?_; intro gb405 hg w214 BK405 GE405 hb; replace HO_101 := rB HO_101 hb; replace HO_360001 := rB HO_360001 hb; replace HO_366001 := rB HO_366001 hb; replace HO_372001 := rB HO_372001 hb; replace HO_379001 := rB HO_379001 hb; replace HO_385001 := rB HO_385001 hb; replace HO_393001 := rB HO_393001 hb; replace HO403 := rB HO403 hb; have NB359_405 := neL7 BK359 hg; have NB405_359 := neR7 BK359 hg; replace BK359 := blkB BK359 hb; have NB365_405 := neL7 BK365 hg; have NB405_365 := neR7 BK365 hg; replace BK365 := blkB BK365 hb; have NB371_405 := neL7 BK371 hg; have NB405_371 := neR7 BK371 hg; replace BK371 := blkB BK371 hb; have NB378_405 := neL7 BK378 hg; have NB405_378 := neR7 BK378 hg; replace BK378 := blkB BK378 hb; have NB384_405 := neL7 BK384 hg; have NB405_384 := neR7 BK384 hg; replace BK384 := blkB BK384 hb; have NB392_405 := neL7 BK392 hg; have NB405_392 := neR7 BK392 hg; replace BK392 := blkB BK392 hb; replace HB := bst HB hb; clear hb hg; obtain ⟨_, _, _, _⟩ := blk2 BK405; obtain ⟨Ao222, co222, rfl⟩ := Kd.R_slice HO403.out))
       (try simp only [Act.put, List.setIfInBounds_toArray, List.set_cons_zero, List.set_cons_succ])
       go_cut [141] (fun v141 wc => ∃ (kq : Nat) (x141_199 : Bool), v141 = .bool x141_199 ∧ Fc (laws_FnClosures.j4 kq x141_199 t373 t374 = some r) ∧ Fc (kq ≤ k4) ∧ Fc (Kd.R (Kd.int .i64) 3 wc w.heap.size (O6 ((.slice Ao17 t361.length co17)) ((.slice Ao24 t367.length co24)) ((.slice Ao46 t374.length co46)) ((.slice Ao55 t380.length co55)) ((.slice Ao101 t388.length co101)) ((.slice Ao222 t401.length co222))) (.slice Ao12 t356.length co12) t356) ∧ Fc (Kd.R (Kd.int .i64) 3 wc w.heap.size (O6 ((.slice Ao12 t356.length co12)) ((.slice Ao24 t367.length co24)) ((.slice Ao46 t374.length co46)) ((.slice Ao55 t380.length co55)) ((.slice Ao101 t388.length co101)) ((.slice Ao222 t401.length co222))) (.slice Ao17 t361.length co17) t361) ∧ Fc (Kd.R (Kd.int .i64) 3 wc w.heap.size (O6 ((.slice Ao12 t356.length co12)) ((.slice Ao17 t361.length co17)) ((.slice Ao46 t374.length co46)) ((.slice Ao55 t380.length co55)) ((.slice Ao101 t388.length co101)) ((.slice Ao222 t401.length co222))) (.slice Ao24 t367.length co24) t367) ∧ Fc (Kd.R (Kd.int .i64) 3 wc w.heap.size (O6 ((.slice Ao12 t356.length co12)) ((.slice Ao17 t361.length co17)) ((.slice Ao24 t367.length co24)) ((.slice Ao55 t380.length co55)) ((.slice Ao101 t388.length co101)) ((.slice Ao222 t401.length co222))) (.slice Ao46 t374.length co46) t374) ∧ Fc (Kd.R (Kd.int .i64) 3 wc w.heap.size (O6 ((.slice Ao12 t356.length co12)) ((.slice Ao17 t361.length co17)) ((.slice Ao24 t367.length co24)) ((.slice Ao46 t374.length co46)) ((.slice Ao101 t388.length co101)) ((.slice Ao222 t401.length co222))) (.slice Ao55 t380.length co55) t380) ∧ Fc (Kd.R (Kd.int .i64) 3 wc w.heap.size (O6 ((.slice Ao12 t356.length co12)) ((.slice Ao17 t361.length co17)) ((.slice Ao24 t367.length co24)) ((.slice Ao46 t374.length co46)) ((.slice Ao55 t380.length co55)) ((.slice Ao222 t401.length co222))) (.slice Ao101 t388.length co101) t388) ∧ Fc (Kd.R (Kd.int .i64) 3 wc w.heap.size (O6 ((.slice Ao12 t356.length co12)) ((.slice Ao17 t361.length co17)) ((.slice Ao24 t367.length co24)) ((.slice Ao46 t374.length co46)) ((.slice Ao55 t380.length co55)) ((.slice Ao101 t388.length co101))) (.slice Ao222 t401.length co222) t401) ∧ Fc (wc.heap[gb359]? = some (.cells #[.int .i64 t355, (.slice Ao12 t356.length co12)] 26 (0, 0))) ∧ Fc (wc.heap[gb365]? = some (.cells #[.int .i64 t360, (.slice Ao17 t361.length co17)] 26 (0, 0))) ∧ Fc (wc.heap[gb371]? = some (.cells #[.int .i64 t366, (.slice Ao24 t367.length co24)] 26 (0, 0))) ∧ Fc (wc.heap[gb378]? = some (.cells #[.int .i64 t373, (.slice Ao46 t374.length co46)] 26 (0, 0))) ∧ Fc (wc.heap[gb384]? = some (.cells #[.int .i64 t379, (.slice Ao55 t380.length co55)] 26 (0, 0))) ∧ Fc (wc.heap[gb392]? = some (.cells #[.int .i64 t387, (.slice Ao101 t388.length co101)] 26 (0, 0))) ∧ Fc (wc.heap[gb405]? = some (.cells #[.int .i64 t400, (.slice Ao222 t401.length co222)] 26 (0, 0))) ∧ Fc (Below w.heap.size w wc))
       case first =>
        have H := HC200.out
        clear HC200
        by_cases c223 : t404 = true
        ·subst c223
         replace H := ifT H
         obtain ⟨t406, A224, H⟩ := obE H
         have H' := mkA H
         clear H
         obtain ⟨_, _, _, _⟩ := blk2 BK405
         obtain ⟨_, _, _, _⟩ := blk2 BK359
         go_wp2_with (first | (go_at_call 8; (with_reducible refine (laws_pSameOrder.calls k4 t400 _ _ t401 t355 _ _ t356 t406 _ ?_ ?_ ?_ ?_ A224.out).mono ?_); exact rCF HO403 BK405; exact rL HO403; exact rCF HO_360001 BK405; exact rL HO_360001; rintro e w238 ⟨rfl, hb⟩; replace HO_101 := mkA (Kd.R_below (rFg HO_101 BK405) hb); replace HO_360001 := mkA (Kd.R_below (rFg HO_360001 BK405) hb); replace HO_366001 := mkA (Kd.R_below (rFg HO_366001 BK405) hb); replace HO_372001 := mkA (Kd.R_below (rFg HO_372001 BK405) hb); replace HO_379001 := mkA (Kd.R_below (rFg HO_379001 BK405) hb); replace HO_385001 := mkA (Kd.R_below (rFg HO_385001 BK405) hb); replace HO_393001 := mkA (Kd.R_below (rFg HO_393001 BK405) hb); replace HO403 := mkA (Kd.R_below (rFg HO403 BK405) hb); replace BK359 := blkS BK359 hb; replace BK365 := blkS BK365 hb; replace BK371 := blkS BK371 hb; replace BK378 := blkS BK378 hb; replace BK384 := blkS BK384 hb; replace BK392 := blkS BK392 hb; replace BK405 := blkS BK405 hb; replace HB := bst HB hb; clear hb))
         go_meet
         case rel => exact ⟨_, (!t406), eqS, H', ⟨by have := HJ7.out; have := HJ35.out; have := HJ86.out; have := HK4.out; first | omega | exact Nat.le_refl _⟩, ⟨Kd.R_g (rM2 HO_360001.out)⟩, ⟨Kd.R_g (rM2 HO_366001.out)⟩, ⟨Kd.R_g (rM2 HO_372001.out)⟩, ⟨Kd.R_g (rM2 HO_379001.out)⟩, ⟨Kd.R_g (rM2 HO_385001.out)⟩, ⟨Kd.R_g (rM2 HO_393001.out)⟩, ⟨Kd.R_g (rM2 HO403.out)⟩, bg BK359, bg BK365, bg BK371, bg BK378, bg BK384, bg BK392, bg BK405, hbg HB⟩
        ·replace c223 := Bool.eq_false_iff.mpr c223
         subst c223
         replace H := ifF H
         have H' := mkA H
         clear H
         go_wp2
         go_meet
         case rel => exact ⟨_, (true), eqS, H', ⟨by have := HJ7.out; have := HJ35.out; have := HJ86.out; have := HK4.out; first | omega | exact Nat.le_refl _⟩, ⟨Kd.R_g (rM2 (Kd.R_far (p := ⟨gb405, 1, none⟩) (Kd.R_far (p := ⟨gb405, 0, none⟩) (Kd.R_types HO_360001.out BK405.out (by decide)) (fun _ hk => hk.2) (.int .i64 t400)) (fun _ hk => hk.2) (.slice Ao222 t401.length co222)))⟩, ⟨Kd.R_g (rM2 (Kd.R_far (p := ⟨gb405, 1, none⟩) (Kd.R_far (p := ⟨gb405, 0, none⟩) (Kd.R_types HO_366001.out BK405.out (by decide)) (fun _ hk => hk.2) (.int .i64 t400)) (fun _ hk => hk.2) (.slice Ao222 t401.length co222)))⟩, ⟨Kd.R_g (rM2 (Kd.R_far (p := ⟨gb405, 1, none⟩) (Kd.R_far (p := ⟨gb405, 0, none⟩) (Kd.R_types HO_372001.out BK405.out (by decide)) (fun _ hk => hk.2) (.int .i64 t400)) (fun _ hk => hk.2) (.slice Ao222 t401.length co222)))⟩, ⟨Kd.R_g (rM2 (Kd.R_far (p := ⟨gb405, 1, none⟩) (Kd.R_far (p := ⟨gb405, 0, none⟩) (Kd.R_types HO_379001.out BK405.out (by decide)) (fun _ hk => hk.2) (.int .i64 t400)) (fun _ hk => hk.2) (.slice Ao222 t401.length co222)))⟩, ⟨Kd.R_g (rM2 (Kd.R_far (p := ⟨gb405, 1, none⟩) (Kd.R_far (p := ⟨gb405, 0, none⟩) (Kd.R_types HO_385001.out BK405.out (by decide)) (fun _ hk => hk.2) (.int .i64 t400)) (fun _ hk => hk.2) (.slice Ao222 t401.length co222)))⟩, ⟨Kd.R_g (rM2 (Kd.R_far (p := ⟨gb405, 1, none⟩) (Kd.R_far (p := ⟨gb405, 0, none⟩) (Kd.R_types HO_393001.out BK405.out (by decide)) (fun _ hk => hk.2) (.int .i64 t400)) (fun _ hk => hk.2) (.slice Ao222 t401.length co222)))⟩, ⟨Kd.R_g (rM2 (Kd.R_far (p := ⟨gb405, 1, none⟩) (Kd.R_far (p := ⟨gb405, 0, none⟩) (Kd.R_types HO403.out BK405.out (by decide)) (fun _ hk => hk.2) (.int .i64 t400)) (fun _ hk => hk.2) (.slice Ao222 t401.length co222)))⟩, ⟨blkT BK359⟩, ⟨blkT BK365⟩, ⟨blkT BK371⟩, ⟨blkT BK378⟩, ⟨blkT BK384⟩, ⟨blkT BK392⟩, ⟨blkT BK405⟩, hbg HB⟩
       case rest =>
        clear HC200
        try clear c1
        try clear c4
        try clear c25
        try clear c25b0
        try clear c25b1
        try clear c25b2
        try clear c33
        try clear c56
        try clear c56b0
        try clear c56b1
        try clear c56b2
        try clear c58
        try clear c84
        try clear c85
        try clear c102
        try clear c104
        try clear c106
        try clear c157
        try clear c164b0
        try clear c165
        try clear c165b0
        try clear c166
        try clear c166b0
        try clear c167
        try clear c167b0
        try clear c168
        try clear c168b0
        try clear c168b1
        try clear c169
        try clear c190
        try clear c190b0
        try clear c190b1
        try clear c190b2
        try clear c198
        try clear c223
        try clear hx396_0
        try clear hx397_0
        try clear p396
        try clear p397
        try clear q396
        try clear q397
        obtain ⟨kq, x141_199, rfl, HA, HJ199, HO_360001, HO_366001, HO_372001, HO_379001, HO_385001, HO_393001, HO_406001, BK359, BK365, BK371, BK378, BK384, BK392, BK405, HB⟩ := hcut
        cases kq with
        | zero => exact absurd HA.out (by simp [laws_FnClosures.j4])
        | succ kj199 =>
         have H := HA.out
         clear HA
         simp only [laws_FnClosures.j4] at H
         by_cases c239 : x141_199 = true
         ·subst c239
          replace H := ifT H
          obtain rfl := Option.some.inj H
          go_wp2
          go_ret
          exact ⟨eqE, bel_g HB.out⟩
         ·replace c239 := Bool.eq_false_iff.mpr c239
          subst c239
          replace H := ifF H
          have H' := mkA H
          clear H
          obtain ⟨_, _, _, _⟩ := blk2 BK378
          go_wp2
          go_loopg [145] kj199 (fun kq v145 w' => ∃ (x145_6 : Int) (x360001_6 : List Int) (x366001_6 : List Int) (x372001_6 : List Int) (x379001_6 : List Int) (x385001_6 : List Int) (x393001_6 : List Int) (x406001_6 : List Int) (u360001 : Value) (u366001 : Value) (u372001 : Value) (u379001 : Value) (u385001 : Value) (u393001 : Value) (u406001 : Value), v145 = .int .i64 x145_6 ∧ Fc (laws_FnClosures.l1 kq (t374.length : Int) x145_6 t373 x379001_6 = some r) ∧ Fc (kq ≤ kj199) ∧ Fc (Kd.R (Kd.int .i64) 3 w' w.heap.size (O6 u366001 u372001 u379001 u385001 u393001 u406001) u360001 x360001_6) ∧ Fc (Kd.R (Kd.int .i64) 3 w' w.heap.size (O6 u360001 u372001 u379001 u385001 u393001 u406001) u366001 x366001_6) ∧ Fc (Kd.R (Kd.int .i64) 3 w' w.heap.size (O6 u360001 u366001 u379001 u385001 u393001 u406001) u372001 x372001_6) ∧ Fc (Kd.R (Kd.int .i64) 3 w' w.heap.size (O6 u360001 u366001 u372001 u385001 u393001 u406001) u379001 x379001_6) ∧ Fc (Kd.R (Kd.int .i64) 3 w' w.heap.size (O6 u360001 u366001 u372001 u379001 u393001 u406001) u385001 x385001_6) ∧ Fc (Kd.R (Kd.int .i64) 3 w' w.heap.size (O6 u360001 u366001 u372001 u379001 u385001 u406001) u393001 x393001_6) ∧ Fc (Kd.R (Kd.int .i64) 3 w' w.heap.size (O6 u360001 u366001 u372001 u379001 u385001 u393001) u406001 x406001_6) ∧ Fc (w'.heap[gb359]? = some (.cells #[.int .i64 t355, u360001] 26 (0, 0))) ∧ Fc (w'.heap[gb365]? = some (.cells #[.int .i64 t360, u366001] 26 (0, 0))) ∧ Fc (w'.heap[gb371]? = some (.cells #[.int .i64 t366, u372001] 26 (0, 0))) ∧ Fc (w'.heap[gb378]? = some (.cells #[.int .i64 t373, u379001] 26 (0, 0))) ∧ Fc (w'.heap[gb384]? = some (.cells #[.int .i64 t379, u385001] 26 (0, 0))) ∧ Fc (w'.heap[gb392]? = some (.cells #[.int .i64 t387, u393001] 26 (0, 0))) ∧ Fc (w'.heap[gb405]? = some (.cells #[.int .i64 t400, u406001] 26 (0, 0))) ∧ Fc (Below w.heap.size w w'))
          case atStart => exact ⟨(0), (t356), (t361), (t367), (t374), (t380), (t388), (t401), (.slice Ao12 t356.length co12), (.slice Ao17 t361.length co17), (.slice Ao24 t367.length co24), (.slice Ao46 t374.length co46), (.slice Ao55 t380.length co55), (.slice Ao101 t388.length co101), (.slice Ao222 t401.length co222), eqS, H', ⟨Nat.le_refl _⟩, rg HO_360001, rg HO_366001, rg HO_372001, rg HO_379001, rg HO_385001, rg HO_393001, rg HO_406001, bg BK359, bg BK365, bg BK371, bg BK378, bg BK384, bg BK392, bg BK405, hbg HB⟩
          case round =>
           clear H'
           try clear c1
           try clear c4
           try clear c25
           try clear c25b0
           try clear c25b1
           try clear c25b2
           try clear c33
           try clear c56
           try clear c56b0
           try clear c56b1
           try clear c56b2
           try clear c58
           try clear c84
           try clear c85
           try clear c102
           try clear c104
           try clear c106
           try clear c157
           try clear c164b0
           try clear c165
           try clear c165b0
           try clear c166
           try clear c166b0
           try clear c167
           try clear c167b0
           try clear c168
           try clear c168b0
           try clear c168b1
           try clear c169
           try clear c190
           try clear c190b0
           try clear c190b1
           try clear c190b2
           try clear c198
           try clear c223
           try clear c239
           try clear hx396_0
           try clear hx397_0
           try clear p396
           try clear p397
           try clear q396
           try clear q397
           obtain ⟨x145_6, x360001_6, x366001_6, x372001_6, x379001_6, x385001_6, x393001_6, x406001_6, u360001, u366001, u372001, u379001, u385001, u393001, u406001, rfl, HA, HK6, HO_360001, HO_366001, HO_372001, HO_379001, HO_385001, HO_393001, HO_406001, BK359, BK365, BK371, BK378, BK384, BK392, BK405, HB⟩ := hrel
           cases gk with
           | zero => exact absurd HA.out (by simp [laws_FnClosures.l1])
           | succ k6 =>
            have H := HA.out
            clear HA
            simp only [laws_FnClosures.l1] at H
            rcases iteE H with ⟨c247b0, H⟩ | ⟨c247b0, H⟩
            ·as_aux_lemma => (
 have H' := mkA H
 clear H
 obtain ⟨_, _, _, _⟩ := blk2 BK378
 obtain ⟨Ao255, co255, rfl⟩ := Kd.R_slice HO_379001.out
 go_wp2
 go_loopg [151] k6 (fun kq v151 w' => ∃ (x151_7 : Int) (x360001_7 : List Int) (x366001_7 : List Int) (x372001_7 : List Int) (x379001_7 : List Int) (x385001_7 : List Int) (x393001_7 : List Int) (x406001_7 : List Int) (u360001 : Value) (u366001 : Value) (u372001 : Value) (u379001 : Value) (u385001 : Value) (u393001 : Value) (u406001 : Value), v151 = .int .i64 x151_7 ∧ Fc (laws_FnClosures.l2 kq x145_6 (t374.length : Int) x145_6 (x379001_6.length : Int) x151_7 t373 x379001_7 = some r) ∧ Fc (kq ≤ k6) ∧ Fc (Kd.R (Kd.int .i64) 3 w' w.heap.size (O6 u366001 u372001 u379001 u385001 u393001 u406001) u360001 x360001_7) ∧ Fc (Kd.R (Kd.int .i64) 3 w' w.heap.size (O6 u360001 u372001 u379001 u385001 u393001 u406001) u366001 x366001_7) ∧ Fc (Kd.R (Kd.int .i64) 3 w' w.heap.size (O6 u360001 u366001 u379001 u385001 u393001 u406001) u372001 x372001_7) ∧ Fc (Kd.R (Kd.int .i64) 3 w' w.heap.size (O6 u360001 u366001 u372001 u385001 u393001 u406001) u379001 x379001_7) ∧ Fc (Kd.R (Kd.int .i64) 3 w' w.heap.size (O6 u360001 u366001 u372001 u379001 u393001 u406001) u385001 x385001_7) ∧ Fc (Kd.R (Kd.int .i64) 3 w' w.heap.size (O6 u360001 u366001 u372001 u379001 u385001 u406001) u393001 x393001_7) ∧ Fc (Kd.R (Kd.int .i64) 3 w' w.heap.size (O6 u360001 u366001 u372001 u379001 u385001 u393001) u406001 x406001_7) ∧ Fc (w'.heap[gb359]? = some (.cells #[.int .i64 t355, u360001] 26 (0, 0))) ∧ Fc (w'.heap[gb365]? = some (.cells #[.int .i64 t360, u366001] 26 (0, 0))) ∧ Fc (w'.heap[gb371]? = some (.cells #[.int .i64 t366, u372001] 26 (0, 0))) ∧ Fc (w'.heap[gb378]? = some (.cells #[.int .i64 t373, u379001] 26 (0, 0))) ∧ Fc (w'.heap[gb384]? = some (.cells #[.int .i64 t379, u385001] 26 (0, 0))) ∧ Fc (w'.heap[gb392]? = some (.cells #[.int .i64 t387, u393001] 26 (0, 0))) ∧ Fc (w'.heap[gb405]? = some (.cells #[.int .i64 t400, u406001] 26 (0, 0))) ∧ Fc (Below w.heap.size w w'))
 case atStart => exact ⟨(0), (x360001_6), (x366001_6), (x372001_6), (x379001_6), (x385001_6), (x393001_6), (x406001_6), (u360001), (u366001), (u372001), (.slice Ao255 x379001_6.length co255), (u385001), (u393001), (u406001), eqS, H', ⟨Nat.le_refl _⟩, rg HO_360001, rg HO_366001, rg HO_372001, rg HO_379001, rg HO_385001, rg HO_393001, rg HO_406001, bg BK359, bg BK365, bg BK371, bg BK378, bg BK384, bg BK392, bg BK405, hbg HB⟩
 case round =>
  clear H'
  try clear c1
  try clear c4
  try clear c25
  try clear c25b0
  try clear c25b1
  try clear c25b2
  try clear c33
  try clear c56
  try clear c56b0
  try clear c56b1
  try clear c56b2
  try clear c58
  try clear c84
  try clear c85
  try clear c102
  try clear c104
  try clear c106
  try clear c157
  try clear c164b0
  try clear c165
  try clear c165b0
  try clear c166
  try clear c166b0
  try clear c167
  try clear c167b0
  try clear c168
  try clear c168b0
  try clear c168b1
  try clear c169
  try clear c190
  try clear c190b0
  try clear c190b1
  try clear c190b2
  try clear c198
  try clear c223
  try clear c239
  try clear c247b0
  try clear hx396_0
  try clear hx397_0
  try clear p396
  try clear p397
  try clear q396
  try clear q397
  obtain ⟨x151_7, x360001_7, x366001_7, x372001_7, x379001_7, x385001_7, x393001_7, x406001_7, u360001, u366001, u372001, u379001, u385001, u393001, u406001, rfl, HA, HK7, HO_360001, HO_366001, HO_372001, HO_379001, HO_385001, HO_393001, HO_406001, BK359, BK365, BK371, BK378, BK384, BK392, BK405, HB⟩ := hrel
  cases gk with
  | zero => exact absurd HA.out (by simp [laws_FnClosures.l2])
  | succ k7 =>
   have H := HA.out
   clear HA
   simp only [laws_FnClosures.l2] at H
   rcases iteE H with ⟨c256b0, H⟩ | ⟨c256b0, H⟩
   ·obtain ⟨c257b0, H⟩ := itND H
    obtain ⟨c258b0, H⟩ := itND H
    obtain ⟨t408, A259, H⟩ := obE H
    by_cases c260 : t408 = true
    ·subst c260
     replace H := ifT H
     obtain ⟨y409, Ny409, H⟩ := nmE H
     obtain ⟨c261, H⟩ := itNP H
     have LMc261 := mkA c261
     clear c261
     obtain ⟨y412, Ny412, H⟩ := nmE H
     obtain ⟨c262b0, H⟩ := itND H
     obtain ⟨c263b0, c263b1, H⟩ := itNQ H
     obtain ⟨ji264, hji264⟩ : ∃ j_ : Int, (shl .i64 1 x151_7) = j_ := ⟨_, rfl⟩
     first | rw [hji264] at H | simp only [hji264] at H
     (try rw [hji264] at A259)
     have hji264_ : (IntKind.i64.wrap (1 * 2 ^ min x151_7.toNat 64)) = ji264 := hji264
     have hji264z : x151_7 ≤ 64 → (IntKind.i64.wrap (1 * 2 ^ x151_7.toNat)) = ji264 := shl_small hji264
     have hji264u : (IntKind.i64.wrap (2 ^ min x151_7.toNat 64)) = ji264 := by have h_ := hji264_; rw [Int.one_mul] at h_; exact h_
     have hji264v : x151_7 ≤ 64 → (IntKind.i64.wrap (2 ^ x151_7.toNat)) = ji264 := fun hle_ => by have h_ := hji264z hle_; rw [Int.one_mul] at h_; exact h_
     have hji264y : (wrap64 (1 * 2 ^ min x151_7.toNat 64)) = ji264 := (i64_w _).symm.trans hji264_
     have hji264x : x151_7 ≤ 64 → (wrap64 (1 * 2 ^ x151_7.toNat)) = ji264 := fun h_ => (i64_w _).symm.trans (hji264z h_)
     obtain ⟨y417, hy417⟩ : ∃ y_ : List Int, y_ = (y412.set (x145_6 : Int).toNat (wrap64 ((rd y412 x145_6) - (ji264)))) := ⟨_, rfl⟩
     rw [← hy417] at H
     have Ny417 := mkA hy417
     clear hy417
     obtain ⟨⟨t418, t419, t422⟩, A266, H⟩ := obE H
     dsimp only at H
     by_cases c267 : t422 = true
     ·subst c267
      replace H := ifT H
      obtain ⟨c268b0, H⟩ := itND H
      obtain ⟨t425, A269, H⟩ := obE H
      by_cases c270 : t425 = true
      ·subst c270
       replace H := ifT H
       obtain rfl := Option.some.inj H
       obtain ⟨_, _, _, _⟩ := blk2 BK378
       obtain ⟨Ao278, co278, rfl⟩ := Kd.R_slice HO_379001.out
       obtain ⟨p407, q407, ad407, e407, hx407_0⟩ := atI (Kd.R_reads' HO_379001.out).2.2 x145_6
       cases e407
       try go_wp2_with (first | ((with_reducible refine gate_callee (f := 12) rfl ?_); refine goesQ (some 160) Tryd.func12 #[.int .i64 (rd x379001_7 x145_6), .int .i64 x151_7] ?_; (with_reducible refine (laws_pIn.calls (rd x379001_7 x145_6) x151_7 true _ A259.out).mono ?_); rintro e w' ⟨rfl, ⟨nd, rfl⟩⟩; refine ⟨_, rfl, ?_⟩; (try (rw [drewN_self wr]; generalize hq_ : World.drewN wr _ = wr; have n0_ : Fc (Kd.R (Kd.int .i64) 3 wr w.heap.size (O6 u366001 u372001 (.slice (some ad407) x379001_7.length co278) u385001 u393001 u406001) u360001 x360001_7) := ⟨by rw [← hq_]; exact (Kd.R_g HO_360001.out)⟩; have n1_ : Fc (Kd.R (Kd.int .i64) 3 wr w.heap.size (O6 u360001 u372001 (.slice (some ad407) x379001_7.length co278) u385001 u393001 u406001) u366001 x366001_7) := ⟨by rw [← hq_]; exact (Kd.R_g HO_366001.out)⟩; have n2_ : Fc (Kd.R (Kd.int .i64) 3 wr w.heap.size (O6 u360001 u366001 (.slice (some ad407) x379001_7.length co278) u385001 u393001 u406001) u372001 x372001_7) := ⟨by rw [← hq_]; exact (Kd.R_g HO_372001.out)⟩; have n3_ : Fc (Kd.R (Kd.int .i64) 3 wr w.heap.size (O6 u360001 u366001 u372001 u385001 u393001 u406001) (.slice (some ad407) x379001_7.length co278) x379001_7) := ⟨by rw [← hq_]; exact (Kd.R_g HO_379001.out)⟩; have n4_ : Fc (Kd.R (Kd.int .i64) 3 wr w.heap.size (O6 u360001 u366001 u372001 (.slice (some ad407) x379001_7.length co278) u393001 u406001) u385001 x385001_7) := ⟨by rw [← hq_]; exact (Kd.R_g HO_385001.out)⟩; have n5_ : Fc (Kd.R (Kd.int .i64) 3 wr w.heap.size (O6 u360001 u366001 u372001 (.slice (some ad407) x379001_7.length co278) u385001 u406001) u393001 x393001_7) := ⟨by rw [← hq_]; exact (Kd.R_g HO_393001.out)⟩; have n6_ : Fc (Kd.R (Kd.int .i64) 3 wr w.heap.size (O6 u360001 u366001 u372001 (.slice (some ad407) x379001_7.length co278) u385001 u393001) u406001 x406001_7) := ⟨by rw [← hq_]; exact (Kd.R_g HO_406001.out)⟩; have n7_ : Fc (wr.heap[gb359]? = some (.cells #[.int .i64 t355, u360001] 26 (0, 0))) := ⟨by rw [← hq_]; exact (blk_g BK359.out)⟩; have n8_ : Fc (wr.heap[gb365]? = some (.cells #[.int .i64 t360, u366001] 26 (0, 0))) := ⟨by rw [← hq_]; exact (blk_g BK365.out)⟩; have n9_ : Fc (wr.heap[gb371]? = some (.cells #[.int .i64 t366, u372001] 26 (0, 0))) := ⟨by rw [← hq_]; exact (blk_g BK371.out)⟩; have n10_ : Fc (wr.heap[gb378]? = some (.cells #[.int .i64 t373, .slice (some ad407) x379001_7.length co278] 26 (0, 0))) := ⟨by rw [← hq_]; exact (blk_g BK378.out)⟩; have n11_ : Fc (wr.heap[gb384]? = some (.cells #[.int .i64 t379, u385001] 26 (0, 0))) := ⟨by rw [← hq_]; exact (blk_g BK384.out)⟩; have n12_ : Fc (wr.heap[gb392]? = some (.cells #[.int .i64 t387, u393001] 26 (0, 0))) := ⟨by rw [← hq_]; exact (blk_g BK392.out)⟩; have n13_ : Fc (wr.heap[gb405]? = some (.cells #[.int .i64 t400, u406001] 26 (0, 0))) := ⟨by rw [← hq_]; exact (blk_g BK405.out)⟩; have n14_ : Fc (Below w.heap.size w wr) := ⟨by rw [← hq_]; exact (bel_g HB.out)⟩; clear HO_360001 HO_366001 HO_372001 HO_379001 HO_385001 HO_393001 HO_406001 BK359 BK365 BK371 BK378 BK384 BK392 BK405 HB hq_; have HO_360001 := n0_; have HO_366001 := n1_; have HO_372001 := n2_; have HO_379001 := n3_; have HO_385001 := n4_; have HO_393001 := n5_; have HO_406001 := n6_; have BK359 := n7_; have BK365 := n8_; have BK371 := n9_; have BK378 := n10_; have BK384 := n11_; have BK392 := n12_; have BK405 := n13_; have HB := n14_; clear n0_ n1_ n2_ n3_ n4_ n5_ n6_ n7_ n8_ n9_ n10_ n11_ n12_ n13_ n14_)); (try obtain ⟨_, _, _, _⟩ := blk2 BK359); (try obtain ⟨_, _, _, _⟩ := blk2 BK365); (try obtain ⟨_, _, _, _⟩ := blk2 BK371); (try obtain ⟨_, _, _, _⟩ := blk2 BK378); (try obtain ⟨_, _, _, _⟩ := blk2 BK384); (try obtain ⟨_, _, _, _⟩ := blk2 BK392); (try obtain ⟨_, _, _, _⟩ := blk2 BK405)))
       replace HO_360001 := mkA (Kd.R_drew HO_360001.out)
       replace HO_366001 := mkA (Kd.R_drew HO_366001.out)
       replace HO_372001 := mkA (Kd.R_drew HO_372001.out)
       replace HO_379001 := mkA (Kd.R_drew HO_379001.out)
       replace HO_385001 := mkA (Kd.R_drew HO_385001.out)
       replace HO_393001 := mkA (Kd.R_drew HO_393001.out)
       replace HO_406001 := mkA (Kd.R_drew HO_406001.out)
       replace BK359 := mkA (blk_drew BK359.out)
       replace BK365 := mkA (blk_drew BK365.out)
       replace BK371 := mkA (blk_drew BK371.out)
       replace BK378 := mkA (blk_drew BK378.out)
       replace BK384 := mkA (blk_drew BK384.out)
       replace BK392 := mkA (blk_drew BK392.out)
       replace BK405 := mkA (blk_drew BK405.out)
       replace HB := mkA (below_drew1 HB.out)
       refine start_ (n := 9) (S := fun w' => w'.cell? ⟨gb378, 0, none⟩ = some (.int .i64 t373) ∧ w'.cell? ⟨gb378, 1, none⟩ = some (.slice (some ad407) x379001_7.length co278)) (ds := []) (bm 9 0) (by kernel_rfl) rfl (by kernel_rfl) ⟨(blk_cell BK378.out 0).trans rfl, (blk_cell BK378.out 1).trans rfl⟩ (fun hHeld => ?_); refine with_tabW laws_FnClosures.tab39 laws_FnClosures.bits39 (fun HT_ HW_ => ?_)
       generalize wr.drew = w279 at HO_360001 HO_366001 HO_372001 HO_379001 HO_385001 HO_393001 HO_406001 BK359 BK365 BK371 BK378 BK384 BK392 BK405 HB hHeld ⊢
       refine purW 0 162 9 1 HT_ ?_
       refine purW 3 165 9 9 HT_ ?_
       refine takeW 1 (some 163) (bm 9 11) HT_ HW_ hHeld ?_
       refine takeW 4 (some 166) (bm 9 27) HT_ HW_ hHeld ?_
       refine join_ (σ := Value × Value × Nat) 1 (bm 9 255) (fun s_ => [(164, s_.1), (167, s_.2.1), (23, .pointer (some ⟨s_.2.2, 0, none⟩)), (168, .agg #[.int .i64 t373, s_.2.1])]) (fun s_ w' => (w'.cell? ⟨gb378, 0, none⟩ = some (.int .i64 t373) ∧ w'.cell? ⟨gb378, 1, none⟩ = some (.slice (some ad407) x379001_7.length co278)) ∧ (Kd.R (Kd.int .i64) 3 w' w.heap.size (O7 u360001 u366001 u372001 (.slice (some ad407) x379001_7.length co278) u385001 u393001 u406001) s_.2.1 y412) ∧ (Kd.R (Kd.int .i64) 3 w' w.heap.size (O7 (s_.2.1) u366001 u372001 (.slice (some ad407) x379001_7.length co278) u385001 u393001 u406001) u360001 x360001_7) ∧ (Kd.R (Kd.int .i64) 3 w' w.heap.size (O7 (s_.2.1) u360001 u372001 (.slice (some ad407) x379001_7.length co278) u385001 u393001 u406001) u366001 x366001_7) ∧ (Kd.R (Kd.int .i64) 3 w' w.heap.size (O7 (s_.2.1) u360001 u366001 (.slice (some ad407) x379001_7.length co278) u385001 u393001 u406001) u372001 x372001_7) ∧ (Kd.R (Kd.int .i64) 3 w' w.heap.size (O7 (s_.2.1) u360001 u366001 u372001 u385001 u393001 u406001) (.slice (some ad407) x379001_7.length co278) x379001_7) ∧ (Kd.R (Kd.int .i64) 3 w' w.heap.size (O7 (s_.2.1) u360001 u366001 u372001 (.slice (some ad407) x379001_7.length co278) u393001 u406001) u385001 x385001_7) ∧ (Kd.R (Kd.int .i64) 3 w' w.heap.size (O7 (s_.2.1) u360001 u366001 u372001 (.slice (some ad407) x379001_7.length co278) u385001 u406001) u393001 x393001_7) ∧ (Kd.R (Kd.int .i64) 3 w' w.heap.size (O7 (s_.2.1) u360001 u366001 u372001 (.slice (some ad407) x379001_7.length co278) u385001 u393001) u406001 x406001_7) ∧ (w'.heap[gb359]? = some (.cells #[.int .i64 t355, u360001] 26 (0, 0))) ∧ (w'.heap[gb365]? = some (.cells #[.int .i64 t360, u366001] 26 (0, 0))) ∧ (w'.heap[gb371]? = some (.cells #[.int .i64 t366, u372001] 26 (0, 0))) ∧ (w'.heap[gb378]? = some (.cells #[.int .i64 t373, .slice (some ad407) x379001_7.length co278] 26 (0, 0))) ∧ (w'.heap[gb384]? = some (.cells #[.int .i64 t379, u385001] 26 (0, 0))) ∧ (w'.heap[gb392]? = some (.cells #[.int .i64 t387, u393001] 26 (0, 0))) ∧ (w'.heap[gb405]? = some (.cells #[.int .i64 t400, u406001] 26 (0, 0))) ∧ (w'.heap[s_.2.2]? = some (.cells #[.int .i64 0, .slice none 0 0] 26 (0, 0))) ∧ (w.heap.size ≤ s_.2.2) ∧ (w.heap.size ≤ s_.2.2) ∧ (gb359 ≠ s_.2.2) ∧ (s_.2.2 ≠ gb359) ∧ (gb365 ≠ s_.2.2) ∧ (s_.2.2 ≠ gb365) ∧ (gb371 ≠ s_.2.2) ∧ (s_.2.2 ≠ gb371) ∧ (gb378 ≠ s_.2.2) ∧ (s_.2.2 ≠ gb378) ∧ (gb384 ≠ s_.2.2) ∧ (s_.2.2 ≠ gb384) ∧ (gb392 ≠ s_.2.2) ∧ (s_.2.2 ≠ gb392) ∧ (gb405 ≠ s_.2.2) ∧ (s_.2.2 ≠ gb405) ∧ (Below w.heap.size w w')) ?_ ?_
       rotate_left
       ·intro hCont
        refine two_ (i := 2) (j := 7) (Ni := some 164) (Nj := some 23) (bm 9 31) (bm 9 155) rfl rfl rfl rfl (two_of HT_.out (by kernel_rfl)) (by decide) (by decide) (fun K hK => ?_) (fun K hK => ?_)
        ·skip
         refine Kd.R_lit_step (Kd.int .i64) _ 3 ?hg (N := 164) ?hd (xs := ([] : List Int)) (inner := []) (ok := fun _ => True) (okp := fun _ => True) ?hr ?hp (fun _ hk => hk) trivial (Below.refl _ _) (Nat.le_refl _) (by simp) ?_; (case hd => rfl); (case hg => rfl); (case hr => first | (go_simp; done) | (go_simp; rfl)); (case hp => exact (Reps.none _ _))
         intro v410 w280 ho281 hb hg_ hnew_
         clear hg_ hnew_
         (first | rw [← Ny409.out] at ho281 | (simp only [Int.reduceToNat] at ho281; rw [← Ny409.out] at ho281))
         have HO411 := rLo (rN (rN (rN (rN (rN (rN (rN ho281 HO_360001) HO_366001) HO_372001) HO_379001) HO_385001) HO_393001) HO_406001) HB
         replace HO_360001 := rE HO_360001 ho281 hb
         replace HO_366001 := rE HO_366001 ho281 hb
         replace HO_372001 := rE HO_372001 ho281 hb
         replace HO_379001 := rE HO_379001 ho281 hb
         replace HO_385001 := rE HO_385001 ho281 hb
         replace HO_393001 := rE HO_393001 ho281 hb
         replace HO_406001 := rE HO_406001 ho281 hb
         replace BK359 := blkB BK359 hb
         replace BK365 := blkB BK365 hb
         replace BK371 := blkB BK371 hb
         replace BK378 := blkB BK378 hb
         replace BK384 := blkB BK384 hb
         replace BK392 := blkB BK392 hb
         replace BK405 := blkB BK405 hb
         replace HB := bst HB hb
         clear hb ho281
         refine hK.out _ _ ⟨(blk_cell BK378.out 0).trans rfl, (blk_cell BK378.out 1).trans rfl⟩ (fun hHeld => ?_)
         clear hK K
         refine normW 164 ?_
         refine two_ (i := 5) (j := 7) (Ni := some 167) (Nj := some 23) (bm 9 63) (bm 9 159) rfl rfl rfl rfl (two_of HT_.out (by kernel_rfl)) (by decide) (by decide) (fun K hK => ?_) (fun K hK => ?_)
         ·skip
          refine Kd.R_append_rows_step (Kd.int .i64) (w0 := w) w.heap.size (by rfl) (.tmp 164) (.tmp 166) 24 3 (.int .i64 0) 8 rfl Tryd.underlying24 info3 rfl (by decide) (by omega) v410 y409 x379001_7 _ _ _ (O7 u360001 u366001 u372001 (.slice (some ad407) x379001_7.length co278) u385001 u393001 u406001) (fun _ => False) rfl rfl ?aO ?aR (fun _ _ h => h) (fun _ h => h.elim) ?aF ?aB ?aS ?aL ?_
          (case aR => repeat (first | exact (Kd.R_reads' HO_379001.out).2.2 | (with_reducible refine Kd.C_alloc ?_ _) | (with_reducible refine Kd.C_drewN ?_ _) | (with_reducible refine Kd.C_drew ?_)))
          (case aB => exact (bel_g HB.out))
          (case aF => exact (fun k_ hk => ⟨Kd.fresh' (Kd.R_lt (Kd.R_g HO_360001.out)) k_ hk, Kd.fresh' (Kd.R_lt (Kd.R_g HO_366001.out)) k_ hk, Kd.fresh' (Kd.R_lt (Kd.R_g HO_372001.out)) k_ hk, Kd.fresh' (Kd.R_lt (Kd.R_g HO_379001.out)) k_ hk, Kd.fresh' (Kd.R_lt (Kd.R_g HO_385001.out)) k_ hk, Kd.fresh' (Kd.R_lt (Kd.R_g HO_393001.out)) k_ hk, Kd.fresh' (Kd.R_lt (Kd.R_g HO_406001.out)) k_ hk⟩))
          (case aO => exact (Kd.R_g (rM2 HO411.out)))
          (case aS => exact (below_size (bel_g HB.out)))
          (case aL => have := LMc261.out; omega)
          intro v413 w282 ho hb hg hat
          rw [← Ny412.out] at ho
          replace HO_360001 := mkA (Kd.R_after (ok := (O6 u366001 u372001 (.slice (some ad407) x379001_7.length co278) u385001 u393001 u406001)) (Kd.R_g HO_360001.out) hg hat)
          replace HO_366001 := mkA (Kd.R_after (ok := (O6 u360001 u372001 (.slice (some ad407) x379001_7.length co278) u385001 u393001 u406001)) (Kd.R_g HO_366001.out) hg hat)
          replace HO_372001 := mkA (Kd.R_after (ok := (O6 u360001 u366001 (.slice (some ad407) x379001_7.length co278) u385001 u393001 u406001)) (Kd.R_g HO_372001.out) hg hat)
          replace HO_379001 := mkA (Kd.R_after (ok := (O6 u360001 u366001 u372001 u385001 u393001 u406001)) (Kd.R_g HO_379001.out) hg hat)
          replace HO_385001 := mkA (Kd.R_after (ok := (O6 u360001 u366001 u372001 (.slice (some ad407) x379001_7.length co278) u393001 u406001)) (Kd.R_g HO_385001.out) hg hat)
          replace HO_393001 := mkA (Kd.R_after (ok := (O6 u360001 u366001 u372001 (.slice (some ad407) x379001_7.length co278) u385001 u406001)) (Kd.R_g HO_393001.out) hg hat)
          replace HO_406001 := mkA (Kd.R_after (ok := (O6 u360001 u366001 u372001 (.slice (some ad407) x379001_7.length co278) u385001 u393001)) (Kd.R_g HO_406001.out) hg hat)
          replace BK359 := mkA (blk_grown (g := gb359) (o := .cells #[.int .i64 t355, u360001] 26 (0, 0)) (blk_g BK359.out) hg (Kd.R_ne HO411.out BK359.out (by decide)))
          replace BK365 := mkA (blk_grown (g := gb365) (o := .cells #[.int .i64 t360, u366001] 26 (0, 0)) (blk_g BK365.out) hg (Kd.R_ne HO411.out BK365.out (by decide)))
          replace BK371 := mkA (blk_grown (g := gb371) (o := .cells #[.int .i64 t366, u372001] 26 (0, 0)) (blk_g BK371.out) hg (Kd.R_ne HO411.out BK371.out (by decide)))
          replace BK378 := mkA (blk_grown (g := gb378) (o := .cells #[.int .i64 t373, .slice (some ad407) x379001_7.length co278] 26 (0, 0)) (blk_g BK378.out) hg (Kd.R_ne HO411.out BK378.out (by decide)))
          replace BK384 := mkA (blk_grown (g := gb384) (o := .cells #[.int .i64 t379, u385001] 26 (0, 0)) (blk_g BK384.out) hg (Kd.R_ne HO411.out BK384.out (by decide)))
          replace BK392 := mkA (blk_grown (g := gb392) (o := .cells #[.int .i64 t387, u393001] 26 (0, 0)) (blk_g BK392.out) hg (Kd.R_ne HO411.out BK392.out (by decide)))
          replace BK405 := mkA (blk_grown (g := gb405) (o := .cells #[.int .i64 t400, u406001] 26 (0, 0)) (blk_g BK405.out) hg (Kd.R_ne HO411.out BK405.out (by decide)))
          have HO414 := mkA (ho)
          replace HB := mkA (hb)
          clear HO411
          clear ho hb hg hat
          obtain ⟨Ao283, co283, eo283⟩ := Kd.R_slice HO414.out
          (first | subst eo283 | (injection eo283 with f1_ f2_ f3_; have f4_ := f1_.symm; have f5_ := f3_.symm; clear f1_ f2_ f3_; subst f4_; subst f5_))
          refine hK.out _ _ ⟨(blk_cell BK378.out 0).trans rfl, (blk_cell BK378.out 1).trans rfl⟩ (fun hHeld => ?_)
          clear hK K
          refine normW 167 ?_
          refine purW 6 168 9 127 HT_ ?_
          refine oneW 7 (some 23) (bm 9 255) HT_ (fun K hK => ?_)
          refine box_step ?hg (N := 23) ?hd (cs := #[.int .i64 0, .slice none 0 0]) (t := 26) ?hr ?_; (case hd => rfl); (case hg => rfl); (case hr => first | (go_simp; done) | (go_simp; rfl))
          intro gb415 hg w284 hbox hb
          replace HO_360001 := rB HO_360001 hb
          replace HO_366001 := rB HO_366001 hb
          replace HO_372001 := rB HO_372001 hb
          replace HO_379001 := rB HO_379001 hb
          replace HO_385001 := rB HO_385001 hb
          replace HO_393001 := rB HO_393001 hb
          replace HO_406001 := rB HO_406001 hb
          replace HO414 := rB HO414 hb
          have BK415 := mkA (hbox)
          have GW415 := geB HB hg
          have GE415 := geB HB hg
          have NB359_415 := neL7 BK359 hg
          have NB415_359 := neR7 BK359 hg
          replace BK359 := blkB BK359 hb
          have NB365_415 := neL7 BK365 hg
          have NB415_365 := neR7 BK365 hg
          replace BK365 := blkB BK365 hb
          have NB371_415 := neL7 BK371 hg
          have NB415_371 := neR7 BK371 hg
          replace BK371 := blkB BK371 hb
          have NB378_415 := neL7 BK378 hg
          have NB415_378 := neR7 BK378 hg
          replace BK378 := blkB BK378 hb
          have NB384_415 := neL7 BK384 hg
          have NB415_384 := neR7 BK384 hg
          replace BK384 := blkB BK384 hb
          have NB392_415 := neL7 BK392 hg
          have NB415_392 := neR7 BK392 hg
          replace BK392 := blkB BK392 hb
          have NB405_415 := neL7 BK405 hg
          have NB415_405 := neR7 BK405 hg
          replace BK405 := blkB BK405 hb
          replace HB := bst HB hb
          clear hb hbox hg
          refine hK.out _ _ ⟨(blk_cell BK378.out 0).trans rfl, (blk_cell BK378.out 1).trans rfl⟩ (fun hHeld => ?_)
          clear hK K
          refine normW 23 ?_
          exact norm_ (by simp only [putAll, Act.put, List.setIfInBounds_toArray, List.set_cons_zero, List.set_cons_succ]) (hCont (v410, .slice Ao283 y412.length co283, gb415) _ ⟨hHeld, (Kd.R_g HO414.out), (Kd.R_g (rM2 HO_360001.out)), (Kd.R_g (rM2 HO_366001.out)), (Kd.R_g (rM2 HO_372001.out)), (Kd.R_g (rM2 HO_379001.out)), (Kd.R_g (rM2 HO_385001.out)), (Kd.R_g (rM2 HO_393001.out)), (Kd.R_g (rM2 HO_406001.out)), (blk_g BK359.out), (blk_g BK365.out), (blk_g BK371.out), (blk_g BK378.out), (blk_g BK384.out), (blk_g BK392.out), (blk_g BK405.out), (blk_g BK415.out), GW415.out, GE415.out, NB359_415.out, NB415_359.out, NB365_415.out, NB415_365.out, NB371_415.out, NB415_371.out, NB378_415.out, NB415_378.out, NB384_415.out, NB415_384.out, NB392_415.out, NB415_392.out, NB405_415.out, NB415_405.out, (bel_g HB.out)⟩)
         ·skip
          refine box_step ?hg (N := 23) ?hd (cs := #[.int .i64 0, .slice none 0 0]) (t := 26) ?hr ?_; (case hd => rfl); (case hg => rfl); (case hr => first | (go_simp; done) | (go_simp; rfl))
          intro gb415 hg w282 hbox hb
          replace HO_360001 := rB HO_360001 hb
          replace HO_366001 := rB HO_366001 hb
          replace HO_372001 := rB HO_372001 hb
          replace HO_379001 := rB HO_379001 hb
          replace HO_385001 := rB HO_385001 hb
          replace HO_393001 := rB HO_393001 hb
          replace HO_406001 := rB HO_406001 hb
          replace HO411 := rB HO411 hb
          have BK415 := mkA (hbox)
          have GW415 := geB HB hg
          have GE415 := geB HB hg
          have NB359_415 := neL7 BK359 hg
          have NB415_359 := neR7 BK359 hg
          replace BK359 := blkB BK359 hb
          have NB365_415 := neL7 BK365 hg
          have NB415_365 := neR7 BK365 hg
          replace BK365 := blkB BK365 hb
          have NB371_415 := neL7 BK371 hg
          have NB415_371 := neR7 BK371 hg
          replace BK371 := blkB BK371 hb
          have NB378_415 := neL7 BK378 hg
          have NB415_378 := neR7 BK378 hg
          replace BK378 := blkB BK378 hb
          have NB384_415 := neL7 BK384 hg
          have NB415_384 := neR7 BK384 hg
          replace BK384 := blkB BK384 hb
          have NB392_415 := neL7 BK392 hg
          have NB415_392 := neR7 BK392 hg
          replace BK392 := blkB BK392 hb
          have NB405_415 := neL7 BK405 hg
          have NB415_405 := neR7 BK405 hg
          replace BK405 := blkB BK405 hb
          replace HB := bst HB hb
          clear hb hbox hg
          refine hK.out _ _ ⟨(blk_cell BK378.out 0).trans rfl, (blk_cell BK378.out 1).trans rfl⟩ (fun hHeld => ?_)
          clear hK K
          refine normW 23 ?_
          refine oneW 5 (some 167) (bm 9 191) HT_ (fun K hK => ?_)
          refine Kd.R_append_rows_step (Kd.int .i64) (w0 := w) w.heap.size (by rfl) (.tmp 164) (.tmp 166) 24 3 (.int .i64 0) 8 rfl Tryd.underlying24 info3 rfl (by decide) (by omega) v410 y409 x379001_7 _ _ _ (O7 u360001 u366001 u372001 (.slice (some ad407) x379001_7.length co278) u385001 u393001 u406001) (fun _ => False) rfl rfl ?aO ?aR (fun _ _ h => h) (fun _ h => h.elim) ?aF ?aB ?aS ?aL ?_
          (case aR => repeat (first | exact (Kd.R_reads' HO_379001.out).2.2 | (with_reducible refine Kd.C_alloc ?_ _) | (with_reducible refine Kd.C_drewN ?_ _) | (with_reducible refine Kd.C_drew ?_)))
          (case aB => exact (bel_g HB.out))
          (case aF => exact (fun k_ hk => ⟨Kd.fresh' (Kd.R_lt (Kd.R_g HO_360001.out)) k_ hk, Kd.fresh' (Kd.R_lt (Kd.R_g HO_366001.out)) k_ hk, Kd.fresh' (Kd.R_lt (Kd.R_g HO_372001.out)) k_ hk, Kd.fresh' (Kd.R_lt (Kd.R_g HO_379001.out)) k_ hk, Kd.fresh' (Kd.R_lt (Kd.R_g HO_385001.out)) k_ hk, Kd.fresh' (Kd.R_lt (Kd.R_g HO_393001.out)) k_ hk, Kd.fresh' (Kd.R_lt (Kd.R_g HO_406001.out)) k_ hk⟩))
          (case aO => exact (Kd.R_g (rM2 HO411.out)))
          (case aS => exact (below_size (bel_g HB.out)))
          (case aL => have := LMc261.out; omega)
          intro v413 w283 ho hb hg hat
          rw [← Ny412.out] at ho
          replace HO_360001 := mkA (Kd.R_after (ok := (O6 u366001 u372001 (.slice (some ad407) x379001_7.length co278) u385001 u393001 u406001)) (Kd.R_g HO_360001.out) hg hat)
          replace HO_366001 := mkA (Kd.R_after (ok := (O6 u360001 u372001 (.slice (some ad407) x379001_7.length co278) u385001 u393001 u406001)) (Kd.R_g HO_366001.out) hg hat)
          replace HO_372001 := mkA (Kd.R_after (ok := (O6 u360001 u366001 (.slice (some ad407) x379001_7.length co278) u385001 u393001 u406001)) (Kd.R_g HO_372001.out) hg hat)
          replace HO_379001 := mkA (Kd.R_after (ok := (O6 u360001 u366001 u372001 u385001 u393001 u406001)) (Kd.R_g HO_379001.out) hg hat)
          replace HO_385001 := mkA (Kd.R_after (ok := (O6 u360001 u366001 u372001 (.slice (some ad407) x379001_7.length co278) u393001 u406001)) (Kd.R_g HO_385001.out) hg hat)
          replace HO_393001 := mkA (Kd.R_after (ok := (O6 u360001 u366001 u372001 (.slice (some ad407) x379001_7.length co278) u385001 u406001)) (Kd.R_g HO_393001.out) hg hat)
          replace HO_406001 := mkA (Kd.R_after (ok := (O6 u360001 u366001 u372001 (.slice (some ad407) x379001_7.length co278) u385001 u393001)) (Kd.R_g HO_406001.out) hg hat)
          replace BK359 := mkA (blk_grown (g := gb359) (o := .cells #[.int .i64 t355, u360001] 26 (0, 0)) (blk_g BK359.out) hg (Kd.R_ne HO411.out BK359.out (by decide)))
          replace BK365 := mkA (blk_grown (g := gb365) (o := .cells #[.int .i64 t360, u366001] 26 (0, 0)) (blk_g BK365.out) hg (Kd.R_ne HO411.out BK365.out (by decide)))
          replace BK371 := mkA (blk_grown (g := gb371) (o := .cells #[.int .i64 t366, u372001] 26 (0, 0)) (blk_g BK371.out) hg (Kd.R_ne HO411.out BK371.out (by decide)))
          replace BK378 := mkA (blk_grown (g := gb378) (o := .cells #[.int .i64 t373, .slice (some ad407) x379001_7.length co278] 26 (0, 0)) (blk_g BK378.out) hg (Kd.R_ne HO411.out BK378.out (by decide)))
          replace BK384 := mkA (blk_grown (g := gb384) (o := .cells #[.int .i64 t379, u385001] 26 (0, 0)) (blk_g BK384.out) hg (Kd.R_ne HO411.out BK384.out (by decide)))
          replace BK392 := mkA (blk_grown (g := gb392) (o := .cells #[.int .i64 t387, u393001] 26 (0, 0)) (blk_g BK392.out) hg (Kd.R_ne HO411.out BK392.out (by decide)))
          replace BK405 := mkA (blk_grown (g := gb405) (o := .cells #[.int .i64 t400, u406001] 26 (0, 0)) (blk_g BK405.out) hg (Kd.R_ne HO411.out BK405.out (by decide)))
          replace BK415 := mkA (blk_grown (g := gb415) (o := .cells #[.int .i64 0, .slice none 0 0] 26 (0, 0)) (blk_g BK415.out) hg (Kd.R_ne HO411.out BK415.out (by decide)))
          have HO414 := mkA (ho)
          replace HB := mkA (hb)
          clear HO411
          clear ho hb hg hat
          obtain ⟨Ao284, co284, eo284⟩ := Kd.R_slice HO414.out
          (first | subst eo284 | (injection eo284 with f1_ f2_ f3_; have f4_ := f1_.symm; have f5_ := f3_.symm; clear f1_ f2_ f3_; subst f4_; subst f5_))
          refine hK.out _ _ ⟨(blk_cell BK378.out 0).trans rfl, (blk_cell BK378.out 1).trans rfl⟩ (fun hHeld => ?_)
          clear hK K
          refine normW 167 ?_
          refine purW 6 168 9 255 HT_ ?_
          exact norm_ (by simp only [putAll, Act.put, List.setIfInBounds_toArray, List.set_cons_zero, List.set_cons_succ]) (hCont (v410, .slice Ao284 y412.length co284, gb415) _ ⟨hHeld, (Kd.R_g HO414.out), (Kd.R_g (rM2 HO_360001.out)), (Kd.R_g (rM2 HO_366001.out)), (Kd.R_g (rM2 HO_372001.out)), (Kd.R_g (rM2 HO_379001.out)), (Kd.R_g (rM2 HO_385001.out)), (Kd.R_g (rM2 HO_393001.out)), (Kd.R_g (rM2 HO_406001.out)), (blk_g BK359.out), (blk_g BK365.out), (blk_g BK371.out), (blk_g BK378.out), (blk_g BK384.out), (blk_g BK392.out), (blk_g BK405.out), (blk_g BK415.out), GW415.out, GE415.out, NB359_415.out, NB415_359.out, NB365_415.out, NB415_365.out, NB371_415.out, NB415_371.out, NB378_415.out, NB415_378.out, NB384_415.out, NB415_384.out, NB392_415.out, NB415_392.out, NB405_415.out, NB415_405.out, (bel_g HB.out)⟩)
        ·skip
         refine box_step ?hg (N := 23) ?hd (cs := #[.int .i64 0, .slice none 0 0]) (t := 26) ?hr ?_; (case hd => rfl); (case hg => rfl); (case hr => first | (go_simp; done) | (go_simp; rfl))
         intro gb415 hg w280 hbox hb
         replace HO_360001 := rB HO_360001 hb
         replace HO_366001 := rB HO_366001 hb
         replace HO_372001 := rB HO_372001 hb
         replace HO_379001 := rB HO_379001 hb
         replace HO_385001 := rB HO_385001 hb
         replace HO_393001 := rB HO_393001 hb
         replace HO_406001 := rB HO_406001 hb
         have BK415 := mkA (hbox)
         have GW415 := geB HB hg
         have GE415 := geB HB hg
         have NB359_415 := neL7 BK359 hg
         have NB415_359 := neR7 BK359 hg
         replace BK359 := blkB BK359 hb
         have NB365_415 := neL7 BK365 hg
         have NB415_365 := neR7 BK365 hg
         replace BK365 := blkB BK365 hb
         have NB371_415 := neL7 BK371 hg
         have NB415_371 := neR7 BK371 hg
         replace BK371 := blkB BK371 hb
         have NB378_415 := neL7 BK378 hg
         have NB415_378 := neR7 BK378 hg
         replace BK378 := blkB BK378 hb
         have NB384_415 := neL7 BK384 hg
         have NB415_384 := neR7 BK384 hg
         replace BK384 := blkB BK384 hb
         have NB392_415 := neL7 BK392 hg
         have NB415_392 := neR7 BK392 hg
         replace BK392 := blkB BK392 hb
         have NB405_415 := neL7 BK405 hg
         have NB415_405 := neR7 BK405 hg
         replace BK405 := blkB BK405 hb
         replace HB := bst HB hb
         clear hb hbox hg
         refine hK.out _ _ ⟨(blk_cell BK378.out 0).trans rfl, (blk_cell BK378.out 1).trans rfl⟩ (fun hHeld => ?_)
         clear hK K
         refine normW 23 ?_
         refine oneW 2 (some 164) (bm 9 159) HT_ (fun K hK => ?_)
         refine Kd.R_lit_step (Kd.int .i64) _ 3 ?hg (N := 164) ?hd (xs := ([] : List Int)) (inner := []) (ok := fun _ => True) (okp := fun _ => True) ?hr ?hp (fun _ hk => hk) trivial (Below.refl _ _) (Nat.le_refl _) (by simp) ?_; (case hd => rfl); (case hg => rfl); (case hr => first | (go_simp; done) | (go_simp; rfl)); (case hp => exact (Reps.none _ _))
         intro v410 w281 ho282 hb hg_ hnew_
         clear hg_ hnew_
         (first | rw [← Ny409.out] at ho282 | (simp only [Int.reduceToNat] at ho282; rw [← Ny409.out] at ho282))
         have HO411 := rLo (rN (rN (rN (rN (rN (rN (rN ho282 HO_360001) HO_366001) HO_372001) HO_379001) HO_385001) HO_393001) HO_406001) HB
         replace HO_360001 := rE HO_360001 ho282 hb
         replace HO_366001 := rE HO_366001 ho282 hb
         replace HO_372001 := rE HO_372001 ho282 hb
         replace HO_379001 := rE HO_379001 ho282 hb
         replace HO_385001 := rE HO_385001 ho282 hb
         replace HO_393001 := rE HO_393001 ho282 hb
         replace HO_406001 := rE HO_406001 ho282 hb
         replace BK359 := blkB BK359 hb
         replace BK365 := blkB BK365 hb
         replace BK371 := blkB BK371 hb
         replace BK378 := blkB BK378 hb
         replace BK384 := blkB BK384 hb
         replace BK392 := blkB BK392 hb
         replace BK405 := blkB BK405 hb
         replace BK415 := blkB BK415 hb
         replace HB := bst HB hb
         clear hb ho282
         refine hK.out _ _ ⟨(blk_cell BK378.out 0).trans rfl, (blk_cell BK378.out 1).trans rfl⟩ (fun hHeld => ?_)
         clear hK K
         refine normW 164 ?_
         refine oneW 5 (some 167) (bm 9 191) HT_ (fun K hK => ?_)
         refine Kd.R_append_rows_step (Kd.int .i64) (w0 := w) w.heap.size (by rfl) (.tmp 164) (.tmp 166) 24 3 (.int .i64 0) 8 rfl Tryd.underlying24 info3 rfl (by decide) (by omega) v410 y409 x379001_7 _ _ _ (O7 u360001 u366001 u372001 (.slice (some ad407) x379001_7.length co278) u385001 u393001 u406001) (fun _ => False) rfl rfl ?aO ?aR (fun _ _ h => h) (fun _ h => h.elim) ?aF ?aB ?aS ?aL ?_
         (case aR => repeat (first | exact (Kd.R_reads' HO_379001.out).2.2 | (with_reducible refine Kd.C_alloc ?_ _) | (with_reducible refine Kd.C_drewN ?_ _) | (with_reducible refine Kd.C_drew ?_)))
         (case aB => exact (bel_g HB.out))
         (case aF => exact (fun k_ hk => ⟨Kd.fresh' (Kd.R_lt (Kd.R_g HO_360001.out)) k_ hk, Kd.fresh' (Kd.R_lt (Kd.R_g HO_366001.out)) k_ hk, Kd.fresh' (Kd.R_lt (Kd.R_g HO_372001.out)) k_ hk, Kd.fresh' (Kd.R_lt (Kd.R_g HO_379001.out)) k_ hk, Kd.fresh' (Kd.R_lt (Kd.R_g HO_385001.out)) k_ hk, Kd.fresh' (Kd.R_lt (Kd.R_g HO_393001.out)) k_ hk, Kd.fresh' (Kd.R_lt (Kd.R_g HO_406001.out)) k_ hk⟩))
         (case aO => exact (Kd.R_g (rM2 HO411.out)))
         (case aS => exact (below_size (bel_g HB.out)))
         (case aL => have := LMc261.out; omega)
         intro v413 w283 ho hb hg hat
         rw [← Ny412.out] at ho
         replace HO_360001 := mkA (Kd.R_after (ok := (O6 u366001 u372001 (.slice (some ad407) x379001_7.length co278) u385001 u393001 u406001)) (Kd.R_g HO_360001.out) hg hat)
         replace HO_366001 := mkA (Kd.R_after (ok := (O6 u360001 u372001 (.slice (some ad407) x379001_7.length co278) u385001 u393001 u406001)) (Kd.R_g HO_366001.out) hg hat)
         replace HO_372001 := mkA (Kd.R_after (ok := (O6 u360001 u366001 (.slice (some ad407) x379001_7.length co278) u385001 u393001 u406001)) (Kd.R_g HO_372001.out) hg hat)
         replace HO_379001 := mkA (Kd.R_after (ok := (O6 u360001 u366001 u372001 u385001 u393001 u406001)) (Kd.R_g HO_379001.out) hg hat)
         replace HO_385001 := mkA (Kd.R_after (ok := (O6 u360001 u366001 u372001 (.slice (some ad407) x379001_7.length co278) u393001 u406001)) (Kd.R_g HO_385001.out) hg hat)
         replace HO_393001 := mkA (Kd.R_after (ok := (O6 u360001 u366001 u372001 (.slice (some ad407) x379001_7.length co278) u385001 u406001)) (Kd.R_g HO_393001.out) hg hat)
         replace HO_406001 := mkA (Kd.R_after (ok := (O6 u360001 u366001 u372001 (.slice (some ad407) x379001_7.length co278) u385001 u393001)) (Kd.R_g HO_406001.out) hg hat)
         replace BK359 := mkA (blk_grown (g := gb359) (o := .cells #[.int .i64 t355, u360001] 26 (0, 0)) (blk_g BK359.out) hg (Kd.R_ne HO411.out BK359.out (by decide)))
         replace BK365 := mkA (blk_grown (g := gb365) (o := .cells #[.int .i64 t360, u366001] 26 (0, 0)) (blk_g BK365.out) hg (Kd.R_ne HO411.out BK365.out (by decide)))
         replace BK371 := mkA (blk_grown (g := gb371) (o := .cells #[.int .i64 t366, u372001] 26 (0, 0)) (blk_g BK371.out) hg (Kd.R_ne HO411.out BK371.out (by decide)))
         replace BK378 := mkA (blk_grown (g := gb378) (o := .cells #[.int .i64 t373, .slice (some ad407) x379001_7.length co278] 26 (0, 0)) (blk_g BK378.out) hg (Kd.R_ne HO411.out BK378.out (by decide)))
         replace BK384 := mkA (blk_grown (g := gb384) (o := .cells #[.int .i64 t379, u385001] 26 (0, 0)) (blk_g BK384.out) hg (Kd.R_ne HO411.out BK384.out (by decide)))
         replace BK392 := mkA (blk_grown (g := gb392) (o := .cells #[.int .i64 t387, u393001] 26 (0, 0)) (blk_g BK392.out) hg (Kd.R_ne HO411.out BK392.out (by decide)))
         replace BK405 := mkA (blk_grown (g := gb405) (o := .cells #[.int .i64 t400, u406001] 26 (0, 0)) (blk_g BK405.out) hg (Kd.R_ne HO411.out BK405.out (by decide)))
         replace BK415 := mkA (blk_grown (g := gb415) (o := .cells #[.int .i64 0, .slice none 0 0] 26 (0, 0)) (blk_g BK415.out) hg (Kd.R_ne HO411.out BK415.out (by decide)))
         have HO414 := mkA (ho)
         replace HB := mkA (hb)
         clear HO411
         clear ho hb hg hat
         obtain ⟨Ao284, co284, eo284⟩ := Kd.R_slice HO414.out
         (first | subst eo284 | (injection eo284 with f1_ f2_ f3_; have f4_ := f1_.symm; have f5_ := f3_.symm; clear f1_ f2_ f3_; subst f4_; subst f5_))
         refine hK.out _ _ ⟨(blk_cell BK378.out 0).trans rfl, (blk_cell BK378.out 1).trans rfl⟩ (fun hHeld => ?_)
         clear hK K
         refine normW 167 ?_
         refine purW 6 168 9 255 HT_ ?_
         exact norm_ (by simp only [putAll, Act.put, List.setIfInBounds_toArray, List.set_cons_zero, List.set_cons_succ]) (hCont (v410, .slice Ao284 y412.length co284, gb415) _ ⟨hHeld, (Kd.R_g HO414.out), (Kd.R_g (rM2 HO_360001.out)), (Kd.R_g (rM2 HO_366001.out)), (Kd.R_g (rM2 HO_372001.out)), (Kd.R_g (rM2 HO_379001.out)), (Kd.R_g (rM2 HO_385001.out)), (Kd.R_g (rM2 HO_393001.out)), (Kd.R_g (rM2 HO_406001.out)), (blk_g BK359.out), (blk_g BK365.out), (blk_g BK371.out), (blk_g BK378.out), (blk_g BK384.out), (blk_g BK392.out), (blk_g BK405.out), (blk_g BK415.out), GW415.out, GE415.out, NB359_415.out, NB415_359.out, NB365_415.out, NB415_365.out, NB371_415.out, NB415_371.out, NB378_415.out, NB415_378.out, NB384_415.out, NB415_384.out, NB392_415.out, NB415_392.out, NB405_415.out, NB415_405.out, (bel_g HB.out)⟩)
       rintro ⟨v410, v413, gb415⟩ w285 ⟨hS_, h0_, h1_, h2_, h3_, h4_, h5_, h6_, h7_, h8_, h9_, h10_, h11_, h12_, h13_, h14_, h15_, h16_, h17_, h18_, h19_, h20_, h21_, h22_, h23_, h24_, h25_, h26_, h27_, h28_, h29_, h30_, h31_, h32_⟩
       have n0_ : Fc (Kd.R (Kd.int .i64) 3 w285 w.heap.size (O7 u360001 u366001 u372001 (.slice (some ad407) x379001_7.length co278) u385001 u393001 u406001) v413 y412) := ⟨h0_⟩
       have n1_ : Fc (Kd.R (Kd.int .i64) 3 w285 w.heap.size (O7 v413 u366001 u372001 (.slice (some ad407) x379001_7.length co278) u385001 u393001 u406001) u360001 x360001_7) := ⟨h1_⟩
       have n2_ : Fc (Kd.R (Kd.int .i64) 3 w285 w.heap.size (O7 v413 u360001 u372001 (.slice (some ad407) x379001_7.length co278) u385001 u393001 u406001) u366001 x366001_7) := ⟨h2_⟩
       have n3_ : Fc (Kd.R (Kd.int .i64) 3 w285 w.heap.size (O7 v413 u360001 u366001 (.slice (some ad407) x379001_7.length co278) u385001 u393001 u406001) u372001 x372001_7) := ⟨h3_⟩
       have n4_ : Fc (Kd.R (Kd.int .i64) 3 w285 w.heap.size (O7 v413 u360001 u366001 u372001 u385001 u393001 u406001) (.slice (some ad407) x379001_7.length co278) x379001_7) := ⟨h4_⟩
       have n5_ : Fc (Kd.R (Kd.int .i64) 3 w285 w.heap.size (O7 v413 u360001 u366001 u372001 (.slice (some ad407) x379001_7.length co278) u393001 u406001) u385001 x385001_7) := ⟨h5_⟩
       have n6_ : Fc (Kd.R (Kd.int .i64) 3 w285 w.heap.size (O7 v413 u360001 u366001 u372001 (.slice (some ad407) x379001_7.length co278) u385001 u406001) u393001 x393001_7) := ⟨h6_⟩
       have n7_ : Fc (Kd.R (Kd.int .i64) 3 w285 w.heap.size (O7 v413 u360001 u366001 u372001 (.slice (some ad407) x379001_7.length co278) u385001 u393001) u406001 x406001_7) := ⟨h7_⟩
       have n8_ : Fc (w285.heap[gb359]? = some (.cells #[.int .i64 t355, u360001] 26 (0, 0))) := ⟨h8_⟩
       have n9_ : Fc (w285.heap[gb365]? = some (.cells #[.int .i64 t360, u366001] 26 (0, 0))) := ⟨h9_⟩
       have n10_ : Fc (w285.heap[gb371]? = some (.cells #[.int .i64 t366, u372001] 26 (0, 0))) := ⟨h10_⟩
       have n11_ : Fc (w285.heap[gb378]? = some (.cells #[.int .i64 t373, .slice (some ad407) x379001_7.length co278] 26 (0, 0))) := ⟨h11_⟩
       have n12_ : Fc (w285.heap[gb384]? = some (.cells #[.int .i64 t379, u385001] 26 (0, 0))) := ⟨h12_⟩
       have n13_ : Fc (w285.heap[gb392]? = some (.cells #[.int .i64 t387, u393001] 26 (0, 0))) := ⟨h13_⟩
       have n14_ : Fc (w285.heap[gb405]? = some (.cells #[.int .i64 t400, u406001] 26 (0, 0))) := ⟨h14_⟩
       have n15_ : Fc (w285.heap[gb415]? = some (.cells #[.int .i64 0, .slice none 0 0] 26 (0, 0))) := ⟨h15_⟩
       have n16_ : Ge w.heap.size gb415 := ⟨h16_⟩
       have n17_ : Ge w.heap.size gb415 := ⟨h17_⟩
       have n18_ : NeB gb359 gb415 := ⟨h18_⟩
       have n19_ : NeB gb415 gb359 := ⟨h19_⟩
       have n20_ : NeB gb365 gb415 := ⟨h20_⟩
       have n21_ : NeB gb415 gb365 := ⟨h21_⟩
       have n22_ : NeB gb371 gb415 := ⟨h22_⟩
       have n23_ : NeB gb415 gb371 := ⟨h23_⟩
       have n24_ : NeB gb378 gb415 := ⟨h24_⟩
       have n25_ : NeB gb415 gb378 := ⟨h25_⟩
       have n26_ : NeB gb384 gb415 := ⟨h26_⟩
       have n27_ : NeB gb415 gb384 := ⟨h27_⟩
       have n28_ : NeB gb392 gb415 := ⟨h28_⟩
       have n29_ : NeB gb415 gb392 := ⟨h29_⟩
       have n30_ : NeB gb405 gb415 := ⟨h30_⟩
       have n31_ : NeB gb415 gb405 := ⟨h31_⟩
       have n32_ : Fc (Below w.heap.size w w285) := ⟨h32_⟩
       clear HO_360001
       clear HO_366001
       clear HO_372001
       clear HO_379001
       clear HO_385001
       clear HO_393001
       clear HO_406001
       clear BK359
       clear BK365
       clear BK371
       clear BK378
       clear BK384
       clear BK392
       clear BK405
       clear HB
       clear h0_ h1_ h2_ h3_ h4_ h5_ h6_ h7_ h8_ h9_ h10_ h11_ h12_ h13_ h14_ h15_ h16_ h17_ h18_ h19_ h20_ h21_ h22_ h23_ h24_ h25_ h26_ h27_ h28_ h29_ h30_ h31_ h32_
       have HO414 := n0_
       have HO_360001 := n1_
       have HO_366001 := n2_
       have HO_372001 := n3_
       have HO_379001 := n4_
       have HO_385001 := n5_
       have HO_393001 := n6_
       have HO_406001 := n7_
       have BK359 := n8_
       have BK365 := n9_
       have BK371 := n10_
       have BK378 := n11_
       have BK384 := n12_
       have BK392 := n13_
       have BK405 := n14_
       have BK415 := n15_
       have GW415 := n16_
       have GE415 := n17_
       have NB359_415 := n18_
       have NB415_359 := n19_
       have NB365_415 := n20_
       have NB415_365 := n21_
       have NB371_415 := n22_
       have NB415_371 := n23_
       have NB378_415 := n24_
       have NB415_378 := n25_
       have NB384_415 := n26_
       have NB415_384 := n27_
       have NB392_415 := n28_
       have NB415_392 := n29_
       have NB405_415 := n30_
       have NB415_405 := n31_
       have HB := n32_
       clear n0_ n1_ n2_ n3_ n4_ n5_ n6_ n7_ n8_ n9_ n10_ n11_ n12_ n13_ n14_ n15_ n16_ n17_ n18_ n19_ n20_ n21_ n22_ n23_ n24_ n25_ n26_ n27_ n28_ n29_ n30_ n31_ n32_
       have hHeld : w285.cell? ⟨gb378, 0, none⟩ = some (.int .i64 t373) ∧ w285.cell? ⟨gb378, 1, none⟩ = some (.slice (some ad407) x379001_7.length co278) := hS_
       obtain ⟨Ao286, co286, eo286⟩ := Kd.R_slice HO414.out
       (first | subst eo286 | (injection eo286 with f1_ f2_ f3_; have f4_ := f1_.symm; have f5_ := f3_.symm; clear f1_ f2_ f3_; subst f4_; subst f5_))
       refine norm_ (a' := ?_) ?_ ?_
       rotate_left
       ·simp only [putAll, Act.put, List.setIfInBounds_toArray, List.set_cons_zero, List.set_cons_succ]
        rfl
       refine oneW 8 (none) (bm 9 511) HT_ (fun K hK => ?_)
       obtain ⟨_, _, _, _⟩ := blk2 BK415
       refine skip_ (w1 := ?_) (by rfl) rfl ?_ ?_
       rotate_left
       ·go_simp
        rfl
       refine hK.out _ _ ⟨(cF (cF hHeld.1)), (cF (cF hHeld.2))⟩ (fun hHeld => ?_)
       clear hK K
       refine doneW HT_ ?_
       try go_wp2
       have n0_ : Fc (Kd.R (Kd.int .i64) 3 ((w285.setCell ⟨gb415, 0, none⟩ (.int .i64 t373)).setCell ⟨gb415, 1, none⟩ (.slice Ao286 y412.length co286)) w.heap.size (O7 u366001 u372001 (.slice (some ad407) x379001_7.length co278) u385001 u393001 u406001 (.slice Ao286 y412.length co286)) u360001 x360001_7) := ⟨Kd.R_g (rM2 (Kd.R_far (p := ⟨gb415, 1, none⟩) (Kd.R_far (p := ⟨gb415, 0, none⟩) (Kd.R_types HO_360001.out BK415.out (by decide)) (fun _ hk => hk.2) (.int .i64 t373)) (fun _ hk => hk.2) (.slice Ao286 y412.length co286)))⟩
       have n1_ : Fc (Kd.R (Kd.int .i64) 3 ((w285.setCell ⟨gb415, 0, none⟩ (.int .i64 t373)).setCell ⟨gb415, 1, none⟩ (.slice Ao286 y412.length co286)) w.heap.size (O7 u360001 u372001 (.slice (some ad407) x379001_7.length co278) u385001 u393001 u406001 (.slice Ao286 y412.length co286)) u366001 x366001_7) := ⟨Kd.R_g (rM2 (Kd.R_far (p := ⟨gb415, 1, none⟩) (Kd.R_far (p := ⟨gb415, 0, none⟩) (Kd.R_types HO_366001.out BK415.out (by decide)) (fun _ hk => hk.2) (.int .i64 t373)) (fun _ hk => hk.2) (.slice Ao286 y412.length co286)))⟩
       have n2_ : Fc (Kd.R (Kd.int .i64) 3 ((w285.setCell ⟨gb415, 0, none⟩ (.int .i64 t373)).setCell ⟨gb415, 1, none⟩ (.slice Ao286 y412.length co286)) w.heap.size (O7 u360001 u366001 (.slice (some ad407) x379001_7.length co278) u385001 u393001 u406001 (.slice Ao286 y412.length co286)) u372001 x372001_7) := ⟨Kd.R_g (rM2 (Kd.R_far (p := ⟨gb415, 1, none⟩) (Kd.R_far (p := ⟨gb415, 0, none⟩) (Kd.R_types HO_372001.out BK415.out (by decide)) (fun _ hk => hk.2) (.int .i64 t373)) (fun _ hk => hk.2) (.slice Ao286 y412.length co286)))⟩
       have n3_ : Fc (Kd.R (Kd.int .i64) 3 ((w285.setCell ⟨gb415, 0, none⟩ (.int .i64 t373)).setCell ⟨gb415, 1, none⟩ (.slice Ao286 y412.length co286)) w.heap.size (O7 u360001 u366001 u372001 u385001 u393001 u406001 (.slice Ao286 y412.length co286)) (.slice (some ad407) x379001_7.length co278) x379001_7) := ⟨Kd.R_g (rM2 (Kd.R_far (p := ⟨gb415, 1, none⟩) (Kd.R_far (p := ⟨gb415, 0, none⟩) (Kd.R_types HO_379001.out BK415.out (by decide)) (fun _ hk => hk.2) (.int .i64 t373)) (fun _ hk => hk.2) (.slice Ao286 y412.length co286)))⟩
       have n4_ : Fc (Kd.R (Kd.int .i64) 3 ((w285.setCell ⟨gb415, 0, none⟩ (.int .i64 t373)).setCell ⟨gb415, 1, none⟩ (.slice Ao286 y412.length co286)) w.heap.size (O7 u360001 u366001 u372001 (.slice (some ad407) x379001_7.length co278) u393001 u406001 (.slice Ao286 y412.length co286)) u385001 x385001_7) := ⟨Kd.R_g (rM2 (Kd.R_far (p := ⟨gb415, 1, none⟩) (Kd.R_far (p := ⟨gb415, 0, none⟩) (Kd.R_types HO_385001.out BK415.out (by decide)) (fun _ hk => hk.2) (.int .i64 t373)) (fun _ hk => hk.2) (.slice Ao286 y412.length co286)))⟩
       have n5_ : Fc (Kd.R (Kd.int .i64) 3 ((w285.setCell ⟨gb415, 0, none⟩ (.int .i64 t373)).setCell ⟨gb415, 1, none⟩ (.slice Ao286 y412.length co286)) w.heap.size (O7 u360001 u366001 u372001 (.slice (some ad407) x379001_7.length co278) u385001 u406001 (.slice Ao286 y412.length co286)) u393001 x393001_7) := ⟨Kd.R_g (rM2 (Kd.R_far (p := ⟨gb415, 1, none⟩) (Kd.R_far (p := ⟨gb415, 0, none⟩) (Kd.R_types HO_393001.out BK415.out (by decide)) (fun _ hk => hk.2) (.int .i64 t373)) (fun _ hk => hk.2) (.slice Ao286 y412.length co286)))⟩
       have n6_ : Fc (Kd.R (Kd.int .i64) 3 ((w285.setCell ⟨gb415, 0, none⟩ (.int .i64 t373)).setCell ⟨gb415, 1, none⟩ (.slice Ao286 y412.length co286)) w.heap.size (O7 u360001 u366001 u372001 (.slice (some ad407) x379001_7.length co278) u385001 u393001 (.slice Ao286 y412.length co286)) u406001 x406001_7) := ⟨Kd.R_g (rM2 (Kd.R_far (p := ⟨gb415, 1, none⟩) (Kd.R_far (p := ⟨gb415, 0, none⟩) (Kd.R_types HO_406001.out BK415.out (by decide)) (fun _ hk => hk.2) (.int .i64 t373)) (fun _ hk => hk.2) (.slice Ao286 y412.length co286)))⟩
       have n7_ : Fc (Kd.R (Kd.int .i64) 3 ((w285.setCell ⟨gb415, 0, none⟩ (.int .i64 t373)).setCell ⟨gb415, 1, none⟩ (.slice Ao286 y412.length co286)) w.heap.size (O7 u360001 u366001 u372001 (.slice (some ad407) x379001_7.length co278) u385001 u393001 u406001) (.slice Ao286 y412.length co286) y412) := ⟨Kd.R_g (rM2 (Kd.R_far (p := ⟨gb415, 1, none⟩) (Kd.R_far (p := ⟨gb415, 0, none⟩) (Kd.R_types HO414.out BK415.out (by decide)) (fun _ hk => hk.2) (.int .i64 t373)) (fun _ hk => hk.2) (.slice Ao286 y412.length co286)))⟩
       have n8_ : Fc (((w285.setCell ⟨gb415, 0, none⟩ (.int .i64 t373)).setCell ⟨gb415, 1, none⟩ (.slice Ao286 y412.length co286)).heap[gb359]? = some (.cells #[.int .i64 t355, u360001] 26 (0, 0))) := ⟨blkT BK359⟩
       have n9_ : Fc (((w285.setCell ⟨gb415, 0, none⟩ (.int .i64 t373)).setCell ⟨gb415, 1, none⟩ (.slice Ao286 y412.length co286)).heap[gb365]? = some (.cells #[.int .i64 t360, u366001] 26 (0, 0))) := ⟨blkT BK365⟩
       have n10_ : Fc (((w285.setCell ⟨gb415, 0, none⟩ (.int .i64 t373)).setCell ⟨gb415, 1, none⟩ (.slice Ao286 y412.length co286)).heap[gb371]? = some (.cells #[.int .i64 t366, u372001] 26 (0, 0))) := ⟨blkT BK371⟩
       have n11_ : Fc (((w285.setCell ⟨gb415, 0, none⟩ (.int .i64 t373)).setCell ⟨gb415, 1, none⟩ (.slice Ao286 y412.length co286)).heap[gb378]? = some (.cells #[.int .i64 t373, .slice (some ad407) x379001_7.length co278] 26 (0, 0))) := ⟨blkT BK378⟩
       have n12_ : Fc (((w285.setCell ⟨gb415, 0, none⟩ (.int .i64 t373)).setCell ⟨gb415, 1, none⟩ (.slice Ao286 y412.length co286)).heap[gb384]? = some (.cells #[.int .i64 t379, u385001] 26 (0, 0))) := ⟨blkT BK384⟩
       have n13_ : Fc (((w285.setCell ⟨gb415, 0, none⟩ (.int .i64 t373)).setCell ⟨gb415, 1, none⟩ (.slice Ao286 y412.length co286)).heap[gb392]? = some (.cells #[.int .i64 t387, u393001] 26 (0, 0))) := ⟨blkT BK392⟩
       have n14_ : Fc (((w285.setCell ⟨gb415, 0, none⟩ (.int .i64 t373)).setCell ⟨gb415, 1, none⟩ (.slice Ao286 y412.length co286)).heap[gb405]? = some (.cells #[.int .i64 t400, u406001] 26 (0, 0))) := ⟨blkT BK405⟩
       have n15_ : Fc (((w285.setCell ⟨gb415, 0, none⟩ (.int .i64 t373)).setCell ⟨gb415, 1, none⟩ (.slice Ao286 y412.length co286)).heap[gb415]? = some (.cells #[.int .i64 t373, .slice Ao286 y412.length co286] 26 (0, 0))) := ⟨blkT BK415⟩
       have n16_ : Fc (Below w.heap.size w ((w285.setCell ⟨gb415, 0, none⟩ (.int .i64 t373)).setCell ⟨gb415, 1, none⟩ (.slice Ao286 y412.length co286))) := ⟨bel_g HB.out⟩
       (try clear HO_360001)
       (try clear HO_366001)
       (try clear HO_372001)
       (try clear HO_379001)
       (try clear HO_385001)
       (try clear HO_393001)
       (try clear HO_406001)
       (try clear HO414)
       (try clear BK359)
       (try clear BK365)
       (try clear BK371)
       (try clear BK378)
       (try clear BK384)
       (try clear BK392)
       (try clear BK405)
       (try clear BK415)
       (try clear HB)
       generalize ((w285.setCell ⟨gb415, 0, none⟩ (.int .i64 t373)).setCell ⟨gb415, 1, none⟩ (.slice Ao286 y412.length co286)) = w289 at n0_ n1_ n2_ n3_ n4_ n5_ n6_ n7_ n8_ n9_ n10_ n11_ n12_ n13_ n14_ n15_ n16_ ⊢
       have HO_360001 := n0_
       have HO_366001 := n1_
       have HO_372001 := n2_
       have HO_379001 := n3_
       have HO_385001 := n4_
       have HO_393001 := n5_
       have HO_406001 := n6_
       have HO414 := n7_
       have BK359 := n8_
       have BK365 := n9_
       have BK371 := n10_
       have BK378 := n11_
       have BK384 := n12_
       have BK392 := n13_
       have BK405 := n14_
       have BK415 := n15_
       have HB := n16_
       clear n0_ n1_ n2_ n3_ n4_ n5_ n6_ n7_ n8_ n9_ n10_ n11_ n12_ n13_ n14_ n15_ n16_
       replace HO_360001 := mkA (Kd.R_drew HO_360001.out)
       replace HO_366001 := mkA (Kd.R_drew HO_366001.out)
       replace HO_372001 := mkA (Kd.R_drew HO_372001.out)
       replace HO_379001 := mkA (Kd.R_drew HO_379001.out)
       replace HO_385001 := mkA (Kd.R_drew HO_385001.out)
       replace HO_393001 := mkA (Kd.R_drew HO_393001.out)
       replace HO_406001 := mkA (Kd.R_drew HO_406001.out)
       replace HO414 := mkA (Kd.R_drew HO414.out)
       replace BK359 := mkA (blk_drew BK359.out)
       replace BK365 := mkA (blk_drew BK365.out)
       replace BK371 := mkA (blk_drew BK371.out)
       replace BK378 := mkA (blk_drew BK378.out)
       replace BK384 := mkA (blk_drew BK384.out)
       replace BK392 := mkA (blk_drew BK392.out)
       replace BK405 := mkA (blk_drew BK405.out)
       replace BK415 := mkA (blk_drew BK415.out)
       replace HB := mkA (below_drew1 HB.out)
       obtain ⟨p416, q416, ad416, e416, hx416_0⟩ := atI (Kd.R_reads' HO414.out).2.2 x145_6
       cases e416
       have p265 : 0 ≤ (x145_6 : Int) := ofd
       have q265 : (x145_6 : Int) < ((y412.length : Int) : Int) := ofd
       obtain ⟨go265, co265, eo265, gb265, gl265, cl265, HG265⟩ := Kd.R_form HO414.out (by omega)
       (first | cases eo265 | (injection eo265 with ea_ en_ ec_; (first | subst ea_ | (injection ea_ with ea_; subst ea_)); subst ec_; clear en_))
       have GB265 : Ge _ _ := ⟨gb265⟩
       have GG265 := mkA HG265
       clear gb265 gl265 HG265
       (first | simp only [add_plain] at hx416_0 | skip)
       obtain ⟨hx265_0, hf265_0⟩ := Kd.R_celln 0 HO414.out (x145_6 : Int) p265 q265
       replace p265 := eq_true p265
       replace q265 := eq_true q265
       have HP291 := Kd.R_putn HO414.out (x145_6 : Int) (wrap64 ((rd y412 x145_6) - (ji264)))
       rw [← Ny417.out] at HP291
       have HQ291 := mkA HP291
       clear HP291
       refine start_ (n := 10) (S := fun w' => w'.cell? ⟨gb415, 0, none⟩ = some (.int .i64 t373) ∧ w'.cell? ⟨gb415, 1, none⟩ = some (.slice (some ⟨go265, 0, none⟩) y412.length co286) ∧ w'.cell? ⟨go265, (x145_6).toNat, none⟩ = some (.int .i64 (rd y412 x145_6))) (ds := [9]) (bm 10 0) (by kernel_rfl) rfl rfl ⟨(blk_cell BK415.out 0).trans rfl, (blk_cell BK415.out 1).trans rfl, hx416_0⟩ (fun hHeld => ?_); refine with_tabW laws_FnClosures.tab40 laws_FnClosures.bits40 (fun HT_ HW_ => ?_)
       generalize w289.drew = w290 at HO_360001 HO_366001 HO_372001 HO_379001 HO_385001 HO_393001 HO_406001 HO414 BK359 BK365 BK371 BK378 BK384 BK392 BK405 BK415 HB GG265 HQ291 hf265_0 hx265_0 hx416_0 hHeld ⊢
       refine purW 0 169 10 1 HT_ ?_
       refine purW 2 171 10 5 HT_ ?_
       refine purW 5 174 10 37 HT_ ?_
       refine purW 6 175 10 101 HT_ ?_
       refine takeW 1 (some 170) (bm 10 103) HT_ HW_ hHeld ?_
       refine purW 3 172 10 111 HT_ ?_
       refine takeW 4 (some 173) (bm 10 127) HT_ HW_ hHeld ?_
       refine purW 7 176 10 255 HT_ ?_
       refine purW 8 177 10 511 HT_ ?_
       refine last_ (i := 9) (N := none) (bm 10 1023) rfl rfl (one_of HT_.out (by kernel_rfl)) (by decide) (fun K hK => ?_)
       refine skip_ (w1 := ?_) (by rfl) rfl ?_ ?_
       rotate_left
       ·go_simp
        rfl
       refine hK.out _ _ ?_
       clear hK K
       refine doneW HT_ ?_
       have n0_ : Fc (Kd.R (Kd.int .i64) 3 (w290.setCell ⟨go265, (x145_6 : Int).toNat, none⟩ (.int .i64 (wrap64 ((rd y412 x145_6) - (ji264))))) w.heap.size (O7 u366001 u372001 (.slice (some ad407) x379001_7.length co278) u385001 u393001 u406001 (.slice (some ⟨go265, 0, none⟩) y412.length co286)) u360001 x360001_7) := ⟨Kd.R_g (rM2 (Kd.R_far (p := ⟨go265, (x145_6 : Int).toNat, none⟩) (Kd.R_mono HO_360001.out (fun k_ hk => (⟨hk, fun e_ => hk.2.2.2.2.2.2 (by rw [e_]; rfl)⟩ : _ ∧ k_ ≠ go265))) (fun _ hk => hk.2) (.int .i64 (wrap64 ((rd y412 x145_6) - (ji264))))))⟩
       have n1_ : Fc (Kd.R (Kd.int .i64) 3 (w290.setCell ⟨go265, (x145_6 : Int).toNat, none⟩ (.int .i64 (wrap64 ((rd y412 x145_6) - (ji264))))) w.heap.size (O7 u360001 u372001 (.slice (some ad407) x379001_7.length co278) u385001 u393001 u406001 (.slice (some ⟨go265, 0, none⟩) y412.length co286)) u366001 x366001_7) := ⟨Kd.R_g (rM2 (Kd.R_far (p := ⟨go265, (x145_6 : Int).toNat, none⟩) (Kd.R_mono HO_366001.out (fun k_ hk => (⟨hk, fun e_ => hk.2.2.2.2.2.2 (by rw [e_]; rfl)⟩ : _ ∧ k_ ≠ go265))) (fun _ hk => hk.2) (.int .i64 (wrap64 ((rd y412 x145_6) - (ji264))))))⟩
       have n2_ : Fc (Kd.R (Kd.int .i64) 3 (w290.setCell ⟨go265, (x145_6 : Int).toNat, none⟩ (.int .i64 (wrap64 ((rd y412 x145_6) - (ji264))))) w.heap.size (O7 u360001 u366001 (.slice (some ad407) x379001_7.length co278) u385001 u393001 u406001 (.slice (some ⟨go265, 0, none⟩) y412.length co286)) u372001 x372001_7) := ⟨Kd.R_g (rM2 (Kd.R_far (p := ⟨go265, (x145_6 : Int).toNat, none⟩) (Kd.R_mono HO_372001.out (fun k_ hk => (⟨hk, fun e_ => hk.2.2.2.2.2.2 (by rw [e_]; rfl)⟩ : _ ∧ k_ ≠ go265))) (fun _ hk => hk.2) (.int .i64 (wrap64 ((rd y412 x145_6) - (ji264))))))⟩
       have n3_ : Fc (Kd.R (Kd.int .i64) 3 (w290.setCell ⟨go265, (x145_6 : Int).toNat, none⟩ (.int .i64 (wrap64 ((rd y412 x145_6) - (ji264))))) w.heap.size (O7 u360001 u366001 u372001 u385001 u393001 u406001 (.slice (some ⟨go265, 0, none⟩) y412.length co286)) (.slice (some ad407) x379001_7.length co278) x379001_7) := ⟨Kd.R_g (rM2 (Kd.R_far (p := ⟨go265, (x145_6 : Int).toNat, none⟩) (Kd.R_mono HO_379001.out (fun k_ hk => (⟨hk, fun e_ => hk.2.2.2.2.2.2 (by rw [e_]; rfl)⟩ : _ ∧ k_ ≠ go265))) (fun _ hk => hk.2) (.int .i64 (wrap64 ((rd y412 x145_6) - (ji264))))))⟩
       have n4_ : Fc (Kd.R (Kd.int .i64) 3 (w290.setCell ⟨go265, (x145_6 : Int).toNat, none⟩ (.int .i64 (wrap64 ((rd y412 x145_6) - (ji264))))) w.heap.size (O7 u360001 u366001 u372001 (.slice (some ad407) x379001_7.length co278) u393001 u406001 (.slice (some ⟨go265, 0, none⟩) y412.length co286)) u385001 x385001_7) := ⟨Kd.R_g (rM2 (Kd.R_far (p := ⟨go265, (x145_6 : Int).toNat, none⟩) (Kd.R_mono HO_385001.out (fun k_ hk => (⟨hk, fun e_ => hk.2.2.2.2.2.2 (by rw [e_]; rfl)⟩ : _ ∧ k_ ≠ go265))) (fun _ hk => hk.2) (.int .i64 (wrap64 ((rd y412 x145_6) - (ji264))))))⟩
       have n5_ : Fc (Kd.R (Kd.int .i64) 3 (w290.setCell ⟨go265, (x145_6 : Int).toNat, none⟩ (.int .i64 (wrap64 ((rd y412 x145_6) - (ji264))))) w.heap.size (O7 u360001 u366001 u372001 (.slice (some ad407) x379001_7.length co278) u385001 u406001 (.slice (some ⟨go265, 0, none⟩) y412.length co286)) u393001 x393001_7) := ⟨Kd.R_g (rM2 (Kd.R_far (p := ⟨go265, (x145_6 : Int).toNat, none⟩) (Kd.R_mono HO_393001.out (fun k_ hk => (⟨hk, fun e_ => hk.2.2.2.2.2.2 (by rw [e_]; rfl)⟩ : _ ∧ k_ ≠ go265))) (fun _ hk => hk.2) (.int .i64 (wrap64 ((rd y412 x145_6) - (ji264))))))⟩
       have n6_ : Fc (Kd.R (Kd.int .i64) 3 (w290.setCell ⟨go265, (x145_6 : Int).toNat, none⟩ (.int .i64 (wrap64 ((rd y412 x145_6) - (ji264))))) w.heap.size (O7 u360001 u366001 u372001 (.slice (some ad407) x379001_7.length co278) u385001 u393001 (.slice (some ⟨go265, 0, none⟩) y412.length co286)) u406001 x406001_7) := ⟨Kd.R_g (rM2 (Kd.R_far (p := ⟨go265, (x145_6 : Int).toNat, none⟩) (Kd.R_mono HO_406001.out (fun k_ hk => (⟨hk, fun e_ => hk.2.2.2.2.2.2 (by rw [e_]; rfl)⟩ : _ ∧ k_ ≠ go265))) (fun _ hk => hk.2) (.int .i64 (wrap64 ((rd y412 x145_6) - (ji264))))))⟩
       have n7_ : Fc (Kd.R (Kd.int .i64) 3 (w290.setCell ⟨go265, (x145_6 : Int).toNat, none⟩ (.int .i64 (wrap64 ((rd y412 x145_6) - (ji264))))) w.heap.size (O7 u360001 u366001 u372001 (.slice (some ad407) x379001_7.length co278) u385001 u393001 u406001) (.slice (some ⟨go265, 0, none⟩) y412.length co286) y417) := ⟨Kd.R_g HQ291.out⟩
       have n8_ : Fc ((w290.setCell ⟨go265, (x145_6 : Int).toNat, none⟩ (.int .i64 (wrap64 ((rd y412 x145_6) - (ji264))))).heap[gb359]? = some (.cells #[.int .i64 t355, u360001] 26 (0, 0))) := ⟨by (with_reducible repeat (first | refine blk_drewN ?_ _ | refine blk_drew ?_ | refine blk_alloc ?_ _)); refine blk_far ?_ (by have h_ := Kd.R_ne HO414.out BK359.out (by decide); intro e_; exact h_ (by rw [e_]; rfl)) _; (with_reducible repeat (first | refine blk_drewN ?_ _ | refine blk_drew ?_ | refine blk_alloc ?_ _)); exact BK359.out⟩
       have n9_ : Fc ((w290.setCell ⟨go265, (x145_6 : Int).toNat, none⟩ (.int .i64 (wrap64 ((rd y412 x145_6) - (ji264))))).heap[gb365]? = some (.cells #[.int .i64 t360, u366001] 26 (0, 0))) := ⟨by (with_reducible repeat (first | refine blk_drewN ?_ _ | refine blk_drew ?_ | refine blk_alloc ?_ _)); refine blk_far ?_ (by have h_ := Kd.R_ne HO414.out BK365.out (by decide); intro e_; exact h_ (by rw [e_]; rfl)) _; (with_reducible repeat (first | refine blk_drewN ?_ _ | refine blk_drew ?_ | refine blk_alloc ?_ _)); exact BK365.out⟩
       have n10_ : Fc ((w290.setCell ⟨go265, (x145_6 : Int).toNat, none⟩ (.int .i64 (wrap64 ((rd y412 x145_6) - (ji264))))).heap[gb371]? = some (.cells #[.int .i64 t366, u372001] 26 (0, 0))) := ⟨by (with_reducible repeat (first | refine blk_drewN ?_ _ | refine blk_drew ?_ | refine blk_alloc ?_ _)); refine blk_far ?_ (by have h_ := Kd.R_ne HO414.out BK371.out (by decide); intro e_; exact h_ (by rw [e_]; rfl)) _; (with_reducible repeat (first | refine blk_drewN ?_ _ | refine blk_drew ?_ | refine blk_alloc ?_ _)); exact BK371.out⟩
       have n11_ : Fc ((w290.setCell ⟨go265, (x145_6 : Int).toNat, none⟩ (.int .i64 (wrap64 ((rd y412 x145_6) - (ji264))))).heap[gb378]? = some (.cells #[.int .i64 t373, .slice (some ad407) x379001_7.length co278] 26 (0, 0))) := ⟨by (with_reducible repeat (first | refine blk_drewN ?_ _ | refine blk_drew ?_ | refine blk_alloc ?_ _)); refine blk_far ?_ (by have h_ := Kd.R_ne HO414.out BK378.out (by decide); intro e_; exact h_ (by rw [e_]; rfl)) _; (with_reducible repeat (first | refine blk_drewN ?_ _ | refine blk_drew ?_ | refine blk_alloc ?_ _)); exact BK378.out⟩
       have n12_ : Fc ((w290.setCell ⟨go265, (x145_6 : Int).toNat, none⟩ (.int .i64 (wrap64 ((rd y412 x145_6) - (ji264))))).heap[gb384]? = some (.cells #[.int .i64 t379, u385001] 26 (0, 0))) := ⟨by (with_reducible repeat (first | refine blk_drewN ?_ _ | refine blk_drew ?_ | refine blk_alloc ?_ _)); refine blk_far ?_ (by have h_ := Kd.R_ne HO414.out BK384.out (by decide); intro e_; exact h_ (by rw [e_]; rfl)) _; (with_reducible repeat (first | refine blk_drewN ?_ _ | refine blk_drew ?_ | refine blk_alloc ?_ _)); exact BK384.out⟩
       have n13_ : Fc ((w290.setCell ⟨go265, (x145_6 : Int).toNat, none⟩ (.int .i64 (wrap64 ((rd y412 x145_6) - (ji264))))).heap[gb392]? = some (.cells #[.int .i64 t387, u393001] 26 (0, 0))) := ⟨by (with_reducible repeat (first | refine blk_drewN ?_ _ | refine blk_drew ?_ | refine blk_alloc ?_ _)); refine blk_far ?_ (by have h_ := Kd.R_ne HO414.out BK392.out (by decide); intro e_; exact h_ (by rw [e_]; rfl)) _; (with_reducible repeat (first | refine blk_drewN ?_ _ | refine blk_drew ?_ | refine blk_alloc ?_ _)); exact BK392.out⟩
       have n14_ : Fc ((w290.setCell ⟨go265, (x145_6 : Int).toNat, none⟩ (.int .i64 (wrap64 ((rd y412 x145_6) - (ji264))))).heap[gb405]? = some (.cells #[.int .i64 t400, u406001] 26 (0, 0))) := ⟨by (with_reducible repeat (first | refine blk_drewN ?_ _ | refine blk_drew ?_ | refine blk_alloc ?_ _)); refine blk_far ?_ (by have h_ := Kd.R_ne HO414.out BK405.out (by decide); intro e_; exact h_ (by rw [e_]; rfl)) _; (with_reducible repeat (first | refine blk_drewN ?_ _ | refine blk_drew ?_ | refine blk_alloc ?_ _)); exact BK405.out⟩
       have n15_ : Fc ((w290.setCell ⟨go265, (x145_6 : Int).toNat, none⟩ (.int .i64 (wrap64 ((rd y412 x145_6) - (ji264))))).heap[gb415]? = some (.cells #[.int .i64 t373, .slice (some ⟨go265, 0, none⟩) y412.length co286] 26 (0, 0))) := ⟨by (with_reducible repeat (first | refine blk_drewN ?_ _ | refine blk_drew ?_ | refine blk_alloc ?_ _)); refine blk_far ?_ (by have h_ := Kd.R_ne HO414.out BK415.out (by decide); intro e_; exact h_ (by rw [e_]; rfl)) _; (with_reducible repeat (first | refine blk_drewN ?_ _ | refine blk_drew ?_ | refine blk_alloc ?_ _)); exact BK415.out⟩
       have n16_ : Fc (Below w.heap.size w (w290.setCell ⟨go265, (x145_6 : Int).toNat, none⟩ (.int .i64 (wrap64 ((rd y412 x145_6) - (ji264)))))) := ⟨bel_g HB.out⟩
       (try clear HO_360001)
       (try clear HO_366001)
       (try clear HO_372001)
       (try clear HO_379001)
       (try clear HO_385001)
       (try clear HO_393001)
       (try clear HO_406001)
       (try clear HO414)
       (try clear BK359)
       (try clear BK365)
       (try clear BK371)
       (try clear BK378)
       (try clear BK384)
       (try clear BK392)
       (try clear BK405)
       (try clear BK415)
       (try clear HB)
       generalize (w290.setCell ⟨go265, (x145_6 : Int).toNat, none⟩ (.int .i64 (wrap64 ((rd y412 x145_6) - (ji264))))) = w292 at n0_ n1_ n2_ n3_ n4_ n5_ n6_ n7_ n8_ n9_ n10_ n11_ n12_ n13_ n14_ n15_ n16_ ⊢
       have HO_360001 := n0_
       have HO_366001 := n1_
       have HO_372001 := n2_
       have HO_379001 := n3_
       have HO_385001 := n4_
       have HO_393001 := n5_
       have HO_406001 := n6_
       have HO414 := n7_
       have BK359 := n8_
       have BK365 := n9_
       have BK371 := n10_
       have BK378 := n11_
       have BK384 := n12_
       have BK392 := n13_
       have BK405 := n14_
       have BK415 := n15_
       have HB := n16_
       clear n0_ n1_ n2_ n3_ n4_ n5_ n6_ n7_ n8_ n9_ n10_ n11_ n12_ n13_ n14_ n15_ n16_
       obtain ⟨_, _, _, _⟩ := blk2 BK415
       try go_wp2_with (first | ((with_reducible refine gate_callee (f := 6) rfl ?_); refine goesL_ (some 180) rfl rfl Tryd.func6 (by kernel_rfl) rfl #[.agg #[.int .i64 t373, .slice (some ⟨go265, 0, none⟩) y417.length co286]] rfl (by (try simp only [List.map_toArray, List.map_cons, List.map_nil]); first | done | (rw [show y417.length = y412.length from (Kd.R_reads' HO414.out).1.symm] <;> rfl) | rfl | (simp only [List.length_drop, List.length_take]; rfl)) ?_; (with_reducible refine (impl_CloseRelation.calls k7 t373 _ _ y417 t418 t419 true _ ?s1 ?s2 A266.out).mono ?_); (case s1 => exact rC HO414); (case s2 => rw [show y417.length = y412.length from (Kd.R_reads' HO414.out).1.symm]; exact rL HO414); rintro e w301 ⟨v420, rfl, ho0, hb⟩; refine ⟨_, rfl, ?_⟩; have HO421 := rLo (rN (rN (rN (rN (rN (rN (rN (rN ho0 HO_360001) HO_366001) HO_372001) HO_379001) HO_385001) HO_393001) HO_406001) HO414) HB; replace HO_360001 := rE HO_360001 ho0 hb; replace HO_366001 := rE HO_366001 ho0 hb; replace HO_372001 := rE HO_372001 ho0 hb; replace HO_379001 := rE HO_379001 ho0 hb; replace HO_385001 := rE HO_385001 ho0 hb; replace HO_393001 := rE HO_393001 ho0 hb; replace HO_406001 := rE HO_406001 ho0 hb; replace HO414 := rE HO414 ho0 hb; replace BK359 := blkB BK359 hb; replace BK365 := blkB BK365 hb; replace BK371 := blkB BK371 hb; replace BK378 := blkB BK378 hb; replace BK384 := blkB BK384 hb; replace BK392 := blkB BK392 hb; replace BK405 := blkB BK405 hb; replace BK415 := blkB BK415 hb; replace HB := bst HB hb; clear hb ho0) | ((with_reducible refine gate_dst (N := 24) rfl ?_); refine boxG HB #[.int .i64 0, .slice none 0 0] 26 ?_; intro gb423 hg w302 BK423 GE423 hb; replace HO_360001 := rB HO_360001 hb; replace HO_366001 := rB HO_366001 hb; replace HO_372001 := rB HO_372001 hb; replace HO_379001 := rB HO_379001 hb; replace HO_385001 := rB HO_385001 hb; replace HO_393001 := rB HO_393001 hb; replace HO_406001 := rB HO_406001 hb; replace HO414 := rB HO414 hb; replace HO421 := rB HO421 hb; have NB359_423 := neL7 BK359 hg; have NB423_359 := neR7 BK359 hg; replace BK359 := blkB BK359 hb; have NB365_423 := neL7 BK365 hg; have NB423_365 := neR7 BK365 hg; replace BK365 := blkB BK365 hb; have NB371_423 := neL7 BK371 hg; have NB423_371 := neR7 BK371 hg; replace BK371 := blkB BK371 hb; have NB378_423 := neL7 BK378 hg; have NB423_378 := neR7 BK378 hg; replace BK378 := blkB BK378 hb; have NB384_423 := neL7 BK384 hg; have NB423_384 := neR7 BK384 hg; replace BK384 := blkB BK384 hb; have NB392_423 := neL7 BK392 hg; have NB423_392 := neR7 BK392 hg; replace BK392 := blkB BK392 hb; have NB405_423 := neL7 BK405 hg; have NB423_405 := neR7 BK405 hg; replace BK405 := blkB BK405 hb; have NB415_423 := neL7 BK415 hg; have NB423_415 := neR7 BK415 hg; replace BK415 := blkB BK415 hb; replace HB := bst HB hb; clear hb hg; obtain ⟨_, _, _, _⟩ := blk2 BK423; obtain ⟨Ao312, co312, rfl⟩ := Kd.R_slice HO421.out; have p424 : 0 ≤ (x145_6 : Int) := ofd; have q424 : x145_6 < (t419.length : Int) := ofd; obtain ⟨ad424, e424, hx424_0⟩ := Kd.at_int (Kd.R_reads' HO421.out).2.2 x145_6 p424 q424; cases e424; have hn424_0 : ad424.block ≠ gb423 := Kd.own_blk (Kd.R_ne HO421.out BK423.out (by decide)); have hn424_1 : ad424.block ≠ gb423 := Kd.own_blk (Kd.R_ne HO421.out BK423.out (by decide)); replace hx424_0 := (cell_far (p := ⟨gb423, 0, none⟩) (by first | (rw [add_block]; exact hn424_0) | (show (Addr.add _ _).block ≠ _; rw [add_block]; exact hn424_0) | exact hn424_0) (.int .i64 t418)).trans hx424_0; replace hx424_0 := (cell_far (p := ⟨gb423, 1, none⟩) (by first | (rw [add_block]; exact hn424_1) | (show (Addr.add _ _).block ≠ _; rw [add_block]; exact hn424_1) | exact hn424_1) (.slice (some ad424) t419.length co312)).trans hx424_0; clear hn424_0; clear hn424_1; replace p424 := eq_true p424; replace q424 := eq_true q424) | (go_at_call 12; (with_reducible refine (laws_pIn.calls (rd t419 x145_6) x151_7 true _ A269.out).mono ?_); rintro e w' ⟨rfl, ⟨nd, rfl⟩⟩))
       go_ret
       exact ⟨by first | rfl | (simp [errW_none, errW_some] <;> rfl) | (simp only [← hji264]; first | rfl | (simp [errW_none, errW_some] <;> rfl)) | (simp [*, errW_none, errW_some] <;> rfl), bel_g HB.out⟩
      ·replace c270 := Bool.eq_false_iff.mpr c270
       subst c270
       replace H := ifF H
       have H' := mkA H
       clear H
       obtain ⟨_, _, _, _⟩ := blk2 BK378
       obtain ⟨Ao320, co320, rfl⟩ := Kd.R_slice HO_379001.out
       obtain ⟨p407, q407, ad407, e407, hx407_0⟩ := atI (Kd.R_reads' HO_379001.out).2.2 x145_6
       cases e407
       try go_wp2_with (first | ((with_reducible refine gate_callee (f := 12) rfl ?_); refine goesQ (some 160) Tryd.func12 #[.int .i64 (rd x379001_7 x145_6), .int .i64 x151_7] ?_; (with_reducible refine (laws_pIn.calls (rd x379001_7 x145_6) x151_7 true _ A259.out).mono ?_); rintro e w' ⟨rfl, ⟨nd, rfl⟩⟩; refine ⟨_, rfl, ?_⟩; (try (rw [drewN_self wr]; generalize hq_ : World.drewN wr _ = wr; have n0_ : Fc (Kd.R (Kd.int .i64) 3 wr w.heap.size (O6 u366001 u372001 (.slice (some ad407) x379001_7.length co320) u385001 u393001 u406001) u360001 x360001_7) := ⟨by rw [← hq_]; exact (Kd.R_g HO_360001.out)⟩; have n1_ : Fc (Kd.R (Kd.int .i64) 3 wr w.heap.size (O6 u360001 u372001 (.slice (some ad407) x379001_7.length co320) u385001 u393001 u406001) u366001 x366001_7) := ⟨by rw [← hq_]; exact (Kd.R_g HO_366001.out)⟩; have n2_ : Fc (Kd.R (Kd.int .i64) 3 wr w.heap.size (O6 u360001 u366001 (.slice (some ad407) x379001_7.length co320) u385001 u393001 u406001) u372001 x372001_7) := ⟨by rw [← hq_]; exact (Kd.R_g HO_372001.out)⟩; have n3_ : Fc (Kd.R (Kd.int .i64) 3 wr w.heap.size (O6 u360001 u366001 u372001 u385001 u393001 u406001) (.slice (some ad407) x379001_7.length co320) x379001_7) := ⟨by rw [← hq_]; exact (Kd.R_g HO_379001.out)⟩; have n4_ : Fc (Kd.R (Kd.int .i64) 3 wr w.heap.size (O6 u360001 u366001 u372001 (.slice (some ad407) x379001_7.length co320) u393001 u406001) u385001 x385001_7) := ⟨by rw [← hq_]; exact (Kd.R_g HO_385001.out)⟩; have n5_ : Fc (Kd.R (Kd.int .i64) 3 wr w.heap.size (O6 u360001 u366001 u372001 (.slice (some ad407) x379001_7.length co320) u385001 u406001) u393001 x393001_7) := ⟨by rw [← hq_]; exact (Kd.R_g HO_393001.out)⟩; have n6_ : Fc (Kd.R (Kd.int .i64) 3 wr w.heap.size (O6 u360001 u366001 u372001 (.slice (some ad407) x379001_7.length co320) u385001 u393001) u406001 x406001_7) := ⟨by rw [← hq_]; exact (Kd.R_g HO_406001.out)⟩; have n7_ : Fc (wr.heap[gb359]? = some (.cells #[.int .i64 t355, u360001] 26 (0, 0))) := ⟨by rw [← hq_]; exact (blk_g BK359.out)⟩; have n8_ : Fc (wr.heap[gb365]? = some (.cells #[.int .i64 t360, u366001] 26 (0, 0))) := ⟨by rw [← hq_]; exact (blk_g BK365.out)⟩; have n9_ : Fc (wr.heap[gb371]? = some (.cells #[.int .i64 t366, u372001] 26 (0, 0))) := ⟨by rw [← hq_]; exact (blk_g BK371.out)⟩; have n10_ : Fc (wr.heap[gb378]? = some (.cells #[.int .i64 t373, .slice (some ad407) x379001_7.length co320] 26 (0, 0))) := ⟨by rw [← hq_]; exact (blk_g BK378.out)⟩; have n11_ : Fc (wr.heap[gb384]? = some (.cells #[.int .i64 t379, u385001] 26 (0, 0))) := ⟨by rw [← hq_]; exact (blk_g BK384.out)⟩; have n12_ : Fc (wr.heap[gb392]? = some (.cells #[.int .i64 t387, u393001] 26 (0, 0))) := ⟨by rw [← hq_]; exact (blk_g BK392.out)⟩; have n13_ : Fc (wr.heap[gb405]? = some (.cells #[.int .i64 t400, u406001] 26 (0, 0))) := ⟨by rw [← hq_]; exact (blk_g BK405.out)⟩; have n14_ : Fc (Below w.heap.size w wr) := ⟨by rw [← hq_]; exact (bel_g HB.out)⟩; clear HO_360001 HO_366001 HO_372001 HO_379001 HO_385001 HO_393001 HO_406001 BK359 BK365 BK371 BK378 BK384 BK392 BK405 HB hq_; have HO_360001 := n0_; have HO_366001 := n1_; have HO_372001 := n2_; have HO_379001 := n3_; have HO_385001 := n4_; have HO_393001 := n5_; have HO_406001 := n6_; have BK359 := n7_; have BK365 := n8_; have BK371 := n9_; have BK378 := n10_; have BK384 := n11_; have BK392 := n12_; have BK405 := n13_; have HB := n14_; clear n0_ n1_ n2_ n3_ n4_ n5_ n6_ n7_ n8_ n9_ n10_ n11_ n12_ n13_ n14_)); (try obtain ⟨_, _, _, _⟩ := blk2 BK359); (try obtain ⟨_, _, _, _⟩ := blk2 BK365); (try obtain ⟨_, _, _, _⟩ := blk2 BK371); (try obtain ⟨_, _, _, _⟩ := blk2 BK378); (try obtain ⟨_, _, _, _⟩ := blk2 BK384); (try obtain ⟨_, _, _, _⟩ := blk2 BK392); (try obtain ⟨_, _, _, _⟩ := blk2 BK405)))
       replace HO_360001 := mkA (Kd.R_drew HO_360001.out)
       replace HO_366001 := mkA (Kd.R_drew HO_366001.out)
       replace HO_372001 := mkA (Kd.R_drew HO_372001.out)
       replace HO_379001 := mkA (Kd.R_drew HO_379001.out)
       replace HO_385001 := mkA (Kd.R_drew HO_385001.out)
       replace HO_393001 := mkA (Kd.R_drew HO_393001.out)
       replace HO_406001 := mkA (Kd.R_drew HO_406001.out)
       replace BK359 := mkA (blk_drew BK359.out)
       replace BK365 := mkA (blk_drew BK365.out)
       replace BK371 := mkA (blk_drew BK371.out)
       replace BK378 := mkA (blk_drew BK378.out)
       replace BK384 := mkA (blk_drew BK384.out)
       replace BK392 := mkA (blk_drew BK392.out)
       replace BK405 := mkA (blk_drew BK405.out)
       replace HB := mkA (below_drew1 HB.out)
       refine start_ (n := 9) (S := fun w' => w'.cell? ⟨gb378, 0, none⟩ = some (.int .i64 t373) ∧ w'.cell? ⟨gb378, 1, none⟩ = some (.slice (some ad407) x379001_7.length co320)) (ds := []) (bm 9 0) (by kernel_rfl) rfl (by kernel_rfl) ⟨(blk_cell BK378.out 0).trans rfl, (blk_cell BK378.out 1).trans rfl⟩ (fun hHeld => ?_); refine with_tabW laws_FnClosures.tab39 laws_FnClosures.bits39 (fun HT_ HW_ => ?_)
       generalize wr.drew = w321 at HO_360001 HO_366001 HO_372001 HO_379001 HO_385001 HO_393001 HO_406001 BK359 BK365 BK371 BK378 BK384 BK392 BK405 HB hHeld ⊢
       refine purW 0 162 9 1 HT_ ?_
       refine purW 3 165 9 9 HT_ ?_
       refine takeW 1 (some 163) (bm 9 11) HT_ HW_ hHeld ?_
       refine takeW 4 (some 166) (bm 9 27) HT_ HW_ hHeld ?_
       refine join_ (σ := Value × Value × Nat) 1 (bm 9 255) (fun s_ => [(164, s_.1), (167, s_.2.1), (23, .pointer (some ⟨s_.2.2, 0, none⟩)), (168, .agg #[.int .i64 t373, s_.2.1])]) (fun s_ w' => (w'.cell? ⟨gb378, 0, none⟩ = some (.int .i64 t373) ∧ w'.cell? ⟨gb378, 1, none⟩ = some (.slice (some ad407) x379001_7.length co320)) ∧ (Kd.R (Kd.int .i64) 3 w' w.heap.size (O7 u360001 u366001 u372001 (.slice (some ad407) x379001_7.length co320) u385001 u393001 u406001) s_.2.1 y412) ∧ (Kd.R (Kd.int .i64) 3 w' w.heap.size (O7 (s_.2.1) u366001 u372001 (.slice (some ad407) x379001_7.length co320) u385001 u393001 u406001) u360001 x360001_7) ∧ (Kd.R (Kd.int .i64) 3 w' w.heap.size (O7 (s_.2.1) u360001 u372001 (.slice (some ad407) x379001_7.length co320) u385001 u393001 u406001) u366001 x366001_7) ∧ (Kd.R (Kd.int .i64) 3 w' w.heap.size (O7 (s_.2.1) u360001 u366001 (.slice (some ad407) x379001_7.length co320) u385001 u393001 u406001) u372001 x372001_7) ∧ (Kd.R (Kd.int .i64) 3 w' w.heap.size (O7 (s_.2.1) u360001 u366001 u372001 u385001 u393001 u406001) (.slice (some ad407) x379001_7.length co320) x379001_7) ∧ (Kd.R (Kd.int .i64) 3 w' w.heap.size (O7 (s_.2.1) u360001 u366001 u372001 (.slice (some ad407) x379001_7.length co320) u393001 u406001) u385001 x385001_7) ∧ (Kd.R (Kd.int .i64) 3 w' w.heap.size (O7 (s_.2.1) u360001 u366001 u372001 (.slice (some ad407) x379001_7.length co320) u385001 u406001) u393001 x393001_7) ∧ (Kd.R (Kd.int .i64) 3 w' w.heap.size (O7 (s_.2.1) u360001 u366001 u372001 (.slice (some ad407) x379001_7.length co320) u385001 u393001) u406001 x406001_7) ∧ (w'.heap[gb359]? = some (.cells #[.int .i64 t355, u360001] 26 (0, 0))) ∧ (w'.heap[gb365]? = some (.cells #[.int .i64 t360, u366001] 26 (0, 0))) ∧ (w'.heap[gb371]? = some (.cells #[.int .i64 t366, u372001] 26 (0, 0))) ∧ (w'.heap[gb378]? = some (.cells #[.int .i64 t373, .slice (some ad407) x379001_7.length co320] 26 (0, 0))) ∧ (w'.heap[gb384]? = some (.cells #[.int .i64 t379, u385001] 26 (0, 0))) ∧ (w'.heap[gb392]? = some (.cells #[.int .i64 t387, u393001] 26 (0, 0))) ∧ (w'.heap[gb405]? = some (.cells #[.int .i64 t400, u406001] 26 (0, 0))) ∧ (w'.heap[s_.2.2]? = some (.cells #[.int .i64 0, .slice none 0 0] 26 (0, 0))) ∧ (w.heap.size ≤ s_.2.2) ∧ (w.heap.size ≤ s_.2.2) ∧ (gb359 ≠ s_.2.2) ∧ (s_.2.2 ≠ gb359) ∧ (gb365 ≠ s_.2.2) ∧ (s_.2.2 ≠ gb365) ∧ (gb371 ≠ s_.2.2) ∧ (s_.2.2 ≠ gb371) ∧ (gb378 ≠ s_.2.2) ∧ (s_.2.2 ≠ gb378) ∧ (gb384 ≠ s_.2.2) ∧ (s_.2.2 ≠ gb384) ∧ (gb392 ≠ s_.2.2) ∧ (s_.2.2 ≠ gb392) ∧ (gb405 ≠ s_.2.2) ∧ (s_.2.2 ≠ gb405) ∧ (Below w.heap.size w w')) ?_ ?_
       rotate_left
       ·intro hCont
        refine two_ (i := 2) (j := 7) (Ni := some 164) (Nj := some 23) (bm 9 31) (bm 9 155) rfl rfl rfl rfl (two_of HT_.out (by kernel_rfl)) (by decide) (by decide) (fun K hK => ?_) (fun K hK => ?_)
        ·skip
         refine Kd.R_lit_step (Kd.int .i64) _ 3 ?hg (N := 164) ?hd (xs := ([] : List Int)) (inner := []) (ok := fun _ => True) (okp := fun _ => True) ?hr ?hp (fun _ hk => hk) trivial (Below.refl _ _) (Nat.le_refl _) (by simp) ?_; (case hd => rfl); (case hg => rfl); (case hr => first | (go_simp; done) | (go_simp; rfl)); (case hp => exact (Reps.none _ _))
         intro v410 w322 ho323 hb hg_ hnew_
         clear hg_ hnew_
         (first | rw [← Ny409.out] at ho323 | (simp only [Int.reduceToNat] at ho323; rw [← Ny409.out] at ho323))
         have HO411 := rLo (rN (rN (rN (rN (rN (rN (rN ho323 HO_360001) HO_366001) HO_372001) HO_379001) HO_385001) HO_393001) HO_406001) HB
         replace HO_360001 := rE HO_360001 ho323 hb
         replace HO_366001 := rE HO_366001 ho323 hb
         replace HO_372001 := rE HO_372001 ho323 hb
         replace HO_379001 := rE HO_379001 ho323 hb
         replace HO_385001 := rE HO_385001 ho323 hb
         replace HO_393001 := rE HO_393001 ho323 hb
         replace HO_406001 := rE HO_406001 ho323 hb
         replace BK359 := blkB BK359 hb
         replace BK365 := blkB BK365 hb
         replace BK371 := blkB BK371 hb
         replace BK378 := blkB BK378 hb
         replace BK384 := blkB BK384 hb
         replace BK392 := blkB BK392 hb
         replace BK405 := blkB BK405 hb
         replace HB := bst HB hb
         clear hb ho323
         refine hK.out _ _ ⟨(blk_cell BK378.out 0).trans rfl, (blk_cell BK378.out 1).trans rfl⟩ (fun hHeld => ?_)
         clear hK K
         refine normW 164 ?_
         refine two_ (i := 5) (j := 7) (Ni := some 167) (Nj := some 23) (bm 9 63) (bm 9 159) rfl rfl rfl rfl (two_of HT_.out (by kernel_rfl)) (by decide) (by decide) (fun K hK => ?_) (fun K hK => ?_)
         ·skip
          refine Kd.R_append_rows_step (Kd.int .i64) (w0 := w) w.heap.size (by rfl) (.tmp 164) (.tmp 166) 24 3 (.int .i64 0) 8 rfl Tryd.underlying24 info3 rfl (by decide) (by omega) v410 y409 x379001_7 _ _ _ (O7 u360001 u366001 u372001 (.slice (some ad407) x379001_7.length co320) u385001 u393001 u406001) (fun _ => False) rfl rfl ?aO ?aR (fun _ _ h => h) (fun _ h => h.elim) ?aF ?aB ?aS ?aL ?_
          (case aR => repeat (first | exact (Kd.R_reads' HO_379001.out).2.2 | (with_reducible refine Kd.C_alloc ?_ _) | (with_reducible refine Kd.C_drewN ?_ _) | (with_reducible refine Kd.C_drew ?_)))
          (case aB => exact (bel_g HB.out))
          (case aF => exact (fun k_ hk => ⟨Kd.fresh' (Kd.R_lt (Kd.R_g HO_360001.out)) k_ hk, Kd.fresh' (Kd.R_lt (Kd.R_g HO_366001.out)) k_ hk, Kd.fresh' (Kd.R_lt (Kd.R_g HO_372001.out)) k_ hk, Kd.fresh' (Kd.R_lt (Kd.R_g HO_379001.out)) k_ hk, Kd.fresh' (Kd.R_lt (Kd.R_g HO_385001.out)) k_ hk, Kd.fresh' (Kd.R_lt (Kd.R_g HO_393001.out)) k_ hk, Kd.fresh' (Kd.R_lt (Kd.R_g HO_406001.out)) k_ hk⟩))
          (case aO => exact (Kd.R_g (rM2 HO411.out)))
          (case aS => exact (below_size (bel_g HB.out)))
          (case aL => have := LMc261.out; omega)
          intro v413 w324 ho hb hg hat
          rw [← Ny412.out] at ho
          replace HO_360001 := mkA (Kd.R_after (ok := (O6 u366001 u372001 (.slice (some ad407) x379001_7.length co320) u385001 u393001 u406001)) (Kd.R_g HO_360001.out) hg hat)
          replace HO_366001 := mkA (Kd.R_after (ok := (O6 u360001 u372001 (.slice (some ad407) x379001_7.length co320) u385001 u393001 u406001)) (Kd.R_g HO_366001.out) hg hat)
          replace HO_372001 := mkA (Kd.R_after (ok := (O6 u360001 u366001 (.slice (some ad407) x379001_7.length co320) u385001 u393001 u406001)) (Kd.R_g HO_372001.out) hg hat)
          replace HO_379001 := mkA (Kd.R_after (ok := (O6 u360001 u366001 u372001 u385001 u393001 u406001)) (Kd.R_g HO_379001.out) hg hat)
          replace HO_385001 := mkA (Kd.R_after (ok := (O6 u360001 u366001 u372001 (.slice (some ad407) x379001_7.length co320) u393001 u406001)) (Kd.R_g HO_385001.out) hg hat)
          replace HO_393001 := mkA (Kd.R_after (ok := (O6 u360001 u366001 u372001 (.slice (some ad407) x379001_7.length co320) u385001 u406001)) (Kd.R_g HO_393001.out) hg hat)
          replace HO_406001 := mkA (Kd.R_after (ok := (O6 u360001 u366001 u372001 (.slice (some ad407) x379001_7.length co320) u385001 u393001)) (Kd.R_g HO_406001.out) hg hat)
          replace BK359 := mkA (blk_grown (g := gb359) (o := .cells #[.int .i64 t355, u360001] 26 (0, 0)) (blk_g BK359.out) hg (Kd.R_ne HO411.out BK359.out (by decide)))
          replace BK365 := mkA (blk_grown (g := gb365) (o := .cells #[.int .i64 t360, u366001] 26 (0, 0)) (blk_g BK365.out) hg (Kd.R_ne HO411.out BK365.out (by decide)))
          replace BK371 := mkA (blk_grown (g := gb371) (o := .cells #[.int .i64 t366, u372001] 26 (0, 0)) (blk_g BK371.out) hg (Kd.R_ne HO411.out BK371.out (by decide)))
          replace BK378 := mkA (blk_grown (g := gb378) (o := .cells #[.int .i64 t373, .slice (some ad407) x379001_7.length co320] 26 (0, 0)) (blk_g BK378.out) hg (Kd.R_ne HO411.out BK378.out (by decide)))
          replace BK384 := mkA (blk_grown (g := gb384) (o := .cells #[.int .i64 t379, u385001] 26 (0, 0)) (blk_g BK384.out) hg (Kd.R_ne HO411.out BK384.out (by decide)))
          replace BK392 := mkA (blk_grown (g := gb392) (o := .cells #[.int .i64 t387, u393001] 26 (0, 0)) (blk_g BK392.out) hg (Kd.R_ne HO411.out BK392.out (by decide)))
          replace BK405 := mkA (blk_grown (g := gb405) (o := .cells #[.int .i64 t400, u406001] 26 (0, 0)) (blk_g BK405.out) hg (Kd.R_ne HO411.out BK405.out (by decide)))
          have HO414 := mkA (ho)
          replace HB := mkA (hb)
          clear HO411
          clear ho hb hg hat
          obtain ⟨Ao325, co325, eo325⟩ := Kd.R_slice HO414.out
          (first | subst eo325 | (injection eo325 with f1_ f2_ f3_; have f4_ := f1_.symm; have f5_ := f3_.symm; clear f1_ f2_ f3_; subst f4_; subst f5_))
          refine hK.out _ _ ⟨(blk_cell BK378.out 0).trans rfl, (blk_cell BK378.out 1).trans rfl⟩ (fun hHeld => ?_)
          clear hK K
          refine normW 167 ?_
          refine purW 6 168 9 127 HT_ ?_
          refine oneW 7 (some 23) (bm 9 255) HT_ (fun K hK => ?_)
          refine box_step ?hg (N := 23) ?hd (cs := #[.int .i64 0, .slice none 0 0]) (t := 26) ?hr ?_; (case hd => rfl); (case hg => rfl); (case hr => first | (go_simp; done) | (go_simp; rfl))
          intro gb415 hg w326 hbox hb
          replace HO_360001 := rB HO_360001 hb
          replace HO_366001 := rB HO_366001 hb
          replace HO_372001 := rB HO_372001 hb
          replace HO_379001 := rB HO_379001 hb
          replace HO_385001 := rB HO_385001 hb
          replace HO_393001 := rB HO_393001 hb
          replace HO_406001 := rB HO_406001 hb
          replace HO414 := rB HO414 hb
          have BK415 := mkA (hbox)
          have GW415 := geB HB hg
          have GE415 := geB HB hg
          have NB359_415 := neL7 BK359 hg
          have NB415_359 := neR7 BK359 hg
          replace BK359 := blkB BK359 hb
          have NB365_415 := neL7 BK365 hg
          have NB415_365 := neR7 BK365 hg
          replace BK365 := blkB BK365 hb
          have NB371_415 := neL7 BK371 hg
          have NB415_371 := neR7 BK371 hg
          replace BK371 := blkB BK371 hb
          have NB378_415 := neL7 BK378 hg
          have NB415_378 := neR7 BK378 hg
          replace BK378 := blkB BK378 hb
          have NB384_415 := neL7 BK384 hg
          have NB415_384 := neR7 BK384 hg
          replace BK384 := blkB BK384 hb
          have NB392_415 := neL7 BK392 hg
          have NB415_392 := neR7 BK392 hg
          replace BK392 := blkB BK392 hb
          have NB405_415 := neL7 BK405 hg
          have NB415_405 := neR7 BK405 hg
          replace BK405 := blkB BK405 hb
          replace HB := bst HB hb
          clear hb hbox hg
          refine hK.out _ _ ⟨(blk_cell BK378.out 0).trans rfl, (blk_cell BK378.out 1).trans rfl⟩ (fun hHeld => ?_)
          clear hK K
          refine normW 23 ?_
          exact norm_ (by simp only [putAll, Act.put, List.setIfInBounds_toArray, List.set_cons_zero, List.set_cons_succ]) (hCont (v410, .slice Ao325 y412.length co325, gb415) _ ⟨hHeld, (Kd.R_g HO414.out), (Kd.R_g (rM2 HO_360001.out)), (Kd.R_g (rM2 HO_366001.out)), (Kd.R_g (rM2 HO_372001.out)), (Kd.R_g (rM2 HO_379001.out)), (Kd.R_g (rM2 HO_385001.out)), (Kd.R_g (rM2 HO_393001.out)), (Kd.R_g (rM2 HO_406001.out)), (blk_g BK359.out), (blk_g BK365.out), (blk_g BK371.out), (blk_g BK378.out), (blk_g BK384.out), (blk_g BK392.out), (blk_g BK405.out), (blk_g BK415.out), GW415.out, GE415.out, NB359_415.out, NB415_359.out, NB365_415.out, NB415_365.out, NB371_415.out, NB415_371.out, NB378_415.out, NB415_378.out, NB384_415.out, NB415_384.out, NB392_415.out, NB415_392.out, NB405_415.out, NB415_405.out, (bel_g HB.out)⟩)
         ·skip
          refine box_step ?hg (N := 23) ?hd (cs := #[.int .i64 0, .slice none 0 0]) (t := 26) ?hr ?_; (case hd => rfl); (case hg => rfl); (case hr => first | (go_simp; done) | (go_simp; rfl))
          intro gb415 hg w324 hbox hb
          replace HO_360001 := rB HO_360001 hb
          replace HO_366001 := rB HO_366001 hb
          replace HO_372001 := rB HO_372001 hb
          replace HO_379001 := rB HO_379001 hb
          replace HO_385001 := rB HO_385001 hb
          replace HO_393001 := rB HO_393001 hb
          replace HO_406001 := rB HO_406001 hb
          replace HO411 := rB HO411 hb
          have BK415 := mkA (hbox)
          have GW415 := geB HB hg
          have GE415 := geB HB hg
          have NB359_415 := neL7 BK359 hg
          have NB415_359 := neR7 BK359 hg
          replace BK359 := blkB BK359 hb
          have NB365_415 := neL7 BK365 hg
          have NB415_365 := neR7 BK365 hg
          replace BK365 := blkB BK365 hb
          have NB371_415 := neL7 BK371 hg
          have NB415_371 := neR7 BK371 hg
          replace BK371 := blkB BK371 hb
          have NB378_415 := neL7 BK378 hg
          have NB415_378 := neR7 BK378 hg
          replace BK378 := blkB BK378 hb
          have NB384_415 := neL7 BK384 hg
          have NB415_384 := neR7 BK384 hg
          replace BK384 := blkB BK384 hb
          have NB392_415 := neL7 BK392 hg
          have NB415_392 := neR7 BK392 hg
          replace BK392 := blkB BK392 hb
          have NB405_415 := neL7 BK405 hg
          have NB415_405 := neR7 BK405 hg
          replace BK405 := blkB BK405 hb
          replace HB := bst HB hb
          clear hb hbox hg
          refine hK.out _ _ ⟨(blk_cell BK378.out 0).trans rfl, (blk_cell BK378.out 1).trans rfl⟩ (fun hHeld => ?_)
          clear hK K
          refine normW 23 ?_
          refine oneW 5 (some 167) (bm 9 191) HT_ (fun K hK => ?_)
          refine Kd.R_append_rows_step (Kd.int .i64) (w0 := w) w.heap.size (by rfl) (.tmp 164) (.tmp 166) 24 3 (.int .i64 0) 8 rfl Tryd.underlying24 info3 rfl (by decide) (by omega) v410 y409 x379001_7 _ _ _ (O7 u360001 u366001 u372001 (.slice (some ad407) x379001_7.length co320) u385001 u393001 u406001) (fun _ => False) rfl rfl ?aO ?aR (fun _ _ h => h) (fun _ h => h.elim) ?aF ?aB ?aS ?aL ?_
          (case aR => repeat (first | exact (Kd.R_reads' HO_379001.out).2.2 | (with_reducible refine Kd.C_alloc ?_ _) | (with_reducible refine Kd.C_drewN ?_ _) | (with_reducible refine Kd.C_drew ?_)))
          (case aB => exact (bel_g HB.out))
          (case aF => exact (fun k_ hk => ⟨Kd.fresh' (Kd.R_lt (Kd.R_g HO_360001.out)) k_ hk, Kd.fresh' (Kd.R_lt (Kd.R_g HO_366001.out)) k_ hk, Kd.fresh' (Kd.R_lt (Kd.R_g HO_372001.out)) k_ hk, Kd.fresh' (Kd.R_lt (Kd.R_g HO_379001.out)) k_ hk, Kd.fresh' (Kd.R_lt (Kd.R_g HO_385001.out)) k_ hk, Kd.fresh' (Kd.R_lt (Kd.R_g HO_393001.out)) k_ hk, Kd.fresh' (Kd.R_lt (Kd.R_g HO_406001.out)) k_ hk⟩))
          (case aO => exact (Kd.R_g (rM2 HO411.out)))
          (case aS => exact (below_size (bel_g HB.out)))
          (case aL => have := LMc261.out; omega)
          intro v413 w325 ho hb hg hat
          rw [← Ny412.out] at ho
          replace HO_360001 := mkA (Kd.R_after (ok := (O6 u366001 u372001 (.slice (some ad407) x379001_7.length co320) u385001 u393001 u406001)) (Kd.R_g HO_360001.out) hg hat)
          replace HO_366001 := mkA (Kd.R_after (ok := (O6 u360001 u372001 (.slice (some ad407) x379001_7.length co320) u385001 u393001 u406001)) (Kd.R_g HO_366001.out) hg hat)
          replace HO_372001 := mkA (Kd.R_after (ok := (O6 u360001 u366001 (.slice (some ad407) x379001_7.length co320) u385001 u393001 u406001)) (Kd.R_g HO_372001.out) hg hat)
          replace HO_379001 := mkA (Kd.R_after (ok := (O6 u360001 u366001 u372001 u385001 u393001 u406001)) (Kd.R_g HO_379001.out) hg hat)
          replace HO_385001 := mkA (Kd.R_after (ok := (O6 u360001 u366001 u372001 (.slice (some ad407) x379001_7.length co320) u393001 u406001)) (Kd.R_g HO_385001.out) hg hat)
          replace HO_393001 := mkA (Kd.R_after (ok := (O6 u360001 u366001 u372001 (.slice (some ad407) x379001_7.length co320) u385001 u406001)) (Kd.R_g HO_393001.out) hg hat)
          replace HO_406001 := mkA (Kd.R_after (ok := (O6 u360001 u366001 u372001 (.slice (some ad407) x379001_7.length co320) u385001 u393001)) (Kd.R_g HO_406001.out) hg hat)
          replace BK359 := mkA (blk_grown (g := gb359) (o := .cells #[.int .i64 t355, u360001] 26 (0, 0)) (blk_g BK359.out) hg (Kd.R_ne HO411.out BK359.out (by decide)))
          replace BK365 := mkA (blk_grown (g := gb365) (o := .cells #[.int .i64 t360, u366001] 26 (0, 0)) (blk_g BK365.out) hg (Kd.R_ne HO411.out BK365.out (by decide)))
          replace BK371 := mkA (blk_grown (g := gb371) (o := .cells #[.int .i64 t366, u372001] 26 (0, 0)) (blk_g BK371.out) hg (Kd.R_ne HO411.out BK371.out (by decide)))
          replace BK378 := mkA (blk_grown (g := gb378) (o := .cells #[.int .i64 t373, .slice (some ad407) x379001_7.length co320] 26 (0, 0)) (blk_g BK378.out) hg (Kd.R_ne HO411.out BK378.out (by decide)))
          replace BK384 := mkA (blk_grown (g := gb384) (o := .cells #[.int .i64 t379, u385001] 26 (0, 0)) (blk_g BK384.out) hg (Kd.R_ne HO411.out BK384.out (by decide)))
          replace BK392 := mkA (blk_grown (g := gb392) (o := .cells #[.int .i64 t387, u393001] 26 (0, 0)) (blk_g BK392.out) hg (Kd.R_ne HO411.out BK392.out (by decide)))
          replace BK405 := mkA (blk_grown (g := gb405) (o := .cells #[.int .i64 t400, u406001] 26 (0, 0)) (blk_g BK405.out) hg (Kd.R_ne HO411.out BK405.out (by decide)))
          replace BK415 := mkA (blk_grown (g := gb415) (o := .cells #[.int .i64 0, .slice none 0 0] 26 (0, 0)) (blk_g BK415.out) hg (Kd.R_ne HO411.out BK415.out (by decide)))
          have HO414 := mkA (ho)
          replace HB := mkA (hb)
          clear HO411
          clear ho hb hg hat
          obtain ⟨Ao326, co326, eo326⟩ := Kd.R_slice HO414.out
          (first | subst eo326 | (injection eo326 with f1_ f2_ f3_; have f4_ := f1_.symm; have f5_ := f3_.symm; clear f1_ f2_ f3_; subst f4_; subst f5_))
          refine hK.out _ _ ⟨(blk_cell BK378.out 0).trans rfl, (blk_cell BK378.out 1).trans rfl⟩ (fun hHeld => ?_)
          clear hK K
          refine normW 167 ?_
          refine purW 6 168 9 255 HT_ ?_
          exact norm_ (by simp only [putAll, Act.put, List.setIfInBounds_toArray, List.set_cons_zero, List.set_cons_succ]) (hCont (v410, .slice Ao326 y412.length co326, gb415) _ ⟨hHeld, (Kd.R_g HO414.out), (Kd.R_g (rM2 HO_360001.out)), (Kd.R_g (rM2 HO_366001.out)), (Kd.R_g (rM2 HO_372001.out)), (Kd.R_g (rM2 HO_379001.out)), (Kd.R_g (rM2 HO_385001.out)), (Kd.R_g (rM2 HO_393001.out)), (Kd.R_g (rM2 HO_406001.out)), (blk_g BK359.out), (blk_g BK365.out), (blk_g BK371.out), (blk_g BK378.out), (blk_g BK384.out), (blk_g BK392.out), (blk_g BK405.out), (blk_g BK415.out), GW415.out, GE415.out, NB359_415.out, NB415_359.out, NB365_415.out, NB415_365.out, NB371_415.out, NB415_371.out, NB378_415.out, NB415_378.out, NB384_415.out, NB415_384.out, NB392_415.out, NB415_392.out, NB405_415.out, NB415_405.out, (bel_g HB.out)⟩)
        ·skip
         refine box_step ?hg (N := 23) ?hd (cs := #[.int .i64 0, .slice none 0 0]) (t := 26) ?hr ?_; (case hd => rfl); (case hg => rfl); (case hr => first | (go_simp; done) | (go_simp; rfl))
         intro gb415 hg w322 hbox hb
         replace HO_360001 := rB HO_360001 hb
         replace HO_366001 := rB HO_366001 hb
         replace HO_372001 := rB HO_372001 hb
         replace HO_379001 := rB HO_379001 hb
         replace HO_385001 := rB HO_385001 hb
         replace HO_393001 := rB HO_393001 hb
         replace HO_406001 := rB HO_406001 hb
         have BK415 := mkA (hbox)
         have GW415 := geB HB hg
         have GE415 := geB HB hg
         have NB359_415 := neL7 BK359 hg
         have NB415_359 := neR7 BK359 hg
         replace BK359 := blkB BK359 hb
         have NB365_415 := neL7 BK365 hg
         have NB415_365 := neR7 BK365 hg
         replace BK365 := blkB BK365 hb
         have NB371_415 := neL7 BK371 hg
         have NB415_371 := neR7 BK371 hg
         replace BK371 := blkB BK371 hb
         have NB378_415 := neL7 BK378 hg
         have NB415_378 := neR7 BK378 hg
         replace BK378 := blkB BK378 hb
         have NB384_415 := neL7 BK384 hg
         have NB415_384 := neR7 BK384 hg
         replace BK384 := blkB BK384 hb
         have NB392_415 := neL7 BK392 hg
         have NB415_392 := neR7 BK392 hg
         replace BK392 := blkB BK392 hb
         have NB405_415 := neL7 BK405 hg
         have NB415_405 := neR7 BK405 hg
         replace BK405 := blkB BK405 hb
         replace HB := bst HB hb
         clear hb hbox hg
         refine hK.out _ _ ⟨(blk_cell BK378.out 0).trans rfl, (blk_cell BK378.out 1).trans rfl⟩ (fun hHeld => ?_)
         clear hK K
         refine normW 23 ?_
         refine oneW 2 (some 164) (bm 9 159) HT_ (fun K hK => ?_)
         refine Kd.R_lit_step (Kd.int .i64) _ 3 ?hg (N := 164) ?hd (xs := ([] : List Int)) (inner := []) (ok := fun _ => True) (okp := fun _ => True) ?hr ?hp (fun _ hk => hk) trivial (Below.refl _ _) (Nat.le_refl _) (by simp) ?_; (case hd => rfl); (case hg => rfl); (case hr => first | (go_simp; done) | (go_simp; rfl)); (case hp => exact (Reps.none _ _))
         intro v410 w323 ho324 hb hg_ hnew_
         clear hg_ hnew_
         (first | rw [← Ny409.out] at ho324 | (simp only [Int.reduceToNat] at ho324; rw [← Ny409.out] at ho324))
         have HO411 := rLo (rN (rN (rN (rN (rN (rN (rN ho324 HO_360001) HO_366001) HO_372001) HO_379001) HO_385001) HO_393001) HO_406001) HB
         replace HO_360001 := rE HO_360001 ho324 hb
         replace HO_366001 := rE HO_366001 ho324 hb
         replace HO_372001 := rE HO_372001 ho324 hb
         replace HO_379001 := rE HO_379001 ho324 hb
         replace HO_385001 := rE HO_385001 ho324 hb
         replace HO_393001 := rE HO_393001 ho324 hb
         replace HO_406001 := rE HO_406001 ho324 hb
         replace BK359 := blkB BK359 hb
         replace BK365 := blkB BK365 hb
         replace BK371 := blkB BK371 hb
         replace BK378 := blkB BK378 hb
         replace BK384 := blkB BK384 hb
         replace BK392 := blkB BK392 hb
         replace BK405 := blkB BK405 hb
         replace BK415 := blkB BK415 hb
         replace HB := bst HB hb
         clear hb ho324
         refine hK.out _ _ ⟨(blk_cell BK378.out 0).trans rfl, (blk_cell BK378.out 1).trans rfl⟩ (fun hHeld => ?_)
         clear hK K
         refine normW 164 ?_
         refine oneW 5 (some 167) (bm 9 191) HT_ (fun K hK => ?_)
         refine Kd.R_append_rows_step (Kd.int .i64) (w0 := w) w.heap.size (by rfl) (.tmp 164) (.tmp 166) 24 3 (.int .i64 0) 8 rfl Tryd.underlying24 info3 rfl (by decide) (by omega) v410 y409 x379001_7 _ _ _ (O7 u360001 u366001 u372001 (.slice (some ad407) x379001_7.length co320) u385001 u393001 u406001) (fun _ => False) rfl rfl ?aO ?aR (fun _ _ h => h) (fun _ h => h.elim) ?aF ?aB ?aS ?aL ?_
         (case aR => repeat (first | exact (Kd.R_reads' HO_379001.out).2.2 | (with_reducible refine Kd.C_alloc ?_ _) | (with_reducible refine Kd.C_drewN ?_ _) | (with_reducible refine Kd.C_drew ?_)))
         (case aB => exact (bel_g HB.out))
         (case aF => exact (fun k_ hk => ⟨Kd.fresh' (Kd.R_lt (Kd.R_g HO_360001.out)) k_ hk, Kd.fresh' (Kd.R_lt (Kd.R_g HO_366001.out)) k_ hk, Kd.fresh' (Kd.R_lt (Kd.R_g HO_372001.out)) k_ hk, Kd.fresh' (Kd.R_lt (Kd.R_g HO_379001.out)) k_ hk, Kd.fresh' (Kd.R_lt (Kd.R_g HO_385001.out)) k_ hk, Kd.fresh' (Kd.R_lt (Kd.R_g HO_393001.out)) k_ hk, Kd.fresh' (Kd.R_lt (Kd.R_g HO_406001.out)) k_ hk⟩))
         (case aO => exact (Kd.R_g (rM2 HO411.out)))
         (case aS => exact (below_size (bel_g HB.out)))
         (case aL => have := LMc261.out; omega)
         intro v413 w325 ho hb hg hat
         rw [← Ny412.out] at ho
         replace HO_360001 := mkA (Kd.R_after (ok := (O6 u366001 u372001 (.slice (some ad407) x379001_7.length co320) u385001 u393001 u406001)) (Kd.R_g HO_360001.out) hg hat)
         replace HO_366001 := mkA (Kd.R_after (ok := (O6 u360001 u372001 (.slice (some ad407) x379001_7.length co320) u385001 u393001 u406001)) (Kd.R_g HO_366001.out) hg hat)
         replace HO_372001 := mkA (Kd.R_after (ok := (O6 u360001 u366001 (.slice (some ad407) x379001_7.length co320) u385001 u393001 u406001)) (Kd.R_g HO_372001.out) hg hat)
         replace HO_379001 := mkA (Kd.R_after (ok := (O6 u360001 u366001 u372001 u385001 u393001 u406001)) (Kd.R_g HO_379001.out) hg hat)
         replace HO_385001 := mkA (Kd.R_after (ok := (O6 u360001 u366001 u372001 (.slice (some ad407) x379001_7.length co320) u393001 u406001)) (Kd.R_g HO_385001.out) hg hat)
         replace HO_393001 := mkA (Kd.R_after (ok := (O6 u360001 u366001 u372001 (.slice (some ad407) x379001_7.length co320) u385001 u406001)) (Kd.R_g HO_393001.out) hg hat)
         replace HO_406001 := mkA (Kd.R_after (ok := (O6 u360001 u366001 u372001 (.slice (some ad407) x379001_7.length co320) u385001 u393001)) (Kd.R_g HO_406001.out) hg hat)
         replace BK359 := mkA (blk_grown (g := gb359) (o := .cells #[.int .i64 t355, u360001] 26 (0, 0)) (blk_g BK359.out) hg (Kd.R_ne HO411.out BK359.out (by decide)))
         replace BK365 := mkA (blk_grown (g := gb365) (o := .cells #[.int .i64 t360, u366001] 26 (0, 0)) (blk_g BK365.out) hg (Kd.R_ne HO411.out BK365.out (by decide)))
         replace BK371 := mkA (blk_grown (g := gb371) (o := .cells #[.int .i64 t366, u372001] 26 (0, 0)) (blk_g BK371.out) hg (Kd.R_ne HO411.out BK371.out (by decide)))
         replace BK378 := mkA (blk_grown (g := gb378) (o := .cells #[.int .i64 t373, .slice (some ad407) x379001_7.length co320] 26 (0, 0)) (blk_g BK378.out) hg (Kd.R_ne HO411.out BK378.out (by decide)))
         replace BK384 := mkA (blk_grown (g := gb384) (o := .cells #[.int .i64 t379, u385001] 26 (0, 0)) (blk_g BK384.out) hg (Kd.R_ne HO411.out BK384.out (by decide)))
         replace BK392 := mkA (blk_grown (g := gb392) (o := .cells #[.int .i64 t387, u393001] 26 (0, 0)) (blk_g BK392.out) hg (Kd.R_ne HO411.out BK392.out (by decide)))
         replace BK405 := mkA (blk_grown (g := gb405) (o := .cells #[.int .i64 t400, u406001] 26 (0, 0)) (blk_g BK405.out) hg (Kd.R_ne HO411.out BK405.out (by decide)))
         replace BK415 := mkA (blk_grown (g := gb415) (o := .cells #[.int .i64 0, .slice none 0 0] 26 (0, 0)) (blk_g BK415.out) hg (Kd.R_ne HO411.out BK415.out (by decide)))
         have HO414 := mkA (ho)
         replace HB := mkA (hb)
         clear HO411
         clear ho hb hg hat
         obtain ⟨Ao326, co326, eo326⟩ := Kd.R_slice HO414.out
         (first | subst eo326 | (injection eo326 with f1_ f2_ f3_; have f4_ := f1_.symm; have f5_ := f3_.symm; clear f1_ f2_ f3_; subst f4_; subst f5_))
         refine hK.out _ _ ⟨(blk_cell BK378.out 0).trans rfl, (blk_cell BK378.out 1).trans rfl⟩ (fun hHeld => ?_)
         clear hK K
         refine normW 167 ?_
         refine purW 6 168 9 255 HT_ ?_
         exact norm_ (by simp only [putAll, Act.put, List.setIfInBounds_toArray, List.set_cons_zero, List.set_cons_succ]) (hCont (v410, .slice Ao326 y412.length co326, gb415) _ ⟨hHeld, (Kd.R_g HO414.out), (Kd.R_g (rM2 HO_360001.out)), (Kd.R_g (rM2 HO_366001.out)), (Kd.R_g (rM2 HO_372001.out)), (Kd.R_g (rM2 HO_379001.out)), (Kd.R_g (rM2 HO_385001.out)), (Kd.R_g (rM2 HO_393001.out)), (Kd.R_g (rM2 HO_406001.out)), (blk_g BK359.out), (blk_g BK365.out), (blk_g BK371.out), (blk_g BK378.out), (blk_g BK384.out), (blk_g BK392.out), (blk_g BK405.out), (blk_g BK415.out), GW415.out, GE415.out, NB359_415.out, NB415_359.out, NB365_415.out, NB415_365.out, NB371_415.out, NB415_371.out, NB378_415.out, NB415_378.out, NB384_415.out, NB415_384.out, NB392_415.out, NB415_392.out, NB405_415.out, NB415_405.out, (bel_g HB.out)⟩)
       rintro ⟨v410, v413, gb415⟩ w327 ⟨hS_, h0_, h1_, h2_, h3_, h4_, h5_, h6_, h7_, h8_, h9_, h10_, h11_, h12_, h13_, h14_, h15_, h16_, h17_, h18_, h19_, h20_, h21_, h22_, h23_, h24_, h25_, h26_, h27_, h28_, h29_, h30_, h31_, h32_⟩
       have n0_ : Fc (Kd.R (Kd.int .i64) 3 w327 w.heap.size (O7 u360001 u366001 u372001 (.slice (some ad407) x379001_7.length co320) u385001 u393001 u406001) v413 y412) := ⟨h0_⟩
       have n1_ : Fc (Kd.R (Kd.int .i64) 3 w327 w.heap.size (O7 v413 u366001 u372001 (.slice (some ad407) x379001_7.length co320) u385001 u393001 u406001) u360001 x360001_7) := ⟨h1_⟩
       have n2_ : Fc (Kd.R (Kd.int .i64) 3 w327 w.heap.size (O7 v413 u360001 u372001 (.slice (some ad407) x379001_7.length co320) u385001 u393001 u406001) u366001 x366001_7) := ⟨h2_⟩
       have n3_ : Fc (Kd.R (Kd.int .i64) 3 w327 w.heap.size (O7 v413 u360001 u366001 (.slice (some ad407) x379001_7.length co320) u385001 u393001 u406001) u372001 x372001_7) := ⟨h3_⟩
       have n4_ : Fc (Kd.R (Kd.int .i64) 3 w327 w.heap.size (O7 v413 u360001 u366001 u372001 u385001 u393001 u406001) (.slice (some ad407) x379001_7.length co320) x379001_7) := ⟨h4_⟩
       have n5_ : Fc (Kd.R (Kd.int .i64) 3 w327 w.heap.size (O7 v413 u360001 u366001 u372001 (.slice (some ad407) x379001_7.length co320) u393001 u406001) u385001 x385001_7) := ⟨h5_⟩
       have n6_ : Fc (Kd.R (Kd.int .i64) 3 w327 w.heap.size (O7 v413 u360001 u366001 u372001 (.slice (some ad407) x379001_7.length co320) u385001 u406001) u393001 x393001_7) := ⟨h6_⟩
       have n7_ : Fc (Kd.R (Kd.int .i64) 3 w327 w.heap.size (O7 v413 u360001 u366001 u372001 (.slice (some ad407) x379001_7.length co320) u385001 u393001) u406001 x406001_7) := ⟨h7_⟩
       have n8_ : Fc (w327.heap[gb359]? = some (.cells #[.int .i64 t355, u360001] 26 (0, 0))) := ⟨h8_⟩
       have n9_ : Fc (w327.heap[gb365]? = some (.cells #[.int .i64 t360, u366001] 26 (0, 0))) := ⟨h9_⟩
       have n10_ : Fc (w327.heap[gb371]? = some (.cells #[.int .i64 t366, u372001] 26 (0, 0))) := ⟨h10_⟩
       have n11_ : Fc (w327.heap[gb378]? = some (.cells #[.int .i64 t373, .slice (some ad407) x379001_7.length co320] 26 (0, 0))) := ⟨h11_⟩
       have n12_ : Fc (w327.heap[gb384]? = some (.cells #[.int .i64 t379, u385001] 26 (0, 0))) := ⟨h12_⟩
       have n13_ : Fc (w327.heap[gb392]? = some (.cells #[.int .i64 t387, u393001] 26 (0, 0))) := ⟨h13_⟩
       have n14_ : Fc (w327.heap[gb405]? = some (.cells #[.int .i64 t400, u406001] 26 (0, 0))) := ⟨h14_⟩
       have n15_ : Fc (w327.heap[gb415]? = some (.cells #[.int .i64 0, .slice none 0 0] 26 (0, 0))) := ⟨h15_⟩
       have n16_ : Ge w.heap.size gb415 := ⟨h16_⟩
       have n17_ : Ge w.heap.size gb415 := ⟨h17_⟩
       have n18_ : NeB gb359 gb415 := ⟨h18_⟩
       have n19_ : NeB gb415 gb359 := ⟨h19_⟩
       have n20_ : NeB gb365 gb415 := ⟨h20_⟩
       have n21_ : NeB gb415 gb365 := ⟨h21_⟩
       have n22_ : NeB gb371 gb415 := ⟨h22_⟩
       have n23_ : NeB gb415 gb371 := ⟨h23_⟩
       have n24_ : NeB gb378 gb415 := ⟨h24_⟩
       have n25_ : NeB gb415 gb378 := ⟨h25_⟩
       have n26_ : NeB gb384 gb415 := ⟨h26_⟩
       have n27_ : NeB gb415 gb384 := ⟨h27_⟩
       have n28_ : NeB gb392 gb415 := ⟨h28_⟩
       have n29_ : NeB gb415 gb392 := ⟨h29_⟩
       have n30_ : NeB gb405 gb415 := ⟨h30_⟩
       have n31_ : NeB gb415 gb405 := ⟨h31_⟩
       have n32_ : Fc (Below w.heap.size w w327) := ⟨h32_⟩
       clear HO_360001
       clear HO_366001
       clear HO_372001
       clear HO_379001
       clear HO_385001
       clear HO_393001
       clear HO_406001
       clear BK359
       clear BK365
       clear BK371
       clear BK378
       clear BK384
       clear BK392
       clear BK405
       clear HB
       clear h0_ h1_ h2_ h3_ h4_ h5_ h6_ h7_ h8_ h9_ h10_ h11_ h12_ h13_ h14_ h15_ h16_ h17_ h18_ h19_ h20_ h21_ h22_ h23_ h24_ h25_ h26_ h27_ h28_ h29_ h30_ h31_ h32_
       have HO414 := n0_
       have HO_360001 := n1_
       have HO_366001 := n2_
       have HO_372001 := n3_
       have HO_379001 := n4_
       have HO_385001 := n5_
       have HO_393001 := n6_
       have HO_406001 := n7_
       have BK359 := n8_
       have BK365 := n9_
       have BK371 := n10_
       have BK378 := n11_
       have BK384 := n12_
       have BK392 := n13_
       have BK405 := n14_
       have BK415 := n15_
       have GW415 := n16_
       have GE415 := n17_
       have NB359_415 := n18_
       have NB415_359 := n19_
       have NB365_415 := n20_
       have NB415_365 := n21_
       have NB371_415 := n22_
       have NB415_371 := n23_
       have NB378_415 := n24_
       have NB415_378 := n25_
       have NB384_415 := n26_
       have NB415_384 := n27_
       have NB392_415 := n28_
       have NB415_392 := n29_
       have NB405_415 := n30_
       have NB415_405 := n31_
       have HB := n32_
       clear n0_ n1_ n2_ n3_ n4_ n5_ n6_ n7_ n8_ n9_ n10_ n11_ n12_ n13_ n14_ n15_ n16_ n17_ n18_ n19_ n20_ n21_ n22_ n23_ n24_ n25_ n26_ n27_ n28_ n29_ n30_ n31_ n32_
       have hHeld : w327.cell? ⟨gb378, 0, none⟩ = some (.int .i64 t373) ∧ w327.cell? ⟨gb378, 1, none⟩ = some (.slice (some ad407) x379001_7.length co320) := hS_
       obtain ⟨Ao328, co328, eo328⟩ := Kd.R_slice HO414.out
       (first | subst eo328 | (injection eo328 with f1_ f2_ f3_; have f4_ := f1_.symm; have f5_ := f3_.symm; clear f1_ f2_ f3_; subst f4_; subst f5_))
       refine norm_ (a' := ?_) ?_ ?_
       rotate_left
       ·simp only [putAll, Act.put, List.setIfInBounds_toArray, List.set_cons_zero, List.set_cons_succ]
        rfl
       refine oneW 8 (none) (bm 9 511) HT_ (fun K hK => ?_)
       obtain ⟨_, _, _, _⟩ := blk2 BK415
       refine skip_ (w1 := ?_) (by rfl) rfl ?_ ?_
       rotate_left
       ·go_simp
        rfl
       refine hK.out _ _ ⟨(cF (cF hHeld.1)), (cF (cF hHeld.2))⟩ (fun hHeld => ?_)
       clear hK K
       refine doneW HT_ ?_
       try go_wp2
       have n0_ : Fc (Kd.R (Kd.int .i64) 3 ((w327.setCell ⟨gb415, 0, none⟩ (.int .i64 t373)).setCell ⟨gb415, 1, none⟩ (.slice Ao328 y412.length co328)) w.heap.size (O7 u366001 u372001 (.slice (some ad407) x379001_7.length co320) u385001 u393001 u406001 (.slice Ao328 y412.length co328)) u360001 x360001_7) := ⟨Kd.R_g (rM2 (Kd.R_far (p := ⟨gb415, 1, none⟩) (Kd.R_far (p := ⟨gb415, 0, none⟩) (Kd.R_types HO_360001.out BK415.out (by decide)) (fun _ hk => hk.2) (.int .i64 t373)) (fun _ hk => hk.2) (.slice Ao328 y412.length co328)))⟩
       have n1_ : Fc (Kd.R (Kd.int .i64) 3 ((w327.setCell ⟨gb415, 0, none⟩ (.int .i64 t373)).setCell ⟨gb415, 1, none⟩ (.slice Ao328 y412.length co328)) w.heap.size (O7 u360001 u372001 (.slice (some ad407) x379001_7.length co320) u385001 u393001 u406001 (.slice Ao328 y412.length co328)) u366001 x366001_7) := ⟨Kd.R_g (rM2 (Kd.R_far (p := ⟨gb415, 1, none⟩) (Kd.R_far (p := ⟨gb415, 0, none⟩) (Kd.R_types HO_366001.out BK415.out (by decide)) (fun _ hk => hk.2) (.int .i64 t373)) (fun _ hk => hk.2) (.slice Ao328 y412.length co328)))⟩
       have n2_ : Fc (Kd.R (Kd.int .i64) 3 ((w327.setCell ⟨gb415, 0, none⟩ (.int .i64 t373)).setCell ⟨gb415, 1, none⟩ (.slice Ao328 y412.length co328)) w.heap.size (O7 u360001 u366001 (.slice (some ad407) x379001_7.length co320) u385001 u393001 u406001 (.slice Ao328 y412.length co328)) u372001 x372001_7) := ⟨Kd.R_g (rM2 (Kd.R_far (p := ⟨gb415, 1, none⟩) (Kd.R_far (p := ⟨gb415, 0, none⟩) (Kd.R_types HO_372001.out BK415.out (by decide)) (fun _ hk => hk.2) (.int .i64 t373)) (fun _ hk => hk.2) (.slice Ao328 y412.length co328)))⟩
       have n3_ : Fc (Kd.R (Kd.int .i64) 3 ((w327.setCell ⟨gb415, 0, none⟩ (.int .i64 t373)).setCell ⟨gb415, 1, none⟩ (.slice Ao328 y412.length co328)) w.heap.size (O7 u360001 u366001 u372001 u385001 u393001 u406001 (.slice Ao328 y412.length co328)) (.slice (some ad407) x379001_7.length co320) x379001_7) := ⟨Kd.R_g (rM2 (Kd.R_far (p := ⟨gb415, 1, none⟩) (Kd.R_far (p := ⟨gb415, 0, none⟩) (Kd.R_types HO_379001.out BK415.out (by decide)) (fun _ hk => hk.2) (.int .i64 t373)) (fun _ hk => hk.2) (.slice Ao328 y412.length co328)))⟩
       have n4_ : Fc (Kd.R (Kd.int .i64) 3 ((w327.setCell ⟨gb415, 0, none⟩ (.int .i64 t373)).setCell ⟨gb415, 1, none⟩ (.slice Ao328 y412.length co328)) w.heap.size (O7 u360001 u366001 u372001 (.slice (some ad407) x379001_7.length co320) u393001 u406001 (.slice Ao328 y412.length co328)) u385001 x385001_7) := ⟨Kd.R_g (rM2 (Kd.R_far (p := ⟨gb415, 1, none⟩) (Kd.R_far (p := ⟨gb415, 0, none⟩) (Kd.R_types HO_385001.out BK415.out (by decide)) (fun _ hk => hk.2) (.int .i64 t373)) (fun _ hk => hk.2) (.slice Ao328 y412.length co328)))⟩
       have n5_ : Fc (Kd.R (Kd.int .i64) 3 ((w327.setCell ⟨gb415, 0, none⟩ (.int .i64 t373)).setCell ⟨gb415, 1, none⟩ (.slice Ao328 y412.length co328)) w.heap.size (O7 u360001 u366001 u372001 (.slice (some ad407) x379001_7.length co320) u385001 u406001 (.slice Ao328 y412.length co328)) u393001 x393001_7) := ⟨Kd.R_g (rM2 (Kd.R_far (p := ⟨gb415, 1, none⟩) (Kd.R_far (p := ⟨gb415, 0, none⟩) (Kd.R_types HO_393001.out BK415.out (by decide)) (fun _ hk => hk.2) (.int .i64 t373)) (fun _ hk => hk.2) (.slice Ao328 y412.length co328)))⟩
       have n6_ : Fc (Kd.R (Kd.int .i64) 3 ((w327.setCell ⟨gb415, 0, none⟩ (.int .i64 t373)).setCell ⟨gb415, 1, none⟩ (.slice Ao328 y412.length co328)) w.heap.size (O7 u360001 u366001 u372001 (.slice (some ad407) x379001_7.length co320) u385001 u393001 (.slice Ao328 y412.length co328)) u406001 x406001_7) := ⟨Kd.R_g (rM2 (Kd.R_far (p := ⟨gb415, 1, none⟩) (Kd.R_far (p := ⟨gb415, 0, none⟩) (Kd.R_types HO_406001.out BK415.out (by decide)) (fun _ hk => hk.2) (.int .i64 t373)) (fun _ hk => hk.2) (.slice Ao328 y412.length co328)))⟩
       have n7_ : Fc (Kd.R (Kd.int .i64) 3 ((w327.setCell ⟨gb415, 0, none⟩ (.int .i64 t373)).setCell ⟨gb415, 1, none⟩ (.slice Ao328 y412.length co328)) w.heap.size (O7 u360001 u366001 u372001 (.slice (some ad407) x379001_7.length co320) u385001 u393001 u406001) (.slice Ao328 y412.length co328) y412) := ⟨Kd.R_g (rM2 (Kd.R_far (p := ⟨gb415, 1, none⟩) (Kd.R_far (p := ⟨gb415, 0, none⟩) (Kd.R_types HO414.out BK415.out (by decide)) (fun _ hk => hk.2) (.int .i64 t373)) (fun _ hk => hk.2) (.slice Ao328 y412.length co328)))⟩
       have n8_ : Fc (((w327.setCell ⟨gb415, 0, none⟩ (.int .i64 t373)).setCell ⟨gb415, 1, none⟩ (.slice Ao328 y412.length co328)).heap[gb359]? = some (.cells #[.int .i64 t355, u360001] 26 (0, 0))) := ⟨blkT BK359⟩
       have n9_ : Fc (((w327.setCell ⟨gb415, 0, none⟩ (.int .i64 t373)).setCell ⟨gb415, 1, none⟩ (.slice Ao328 y412.length co328)).heap[gb365]? = some (.cells #[.int .i64 t360, u366001] 26 (0, 0))) := ⟨blkT BK365⟩
       have n10_ : Fc (((w327.setCell ⟨gb415, 0, none⟩ (.int .i64 t373)).setCell ⟨gb415, 1, none⟩ (.slice Ao328 y412.length co328)).heap[gb371]? = some (.cells #[.int .i64 t366, u372001] 26 (0, 0))) := ⟨blkT BK371⟩
       have n11_ : Fc (((w327.setCell ⟨gb415, 0, none⟩ (.int .i64 t373)).setCell ⟨gb415, 1, none⟩ (.slice Ao328 y412.length co328)).heap[gb378]? = some (.cells #[.int .i64 t373, .slice (some ad407) x379001_7.length co320] 26 (0, 0))) := ⟨blkT BK378⟩
       have n12_ : Fc (((w327.setCell ⟨gb415, 0, none⟩ (.int .i64 t373)).setCell ⟨gb415, 1, none⟩ (.slice Ao328 y412.length co328)).heap[gb384]? = some (.cells #[.int .i64 t379, u385001] 26 (0, 0))) := ⟨blkT BK384⟩
       have n13_ : Fc (((w327.setCell ⟨gb415, 0, none⟩ (.int .i64 t373)).setCell ⟨gb415, 1, none⟩ (.slice Ao328 y412.length co328)).heap[gb392]? = some (.cells #[.int .i64 t387, u393001] 26 (0, 0))) := ⟨blkT BK392⟩
       have n14_ : Fc (((w327.setCell ⟨gb415, 0, none⟩ (.int .i64 t373)).setCell ⟨gb415, 1, none⟩ (.slice Ao328 y412.length co328)).heap[gb405]? = some (.cells #[.int .i64 t400, u406001] 26 (0, 0))) := ⟨blkT BK405⟩
       have n15_ : Fc (((w327.setCell ⟨gb415, 0, none⟩ (.int .i64 t373)).setCell ⟨gb415, 1, none⟩ (.slice Ao328 y412.length co328)).heap[gb415]? = some (.cells #[.int .i64 t373, .slice Ao328 y412.length co328] 26 (0, 0))) := ⟨blkT BK415⟩
       have n16_ : Fc (Below w.heap.size w ((w327.setCell ⟨gb415, 0, none⟩ (.int .i64 t373)).setCell ⟨gb415, 1, none⟩ (.slice Ao328 y412.length co328))) := ⟨bel_g HB.out⟩
       (try clear HO_360001)
       (try clear HO_366001)
       (try clear HO_372001)
       (try clear HO_379001)
       (try clear HO_385001)
       (try clear HO_393001)
       (try clear HO_406001)
       (try clear HO414)
       (try clear BK359)
       (try clear BK365)
       (try clear BK371)
       (try clear BK378)
       (try clear BK384)
       (try clear BK392)
       (try clear BK405)
       (try clear BK415)
       (try clear HB)
       generalize ((w327.setCell ⟨gb415, 0, none⟩ (.int .i64 t373)).setCell ⟨gb415, 1, none⟩ (.slice Ao328 y412.length co328)) = w331 at n0_ n1_ n2_ n3_ n4_ n5_ n6_ n7_ n8_ n9_ n10_ n11_ n12_ n13_ n14_ n15_ n16_ ⊢
       have HO_360001 := n0_
       have HO_366001 := n1_
       have HO_372001 := n2_
       have HO_379001 := n3_
       have HO_385001 := n4_
       have HO_393001 := n5_
       have HO_406001 := n6_
       have HO414 := n7_
       have BK359 := n8_
       have BK365 := n9_
       have BK371 := n10_
       have BK378 := n11_
       have BK384 := n12_
       have BK392 := n13_
       have BK405 := n14_
       have BK415 := n15_
       have HB := n16_
       clear n0_ n1_ n2_ n3_ n4_ n5_ n6_ n7_ n8_ n9_ n10_ n11_ n12_ n13_ n14_ n15_ n16_
       replace HO_360001 := mkA (Kd.R_drew HO_360001.out)
       replace HO_366001 := mkA (Kd.R_drew HO_366001.out)
       replace HO_372001 := mkA (Kd.R_drew HO_372001.out)
       replace HO_379001 := mkA (Kd.R_drew HO_379001.out)
       replace HO_385001 := mkA (Kd.R_drew HO_385001.out)
       replace HO_393001 := mkA (Kd.R_drew HO_393001.out)
       replace HO_406001 := mkA (Kd.R_drew HO_406001.out)
       replace HO414 := mkA (Kd.R_drew HO414.out)
       replace BK359 := mkA (blk_drew BK359.out)
       replace BK365 := mkA (blk_drew BK365.out)
       replace BK371 := mkA (blk_drew BK371.out)
       replace BK378 := mkA (blk_drew BK378.out)
       replace BK384 := mkA (blk_drew BK384.out)
       replace BK392 := mkA (blk_drew BK392.out)
       replace BK405 := mkA (blk_drew BK405.out)
       replace BK415 := mkA (blk_drew BK415.out)
       replace HB := mkA (below_drew1 HB.out)
       obtain ⟨p416, q416, ad416, e416, hx416_0⟩ := atI (Kd.R_reads' HO414.out).2.2 x145_6
       cases e416
       have p265 : 0 ≤ (x145_6 : Int) := ofd
       have q265 : (x145_6 : Int) < ((y412.length : Int) : Int) := ofd
       obtain ⟨go265, co265, eo265, gb265, gl265, cl265, HG265⟩ := Kd.R_form HO414.out (by omega)
       (first | cases eo265 | (injection eo265 with ea_ en_ ec_; (first | subst ea_ | (injection ea_ with ea_; subst ea_)); subst ec_; clear en_))
       have GB265 : Ge _ _ := ⟨gb265⟩
       have GG265 := mkA HG265
       clear gb265 gl265 HG265
       (first | simp only [add_plain] at hx416_0 | skip)
       obtain ⟨hx265_0, hf265_0⟩ := Kd.R_celln 0 HO414.out (x145_6 : Int) p265 q265
       replace p265 := eq_true p265
       replace q265 := eq_true q265
       have HP333 := Kd.R_putn HO414.out (x145_6 : Int) (wrap64 ((rd y412 x145_6) - (ji264)))
       rw [← Ny417.out] at HP333
       have HQ333 := mkA HP333
       clear HP333
       refine start_ (n := 10) (S := fun w' => w'.cell? ⟨gb415, 0, none⟩ = some (.int .i64 t373) ∧ w'.cell? ⟨gb415, 1, none⟩ = some (.slice (some ⟨go265, 0, none⟩) y412.length co328) ∧ w'.cell? ⟨go265, (x145_6).toNat, none⟩ = some (.int .i64 (rd y412 x145_6))) (ds := [9]) (bm 10 0) (by kernel_rfl) rfl rfl ⟨(blk_cell BK415.out 0).trans rfl, (blk_cell BK415.out 1).trans rfl, hx416_0⟩ (fun hHeld => ?_); refine with_tabW laws_FnClosures.tab40 laws_FnClosures.bits40 (fun HT_ HW_ => ?_)
       generalize w331.drew = w332 at HO_360001 HO_366001 HO_372001 HO_379001 HO_385001 HO_393001 HO_406001 HO414 BK359 BK365 BK371 BK378 BK384 BK392 BK405 BK415 HB GG265 HQ333 hf265_0 hx265_0 hx416_0 hHeld ⊢
       refine purW 0 169 10 1 HT_ ?_
       refine purW 2 171 10 5 HT_ ?_
       refine purW 5 174 10 37 HT_ ?_
       refine purW 6 175 10 101 HT_ ?_
       refine takeW 1 (some 170) (bm 10 103) HT_ HW_ hHeld ?_
       refine purW 3 172 10 111 HT_ ?_
       refine takeW 4 (some 173) (bm 10 127) HT_ HW_ hHeld ?_
       refine purW 7 176 10 255 HT_ ?_
       refine purW 8 177 10 511 HT_ ?_
       refine last_ (i := 9) (N := none) (bm 10 1023) rfl rfl (one_of HT_.out (by kernel_rfl)) (by decide) (fun K hK => ?_)
       refine skip_ (w1 := ?_) (by rfl) rfl ?_ ?_
       rotate_left
       ·go_simp
        rfl
       refine hK.out _ _ ?_
       clear hK K
       refine doneW HT_ ?_
       have n0_ : Fc (Kd.R (Kd.int .i64) 3 (w332.setCell ⟨go265, (x145_6 : Int).toNat, none⟩ (.int .i64 (wrap64 ((rd y412 x145_6) - (ji264))))) w.heap.size (O7 u366001 u372001 (.slice (some ad407) x379001_7.length co320) u385001 u393001 u406001 (.slice (some ⟨go265, 0, none⟩) y412.length co328)) u360001 x360001_7) := ⟨Kd.R_g (rM2 (Kd.R_far (p := ⟨go265, (x145_6 : Int).toNat, none⟩) (Kd.R_mono HO_360001.out (fun k_ hk => (⟨hk, fun e_ => hk.2.2.2.2.2.2 (by rw [e_]; rfl)⟩ : _ ∧ k_ ≠ go265))) (fun _ hk => hk.2) (.int .i64 (wrap64 ((rd y412 x145_6) - (ji264))))))⟩
       have n1_ : Fc (Kd.R (Kd.int .i64) 3 (w332.setCell ⟨go265, (x145_6 : Int).toNat, none⟩ (.int .i64 (wrap64 ((rd y412 x145_6) - (ji264))))) w.heap.size (O7 u360001 u372001 (.slice (some ad407) x379001_7.length co320) u385001 u393001 u406001 (.slice (some ⟨go265, 0, none⟩) y412.length co328)) u366001 x366001_7) := ⟨Kd.R_g (rM2 (Kd.R_far (p := ⟨go265, (x145_6 : Int).toNat, none⟩) (Kd.R_mono HO_366001.out (fun k_ hk => (⟨hk, fun e_ => hk.2.2.2.2.2.2 (by rw [e_]; rfl)⟩ : _ ∧ k_ ≠ go265))) (fun _ hk => hk.2) (.int .i64 (wrap64 ((rd y412 x145_6) - (ji264))))))⟩
       have n2_ : Fc (Kd.R (Kd.int .i64) 3 (w332.setCell ⟨go265, (x145_6 : Int).toNat, none⟩ (.int .i64 (wrap64 ((rd y412 x145_6) - (ji264))))) w.heap.size (O7 u360001 u366001 (.slice (some ad407) x379001_7.length co320) u385001 u393001 u406001 (.slice (some ⟨go265, 0, none⟩) y412.length co328)) u372001 x372001_7) := ⟨Kd.R_g (rM2 (Kd.R_far (p := ⟨go265, (x145_6 : Int).toNat, none⟩) (Kd.R_mono HO_372001.out (fun k_ hk => (⟨hk, fun e_ => hk.2.2.2.2.2.2 (by rw [e_]; rfl)⟩ : _ ∧ k_ ≠ go265))) (fun _ hk => hk.2) (.int .i64 (wrap64 ((rd y412 x145_6) - (ji264))))))⟩
       have n3_ : Fc (Kd.R (Kd.int .i64) 3 (w332.setCell ⟨go265, (x145_6 : Int).toNat, none⟩ (.int .i64 (wrap64 ((rd y412 x145_6) - (ji264))))) w.heap.size (O7 u360001 u366001 u372001 u385001 u393001 u406001 (.slice (some ⟨go265, 0, none⟩) y412.length co328)) (.slice (some ad407) x379001_7.length co320) x379001_7) := ⟨Kd.R_g (rM2 (Kd.R_far (p := ⟨go265, (x145_6 : Int).toNat, none⟩) (Kd.R_mono HO_379001.out (fun k_ hk => (⟨hk, fun e_ => hk.2.2.2.2.2.2 (by rw [e_]; rfl)⟩ : _ ∧ k_ ≠ go265))) (fun _ hk => hk.2) (.int .i64 (wrap64 ((rd y412 x145_6) - (ji264))))))⟩
       have n4_ : Fc (Kd.R (Kd.int .i64) 3 (w332.setCell ⟨go265, (x145_6 : Int).toNat, none⟩ (.int .i64 (wrap64 ((rd y412 x145_6) - (ji264))))) w.heap.size (O7 u360001 u366001 u372001 (.slice (some ad407) x379001_7.length co320) u393001 u406001 (.slice (some ⟨go265, 0, none⟩) y412.length co328)) u385001 x385001_7) := ⟨Kd.R_g (rM2 (Kd.R_far (p := ⟨go265, (x145_6 : Int).toNat, none⟩) (Kd.R_mono HO_385001.out (fun k_ hk => (⟨hk, fun e_ => hk.2.2.2.2.2.2 (by rw [e_]; rfl)⟩ : _ ∧ k_ ≠ go265))) (fun _ hk => hk.2) (.int .i64 (wrap64 ((rd y412 x145_6) - (ji264))))))⟩
       have n5_ : Fc (Kd.R (Kd.int .i64) 3 (w332.setCell ⟨go265, (x145_6 : Int).toNat, none⟩ (.int .i64 (wrap64 ((rd y412 x145_6) - (ji264))))) w.heap.size (O7 u360001 u366001 u372001 (.slice (some ad407) x379001_7.length co320) u385001 u406001 (.slice (some ⟨go265, 0, none⟩) y412.length co328)) u393001 x393001_7) := ⟨Kd.R_g (rM2 (Kd.R_far (p := ⟨go265, (x145_6 : Int).toNat, none⟩) (Kd.R_mono HO_393001.out (fun k_ hk => (⟨hk, fun e_ => hk.2.2.2.2.2.2 (by rw [e_]; rfl)⟩ : _ ∧ k_ ≠ go265))) (fun _ hk => hk.2) (.int .i64 (wrap64 ((rd y412 x145_6) - (ji264))))))⟩
       have n6_ : Fc (Kd.R (Kd.int .i64) 3 (w332.setCell ⟨go265, (x145_6 : Int).toNat, none⟩ (.int .i64 (wrap64 ((rd y412 x145_6) - (ji264))))) w.heap.size (O7 u360001 u366001 u372001 (.slice (some ad407) x379001_7.length co320) u385001 u393001 (.slice (some ⟨go265, 0, none⟩) y412.length co328)) u406001 x406001_7) := ⟨Kd.R_g (rM2 (Kd.R_far (p := ⟨go265, (x145_6 : Int).toNat, none⟩) (Kd.R_mono HO_406001.out (fun k_ hk => (⟨hk, fun e_ => hk.2.2.2.2.2.2 (by rw [e_]; rfl)⟩ : _ ∧ k_ ≠ go265))) (fun _ hk => hk.2) (.int .i64 (wrap64 ((rd y412 x145_6) - (ji264))))))⟩
       have n7_ : Fc (Kd.R (Kd.int .i64) 3 (w332.setCell ⟨go265, (x145_6 : Int).toNat, none⟩ (.int .i64 (wrap64 ((rd y412 x145_6) - (ji264))))) w.heap.size (O7 u360001 u366001 u372001 (.slice (some ad407) x379001_7.length co320) u385001 u393001 u406001) (.slice (some ⟨go265, 0, none⟩) y412.length co328) y417) := ⟨Kd.R_g HQ333.out⟩
       have n8_ : Fc ((w332.setCell ⟨go265, (x145_6 : Int).toNat, none⟩ (.int .i64 (wrap64 ((rd y412 x145_6) - (ji264))))).heap[gb359]? = some (.cells #[.int .i64 t355, u360001] 26 (0, 0))) := ⟨by (with_reducible repeat (first | refine blk_drewN ?_ _ | refine blk_drew ?_ | refine blk_alloc ?_ _)); refine blk_far ?_ (by have h_ := Kd.R_ne HO414.out BK359.out (by decide); intro e_; exact h_ (by rw [e_]; rfl)) _; (with_reducible repeat (first | refine blk_drewN ?_ _ | refine blk_drew ?_ | refine blk_alloc ?_ _)); exact BK359.out⟩
       have n9_ : Fc ((w332.setCell ⟨go265, (x145_6 : Int).toNat, none⟩ (.int .i64 (wrap64 ((rd y412 x145_6) - (ji264))))).heap[gb365]? = some (.cells #[.int .i64 t360, u366001] 26 (0, 0))) := ⟨by (with_reducible repeat (first | refine blk_drewN ?_ _ | refine blk_drew ?_ | refine blk_alloc ?_ _)); refine blk_far ?_ (by have h_ := Kd.R_ne HO414.out BK365.out (by decide); intro e_; exact h_ (by rw [e_]; rfl)) _; (with_reducible repeat (first | refine blk_drewN ?_ _ | refine blk_drew ?_ | refine blk_alloc ?_ _)); exact BK365.out⟩
       have n10_ : Fc ((w332.setCell ⟨go265, (x145_6 : Int).toNat, none⟩ (.int .i64 (wrap64 ((rd y412 x145_6) - (ji264))))).heap[gb371]? = some (.cells #[.int .i64 t366, u372001] 26 (0, 0))) := ⟨by (with_reducible repeat (first | refine blk_drewN ?_ _ | refine blk_drew ?_ | refine blk_alloc ?_ _)); refine blk_far ?_ (by have h_ := Kd.R_ne HO414.out BK371.out (by decide); intro e_; exact h_ (by rw [e_]; rfl)) _; (with_reducible repeat (first | refine blk_drewN ?_ _ | refine blk_drew ?_ | refine blk_alloc ?_ _)); exact BK371.out⟩
       have n11_ : Fc ((w332.setCell ⟨go265, (x145_6 : Int).toNat, none⟩ (.int .i64 (wrap64 ((rd y412 x145_6) - (ji264))))).heap[gb378]? = some (.cells #[.int .i64 t373, .slice (some ad407) x379001_7.length co320] 26 (0, 0))) := ⟨by (with_reducible repeat (first | refine blk_drewN ?_ _ | refine blk_drew ?_ | refine blk_alloc ?_ _)); refine blk_far ?_ (by have h_ := Kd.R_ne HO414.out BK378.out (by decide); intro e_; exact h_ (by rw [e_]; rfl)) _; (with_reducible repeat (first | refine blk_drewN ?_ _ | refine blk_drew ?_ | refine blk_alloc ?_ _)); exact BK378.out⟩
       have n12_ : Fc ((w332.setCell ⟨go265, (x145_6 : Int).toNat, none⟩ (.int .i64 (wrap64 ((rd y412 x145_6) - (ji264))))).heap[gb384]? = some (.cells #[.int .i64 t379, u385001] 26 (0, 0))) := ⟨by (with_reducible repeat (first | refine blk_drewN ?_ _ | refine blk_drew ?_ | refine blk_alloc ?_ _)); refine blk_far ?_ (by have h_ := Kd.R_ne HO414.out BK384.out (by decide); intro e_; exact h_ (by rw [e_]; rfl)) _; (with_reducible repeat (first | refine blk_drewN ?_ _ | refine blk_drew ?_ | refine blk_alloc ?_ _)); exact BK384.out⟩
       have n13_ : Fc ((w332.setCell ⟨go265, (x145_6 : Int).toNat, none⟩ (.int .i64 (wrap64 ((rd y412 x145_6) - (ji264))))).heap[gb392]? = some (.cells #[.int .i64 t387, u393001] 26 (0, 0))) := ⟨by (with_reducible repeat (first | refine blk_drewN ?_ _ | refine blk_drew ?_ | refine blk_alloc ?_ _)); refine blk_far ?_ (by have h_ := Kd.R_ne HO414.out BK392.out (by decide); intro e_; exact h_ (by rw [e_]; rfl)) _; (with_reducible repeat (first | refine blk_drewN ?_ _ | refine blk_drew ?_ | refine blk_alloc ?_ _)); exact BK392.out⟩
       have n14_ : Fc ((w332.setCell ⟨go265, (x145_6 : Int).toNat, none⟩ (.int .i64 (wrap64 ((rd y412 x145_6) - (ji264))))).heap[gb405]? = some (.cells #[.int .i64 t400, u406001] 26 (0, 0))) := ⟨by (with_reducible repeat (first | refine blk_drewN ?_ _ | refine blk_drew ?_ | refine blk_alloc ?_ _)); refine blk_far ?_ (by have h_ := Kd.R_ne HO414.out BK405.out (by decide); intro e_; exact h_ (by rw [e_]; rfl)) _; (with_reducible repeat (first | refine blk_drewN ?_ _ | refine blk_drew ?_ | refine blk_alloc ?_ _)); exact BK405.out⟩
       have n15_ : Fc ((w332.setCell ⟨go265, (x145_6 : Int).toNat, none⟩ (.int .i64 (wrap64 ((rd y412 x145_6) - (ji264))))).heap[gb415]? = some (.cells #[.int .i64 t373, .slice (some ⟨go265, 0, none⟩) y412.length co328] 26 (0, 0))) := ⟨by (with_reducible repeat (first | refine blk_drewN ?_ _ | refine blk_drew ?_ | refine blk_alloc ?_ _)); refine blk_far ?_ (by have h_ := Kd.R_ne HO414.out BK415.out (by decide); intro e_; exact h_ (by rw [e_]; rfl)) _; (with_reducible repeat (first | refine blk_drewN ?_ _ | refine blk_drew ?_ | refine blk_alloc ?_ _)); exact BK415.out⟩
       have n16_ : Fc (Below w.heap.size w (w332.setCell ⟨go265, (x145_6 : Int).toNat, none⟩ (.int .i64 (wrap64 ((rd y412 x145_6) - (ji264)))))) := ⟨bel_g HB.out⟩
       (try clear HO_360001)
       (try clear HO_366001)
       (try clear HO_372001)
       (try clear HO_379001)
       (try clear HO_385001)
       (try clear HO_393001)
       (try clear HO_406001)
       (try clear HO414)
       (try clear BK359)
       (try clear BK365)
       (try clear BK371)
       (try clear BK378)
       (try clear BK384)
       (try clear BK392)
       (try clear BK405)
       (try clear BK415)
       (try clear HB)
       generalize (w332.setCell ⟨go265, (x145_6 : Int).toNat, none⟩ (.int .i64 (wrap64 ((rd y412 x145_6) - (ji264))))) = w334 at n0_ n1_ n2_ n3_ n4_ n5_ n6_ n7_ n8_ n9_ n10_ n11_ n12_ n13_ n14_ n15_ n16_ ⊢
       have HO_360001 := n0_
       have HO_366001 := n1_
       have HO_372001 := n2_
       have HO_379001 := n3_
       have HO_385001 := n4_
       have HO_393001 := n5_
       have HO_406001 := n6_
       have HO414 := n7_
       have BK359 := n8_
       have BK365 := n9_
       have BK371 := n10_
       have BK378 := n11_
       have BK384 := n12_
       have BK392 := n13_
       have BK405 := n14_
       have BK415 := n15_
       have HB := n16_
       clear n0_ n1_ n2_ n3_ n4_ n5_ n6_ n7_ n8_ n9_ n10_ n11_ n12_ n13_ n14_ n15_ n16_
       obtain ⟨_, _, _, _⟩ := blk2 BK415
       try go_wp2_with (first | ((with_reducible refine gate_callee (f := 6) rfl ?_); refine goesL_ (some 180) rfl rfl Tryd.func6 (by kernel_rfl) rfl #[.agg #[.int .i64 t373, .slice (some ⟨go265, 0, none⟩) y417.length co328]] rfl (by (try simp only [List.map_toArray, List.map_cons, List.map_nil]); first | done | (rw [show y417.length = y412.length from (Kd.R_reads' HO414.out).1.symm] <;> rfl) | rfl | (simp only [List.length_drop, List.length_take]; rfl)) ?_; (with_reducible refine (impl_CloseRelation.calls k7 t373 _ _ y417 t418 t419 true _ ?s1 ?s2 A266.out).mono ?_); (case s1 => exact rC HO414); (case s2 => rw [show y417.length = y412.length from (Kd.R_reads' HO414.out).1.symm]; exact rL HO414); rintro e w343 ⟨v420, rfl, ho0, hb⟩; refine ⟨_, rfl, ?_⟩; have HO421 := rLo (rN (rN (rN (rN (rN (rN (rN (rN ho0 HO_360001) HO_366001) HO_372001) HO_379001) HO_385001) HO_393001) HO_406001) HO414) HB; replace HO_360001 := rE HO_360001 ho0 hb; replace HO_366001 := rE HO_366001 ho0 hb; replace HO_372001 := rE HO_372001 ho0 hb; replace HO_379001 := rE HO_379001 ho0 hb; replace HO_385001 := rE HO_385001 ho0 hb; replace HO_393001 := rE HO_393001 ho0 hb; replace HO_406001 := rE HO_406001 ho0 hb; replace HO414 := rE HO414 ho0 hb; replace BK359 := blkB BK359 hb; replace BK365 := blkB BK365 hb; replace BK371 := blkB BK371 hb; replace BK378 := blkB BK378 hb; replace BK384 := blkB BK384 hb; replace BK392 := blkB BK392 hb; replace BK405 := blkB BK405 hb; replace BK415 := blkB BK415 hb; replace HB := bst HB hb; clear hb ho0) | ((with_reducible refine gate_dst (N := 24) rfl ?_); refine boxG HB #[.int .i64 0, .slice none 0 0] 26 ?_; intro gb423 hg w344 BK423 GE423 hb; replace HO_360001 := rB HO_360001 hb; replace HO_366001 := rB HO_366001 hb; replace HO_372001 := rB HO_372001 hb; replace HO_379001 := rB HO_379001 hb; replace HO_385001 := rB HO_385001 hb; replace HO_393001 := rB HO_393001 hb; replace HO_406001 := rB HO_406001 hb; replace HO414 := rB HO414 hb; replace HO421 := rB HO421 hb; have NB359_423 := neL7 BK359 hg; have NB423_359 := neR7 BK359 hg; replace BK359 := blkB BK359 hb; have NB365_423 := neL7 BK365 hg; have NB423_365 := neR7 BK365 hg; replace BK365 := blkB BK365 hb; have NB371_423 := neL7 BK371 hg; have NB423_371 := neR7 BK371 hg; replace BK371 := blkB BK371 hb; have NB378_423 := neL7 BK378 hg; have NB423_378 := neR7 BK378 hg; replace BK378 := blkB BK378 hb; have NB384_423 := neL7 BK384 hg; have NB423_384 := neR7 BK384 hg; replace BK384 := blkB BK384 hb; have NB392_423 := neL7 BK392 hg; have NB423_392 := neR7 BK392 hg; replace BK392 := blkB BK392 hb; have NB405_423 := neL7 BK405 hg; have NB423_405 := neR7 BK405 hg; replace BK405 := blkB BK405 hb; have NB415_423 := neL7 BK415 hg; have NB423_415 := neR7 BK415 hg; replace BK415 := blkB BK415 hb; replace HB := bst HB hb; clear hb hg; obtain ⟨_, _, _, _⟩ := blk2 BK423; obtain ⟨Ao354, co354, rfl⟩ := Kd.R_slice HO421.out; have p424 : 0 ≤ (x145_6 : Int) := ofd; have q424 : x145_6 < (t419.length : Int) := ofd; obtain ⟨ad424, e424, hx424_0⟩ := Kd.at_int (Kd.R_reads' HO421.out).2.2 x145_6 p424 q424; cases e424; have hn424_0 : ad424.block ≠ gb423 := Kd.own_blk (Kd.R_ne HO421.out BK423.out (by decide)); have hn424_1 : ad424.block ≠ gb423 := Kd.own_blk (Kd.R_ne HO421.out BK423.out (by decide)); replace hx424_0 := (cell_far (p := ⟨gb423, 0, none⟩) (by first | (rw [add_block]; exact hn424_0) | (show (Addr.add _ _).block ≠ _; rw [add_block]; exact hn424_0) | exact hn424_0) (.int .i64 t418)).trans hx424_0; replace hx424_0 := (cell_far (p := ⟨gb423, 1, none⟩) (by first | (rw [add_block]; exact hn424_1) | (show (Addr.add _ _).block ≠ _; rw [add_block]; exact hn424_1) | exact hn424_1) (.slice (some ad424) t419.length co354)).trans hx424_0; clear hn424_0; clear hn424_1; replace p424 := eq_true p424; replace q424 := eq_true q424) | (go_at_call 12; (with_reducible refine (laws_pIn.calls (rd t419 x145_6) x151_7 false _ A269.out).mono ?_); rintro e w' ⟨rfl, ⟨nd, rfl⟩⟩))
       go_roundg k7
       case measure => have := HJ7.out; have := HJ35.out; have := HJ86.out; have := HK4.out; have := HJ199.out; have := HK6.out; have := HK7.out; omega
       case rel => exact ⟨(wrap64 (x151_7 + 1)), (x360001_7), (x366001_7), (x372001_7), (x379001_7), (x385001_7), (x393001_7), (x406001_7), (u360001), (u366001), (u372001), (.slice (some ad407) x379001_7.length co320), (u385001), (u393001), (u406001), eqS, H', ⟨by have := HJ7.out; have := HJ35.out; have := HJ86.out; have := HK4.out; have := HJ199.out; have := HK6.out; have := HK7.out; omega⟩, ⟨Kd.R_g (rM2 (Kd.R_far (p := ⟨gb423, 1, none⟩) (Kd.R_far (p := ⟨gb423, 0, none⟩) (Kd.R_types HO_360001.out BK423.out (by decide)) (fun _ hk => hk.2) (.int .i64 t418)) (fun _ hk => hk.2) (.slice (some ad424) t419.length co354)))⟩, ⟨Kd.R_g (rM2 (Kd.R_far (p := ⟨gb423, 1, none⟩) (Kd.R_far (p := ⟨gb423, 0, none⟩) (Kd.R_types HO_366001.out BK423.out (by decide)) (fun _ hk => hk.2) (.int .i64 t418)) (fun _ hk => hk.2) (.slice (some ad424) t419.length co354)))⟩, ⟨Kd.R_g (rM2 (Kd.R_far (p := ⟨gb423, 1, none⟩) (Kd.R_far (p := ⟨gb423, 0, none⟩) (Kd.R_types HO_372001.out BK423.out (by decide)) (fun _ hk => hk.2) (.int .i64 t418)) (fun _ hk => hk.2) (.slice (some ad424) t419.length co354)))⟩, ⟨Kd.R_g (rM2 (Kd.R_far (p := ⟨gb423, 1, none⟩) (Kd.R_far (p := ⟨gb423, 0, none⟩) (Kd.R_types HO_379001.out BK423.out (by decide)) (fun _ hk => hk.2) (.int .i64 t418)) (fun _ hk => hk.2) (.slice (some ad424) t419.length co354)))⟩, ⟨Kd.R_g (rM2 (Kd.R_far (p := ⟨gb423, 1, none⟩) (Kd.R_far (p := ⟨gb423, 0, none⟩) (Kd.R_types HO_385001.out BK423.out (by decide)) (fun _ hk => hk.2) (.int .i64 t418)) (fun _ hk => hk.2) (.slice (some ad424) t419.length co354)))⟩, ⟨Kd.R_g (rM2 (Kd.R_far (p := ⟨gb423, 1, none⟩) (Kd.R_far (p := ⟨gb423, 0, none⟩) (Kd.R_types HO_393001.out BK423.out (by decide)) (fun _ hk => hk.2) (.int .i64 t418)) (fun _ hk => hk.2) (.slice (some ad424) t419.length co354)))⟩, ⟨Kd.R_g (rM2 (Kd.R_far (p := ⟨gb423, 1, none⟩) (Kd.R_far (p := ⟨gb423, 0, none⟩) (Kd.R_types HO_406001.out BK423.out (by decide)) (fun _ hk => hk.2) (.int .i64 t418)) (fun _ hk => hk.2) (.slice (some ad424) t419.length co354)))⟩, ⟨blkT BK359⟩, ⟨blkT BK365⟩, ⟨blkT BK371⟩, ⟨blkT BK378⟩, ⟨blkT BK384⟩, ⟨blkT BK392⟩, ⟨blkT BK405⟩, hbg HB⟩
     ·replace c267 := Bool.eq_false_iff.mpr c267
      subst c267
      replace H := ifF H
      obtain rfl := Option.some.inj H
      obtain ⟨_, _, _, _⟩ := blk2 BK378
      obtain ⟨Ao362, co362, rfl⟩ := Kd.R_slice HO_379001.out
      obtain ⟨p407, q407, ad407, e407, hx407_0⟩ := atI (Kd.R_reads' HO_379001.out).2.2 x145_6
      cases e407
      try go_wp2_with (first | ((with_reducible refine gate_callee (f := 12) rfl ?_); refine goesQ (some 160) Tryd.func12 #[.int .i64 (rd x379001_7 x145_6), .int .i64 x151_7] ?_; (with_reducible refine (laws_pIn.calls (rd x379001_7 x145_6) x151_7 true _ A259.out).mono ?_); rintro e w' ⟨rfl, ⟨nd, rfl⟩⟩; refine ⟨_, rfl, ?_⟩; (try (rw [drewN_self wr]; generalize hq_ : World.drewN wr _ = wr; have n0_ : Fc (Kd.R (Kd.int .i64) 3 wr w.heap.size (O6 u366001 u372001 (.slice (some ad407) x379001_7.length co362) u385001 u393001 u406001) u360001 x360001_7) := ⟨by rw [← hq_]; exact (Kd.R_g HO_360001.out)⟩; have n1_ : Fc (Kd.R (Kd.int .i64) 3 wr w.heap.size (O6 u360001 u372001 (.slice (some ad407) x379001_7.length co362) u385001 u393001 u406001) u366001 x366001_7) := ⟨by rw [← hq_]; exact (Kd.R_g HO_366001.out)⟩; have n2_ : Fc (Kd.R (Kd.int .i64) 3 wr w.heap.size (O6 u360001 u366001 (.slice (some ad407) x379001_7.length co362) u385001 u393001 u406001) u372001 x372001_7) := ⟨by rw [← hq_]; exact (Kd.R_g HO_372001.out)⟩; have n3_ : Fc (Kd.R (Kd.int .i64) 3 wr w.heap.size (O6 u360001 u366001 u372001 u385001 u393001 u406001) (.slice (some ad407) x379001_7.length co362) x379001_7) := ⟨by rw [← hq_]; exact (Kd.R_g HO_379001.out)⟩; have n4_ : Fc (Kd.R (Kd.int .i64) 3 wr w.heap.size (O6 u360001 u366001 u372001 (.slice (some ad407) x379001_7.length co362) u393001 u406001) u385001 x385001_7) := ⟨by rw [← hq_]; exact (Kd.R_g HO_385001.out)⟩; have n5_ : Fc (Kd.R (Kd.int .i64) 3 wr w.heap.size (O6 u360001 u366001 u372001 (.slice (some ad407) x379001_7.length co362) u385001 u406001) u393001 x393001_7) := ⟨by rw [← hq_]; exact (Kd.R_g HO_393001.out)⟩; have n6_ : Fc (Kd.R (Kd.int .i64) 3 wr w.heap.size (O6 u360001 u366001 u372001 (.slice (some ad407) x379001_7.length co362) u385001 u393001) u406001 x406001_7) := ⟨by rw [← hq_]; exact (Kd.R_g HO_406001.out)⟩; have n7_ : Fc (wr.heap[gb359]? = some (.cells #[.int .i64 t355, u360001] 26 (0, 0))) := ⟨by rw [← hq_]; exact (blk_g BK359.out)⟩; have n8_ : Fc (wr.heap[gb365]? = some (.cells #[.int .i64 t360, u366001] 26 (0, 0))) := ⟨by rw [← hq_]; exact (blk_g BK365.out)⟩; have n9_ : Fc (wr.heap[gb371]? = some (.cells #[.int .i64 t366, u372001] 26 (0, 0))) := ⟨by rw [← hq_]; exact (blk_g BK371.out)⟩; have n10_ : Fc (wr.heap[gb378]? = some (.cells #[.int .i64 t373, .slice (some ad407) x379001_7.length co362] 26 (0, 0))) := ⟨by rw [← hq_]; exact (blk_g BK378.out)⟩; have n11_ : Fc (wr.heap[gb384]? = some (.cells #[.int .i64 t379, u385001] 26 (0, 0))) := ⟨by rw [← hq_]; exact (blk_g BK384.out)⟩; have n12_ : Fc (wr.heap[gb392]? = some (.cells #[.int .i64 t387, u393001] 26 (0, 0))) := ⟨by rw [← hq_]; exact (blk_g BK392.out)⟩; have n13_ : Fc (wr.heap[gb405]? = some (.cells #[.int .i64 t400, u406001] 26 (0, 0))) := ⟨by rw [← hq_]; exact (blk_g BK405.out)⟩; have n14_ : Fc (Below w.heap.size w wr) := ⟨by rw [← hq_]; exact (bel_g HB.out)⟩; clear HO_360001 HO_366001 HO_372001 HO_379001 HO_385001 HO_393001 HO_406001 BK359 BK365 BK371 BK378 BK384 BK392 BK405 HB hq_; have HO_360001 := n0_; have HO_366001 := n1_; have HO_372001 := n2_; have HO_379001 := n3_; have HO_385001 := n4_; have HO_393001 := n5_; have HO_406001 := n6_; have BK359 := n7_; have BK365 := n8_; have BK371 := n9_; have BK378 := n10_; have BK384 := n11_; have BK392 := n12_; have BK405 := n13_; have HB := n14_; clear n0_ n1_ n2_ n3_ n4_ n5_ n6_ n7_ n8_ n9_ n10_ n11_ n12_ n13_ n14_)); (try obtain ⟨_, _, _, _⟩ := blk2 BK359); (try obtain ⟨_, _, _, _⟩ := blk2 BK365); (try obtain ⟨_, _, _, _⟩ := blk2 BK371); (try obtain ⟨_, _, _, _⟩ := blk2 BK378); (try obtain ⟨_, _, _, _⟩ := blk2 BK384); (try obtain ⟨_, _, _, _⟩ := blk2 BK392); (try obtain ⟨_, _, _, _⟩ := blk2 BK405)))
      replace HO_360001 := mkA (Kd.R_drew HO_360001.out)
      replace HO_366001 := mkA (Kd.R_drew HO_366001.out)
      replace HO_372001 := mkA (Kd.R_drew HO_372001.out)
      replace HO_379001 := mkA (Kd.R_drew HO_379001.out)
      replace HO_385001 := mkA (Kd.R_drew HO_385001.out)
      replace HO_393001 := mkA (Kd.R_drew HO_393001.out)
      replace HO_406001 := mkA (Kd.R_drew HO_406001.out)
      replace BK359 := mkA (blk_drew BK359.out)
      replace BK365 := mkA (blk_drew BK365.out)
      replace BK371 := mkA (blk_drew BK371.out)
      replace BK378 := mkA (blk_drew BK378.out)
      replace BK384 := mkA (blk_drew BK384.out)
      replace BK392 := mkA (blk_drew BK392.out)
      replace BK405 := mkA (blk_drew BK405.out)
      replace HB := mkA (below_drew1 HB.out)
      refine start_ (n := 9) (S := fun w' => w'.cell? ⟨gb378, 0, none⟩ = some (.int .i64 t373) ∧ w'.cell? ⟨gb378, 1, none⟩ = some (.slice (some ad407) x379001_7.length co362)) (ds := []) (bm 9 0) (by kernel_rfl) rfl (by kernel_rfl) ⟨(blk_cell BK378.out 0).trans rfl, (blk_cell BK378.out 1).trans rfl⟩ (fun hHeld => ?_); refine with_tabW laws_FnClosures.tab39 laws_FnClosures.bits39 (fun HT_ HW_ => ?_)
      generalize wr.drew = w363 at HO_360001 HO_366001 HO_372001 HO_379001 HO_385001 HO_393001 HO_406001 BK359 BK365 BK371 BK378 BK384 BK392 BK405 HB hHeld ⊢
      refine purW 0 162 9 1 HT_ ?_
      refine purW 3 165 9 9 HT_ ?_
      refine takeW 1 (some 163) (bm 9 11) HT_ HW_ hHeld ?_
      refine takeW 4 (some 166) (bm 9 27) HT_ HW_ hHeld ?_
      refine join_ (σ := Value × Value × Nat) 1 (bm 9 255) (fun s_ => [(164, s_.1), (167, s_.2.1), (23, .pointer (some ⟨s_.2.2, 0, none⟩)), (168, .agg #[.int .i64 t373, s_.2.1])]) (fun s_ w' => (w'.cell? ⟨gb378, 0, none⟩ = some (.int .i64 t373) ∧ w'.cell? ⟨gb378, 1, none⟩ = some (.slice (some ad407) x379001_7.length co362)) ∧ (Kd.R (Kd.int .i64) 3 w' w.heap.size (O7 u360001 u366001 u372001 (.slice (some ad407) x379001_7.length co362) u385001 u393001 u406001) s_.2.1 y412) ∧ (Kd.R (Kd.int .i64) 3 w' w.heap.size (O7 (s_.2.1) u366001 u372001 (.slice (some ad407) x379001_7.length co362) u385001 u393001 u406001) u360001 x360001_7) ∧ (Kd.R (Kd.int .i64) 3 w' w.heap.size (O7 (s_.2.1) u360001 u372001 (.slice (some ad407) x379001_7.length co362) u385001 u393001 u406001) u366001 x366001_7) ∧ (Kd.R (Kd.int .i64) 3 w' w.heap.size (O7 (s_.2.1) u360001 u366001 (.slice (some ad407) x379001_7.length co362) u385001 u393001 u406001) u372001 x372001_7) ∧ (Kd.R (Kd.int .i64) 3 w' w.heap.size (O7 (s_.2.1) u360001 u366001 u372001 u385001 u393001 u406001) (.slice (some ad407) x379001_7.length co362) x379001_7) ∧ (Kd.R (Kd.int .i64) 3 w' w.heap.size (O7 (s_.2.1) u360001 u366001 u372001 (.slice (some ad407) x379001_7.length co362) u393001 u406001) u385001 x385001_7) ∧ (Kd.R (Kd.int .i64) 3 w' w.heap.size (O7 (s_.2.1) u360001 u366001 u372001 (.slice (some ad407) x379001_7.length co362) u385001 u406001) u393001 x393001_7) ∧ (Kd.R (Kd.int .i64) 3 w' w.heap.size (O7 (s_.2.1) u360001 u366001 u372001 (.slice (some ad407) x379001_7.length co362) u385001 u393001) u406001 x406001_7) ∧ (w'.heap[gb359]? = some (.cells #[.int .i64 t355, u360001] 26 (0, 0))) ∧ (w'.heap[gb365]? = some (.cells #[.int .i64 t360, u366001] 26 (0, 0))) ∧ (w'.heap[gb371]? = some (.cells #[.int .i64 t366, u372001] 26 (0, 0))) ∧ (w'.heap[gb378]? = some (.cells #[.int .i64 t373, .slice (some ad407) x379001_7.length co362] 26 (0, 0))) ∧ (w'.heap[gb384]? = some (.cells #[.int .i64 t379, u385001] 26 (0, 0))) ∧ (w'.heap[gb392]? = some (.cells #[.int .i64 t387, u393001] 26 (0, 0))) ∧ (w'.heap[gb405]? = some (.cells #[.int .i64 t400, u406001] 26 (0, 0))) ∧ (w'.heap[s_.2.2]? = some (.cells #[.int .i64 0, .slice none 0 0] 26 (0, 0))) ∧ (w.heap.size ≤ s_.2.2) ∧ (w.heap.size ≤ s_.2.2) ∧ (gb359 ≠ s_.2.2) ∧ (s_.2.2 ≠ gb359) ∧ (gb365 ≠ s_.2.2) ∧ (s_.2.2 ≠ gb365) ∧ (gb371 ≠ s_.2.2) ∧ (s_.2.2 ≠ gb371) ∧ (gb378 ≠ s_.2.2) ∧ (s_.2.2 ≠ gb378) ∧ (gb384 ≠ s_.2.2) ∧ (s_.2.2 ≠ gb384) ∧ (gb392 ≠ s_.2.2) ∧ (s_.2.2 ≠ gb392) ∧ (gb405 ≠ s_.2.2) ∧ (s_.2.2 ≠ gb405) ∧ (Below w.heap.size w w')) ?_ ?_
      rotate_left
      ·intro hCont
       refine two_ (i := 2) (j := 7) (Ni := some 164) (Nj := some 23) (bm 9 31) (bm 9 155) rfl rfl rfl rfl (two_of HT_.out (by kernel_rfl)) (by decide) (by decide) (fun K hK => ?_) (fun K hK => ?_)
       ·skip
        refine Kd.R_lit_step (Kd.int .i64) _ 3 ?hg (N := 164) ?hd (xs := ([] : List Int)) (inner := []) (ok := fun _ => True) (okp := fun _ => True) ?hr ?hp (fun _ hk => hk) trivial (Below.refl _ _) (Nat.le_refl _) (by simp) ?_; (case hd => rfl); (case hg => rfl); (case hr => first | (go_simp; done) | (go_simp; rfl)); (case hp => exact (Reps.none _ _))
        intro v410 w364 ho365 hb hg_ hnew_
        clear hg_ hnew_
        (first | rw [← Ny409.out] at ho365 | (simp only [Int.reduceToNat] at ho365; rw [← Ny409.out] at ho365))
        have HO411 := rLo (rN (rN (rN (rN (rN (rN (rN ho365 HO_360001) HO_366001) HO_372001) HO_379001) HO_385001) HO_393001) HO_406001) HB
        replace HO_360001 := rE HO_360001 ho365 hb
        replace HO_366001 := rE HO_366001 ho365 hb
        replace HO_372001 := rE HO_372001 ho365 hb
        replace HO_379001 := rE HO_379001 ho365 hb
        replace HO_385001 := rE HO_385001 ho365 hb
        replace HO_393001 := rE HO_393001 ho365 hb
        replace HO_406001 := rE HO_406001 ho365 hb
        replace BK359 := blkB BK359 hb
        replace BK365 := blkB BK365 hb
        replace BK371 := blkB BK371 hb
        replace BK378 := blkB BK378 hb
        replace BK384 := blkB BK384 hb
        replace BK392 := blkB BK392 hb
        replace BK405 := blkB BK405 hb
        replace HB := bst HB hb
        clear hb ho365
        refine hK.out _ _ ⟨(blk_cell BK378.out 0).trans rfl, (blk_cell BK378.out 1).trans rfl⟩ (fun hHeld => ?_)
        clear hK K
        refine normW 164 ?_
        refine two_ (i := 5) (j := 7) (Ni := some 167) (Nj := some 23) (bm 9 63) (bm 9 159) rfl rfl rfl rfl (two_of HT_.out (by kernel_rfl)) (by decide) (by decide) (fun K hK => ?_) (fun K hK => ?_)
        ·skip
         refine Kd.R_append_rows_step (Kd.int .i64) (w0 := w) w.heap.size (by rfl) (.tmp 164) (.tmp 166) 24 3 (.int .i64 0) 8 rfl Tryd.underlying24 info3 rfl (by decide) (by omega) v410 y409 x379001_7 _ _ _ (O7 u360001 u366001 u372001 (.slice (some ad407) x379001_7.length co362) u385001 u393001 u406001) (fun _ => False) rfl rfl ?aO ?aR (fun _ _ h => h) (fun _ h => h.elim) ?aF ?aB ?aS ?aL ?_
         (case aR => repeat (first | exact (Kd.R_reads' HO_379001.out).2.2 | (with_reducible refine Kd.C_alloc ?_ _) | (with_reducible refine Kd.C_drewN ?_ _) | (with_reducible refine Kd.C_drew ?_)))
         (case aB => exact (bel_g HB.out))
         (case aF => exact (fun k_ hk => ⟨Kd.fresh' (Kd.R_lt (Kd.R_g HO_360001.out)) k_ hk, Kd.fresh' (Kd.R_lt (Kd.R_g HO_366001.out)) k_ hk, Kd.fresh' (Kd.R_lt (Kd.R_g HO_372001.out)) k_ hk, Kd.fresh' (Kd.R_lt (Kd.R_g HO_379001.out)) k_ hk, Kd.fresh' (Kd.R_lt (Kd.R_g HO_385001.out)) k_ hk, Kd.fresh' (Kd.R_lt (Kd.R_g HO_393001.out)) k_ hk, Kd.fresh' (Kd.R_lt (Kd.R_g HO_406001.out)) k_ hk⟩))
         (case aO => exact (Kd.R_g (rM2 HO411.out)))
         (case aS => exact (below_size (bel_g HB.out)))
         (case aL => have := LMc261.out; omega)
         intro v413 w366 ho hb hg hat
         rw [← Ny412.out] at ho
         replace HO_360001 := mkA (Kd.R_after (ok := (O6 u366001 u372001 (.slice (some ad407) x379001_7.length co362) u385001 u393001 u406001)) (Kd.R_g HO_360001.out) hg hat)
         replace HO_366001 := mkA (Kd.R_after (ok := (O6 u360001 u372001 (.slice (some ad407) x379001_7.length co362) u385001 u393001 u406001)) (Kd.R_g HO_366001.out) hg hat)
         replace HO_372001 := mkA (Kd.R_after (ok := (O6 u360001 u366001 (.slice (some ad407) x379001_7.length co362) u385001 u393001 u406001)) (Kd.R_g HO_372001.out) hg hat)
         replace HO_379001 := mkA (Kd.R_after (ok := (O6 u360001 u366001 u372001 u385001 u393001 u406001)) (Kd.R_g HO_379001.out) hg hat)
         replace HO_385001 := mkA (Kd.R_after (ok := (O6 u360001 u366001 u372001 (.slice (some ad407) x379001_7.length co362) u393001 u406001)) (Kd.R_g HO_385001.out) hg hat)
         replace HO_393001 := mkA (Kd.R_after (ok := (O6 u360001 u366001 u372001 (.slice (some ad407) x379001_7.length co362) u385001 u406001)) (Kd.R_g HO_393001.out) hg hat)
         replace HO_406001 := mkA (Kd.R_after (ok := (O6 u360001 u366001 u372001 (.slice (some ad407) x379001_7.length co362) u385001 u393001)) (Kd.R_g HO_406001.out) hg hat)
         replace BK359 := mkA (blk_grown (g := gb359) (o := .cells #[.int .i64 t355, u360001] 26 (0, 0)) (blk_g BK359.out) hg (Kd.R_ne HO411.out BK359.out (by decide)))
         replace BK365 := mkA (blk_grown (g := gb365) (o := .cells #[.int .i64 t360, u366001] 26 (0, 0)) (blk_g BK365.out) hg (Kd.R_ne HO411.out BK365.out (by decide)))
         replace BK371 := mkA (blk_grown (g := gb371) (o := .cells #[.int .i64 t366, u372001] 26 (0, 0)) (blk_g BK371.out) hg (Kd.R_ne HO411.out BK371.out (by decide)))
         replace BK378 := mkA (blk_grown (g := gb378) (o := .cells #[.int .i64 t373, .slice (some ad407) x379001_7.length co362] 26 (0, 0)) (blk_g BK378.out) hg (Kd.R_ne HO411.out BK378.out (by decide)))
         replace BK384 := mkA (blk_grown (g := gb384) (o := .cells #[.int .i64 t379, u385001] 26 (0, 0)) (blk_g BK384.out) hg (Kd.R_ne HO411.out BK384.out (by decide)))
         replace BK392 := mkA (blk_grown (g := gb392) (o := .cells #[.int .i64 t387, u393001] 26 (0, 0)) (blk_g BK392.out) hg (Kd.R_ne HO411.out BK392.out (by decide)))
         replace BK405 := mkA (blk_grown (g := gb405) (o := .cells #[.int .i64 t400, u406001] 26 (0, 0)) (blk_g BK405.out) hg (Kd.R_ne HO411.out BK405.out (by decide)))
         have HO414 := mkA (ho)
         replace HB := mkA (hb)
         clear HO411
         clear ho hb hg hat
         obtain ⟨Ao367, co367, eo367⟩ := Kd.R_slice HO414.out
         (first | subst eo367 | (injection eo367 with f1_ f2_ f3_; have f4_ := f1_.symm; have f5_ := f3_.symm; clear f1_ f2_ f3_; subst f4_; subst f5_))
         refine hK.out _ _ ⟨(blk_cell BK378.out 0).trans rfl, (blk_cell BK378.out 1).trans rfl⟩ (fun hHeld => ?_)
         clear hK K
         refine normW 167 ?_
         refine purW 6 168 9 127 HT_ ?_
         refine oneW 7 (some 23) (bm 9 255) HT_ (fun K hK => ?_)
         refine box_step ?hg (N := 23) ?hd (cs := #[.int .i64 0, .slice none 0 0]) (t := 26) ?hr ?_; (case hd => rfl); (case hg => rfl); (case hr => first | (go_simp; done) | (go_simp; rfl))
         intro gb415 hg w368 hbox hb
         replace HO_360001 := rB HO_360001 hb
         replace HO_366001 := rB HO_366001 hb
         replace HO_372001 := rB HO_372001 hb
         replace HO_379001 := rB HO_379001 hb
         replace HO_385001 := rB HO_385001 hb
         replace HO_393001 := rB HO_393001 hb
         replace HO_406001 := rB HO_406001 hb
         replace HO414 := rB HO414 hb
         have BK415 := mkA (hbox)
         have GW415 := geB HB hg
         have GE415 := geB HB hg
         have NB359_415 := neL7 BK359 hg
         have NB415_359 := neR7 BK359 hg
         replace BK359 := blkB BK359 hb
         have NB365_415 := neL7 BK365 hg
         have NB415_365 := neR7 BK365 hg
         replace BK365 := blkB BK365 hb
         have NB371_415 := neL7 BK371 hg
         have NB415_371 := neR7 BK371 hg
         replace BK371 := blkB BK371 hb
         have NB378_415 := neL7 BK378 hg
         have NB415_378 := neR7 BK378 hg
         replace BK378 := blkB BK378 hb
         have NB384_415 := neL7 BK384 hg
         have NB415_384 := neR7 BK384 hg
         replace BK384 := blkB BK384 hb
         have NB392_415 := neL7 BK392 hg
         have NB415_392 := neR7 BK392 hg
         replace BK392 := blkB BK392 hb
         have NB405_415 := neL7 BK405 hg
         have NB415_405 := neR7 BK405 hg
         replace BK405 := blkB BK405 hb
         replace HB := bst HB hb
         clear hb hbox hg
         refine hK.out _ _ ⟨(blk_cell BK378.out 0).trans rfl, (blk_cell BK378.out 1).trans rfl⟩ (fun hHeld => ?_)
         clear hK K
         refine normW 23 ?_
         exact norm_ (by simp only [putAll, Act.put, List.setIfInBounds_toArray, List.set_cons_zero, List.set_cons_succ]) (hCont (v410, .slice Ao367 y412.length co367, gb415) _ ⟨hHeld, (Kd.R_g HO414.out), (Kd.R_g (rM2 HO_360001.out)), (Kd.R_g (rM2 HO_366001.out)), (Kd.R_g (rM2 HO_372001.out)), (Kd.R_g (rM2 HO_379001.out)), (Kd.R_g (rM2 HO_385001.out)), (Kd.R_g (rM2 HO_393001.out)), (Kd.R_g (rM2 HO_406001.out)), (blk_g BK359.out), (blk_g BK365.out), (blk_g BK371.out), (blk_g BK378.out), (blk_g BK384.out), (blk_g BK392.out), (blk_g BK405.out), (blk_g BK415.out), GW415.out, GE415.out, NB359_415.out, NB415_359.out, NB365_415.out, NB415_365.out, NB371_415.out, NB415_371.out, NB378_415.out, NB415_378.out, NB384_415.out, NB415_384.out, NB392_415.out, NB415_392.out, NB405_415.out, NB415_405.out, (bel_g HB.out)⟩)
        ·skip
         refine box_step ?hg (N := 23) ?hd (cs := #[.int .i64 0, .slice none 0 0]) (t := 26) ?hr ?_; (case hd => rfl); (case hg => rfl); (case hr => first | (go_simp; done) | (go_simp; rfl))
         intro gb415 hg w366 hbox hb
         replace HO_360001 := rB HO_360001 hb
         replace HO_366001 := rB HO_366001 hb
         replace HO_372001 := rB HO_372001 hb
         replace HO_379001 := rB HO_379001 hb
         replace HO_385001 := rB HO_385001 hb
         replace HO_393001 := rB HO_393001 hb
         replace HO_406001 := rB HO_406001 hb
         replace HO411 := rB HO411 hb
         have BK415 := mkA (hbox)
         have GW415 := geB HB hg
         have GE415 := geB HB hg
         have NB359_415 := neL7 BK359 hg
         have NB415_359 := neR7 BK359 hg
         replace BK359 := blkB BK359 hb
         have NB365_415 := neL7 BK365 hg
         have NB415_365 := neR7 BK365 hg
         replace BK365 := blkB BK365 hb
         have NB371_415 := neL7 BK371 hg
         have NB415_371 := neR7 BK371 hg
         replace BK371 := blkB BK371 hb
         have NB378_415 := neL7 BK378 hg
         have NB415_378 := neR7 BK378 hg
         replace BK378 := blkB BK378 hb
         have NB384_415 := neL7 BK384 hg
         have NB415_384 := neR7 BK384 hg
         replace BK384 := blkB BK384 hb
         have NB392_415 := neL7 BK392 hg
         have NB415_392 := neR7 BK392 hg
         replace BK392 := blkB BK392 hb
         have NB405_415 := neL7 BK405 hg
         have NB415_405 := neR7 BK405 hg
         replace BK405 := blkB BK405 hb
         replace HB := bst HB hb
         clear hb hbox hg
         refine hK.out _ _ ⟨(blk_cell BK378.out 0).trans rfl, (blk_cell BK378.out 1).trans rfl⟩ (fun hHeld => ?_)
         clear hK K
         refine normW 23 ?_
         refine oneW 5 (some 167) (bm 9 191) HT_ (fun K hK => ?_)
         refine Kd.R_append_rows_step (Kd.int .i64) (w0 := w) w.heap.size (by rfl) (.tmp 164) (.tmp 166) 24 3 (.int .i64 0) 8 rfl Tryd.underlying24 info3 rfl (by decide) (by omega) v410 y409 x379001_7 _ _ _ (O7 u360001 u366001 u372001 (.slice (some ad407) x379001_7.length co362) u385001 u393001 u406001) (fun _ => False) rfl rfl ?aO ?aR (fun _ _ h => h) (fun _ h => h.elim) ?aF ?aB ?aS ?aL ?_
         (case aR => repeat (first | exact (Kd.R_reads' HO_379001.out).2.2 | (with_reducible refine Kd.C_alloc ?_ _) | (with_reducible refine Kd.C_drewN ?_ _) | (with_reducible refine Kd.C_drew ?_)))
         (case aB => exact (bel_g HB.out))
         (case aF => exact (fun k_ hk => ⟨Kd.fresh' (Kd.R_lt (Kd.R_g HO_360001.out)) k_ hk, Kd.fresh' (Kd.R_lt (Kd.R_g HO_366001.out)) k_ hk, Kd.fresh' (Kd.R_lt (Kd.R_g HO_372001.out)) k_ hk, Kd.fresh' (Kd.R_lt (Kd.R_g HO_379001.out)) k_ hk, Kd.fresh' (Kd.R_lt (Kd.R_g HO_385001.out)) k_ hk, Kd.fresh' (Kd.R_lt (Kd.R_g HO_393001.out)) k_ hk, Kd.fresh' (Kd.R_lt (Kd.R_g HO_406001.out)) k_ hk⟩))
         (case aO => exact (Kd.R_g (rM2 HO411.out)))
         (case aS => exact (below_size (bel_g HB.out)))
         (case aL => have := LMc261.out; omega)
         intro v413 w367 ho hb hg hat
         rw [← Ny412.out] at ho
         replace HO_360001 := mkA (Kd.R_after (ok := (O6 u366001 u372001 (.slice (some ad407) x379001_7.length co362) u385001 u393001 u406001)) (Kd.R_g HO_360001.out) hg hat)
         replace HO_366001 := mkA (Kd.R_after (ok := (O6 u360001 u372001 (.slice (some ad407) x379001_7.length co362) u385001 u393001 u406001)) (Kd.R_g HO_366001.out) hg hat)
         replace HO_372001 := mkA (Kd.R_after (ok := (O6 u360001 u366001 (.slice (some ad407) x379001_7.length co362) u385001 u393001 u406001)) (Kd.R_g HO_372001.out) hg hat)
         replace HO_379001 := mkA (Kd.R_after (ok := (O6 u360001 u366001 u372001 u385001 u393001 u406001)) (Kd.R_g HO_379001.out) hg hat)
         replace HO_385001 := mkA (Kd.R_after (ok := (O6 u360001 u366001 u372001 (.slice (some ad407) x379001_7.length co362) u393001 u406001)) (Kd.R_g HO_385001.out) hg hat)
         replace HO_393001 := mkA (Kd.R_after (ok := (O6 u360001 u366001 u372001 (.slice (some ad407) x379001_7.length co362) u385001 u406001)) (Kd.R_g HO_393001.out) hg hat)
         replace HO_406001 := mkA (Kd.R_after (ok := (O6 u360001 u366001 u372001 (.slice (some ad407) x379001_7.length co362) u385001 u393001)) (Kd.R_g HO_406001.out) hg hat)
         replace BK359 := mkA (blk_grown (g := gb359) (o := .cells #[.int .i64 t355, u360001] 26 (0, 0)) (blk_g BK359.out) hg (Kd.R_ne HO411.out BK359.out (by decide)))
         replace BK365 := mkA (blk_grown (g := gb365) (o := .cells #[.int .i64 t360, u366001] 26 (0, 0)) (blk_g BK365.out) hg (Kd.R_ne HO411.out BK365.out (by decide)))
         replace BK371 := mkA (blk_grown (g := gb371) (o := .cells #[.int .i64 t366, u372001] 26 (0, 0)) (blk_g BK371.out) hg (Kd.R_ne HO411.out BK371.out (by decide)))
         replace BK378 := mkA (blk_grown (g := gb378) (o := .cells #[.int .i64 t373, .slice (some ad407) x379001_7.length co362] 26 (0, 0)) (blk_g BK378.out) hg (Kd.R_ne HO411.out BK378.out (by decide)))
         replace BK384 := mkA (blk_grown (g := gb384) (o := .cells #[.int .i64 t379, u385001] 26 (0, 0)) (blk_g BK384.out) hg (Kd.R_ne HO411.out BK384.out (by decide)))
         replace BK392 := mkA (blk_grown (g := gb392) (o := .cells #[.int .i64 t387, u393001] 26 (0, 0)) (blk_g BK392.out) hg (Kd.R_ne HO411.out BK392.out (by decide)))
         replace BK405 := mkA (blk_grown (g := gb405) (o := .cells #[.int .i64 t400, u406001] 26 (0, 0)) (blk_g BK405.out) hg (Kd.R_ne HO411.out BK405.out (by decide)))
         replace BK415 := mkA (blk_grown (g := gb415) (o := .cells #[.int .i64 0, .slice none 0 0] 26 (0, 0)) (blk_g BK415.out) hg (Kd.R_ne HO411.out BK415.out (by decide)))
         have HO414 := mkA (ho)
         replace HB := mkA (hb)
         clear HO411
         clear ho hb hg hat
         obtain ⟨Ao368, co368, eo368⟩ := Kd.R_slice HO414.out
         (first | subst eo368 | (injection eo368 with f1_ f2_ f3_; have f4_ := f1_.symm; have f5_ := f3_.symm; clear f1_ f2_ f3_; subst f4_; subst f5_))
         refine hK.out _ _ ⟨(blk_cell BK378.out 0).trans rfl, (blk_cell BK378.out 1).trans rfl⟩ (fun hHeld => ?_)
         clear hK K
         refine normW 167 ?_
         refine purW 6 168 9 255 HT_ ?_
         exact norm_ (by simp only [putAll, Act.put, List.setIfInBounds_toArray, List.set_cons_zero, List.set_cons_succ]) (hCont (v410, .slice Ao368 y412.length co368, gb415) _ ⟨hHeld, (Kd.R_g HO414.out), (Kd.R_g (rM2 HO_360001.out)), (Kd.R_g (rM2 HO_366001.out)), (Kd.R_g (rM2 HO_372001.out)), (Kd.R_g (rM2 HO_379001.out)), (Kd.R_g (rM2 HO_385001.out)), (Kd.R_g (rM2 HO_393001.out)), (Kd.R_g (rM2 HO_406001.out)), (blk_g BK359.out), (blk_g BK365.out), (blk_g BK371.out), (blk_g BK378.out), (blk_g BK384.out), (blk_g BK392.out), (blk_g BK405.out), (blk_g BK415.out), GW415.out, GE415.out, NB359_415.out, NB415_359.out, NB365_415.out, NB415_365.out, NB371_415.out, NB415_371.out, NB378_415.out, NB415_378.out, NB384_415.out, NB415_384.out, NB392_415.out, NB415_392.out, NB405_415.out, NB415_405.out, (bel_g HB.out)⟩)
       ·skip
        refine box_step ?hg (N := 23) ?hd (cs := #[.int .i64 0, .slice none 0 0]) (t := 26) ?hr ?_; (case hd => rfl); (case hg => rfl); (case hr => first | (go_simp; done) | (go_simp; rfl))
        intro gb415 hg w364 hbox hb
        replace HO_360001 := rB HO_360001 hb
        replace HO_366001 := rB HO_366001 hb
        replace HO_372001 := rB HO_372001 hb
        replace HO_379001 := rB HO_379001 hb
        replace HO_385001 := rB HO_385001 hb
        replace HO_393001 := rB HO_393001 hb
        replace HO_406001 := rB HO_406001 hb
        have BK415 := mkA (hbox)
        have GW415 := geB HB hg
        have GE415 := geB HB hg
        have NB359_415 := neL7 BK359 hg
        have NB415_359 := neR7 BK359 hg
        replace BK359 := blkB BK359 hb
        have NB365_415 := neL7 BK365 hg
        have NB415_365 := neR7 BK365 hg
        replace BK365 := blkB BK365 hb
        have NB371_415 := neL7 BK371 hg
        have NB415_371 := neR7 BK371 hg
        replace BK371 := blkB BK371 hb
        have NB378_415 := neL7 BK378 hg
        have NB415_378 := neR7 BK378 hg
        replace BK378 := blkB BK378 hb
        have NB384_415 := neL7 BK384 hg
        have NB415_384 := neR7 BK384 hg
        replace BK384 := blkB BK384 hb
        have NB392_415 := neL7 BK392 hg
        have NB415_392 := neR7 BK392 hg
        replace BK392 := blkB BK392 hb
        have NB405_415 := neL7 BK405 hg
        have NB415_405 := neR7 BK405 hg
        replace BK405 := blkB BK405 hb
        replace HB := bst HB hb
        clear hb hbox hg
        refine hK.out _ _ ⟨(blk_cell BK378.out 0).trans rfl, (blk_cell BK378.out 1).trans rfl⟩ (fun hHeld => ?_)
        clear hK K
        refine normW 23 ?_
        refine oneW 2 (some 164) (bm 9 159) HT_ (fun K hK => ?_)
        refine Kd.R_lit_step (Kd.int .i64) _ 3 ?hg (N := 164) ?hd (xs := ([] : List Int)) (inner := []) (ok := fun _ => True) (okp := fun _ => True) ?hr ?hp (fun _ hk => hk) trivial (Below.refl _ _) (Nat.le_refl _) (by simp) ?_; (case hd => rfl); (case hg => rfl); (case hr => first | (go_simp; done) | (go_simp; rfl)); (case hp => exact (Reps.none _ _))
        intro v410 w365 ho366 hb hg_ hnew_
        clear hg_ hnew_
        (first | rw [← Ny409.out] at ho366 | (simp only [Int.reduceToNat] at ho366; rw [← Ny409.out] at ho366))
        have HO411 := rLo (rN (rN (rN (rN (rN (rN (rN ho366 HO_360001) HO_366001) HO_372001) HO_379001) HO_385001) HO_393001) HO_406001) HB
        replace HO_360001 := rE HO_360001 ho366 hb
        replace HO_366001 := rE HO_366001 ho366 hb
        replace HO_372001 := rE HO_372001 ho366 hb
        replace HO_379001 := rE HO_379001 ho366 hb
        replace HO_385001 := rE HO_385001 ho366 hb
        replace HO_393001 := rE HO_393001 ho366 hb
        replace HO_406001 := rE HO_406001 ho366 hb
        replace BK359 := blkB BK359 hb
        replace BK365 := blkB BK365 hb
        replace BK371 := blkB BK371 hb
        replace BK378 := blkB BK378 hb
        replace BK384 := blkB BK384 hb
        replace BK392 := blkB BK392 hb
        replace BK405 := blkB BK405 hb
        replace BK415 := blkB BK415 hb
        replace HB := bst HB hb
        clear hb ho366
        refine hK.out _ _ ⟨(blk_cell BK378.out 0).trans rfl, (blk_cell BK378.out 1).trans rfl⟩ (fun hHeld => ?_)
        clear hK K
        refine normW 164 ?_
        refine oneW 5 (some 167) (bm 9 191) HT_ (fun K hK => ?_)
        refine Kd.R_append_rows_step (Kd.int .i64) (w0 := w) w.heap.size (by rfl) (.tmp 164) (.tmp 166) 24 3 (.int .i64 0) 8 rfl Tryd.underlying24 info3 rfl (by decide) (by omega) v410 y409 x379001_7 _ _ _ (O7 u360001 u366001 u372001 (.slice (some ad407) x379001_7.length co362) u385001 u393001 u406001) (fun _ => False) rfl rfl ?aO ?aR (fun _ _ h => h) (fun _ h => h.elim) ?aF ?aB ?aS ?aL ?_
        (case aR => repeat (first | exact (Kd.R_reads' HO_379001.out).2.2 | (with_reducible refine Kd.C_alloc ?_ _) | (with_reducible refine Kd.C_drewN ?_ _) | (with_reducible refine Kd.C_drew ?_)))
        (case aB => exact (bel_g HB.out))
        (case aF => exact (fun k_ hk => ⟨Kd.fresh' (Kd.R_lt (Kd.R_g HO_360001.out)) k_ hk, Kd.fresh' (Kd.R_lt (Kd.R_g HO_366001.out)) k_ hk, Kd.fresh' (Kd.R_lt (Kd.R_g HO_372001.out)) k_ hk, Kd.fresh' (Kd.R_lt (Kd.R_g HO_379001.out)) k_ hk, Kd.fresh' (Kd.R_lt (Kd.R_g HO_385001.out)) k_ hk, Kd.fresh' (Kd.R_lt (Kd.R_g HO_393001.out)) k_ hk, Kd.fresh' (Kd.R_lt (Kd.R_g HO_406001.out)) k_ hk⟩))
        (case aO => exact (Kd.R_g (rM2 HO411.out)))
        (case aS => exact (below_size (bel_g HB.out)))
        (case aL => have := LMc261.out; omega)
        intro v413 w367 ho hb hg hat
        rw [← Ny412.out] at ho
        replace HO_360001 := mkA (Kd.R_after (ok := (O6 u366001 u372001 (.slice (some ad407) x379001_7.length co362) u385001 u393001 u406001)) (Kd.R_g HO_360001.out) hg hat)
        replace HO_366001 := mkA (Kd.R_after (ok := (O6 u360001 u372001 (.slice (some ad407) x379001_7.length co362) u385001 u393001 u406001)) (Kd.R_g HO_366001.out) hg hat)
        replace HO_372001 := mkA (Kd.R_after (ok := (O6 u360001 u366001 (.slice (some ad407) x379001_7.length co362) u385001 u393001 u406001)) (Kd.R_g HO_372001.out) hg hat)
        replace HO_379001 := mkA (Kd.R_after (ok := (O6 u360001 u366001 u372001 u385001 u393001 u406001)) (Kd.R_g HO_379001.out) hg hat)
        replace HO_385001 := mkA (Kd.R_after (ok := (O6 u360001 u366001 u372001 (.slice (some ad407) x379001_7.length co362) u393001 u406001)) (Kd.R_g HO_385001.out) hg hat)
        replace HO_393001 := mkA (Kd.R_after (ok := (O6 u360001 u366001 u372001 (.slice (some ad407) x379001_7.length co362) u385001 u406001)) (Kd.R_g HO_393001.out) hg hat)
        replace HO_406001 := mkA (Kd.R_after (ok := (O6 u360001 u366001 u372001 (.slice (some ad407) x379001_7.length co362) u385001 u393001)) (Kd.R_g HO_406001.out) hg hat)
        replace BK359 := mkA (blk_grown (g := gb359) (o := .cells #[.int .i64 t355, u360001] 26 (0, 0)) (blk_g BK359.out) hg (Kd.R_ne HO411.out BK359.out (by decide)))
        replace BK365 := mkA (blk_grown (g := gb365) (o := .cells #[.int .i64 t360, u366001] 26 (0, 0)) (blk_g BK365.out) hg (Kd.R_ne HO411.out BK365.out (by decide)))
        replace BK371 := mkA (blk_grown (g := gb371) (o := .cells #[.int .i64 t366, u372001] 26 (0, 0)) (blk_g BK371.out) hg (Kd.R_ne HO411.out BK371.out (by decide)))
        replace BK378 := mkA (blk_grown (g := gb378) (o := .cells #[.int .i64 t373, .slice (some ad407) x379001_7.length co362] 26 (0, 0)) (blk_g BK378.out) hg (Kd.R_ne HO411.out BK378.out (by decide)))
        replace BK384 := mkA (blk_grown (g := gb384) (o := .cells #[.int .i64 t379, u385001] 26 (0, 0)) (blk_g BK384.out) hg (Kd.R_ne HO411.out BK384.out (by decide)))
        replace BK392 := mkA (blk_grown (g := gb392) (o := .cells #[.int .i64 t387, u393001] 26 (0, 0)) (blk_g BK392.out) hg (Kd.R_ne HO411.out BK392.out (by decide)))
        replace BK405 := mkA (blk_grown (g := gb405) (o := .cells #[.int .i64 t400, u406001] 26 (0, 0)) (blk_g BK405.out) hg (Kd.R_ne HO411.out BK405.out (by decide)))
        replace BK415 := mkA (blk_grown (g := gb415) (o := .cells #[.int .i64 0, .slice none 0 0] 26 (0, 0)) (blk_g BK415.out) hg (Kd.R_ne HO411.out BK415.out (by decide)))
        have HO414 := mkA (ho)
        replace HB := mkA (hb)
        clear HO411
        clear ho hb hg hat
        obtain ⟨Ao368, co368, eo368⟩ := Kd.R_slice HO414.out
        (first | subst eo368 | (injection eo368 with f1_ f2_ f3_; have f4_ := f1_.symm; have f5_ := f3_.symm; clear f1_ f2_ f3_; subst f4_; subst f5_))
        refine hK.out _ _ ⟨(blk_cell BK378.out 0).trans rfl, (blk_cell BK378.out 1).trans rfl⟩ (fun hHeld => ?_)
        clear hK K
        refine normW 167 ?_
        refine purW 6 168 9 255 HT_ ?_
        exact norm_ (by simp only [putAll, Act.put, List.setIfInBounds_toArray, List.set_cons_zero, List.set_cons_succ]) (hCont (v410, .slice Ao368 y412.length co368, gb415) _ ⟨hHeld, (Kd.R_g HO414.out), (Kd.R_g (rM2 HO_360001.out)), (Kd.R_g (rM2 HO_366001.out)), (Kd.R_g (rM2 HO_372001.out)), (Kd.R_g (rM2 HO_379001.out)), (Kd.R_g (rM2 HO_385001.out)), (Kd.R_g (rM2 HO_393001.out)), (Kd.R_g (rM2 HO_406001.out)), (blk_g BK359.out), (blk_g BK365.out), (blk_g BK371.out), (blk_g BK378.out), (blk_g BK384.out), (blk_g BK392.out), (blk_g BK405.out), (blk_g BK415.out), GW415.out, GE415.out, NB359_415.out, NB415_359.out, NB365_415.out, NB415_365.out, NB371_415.out, NB415_371.out, NB378_415.out, NB415_378.out, NB384_415.out, NB415_384.out, NB392_415.out, NB415_392.out, NB405_415.out, NB415_405.out, (bel_g HB.out)⟩)
      rintro ⟨v410, v413, gb415⟩ w369 ⟨hS_, h0_, h1_, h2_, h3_, h4_, h5_, h6_, h7_, h8_, h9_, h10_, h11_, h12_, h13_, h14_, h15_, h16_, h17_, h18_, h19_, h20_, h21_, h22_, h23_, h24_, h25_, h26_, h27_, h28_, h29_, h30_, h31_, h32_⟩
      have n0_ : Fc (Kd.R (Kd.int .i64) 3 w369 w.heap.size (O7 u360001 u366001 u372001 (.slice (some ad407) x379001_7.length co362) u385001 u393001 u406001) v413 y412) := ⟨h0_⟩
      have n1_ : Fc (Kd.R (Kd.int .i64) 3 w369 w.heap.size (O7 v413 u366001 u372001 (.slice (some ad407) x379001_7.length co362) u385001 u393001 u406001) u360001 x360001_7) := ⟨h1_⟩
      have n2_ : Fc (Kd.R (Kd.int .i64) 3 w369 w.heap.size (O7 v413 u360001 u372001 (.slice (some ad407) x379001_7.length co362) u385001 u393001 u406001) u366001 x366001_7) := ⟨h2_⟩
      have n3_ : Fc (Kd.R (Kd.int .i64) 3 w369 w.heap.size (O7 v413 u360001 u366001 (.slice (some ad407) x379001_7.length co362) u385001 u393001 u406001) u372001 x372001_7) := ⟨h3_⟩
      have n4_ : Fc (Kd.R (Kd.int .i64) 3 w369 w.heap.size (O7 v413 u360001 u366001 u372001 u385001 u393001 u406001) (.slice (some ad407) x379001_7.length co362) x379001_7) := ⟨h4_⟩
      have n5_ : Fc (Kd.R (Kd.int .i64) 3 w369 w.heap.size (O7 v413 u360001 u366001 u372001 (.slice (some ad407) x379001_7.length co362) u393001 u406001) u385001 x385001_7) := ⟨h5_⟩
      have n6_ : Fc (Kd.R (Kd.int .i64) 3 w369 w.heap.size (O7 v413 u360001 u366001 u372001 (.slice (some ad407) x379001_7.length co362) u385001 u406001) u393001 x393001_7) := ⟨h6_⟩
      have n7_ : Fc (Kd.R (Kd.int .i64) 3 w369 w.heap.size (O7 v413 u360001 u366001 u372001 (.slice (some ad407) x379001_7.length co362) u385001 u393001) u406001 x406001_7) := ⟨h7_⟩
      have n8_ : Fc (w369.heap[gb359]? = some (.cells #[.int .i64 t355, u360001] 26 (0, 0))) := ⟨h8_⟩
      have n9_ : Fc (w369.heap[gb365]? = some (.cells #[.int .i64 t360, u366001] 26 (0, 0))) := ⟨h9_⟩
      have n10_ : Fc (w369.heap[gb371]? = some (.cells #[.int .i64 t366, u372001] 26 (0, 0))) := ⟨h10_⟩
      have n11_ : Fc (w369.heap[gb378]? = some (.cells #[.int .i64 t373, .slice (some ad407) x379001_7.length co362] 26 (0, 0))) := ⟨h11_⟩
      have n12_ : Fc (w369.heap[gb384]? = some (.cells #[.int .i64 t379, u385001] 26 (0, 0))) := ⟨h12_⟩
      have n13_ : Fc (w369.heap[gb392]? = some (.cells #[.int .i64 t387, u393001] 26 (0, 0))) := ⟨h13_⟩
      have n14_ : Fc (w369.heap[gb405]? = some (.cells #[.int .i64 t400, u406001] 26 (0, 0))) := ⟨h14_⟩
      have n15_ : Fc (w369.heap[gb415]? = some (.cells #[.int .i64 0, .slice none 0 0] 26 (0, 0))) := ⟨h15_⟩
      have n16_ : Ge w.heap.size gb415 := ⟨h16_⟩
      have n17_ : Ge w.heap.size gb415 := ⟨h17_⟩
      have n18_ : NeB gb359 gb415 := ⟨h18_⟩
      have n19_ : NeB gb415 gb359 := ⟨h19_⟩
      have n20_ : NeB gb365 gb415 := ⟨h20_⟩
      have n21_ : NeB gb415 gb365 := ⟨h21_⟩
      have n22_ : NeB gb371 gb415 := ⟨h22_⟩
      have n23_ : NeB gb415 gb371 := ⟨h23_⟩
      have n24_ : NeB gb378 gb415 := ⟨h24_⟩
      have n25_ : NeB gb415 gb378 := ⟨h25_⟩
      have n26_ : NeB gb384 gb415 := ⟨h26_⟩
      have n27_ : NeB gb415 gb384 := ⟨h27_⟩
      have n28_ : NeB gb392 gb415 := ⟨h28_⟩
      have n29_ : NeB gb415 gb392 := ⟨h29_⟩
      have n30_ : NeB gb405 gb415 := ⟨h30_⟩
      have n31_ : NeB gb415 gb405 := ⟨h31_⟩
      have n32_ : Fc (Below w.heap.size w w369) := ⟨h32_⟩
      clear HO_360001
      clear HO_366001
      clear HO_372001
      clear HO_379001
      clear HO_385001
      clear HO_393001
      clear HO_406001
      clear BK359
      clear BK365
      clear BK371
      clear BK378
      clear BK384
      clear BK392
      clear BK405
      clear HB
      clear h0_ h1_ h2_ h3_ h4_ h5_ h6_ h7_ h8_ h9_ h10_ h11_ h12_ h13_ h14_ h15_ h16_ h17_ h18_ h19_ h20_ h21_ h22_ h23_ h24_ h25_ h26_ h27_ h28_ h29_ h30_ h31_ h32_
      have HO414 := n0_
      have HO_360001 := n1_
      have HO_366001 := n2_
      have HO_372001 := n3_
      have HO_379001 := n4_
      have HO_385001 := n5_
      have HO_393001 := n6_
      have HO_406001 := n7_
      have BK359 := n8_
      have BK365 := n9_
      have BK371 := n10_
      have BK378 := n11_
      have BK384 := n12_
      have BK392 := n13_
      have BK405 := n14_
      have BK415 := n15_
      have GW415 := n16_
      have GE415 := n17_
      have NB359_415 := n18_
      have NB415_359 := n19_
      have NB365_415 := n20_
      have NB415_365 := n21_
      have NB371_415 := n22_
      have NB415_371 := n23_
      have NB378_415 := n24_
      have NB415_378 := n25_
      have NB384_415 := n26_
      have NB415_384 := n27_
      have NB392_415 := n28_
      have NB415_392 := n29_
      have NB405_415 := n30_
      have NB415_405 := n31_
      have HB := n32_
      clear n0_ n1_ n2_ n3_ n4_ n5_ n6_ n7_ n8_ n9_ n10_ n11_ n12_ n13_ n14_ n15_ n16_ n17_ n18_ n19_ n20_ n21_ n22_ n23_ n24_ n25_ n26_ n27_ n28_ n29_ n30_ n31_ n32_
      have hHeld : w369.cell? ⟨gb378, 0, none⟩ = some (.int .i64 t373) ∧ w369.cell? ⟨gb378, 1, none⟩ = some (.slice (some ad407) x379001_7.length co362) := hS_
      obtain ⟨Ao370, co370, eo370⟩ := Kd.R_slice HO414.out
      (first | subst eo370 | (injection eo370 with f1_ f2_ f3_; have f4_ := f1_.symm; have f5_ := f3_.symm; clear f1_ f2_ f3_; subst f4_; subst f5_))
      refine norm_ (a' := ?_) ?_ ?_
      rotate_left
      ·simp only [putAll, Act.put, List.setIfInBounds_toArray, List.set_cons_zero, List.set_cons_succ]
       rfl
      refine oneW 8 (none) (bm 9 511) HT_ (fun K hK => ?_)
      obtain ⟨_, _, _, _⟩ := blk2 BK415
      refine skip_ (w1 := ?_) (by rfl) rfl ?_ ?_
      rotate_left
      ·go_simp
       rfl
      refine hK.out _ _ ⟨(cF (cF hHeld.1)), (cF (cF hHeld.2))⟩ (fun hHeld => ?_)
      clear hK K
      refine doneW HT_ ?_
      try go_wp2
      have n0_ : Fc (Kd.R (Kd.int .i64) 3 ((w369.setCell ⟨gb415, 0, none⟩ (.int .i64 t373)).setCell ⟨gb415, 1, none⟩ (.slice Ao370 y412.length co370)) w.heap.size (O7 u366001 u372001 (.slice (some ad407) x379001_7.length co362) u385001 u393001 u406001 (.slice Ao370 y412.length co370)) u360001 x360001_7) := ⟨Kd.R_g (rM2 (Kd.R_far (p := ⟨gb415, 1, none⟩) (Kd.R_far (p := ⟨gb415, 0, none⟩) (Kd.R_types HO_360001.out BK415.out (by decide)) (fun _ hk => hk.2) (.int .i64 t373)) (fun _ hk => hk.2) (.slice Ao370 y412.length co370)))⟩
      have n1_ : Fc (Kd.R (Kd.int .i64) 3 ((w369.setCell ⟨gb415, 0, none⟩ (.int .i64 t373)).setCell ⟨gb415, 1, none⟩ (.slice Ao370 y412.length co370)) w.heap.size (O7 u360001 u372001 (.slice (some ad407) x379001_7.length co362) u385001 u393001 u406001 (.slice Ao370 y412.length co370)) u366001 x366001_7) := ⟨Kd.R_g (rM2 (Kd.R_far (p := ⟨gb415, 1, none⟩) (Kd.R_far (p := ⟨gb415, 0, none⟩) (Kd.R_types HO_366001.out BK415.out (by decide)) (fun _ hk => hk.2) (.int .i64 t373)) (fun _ hk => hk.2) (.slice Ao370 y412.length co370)))⟩
      have n2_ : Fc (Kd.R (Kd.int .i64) 3 ((w369.setCell ⟨gb415, 0, none⟩ (.int .i64 t373)).setCell ⟨gb415, 1, none⟩ (.slice Ao370 y412.length co370)) w.heap.size (O7 u360001 u366001 (.slice (some ad407) x379001_7.length co362) u385001 u393001 u406001 (.slice Ao370 y412.length co370)) u372001 x372001_7) := ⟨Kd.R_g (rM2 (Kd.R_far (p := ⟨gb415, 1, none⟩) (Kd.R_far (p := ⟨gb415, 0, none⟩) (Kd.R_types HO_372001.out BK415.out (by decide)) (fun _ hk => hk.2) (.int .i64 t373)) (fun _ hk => hk.2) (.slice Ao370 y412.length co370)))⟩
      have n3_ : Fc (Kd.R (Kd.int .i64) 3 ((w369.setCell ⟨gb415, 0, none⟩ (.int .i64 t373)).setCell ⟨gb415, 1, none⟩ (.slice Ao370 y412.length co370)) w.heap.size (O7 u360001 u366001 u372001 u385001 u393001 u406001 (.slice Ao370 y412.length co370)) (.slice (some ad407) x379001_7.length co362) x379001_7) := ⟨Kd.R_g (rM2 (Kd.R_far (p := ⟨gb415, 1, none⟩) (Kd.R_far (p := ⟨gb415, 0, none⟩) (Kd.R_types HO_379001.out BK415.out (by decide)) (fun _ hk => hk.2) (.int .i64 t373)) (fun _ hk => hk.2) (.slice Ao370 y412.length co370)))⟩
      have n4_ : Fc (Kd.R (Kd.int .i64) 3 ((w369.setCell ⟨gb415, 0, none⟩ (.int .i64 t373)).setCell ⟨gb415, 1, none⟩ (.slice Ao370 y412.length co370)) w.heap.size (O7 u360001 u366001 u372001 (.slice (some ad407) x379001_7.length co362) u393001 u406001 (.slice Ao370 y412.length co370)) u385001 x385001_7) := ⟨Kd.R_g (rM2 (Kd.R_far (p := ⟨gb415, 1, none⟩) (Kd.R_far (p := ⟨gb415, 0, none⟩) (Kd.R_types HO_385001.out BK415.out (by decide)) (fun _ hk => hk.2) (.int .i64 t373)) (fun _ hk => hk.2) (.slice Ao370 y412.length co370)))⟩
      have n5_ : Fc (Kd.R (Kd.int .i64) 3 ((w369.setCell ⟨gb415, 0, none⟩ (.int .i64 t373)).setCell ⟨gb415, 1, none⟩ (.slice Ao370 y412.length co370)) w.heap.size (O7 u360001 u366001 u372001 (.slice (some ad407) x379001_7.length co362) u385001 u406001 (.slice Ao370 y412.length co370)) u393001 x393001_7) := ⟨Kd.R_g (rM2 (Kd.R_far (p := ⟨gb415, 1, none⟩) (Kd.R_far (p := ⟨gb415, 0, none⟩) (Kd.R_types HO_393001.out BK415.out (by decide)) (fun _ hk => hk.2) (.int .i64 t373)) (fun _ hk => hk.2) (.slice Ao370 y412.length co370)))⟩
      have n6_ : Fc (Kd.R (Kd.int .i64) 3 ((w369.setCell ⟨gb415, 0, none⟩ (.int .i64 t373)).setCell ⟨gb415, 1, none⟩ (.slice Ao370 y412.length co370)) w.heap.size (O7 u360001 u366001 u372001 (.slice (some ad407) x379001_7.length co362) u385001 u393001 (.slice Ao370 y412.length co370)) u406001 x406001_7) := ⟨Kd.R_g (rM2 (Kd.R_far (p := ⟨gb415, 1, none⟩) (Kd.R_far (p := ⟨gb415, 0, none⟩) (Kd.R_types HO_406001.out BK415.out (by decide)) (fun _ hk => hk.2) (.int .i64 t373)) (fun _ hk => hk.2) (.slice Ao370 y412.length co370)))⟩
      have n7_ : Fc (Kd.R (Kd.int .i64) 3 ((w369.setCell ⟨gb415, 0, none⟩ (.int .i64 t373)).setCell ⟨gb415, 1, none⟩ (.slice Ao370 y412.length co370)) w.heap.size (O7 u360001 u366001 u372001 (.slice (some ad407) x379001_7.length co362) u385001 u393001 u406001) (.slice Ao370 y412.length co370) y412) := ⟨Kd.R_g (rM2 (Kd.R_far (p := ⟨gb415, 1, none⟩) (Kd.R_far (p := ⟨gb415, 0, none⟩) (Kd.R_types HO414.out BK415.out (by decide)) (fun _ hk => hk.2) (.int .i64 t373)) (fun _ hk => hk.2) (.slice Ao370 y412.length co370)))⟩
      have n8_ : Fc (((w369.setCell ⟨gb415, 0, none⟩ (.int .i64 t373)).setCell ⟨gb415, 1, none⟩ (.slice Ao370 y412.length co370)).heap[gb359]? = some (.cells #[.int .i64 t355, u360001] 26 (0, 0))) := ⟨blkT BK359⟩
      have n9_ : Fc (((w369.setCell ⟨gb415, 0, none⟩ (.int .i64 t373)).setCell ⟨gb415, 1, none⟩ (.slice Ao370 y412.length co370)).heap[gb365]? = some (.cells #[.int .i64 t360, u366001] 26 (0, 0))) := ⟨blkT BK365⟩
      have n10_ : Fc (((w369.setCell ⟨gb415, 0, none⟩ (.int .i64 t373)).setCell ⟨gb415, 1, none⟩ (.slice Ao370 y412.length co370)).heap[gb371]? = some (.cells #[.int .i64 t366, u372001] 26 (0, 0))) := ⟨blkT BK371⟩
      have n11_ : Fc (((w369.setCell ⟨gb415, 0, none⟩ (.int .i64 t373)).setCell ⟨gb415, 1, none⟩ (.slice Ao370 y412.length co370)).heap[gb378]? = some (.cells #[.int .i64 t373, .slice (some ad407) x379001_7.length co362] 26 (0, 0))) := ⟨blkT BK378⟩
      have n12_ : Fc (((w369.setCell ⟨gb415, 0, none⟩ (.int .i64 t373)).setCell ⟨gb415, 1, none⟩ (.slice Ao370 y412.length co370)).heap[gb384]? = some (.cells #[.int .i64 t379, u385001] 26 (0, 0))) := ⟨blkT BK384⟩
      have n13_ : Fc (((w369.setCell ⟨gb415, 0, none⟩ (.int .i64 t373)).setCell ⟨gb415, 1, none⟩ (.slice Ao370 y412.length co370)).heap[gb392]? = some (.cells #[.int .i64 t387, u393001] 26 (0, 0))) := ⟨blkT BK392⟩
      have n14_ : Fc (((w369.setCell ⟨gb415, 0, none⟩ (.int .i64 t373)).setCell ⟨gb415, 1, none⟩ (.slice Ao370 y412.length co370)).heap[gb405]? = some (.cells #[.int .i64 t400, u406001] 26 (0, 0))) := ⟨blkT BK405⟩
      have n15_ : Fc (((w369.setCell ⟨gb415, 0, none⟩ (.int .i64 t373)).setCell ⟨gb415, 1, none⟩ (.slice Ao370 y412.length co370)).heap[gb415]? = some (.cells #[.int .i64 t373, .slice Ao370 y412.length co370] 26 (0, 0))) := ⟨blkT BK415⟩
      have n16_ : Fc (Below w.heap.size w ((w369.setCell ⟨gb415, 0, none⟩ (.int .i64 t373)).setCell ⟨gb415, 1, none⟩ (.slice Ao370 y412.length co370))) := ⟨bel_g HB.out⟩
      (try clear HO_360001)
      (try clear HO_366001)
      (try clear HO_372001)
      (try clear HO_379001)
      (try clear HO_385001)
      (try clear HO_393001)
      (try clear HO_406001)
      (try clear HO414)
      (try clear BK359)
      (try clear BK365)
      (try clear BK371)
      (try clear BK378)
      (try clear BK384)
      (try clear BK392)
      (try clear BK405)
      (try clear BK415)
      (try clear HB)
      generalize ((w369.setCell ⟨gb415, 0, none⟩ (.int .i64 t373)).setCell ⟨gb415, 1, none⟩ (.slice Ao370 y412.length co370)) = w373 at n0_ n1_ n2_ n3_ n4_ n5_ n6_ n7_ n8_ n9_ n10_ n11_ n12_ n13_ n14_ n15_ n16_ ⊢
      have HO_360001 := n0_
      have HO_366001 := n1_
      have HO_372001 := n2_
      have HO_379001 := n3_
      have HO_385001 := n4_
      have HO_393001 := n5_
      have HO_406001 := n6_
      have HO414 := n7_
      have BK359 := n8_
      have BK365 := n9_
      have BK371 := n10_
      have BK378 := n11_
      have BK384 := n12_
      have BK392 := n13_
      have BK405 := n14_
      have BK415 := n15_
      have HB := n16_
      clear n0_ n1_ n2_ n3_ n4_ n5_ n6_ n7_ n8_ n9_ n10_ n11_ n12_ n13_ n14_ n15_ n16_
      replace HO_360001 := mkA (Kd.R_drew HO_360001.out)
      replace HO_366001 := mkA (Kd.R_drew HO_366001.out)
      replace HO_372001 := mkA (Kd.R_drew HO_372001.out)
      replace HO_379001 := mkA (Kd.R_drew HO_379001.out)
      replace HO_385001 := mkA (Kd.R_drew HO_385001.out)
      replace HO_393001 := mkA (Kd.R_drew HO_393001.out)
      replace HO_406001 := mkA (Kd.R_drew HO_406001.out)
      replace HO414 := mkA (Kd.R_drew HO414.out)
      replace BK359 := mkA (blk_drew BK359.out)
      replace BK365 := mkA (blk_drew BK365.out)
      replace BK371 := mkA (blk_drew BK371.out)
      replace BK378 := mkA (blk_drew BK378.out)
      replace BK384 := mkA (blk_drew BK384.out)
      replace BK392 := mkA (blk_drew BK392.out)
      replace BK405 := mkA (blk_drew BK405.out)
      replace BK415 := mkA (blk_drew BK415.out)
      replace HB := mkA (below_drew1 HB.out)
      obtain ⟨p416, q416, ad416, e416, hx416_0⟩ := atI (Kd.R_reads' HO414.out).2.2 x145_6
      cases e416
      have p265 : 0 ≤ (x145_6 : Int) := ofd
      have q265 : (x145_6 : Int) < ((y412.length : Int) : Int) := ofd
      obtain ⟨go265, co265, eo265, gb265, gl265, cl265, HG265⟩ := Kd.R_form HO414.out (by omega)
      (first | cases eo265 | (injection eo265 with ea_ en_ ec_; (first | subst ea_ | (injection ea_ with ea_; subst ea_)); subst ec_; clear en_))
      have GB265 : Ge _ _ := ⟨gb265⟩
      have GG265 := mkA HG265
      clear gb265 gl265 HG265
      (first | simp only [add_plain] at hx416_0 | skip)
      obtain ⟨hx265_0, hf265_0⟩ := Kd.R_celln 0 HO414.out (x145_6 : Int) p265 q265
      replace p265 := eq_true p265
      replace q265 := eq_true q265
      have HP375 := Kd.R_putn HO414.out (x145_6 : Int) (wrap64 ((rd y412 x145_6) - (ji264)))
      rw [← Ny417.out] at HP375
      have HQ375 := mkA HP375
      clear HP375
      refine start_ (n := 10) (S := fun w' => w'.cell? ⟨gb415, 0, none⟩ = some (.int .i64 t373) ∧ w'.cell? ⟨gb415, 1, none⟩ = some (.slice (some ⟨go265, 0, none⟩) y412.length co370) ∧ w'.cell? ⟨go265, (x145_6).toNat, none⟩ = some (.int .i64 (rd y412 x145_6))) (ds := [9]) (bm 10 0) (by kernel_rfl) rfl rfl ⟨(blk_cell BK415.out 0).trans rfl, (blk_cell BK415.out 1).trans rfl, hx416_0⟩ (fun hHeld => ?_); refine with_tabW laws_FnClosures.tab40 laws_FnClosures.bits40 (fun HT_ HW_ => ?_)
      generalize w373.drew = w374 at HO_360001 HO_366001 HO_372001 HO_379001 HO_385001 HO_393001 HO_406001 HO414 BK359 BK365 BK371 BK378 BK384 BK392 BK405 BK415 HB GG265 HQ375 hf265_0 hx265_0 hx416_0 hHeld ⊢
      refine purW 0 169 10 1 HT_ ?_
      refine purW 2 171 10 5 HT_ ?_
      refine purW 5 174 10 37 HT_ ?_
      refine purW 6 175 10 101 HT_ ?_
      refine takeW 1 (some 170) (bm 10 103) HT_ HW_ hHeld ?_
      refine purW 3 172 10 111 HT_ ?_
      refine takeW 4 (some 173) (bm 10 127) HT_ HW_ hHeld ?_
      refine purW 7 176 10 255 HT_ ?_
      refine purW 8 177 10 511 HT_ ?_
      refine last_ (i := 9) (N := none) (bm 10 1023) rfl rfl (one_of HT_.out (by kernel_rfl)) (by decide) (fun K hK => ?_)
      refine skip_ (w1 := ?_) (by rfl) rfl ?_ ?_
      rotate_left
      ·go_simp
       rfl
      refine hK.out _ _ ?_
      clear hK K
      refine doneW HT_ ?_
      have n0_ : Fc (Kd.R (Kd.int .i64) 3 (w374.setCell ⟨go265, (x145_6 : Int).toNat, none⟩ (.int .i64 (wrap64 ((rd y412 x145_6) - (ji264))))) w.heap.size (O7 u366001 u372001 (.slice (some ad407) x379001_7.length co362) u385001 u393001 u406001 (.slice (some ⟨go265, 0, none⟩) y412.length co370)) u360001 x360001_7) := ⟨Kd.R_g (rM2 (Kd.R_far (p := ⟨go265, (x145_6 : Int).toNat, none⟩) (Kd.R_mono HO_360001.out (fun k_ hk => (⟨hk, fun e_ => hk.2.2.2.2.2.2 (by rw [e_]; rfl)⟩ : _ ∧ k_ ≠ go265))) (fun _ hk => hk.2) (.int .i64 (wrap64 ((rd y412 x145_6) - (ji264))))))⟩
      have n1_ : Fc (Kd.R (Kd.int .i64) 3 (w374.setCell ⟨go265, (x145_6 : Int).toNat, none⟩ (.int .i64 (wrap64 ((rd y412 x145_6) - (ji264))))) w.heap.size (O7 u360001 u372001 (.slice (some ad407) x379001_7.length co362) u385001 u393001 u406001 (.slice (some ⟨go265, 0, none⟩) y412.length co370)) u366001 x366001_7) := ⟨Kd.R_g (rM2 (Kd.R_far (p := ⟨go265, (x145_6 : Int).toNat, none⟩) (Kd.R_mono HO_366001.out (fun k_ hk => (⟨hk, fun e_ => hk.2.2.2.2.2.2 (by rw [e_]; rfl)⟩ : _ ∧ k_ ≠ go265))) (fun _ hk => hk.2) (.int .i64 (wrap64 ((rd y412 x145_6) - (ji264))))))⟩
      have n2_ : Fc (Kd.R (Kd.int .i64) 3 (w374.setCell ⟨go265, (x145_6 : Int).toNat, none⟩ (.int .i64 (wrap64 ((rd y412 x145_6) - (ji264))))) w.heap.size (O7 u360001 u366001 (.slice (some ad407) x379001_7.length co362) u385001 u393001 u406001 (.slice (some ⟨go265, 0, none⟩) y412.length co370)) u372001 x372001_7) := ⟨Kd.R_g (rM2 (Kd.R_far (p := ⟨go265, (x145_6 : Int).toNat, none⟩) (Kd.R_mono HO_372001.out (fun k_ hk => (⟨hk, fun e_ => hk.2.2.2.2.2.2 (by rw [e_]; rfl)⟩ : _ ∧ k_ ≠ go265))) (fun _ hk => hk.2) (.int .i64 (wrap64 ((rd y412 x145_6) - (ji264))))))⟩
      have n3_ : Fc (Kd.R (Kd.int .i64) 3 (w374.setCell ⟨go265, (x145_6 : Int).toNat, none⟩ (.int .i64 (wrap64 ((rd y412 x145_6) - (ji264))))) w.heap.size (O7 u360001 u366001 u372001 u385001 u393001 u406001 (.slice (some ⟨go265, 0, none⟩) y412.length co370)) (.slice (some ad407) x379001_7.length co362) x379001_7) := ⟨Kd.R_g (rM2 (Kd.R_far (p := ⟨go265, (x145_6 : Int).toNat, none⟩) (Kd.R_mono HO_379001.out (fun k_ hk => (⟨hk, fun e_ => hk.2.2.2.2.2.2 (by rw [e_]; rfl)⟩ : _ ∧ k_ ≠ go265))) (fun _ hk => hk.2) (.int .i64 (wrap64 ((rd y412 x145_6) - (ji264))))))⟩
      have n4_ : Fc (Kd.R (Kd.int .i64) 3 (w374.setCell ⟨go265, (x145_6 : Int).toNat, none⟩ (.int .i64 (wrap64 ((rd y412 x145_6) - (ji264))))) w.heap.size (O7 u360001 u366001 u372001 (.slice (some ad407) x379001_7.length co362) u393001 u406001 (.slice (some ⟨go265, 0, none⟩) y412.length co370)) u385001 x385001_7) := ⟨Kd.R_g (rM2 (Kd.R_far (p := ⟨go265, (x145_6 : Int).toNat, none⟩) (Kd.R_mono HO_385001.out (fun k_ hk => (⟨hk, fun e_ => hk.2.2.2.2.2.2 (by rw [e_]; rfl)⟩ : _ ∧ k_ ≠ go265))) (fun _ hk => hk.2) (.int .i64 (wrap64 ((rd y412 x145_6) - (ji264))))))⟩
      have n5_ : Fc (Kd.R (Kd.int .i64) 3 (w374.setCell ⟨go265, (x145_6 : Int).toNat, none⟩ (.int .i64 (wrap64 ((rd y412 x145_6) - (ji264))))) w.heap.size (O7 u360001 u366001 u372001 (.slice (some ad407) x379001_7.length co362) u385001 u406001 (.slice (some ⟨go265, 0, none⟩) y412.length co370)) u393001 x393001_7) := ⟨Kd.R_g (rM2 (Kd.R_far (p := ⟨go265, (x145_6 : Int).toNat, none⟩) (Kd.R_mono HO_393001.out (fun k_ hk => (⟨hk, fun e_ => hk.2.2.2.2.2.2 (by rw [e_]; rfl)⟩ : _ ∧ k_ ≠ go265))) (fun _ hk => hk.2) (.int .i64 (wrap64 ((rd y412 x145_6) - (ji264))))))⟩
      have n6_ : Fc (Kd.R (Kd.int .i64) 3 (w374.setCell ⟨go265, (x145_6 : Int).toNat, none⟩ (.int .i64 (wrap64 ((rd y412 x145_6) - (ji264))))) w.heap.size (O7 u360001 u366001 u372001 (.slice (some ad407) x379001_7.length co362) u385001 u393001 (.slice (some ⟨go265, 0, none⟩) y412.length co370)) u406001 x406001_7) := ⟨Kd.R_g (rM2 (Kd.R_far (p := ⟨go265, (x145_6 : Int).toNat, none⟩) (Kd.R_mono HO_406001.out (fun k_ hk => (⟨hk, fun e_ => hk.2.2.2.2.2.2 (by rw [e_]; rfl)⟩ : _ ∧ k_ ≠ go265))) (fun _ hk => hk.2) (.int .i64 (wrap64 ((rd y412 x145_6) - (ji264))))))⟩
      have n7_ : Fc (Kd.R (Kd.int .i64) 3 (w374.setCell ⟨go265, (x145_6 : Int).toNat, none⟩ (.int .i64 (wrap64 ((rd y412 x145_6) - (ji264))))) w.heap.size (O7 u360001 u366001 u372001 (.slice (some ad407) x379001_7.length co362) u385001 u393001 u406001) (.slice (some ⟨go265, 0, none⟩) y412.length co370) y417) := ⟨Kd.R_g HQ375.out⟩
      have n8_ : Fc ((w374.setCell ⟨go265, (x145_6 : Int).toNat, none⟩ (.int .i64 (wrap64 ((rd y412 x145_6) - (ji264))))).heap[gb359]? = some (.cells #[.int .i64 t355, u360001] 26 (0, 0))) := ⟨by (with_reducible repeat (first | refine blk_drewN ?_ _ | refine blk_drew ?_ | refine blk_alloc ?_ _)); refine blk_far ?_ (by have h_ := Kd.R_ne HO414.out BK359.out (by decide); intro e_; exact h_ (by rw [e_]; rfl)) _; (with_reducible repeat (first | refine blk_drewN ?_ _ | refine blk_drew ?_ | refine blk_alloc ?_ _)); exact BK359.out⟩
      have n9_ : Fc ((w374.setCell ⟨go265, (x145_6 : Int).toNat, none⟩ (.int .i64 (wrap64 ((rd y412 x145_6) - (ji264))))).heap[gb365]? = some (.cells #[.int .i64 t360, u366001] 26 (0, 0))) := ⟨by (with_reducible repeat (first | refine blk_drewN ?_ _ | refine blk_drew ?_ | refine blk_alloc ?_ _)); refine blk_far ?_ (by have h_ := Kd.R_ne HO414.out BK365.out (by decide); intro e_; exact h_ (by rw [e_]; rfl)) _; (with_reducible repeat (first | refine blk_drewN ?_ _ | refine blk_drew ?_ | refine blk_alloc ?_ _)); exact BK365.out⟩
      have n10_ : Fc ((w374.setCell ⟨go265, (x145_6 : Int).toNat, none⟩ (.int .i64 (wrap64 ((rd y412 x145_6) - (ji264))))).heap[gb371]? = some (.cells #[.int .i64 t366, u372001] 26 (0, 0))) := ⟨by (with_reducible repeat (first | refine blk_drewN ?_ _ | refine blk_drew ?_ | refine blk_alloc ?_ _)); refine blk_far ?_ (by have h_ := Kd.R_ne HO414.out BK371.out (by decide); intro e_; exact h_ (by rw [e_]; rfl)) _; (with_reducible repeat (first | refine blk_drewN ?_ _ | refine blk_drew ?_ | refine blk_alloc ?_ _)); exact BK371.out⟩
      have n11_ : Fc ((w374.setCell ⟨go265, (x145_6 : Int).toNat, none⟩ (.int .i64 (wrap64 ((rd y412 x145_6) - (ji264))))).heap[gb378]? = some (.cells #[.int .i64 t373, .slice (some ad407) x379001_7.length co362] 26 (0, 0))) := ⟨by (with_reducible repeat (first | refine blk_drewN ?_ _ | refine blk_drew ?_ | refine blk_alloc ?_ _)); refine blk_far ?_ (by have h_ := Kd.R_ne HO414.out BK378.out (by decide); intro e_; exact h_ (by rw [e_]; rfl)) _; (with_reducible repeat (first | refine blk_drewN ?_ _ | refine blk_drew ?_ | refine blk_alloc ?_ _)); exact BK378.out⟩
      have n12_ : Fc ((w374.setCell ⟨go265, (x145_6 : Int).toNat, none⟩ (.int .i64 (wrap64 ((rd y412 x145_6) - (ji264))))).heap[gb384]? = some (.cells #[.int .i64 t379, u385001] 26 (0, 0))) := ⟨by (with_reducible repeat (first | refine blk_drewN ?_ _ | refine blk_drew ?_ | refine blk_alloc ?_ _)); refine blk_far ?_ (by have h_ := Kd.R_ne HO414.out BK384.out (by decide); intro e_; exact h_ (by rw [e_]; rfl)) _; (with_reducible repeat (first | refine blk_drewN ?_ _ | refine blk_drew ?_ | refine blk_alloc ?_ _)); exact BK384.out⟩
      have n13_ : Fc ((w374.setCell ⟨go265, (x145_6 : Int).toNat, none⟩ (.int .i64 (wrap64 ((rd y412 x145_6) - (ji264))))).heap[gb392]? = some (.cells #[.int .i64 t387, u393001] 26 (0, 0))) := ⟨by (with_reducible repeat (first | refine blk_drewN ?_ _ | refine blk_drew ?_ | refine blk_alloc ?_ _)); refine blk_far ?_ (by have h_ := Kd.R_ne HO414.out BK392.out (by decide); intro e_; exact h_ (by rw [e_]; rfl)) _; (with_reducible repeat (first | refine blk_drewN ?_ _ | refine blk_drew ?_ | refine blk_alloc ?_ _)); exact BK392.out⟩
      have n14_ : Fc ((w374.setCell ⟨go265, (x145_6 : Int).toNat, none⟩ (.int .i64 (wrap64 ((rd y412 x145_6) - (ji264))))).heap[gb405]? = some (.cells #[.int .i64 t400, u406001] 26 (0, 0))) := ⟨by (with_reducible repeat (first | refine blk_drewN ?_ _ | refine blk_drew ?_ | refine blk_alloc ?_ _)); refine blk_far ?_ (by have h_ := Kd.R_ne HO414.out BK405.out (by decide); intro e_; exact h_ (by rw [e_]; rfl)) _; (with_reducible repeat (first | refine blk_drewN ?_ _ | refine blk_drew ?_ | refine blk_alloc ?_ _)); exact BK405.out⟩
      have n15_ : Fc ((w374.setCell ⟨go265, (x145_6 : Int).toNat, none⟩ (.int .i64 (wrap64 ((rd y412 x145_6) - (ji264))))).heap[gb415]? = some (.cells #[.int .i64 t373, .slice (some ⟨go265, 0, none⟩) y412.length co370] 26 (0, 0))) := ⟨by (with_reducible repeat (first | refine blk_drewN ?_ _ | refine blk_drew ?_ | refine blk_alloc ?_ _)); refine blk_far ?_ (by have h_ := Kd.R_ne HO414.out BK415.out (by decide); intro e_; exact h_ (by rw [e_]; rfl)) _; (with_reducible repeat (first | refine blk_drewN ?_ _ | refine blk_drew ?_ | refine blk_alloc ?_ _)); exact BK415.out⟩
      have n16_ : Fc (Below w.heap.size w (w374.setCell ⟨go265, (x145_6 : Int).toNat, none⟩ (.int .i64 (wrap64 ((rd y412 x145_6) - (ji264)))))) := ⟨bel_g HB.out⟩
      (try clear HO_360001)
      (try clear HO_366001)
      (try clear HO_372001)
      (try clear HO_379001)
      (try clear HO_385001)
      (try clear HO_393001)
      (try clear HO_406001)
      (try clear HO414)
      (try clear BK359)
      (try clear BK365)
      (try clear BK371)
      (try clear BK378)
      (try clear BK384)
      (try clear BK392)
      (try clear BK405)
      (try clear BK415)
      (try clear HB)
      generalize (w374.setCell ⟨go265, (x145_6 : Int).toNat, none⟩ (.int .i64 (wrap64 ((rd y412 x145_6) - (ji264))))) = w376 at n0_ n1_ n2_ n3_ n4_ n5_ n6_ n7_ n8_ n9_ n10_ n11_ n12_ n13_ n14_ n15_ n16_ ⊢
      have HO_360001 := n0_
      have HO_366001 := n1_
      have HO_372001 := n2_
      have HO_379001 := n3_
      have HO_385001 := n4_
      have HO_393001 := n5_
      have HO_406001 := n6_
      have HO414 := n7_
      have BK359 := n8_
      have BK365 := n9_
      have BK371 := n10_
      have BK378 := n11_
      have BK384 := n12_
      have BK392 := n13_
      have BK405 := n14_
      have BK415 := n15_
      have HB := n16_
      clear n0_ n1_ n2_ n3_ n4_ n5_ n6_ n7_ n8_ n9_ n10_ n11_ n12_ n13_ n14_ n15_ n16_
      obtain ⟨_, _, _, _⟩ := blk2 BK415
      try go_wp2_with (first | ((with_reducible refine gate_callee (f := 6) rfl ?_); refine goesL_ (some 180) rfl rfl Tryd.func6 (by kernel_rfl) rfl #[.agg #[.int .i64 t373, .slice (some ⟨go265, 0, none⟩) y417.length co370]] rfl (by (try simp only [List.map_toArray, List.map_cons, List.map_nil]); first | done | (rw [show y417.length = y412.length from (Kd.R_reads' HO414.out).1.symm] <;> rfl) | rfl | (simp only [List.length_drop, List.length_take]; rfl)) ?_; (with_reducible refine (impl_CloseRelation.calls k7 t373 _ _ y417 t418 t419 false _ ?s1 ?s2 A266.out).mono ?_); (case s1 => exact rC HO414); (case s2 => rw [show y417.length = y412.length from (Kd.R_reads' HO414.out).1.symm]; exact rL HO414); rintro e w385 ⟨v420, rfl, ho0, hb⟩; refine ⟨_, rfl, ?_⟩; have HO421 := rLo (rN (rN (rN (rN (rN (rN (rN (rN ho0 HO_360001) HO_366001) HO_372001) HO_379001) HO_385001) HO_393001) HO_406001) HO414) HB; replace HO_360001 := rE HO_360001 ho0 hb; replace HO_366001 := rE HO_366001 ho0 hb; replace HO_372001 := rE HO_372001 ho0 hb; replace HO_379001 := rE HO_379001 ho0 hb; replace HO_385001 := rE HO_385001 ho0 hb; replace HO_393001 := rE HO_393001 ho0 hb; replace HO_406001 := rE HO_406001 ho0 hb; replace HO414 := rE HO414 ho0 hb; replace BK359 := blkB BK359 hb; replace BK365 := blkB BK365 hb; replace BK371 := blkB BK371 hb; replace BK378 := blkB BK378 hb; replace BK384 := blkB BK384 hb; replace BK392 := blkB BK392 hb; replace BK405 := blkB BK405 hb; replace BK415 := blkB BK415 hb; replace HB := bst HB hb; clear hb ho0) | ((with_reducible refine gate_dst (N := 24) rfl ?_); refine boxG HB #[.int .i64 0, .slice none 0 0] 26 ?_; intro gb423 hg w386 BK423 GE423 hb; replace HO_360001 := rB HO_360001 hb; replace HO_366001 := rB HO_366001 hb; replace HO_372001 := rB HO_372001 hb; replace HO_379001 := rB HO_379001 hb; replace HO_385001 := rB HO_385001 hb; replace HO_393001 := rB HO_393001 hb; replace HO_406001 := rB HO_406001 hb; replace HO414 := rB HO414 hb; replace HO421 := rB HO421 hb; have NB359_423 := neL7 BK359 hg; have NB423_359 := neR7 BK359 hg; replace BK359 := blkB BK359 hb; have NB365_423 := neL7 BK365 hg; have NB423_365 := neR7 BK365 hg; replace BK365 := blkB BK365 hb; have NB371_423 := neL7 BK371 hg; have NB423_371 := neR7 BK371 hg; replace BK371 := blkB BK371 hb; have NB378_423 := neL7 BK378 hg; have NB423_378 := neR7 BK378 hg; replace BK378 := blkB BK378 hb; have NB384_423 := neL7 BK384 hg; have NB423_384 := neR7 BK384 hg; replace BK384 := blkB BK384 hb; have NB392_423 := neL7 BK392 hg; have NB423_392 := neR7 BK392 hg; replace BK392 := blkB BK392 hb; have NB405_423 := neL7 BK405 hg; have NB423_405 := neR7 BK405 hg; replace BK405 := blkB BK405 hb; have NB415_423 := neL7 BK415 hg; have NB423_415 := neR7 BK415 hg; replace BK415 := blkB BK415 hb; replace HB := bst HB hb; clear hb hg; obtain ⟨_, _, _, _⟩ := blk2 BK423; obtain ⟨Ao396, co396, rfl⟩ := Kd.R_slice HO421.out))
      go_ret
      exact ⟨by first | rfl | (simp [errW_none, errW_some] <;> rfl) | (simp only [← hji264]; first | rfl | (simp [errW_none, errW_some] <;> rfl)) | (simp [*, errW_none, errW_some] <;> rfl), bel_g HB.out⟩
    ·replace c260 := Bool.eq_false_iff.mpr c260
     subst c260
     replace H := ifF H
     have H' := mkA H
     clear H
     obtain ⟨_, _, _, _⟩ := blk2 BK378
     obtain ⟨Ao404, co404, rfl⟩ := Kd.R_slice HO_379001.out
     obtain ⟨p407, q407, ad407, e407, hx407_0⟩ := atI (Kd.R_reads' HO_379001.out).2.2 x145_6
     cases e407
     go_wp2_with (first | ((with_reducible refine gate_callee (f := 12) rfl ?_); refine goesQ (some 160) Tryd.func12 #[.int .i64 (rd x379001_7 x145_6), .int .i64 x151_7] ?_; (with_reducible refine (laws_pIn.calls (rd x379001_7 x145_6) x151_7 false _ A259.out).mono ?_); rintro e w' ⟨rfl, ⟨nd, rfl⟩⟩; refine ⟨_, rfl, ?_⟩))
     go_roundg k7
     case measure => have := HJ7.out; have := HJ35.out; have := HJ86.out; have := HK4.out; have := HJ199.out; have := HK6.out; have := HK7.out; omega
     case rel => exact ⟨(wrap64 (x151_7 + 1)), (x360001_7), (x366001_7), (x372001_7), (x379001_7), (x385001_7), (x393001_7), (x406001_7), (u360001), (u366001), (u372001), (.slice (some ad407) x379001_7.length co404), (u385001), (u393001), (u406001), eqS, H', ⟨by have := HJ7.out; have := HJ35.out; have := HJ86.out; have := HK4.out; have := HJ199.out; have := HK6.out; have := HK7.out; omega⟩, rg HO_360001, rg HO_366001, rg HO_372001, rg HO_379001, rg HO_385001, rg HO_393001, rg HO_406001, bg BK359, bg BK365, bg BK371, bg BK378, bg BK384, bg BK392, bg BK405, hbg HB⟩
   ·have H' := mkA H
    clear H
    go_wp2
    go_roundg k7
    case measure => have := HJ7.out; have := HJ35.out; have := HJ86.out; have := HK4.out; have := HJ199.out; have := HK6.out; have := HK7.out; omega
    case rel => exact ⟨(wrap64 (x145_6 + 1)), (x360001_7), (x366001_7), (x372001_7), (x379001_7), (x385001_7), (x393001_7), (x406001_7), (u360001), (u366001), (u372001), (u379001), (u385001), (u393001), (u406001), eqS, H', ⟨by have := HJ7.out; have := HJ35.out; have := HJ86.out; have := HK4.out; have := HJ199.out; have := HK6.out; have := HK7.out; omega⟩, rg HO_360001, rg HO_366001, rg HO_372001, rg HO_379001, rg HO_385001, rg HO_393001, rg HO_406001, bg BK359, bg BK365, bg BK371, bg BK378, bg BK384, bg BK392, bg BK405, hbg HB⟩)
            ·obtain rfl := Option.some.inj H
             go_wp2
             go_ret
             exact ⟨eqE, bel_g HB.out⟩
      ·replace c198 := Bool.eq_false_iff.mpr c198
       subst c198
       replace H := ifF H
       obtain rfl := Option.some.inj H
       obtain ⟨_, _, _, _⟩ := blk2 BK365
       go_wp2_with (first | ((with_reducible refine gate_callee (f := 11) rfl ?_); refine goesQ (some 124) Tryd.func11 #[.agg #[.int .i64 t360, .slice Ao17 t361.length co17]] ?_; (with_reducible refine (impl_IsOrder.calls k4 t360 _ _ t361 t399 _ ?_ ?_ ?_ A189.out).mono ?_); exact rC HO_366001; exact rL HO_366001; exact Tab.below HTAB.out (bel_g HB.out); rintro e w411 ⟨rfl, hb⟩; refine ⟨_, rfl, ?_⟩; replace HO_101 := rB HO_101 hb; replace HO_360001 := rB HO_360001 hb; replace HO_366001 := rB HO_366001 hb; replace HO_372001 := rB HO_372001 hb; replace HO_379001 := rB HO_379001 hb; replace HO_385001 := rB HO_385001 hb; replace HO_393001 := rB HO_393001 hb; replace BK359 := blkB BK359 hb; replace BK365 := blkB BK365 hb; replace BK371 := blkB BK371 hb; replace BK378 := blkB BK378 hb; replace BK384 := blkB BK384 hb; replace BK392 := blkB BK392 hb; replace HB := bst HB hb; clear hb))
       go_ret
       exact ⟨eqE, bel_g HB.out⟩)
        ·replace c85 := Bool.eq_false_iff.mpr c85
         subst c85
         replace H := ifF H
         obtain rfl := Option.some.inj H
         go_wp2
         go_ret
         exact ⟨eqE, bel_g HB.out⟩
end Go.Proofs.YthdlkadfhbbilaaDoor.Q
