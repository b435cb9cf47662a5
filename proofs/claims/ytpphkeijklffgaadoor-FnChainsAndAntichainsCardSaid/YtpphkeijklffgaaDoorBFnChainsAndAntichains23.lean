import Derived.Test.YtpphkeijklffgaaDoorBFnChainsAndAntichains16
import Derived.Test.YtpphkeijklffgaaDoorBFnChainsAndAntichains20
import Derived.Test.YtpphkeijklffgaaDoorBFnChainsAndAntichains22
namespace Go.Proofs.YtpphkeijklffgaaDoor.Q
open Go.RowKit Go.Proofs.YtpphkeijklffgaaDoorW.PrintWords Go.Proofs.YtpphkeijklffgaaDoorW.PrintLast Go.Proofs.YtpphkeijklffgaaDoorW.PrintMore
attribute [local go_sem] max2_int min2_int max_two min_two max_three min_three max_four min_four neB_f
set_option linter.unusedVariables false
set_option maxHeartbeats 8000000
set_option maxRecDepth 100000
set_option linter.unusedSimpArgs false
mutual
def laws_FnChainsAndAntichains.l0 : Nat → List Int → List Int → List Int → Int → Int → List Int → Option (Bool)
 | 0, _, _, _, _, _, _ => none
 | k + 1, x6, x10, x12, x18, x526000, x526001 => if x18 < (x10.length : Int) then (if 0 ≤ (wrap64 (x18 - 1)) then (if (wrap64 (x18 - 1)) < (x10.length : Int) then (if 0 ≤ (rd x10 (wrap64 (x18 - 1))) then (if (rd x10 (wrap64 (x18 - 1))) < (x526001.length : Int) then (if 0 ≤ x18 then ((laws_pIn.f (rd x526001 (rd x10 (wrap64 (x18 - 1)))) (rd x10 x18)).bind fun t556 => (if t556 = true then (laws_FnChainsAndAntichains.l0 k x6 x10 x12 (wrap64 (x18 + 1)) x526000 x526001) else (none))) else (none)) else (none)) else (none)) else (none)) else (none)) else (laws_FnChainsAndAntichains.l1 k x6 x10 x12 0 x12 (x12.length : Int) 0 x526000 x526001)
def laws_FnChainsAndAntichains.l1 : Nat → List Int → List Int → List Int → Int → List Int → Int → Int → Int → List Int → Option (Bool)
 | 0, _, _, _, _, _, _, _, _, _ => none
 | k + 1, x6, x10, x12, x19, x125, x126, x127, x526000, x526001 => if x127 < x126 then (if 0 ≤ x127 then (if x127 < (x125.length : Int) then ((laws_pHas.f k x10 (rd x125 x127)).bind fun t558 => (if t558 = true then (laws_FnChainsAndAntichains.j2 k x6 x10 x12 (wrap64 (x19 + 1)) x127 (rd x125 x127) x125 x126 x127 x526000 x526001) else (laws_FnChainsAndAntichains.j2 k x6 x10 x12 x19 x127 (rd x125 x127) x125 x126 x127 x526000 x526001))) else (none)) else (none)) else (if x19 > 1 then (none) else (if (x6.length : Int) = x526000 then (laws_FnChainsAndAntichains.l3 k x6 x12 x6 (x6.length : Int) 0 x526000 x526001) else (none)))
def laws_FnChainsAndAntichains.j2 : Nat → List Int → List Int → List Int → Int → Int → Int → List Int → Int → Int → Int → List Int → Option (Bool)
 | 0, _, _, _, _, _, _, _, _, _, _, _ => none
 | k + 1, x6, x10, x12, x19, x20, x21, x125, x126, x127, x526000, x526001 => if 0 ≤ x20 then (if x20 ≤ (x12.length : Int) then ((some (x12.take (x20 : Int).toNat : List Int)).bind fun y559 => (laws_FnChainsAndAntichains.l2 k x6 x10 x12 x19 x21 x125 x126 x127 y559 (y559.length : Int) 0 x526000 x526001)) else (none)) else (none)
def laws_FnChainsAndAntichains.l2 : Nat → List Int → List Int → List Int → Int → Int → List Int → Int → Int → List Int → Int → Int → Int → List Int → Option (Bool)
 | 0, _, _, _, _, _, _, _, _, _, _, _, _, _ => none
 | k + 1, x6, x10, x12, x19, x21, x125, x126, x127, x139, x140, x141, x526000, x526001 => if x141 < x140 then (if 0 ≤ x141 then (if x141 < (x139.length : Int) then (if (rd x139 x141) ≥ x21 then (none) else (if 0 ≤ x21 then (if x21 < (x526001.length : Int) then ((laws_pIn.f (rd x526001 x21) (rd x139 x141)).bind fun t565 => (if t565 = true then (none) else (if 0 ≤ (rd x139 x141) then (if (rd x139 x141) < (x526001.length : Int) then ((laws_pIn.f (rd x526001 (rd x139 x141)) x21).bind fun t567 => (if t567 = true then (none) else (if x21 < (x6.length : Int) then (if (rd x139 x141) < (x6.length : Int) then (if (rd x6 x21) = (rd x6 (rd x139 x141)) then (none) else (laws_FnChainsAndAntichains.l2 k x6 x10 x12 x19 x21 x125 x126 x127 x139 x140 (wrap64 (x141 + 1)) x526000 x526001)) else (none)) else (none)))) else (none)) else (none)))) else (none)) else (none))) else (none)) else (none)) else (laws_FnChainsAndAntichains.l1 k x6 x10 x12 x19 x125 x126 (wrap64 (x127 + 1)) x526000 x526001)
def laws_FnChainsAndAntichains.l3 : Nat → List Int → List Int → List Int → Int → Int → Int → List Int → Option (Bool)
 | 0, _, _, _, _, _, _, _ => none
 | k + 1, x6, x12, x188, x189, x190, x526000, x526001 => if x190 < x189 then (if 0 ≤ x190 then (if x190 < (x188.length : Int) then (if (rd x188 x190) < 0 then (none) else (if (rd x188 x190) ≥ (x12.length : Int) then (none) else (laws_FnChainsAndAntichains.l4 k x6 x12 x190 (rd x188 x190) x188 x189 x190 x6 (x6.length : Int) 0 x526000 x526001))) else (none)) else (none)) else (some true)
def laws_FnChainsAndAntichains.l4 : Nat → List Int → List Int → Int → Int → List Int → Int → Int → List Int → Int → Int → Int → List Int → Option (Bool)
 | 0, _, _, _, _, _, _, _, _, _, _, _, _ => none
 | k + 1, x6, x12, x24, x25, x188, x189, x190, x203, x204, x205, x526000, x526001 => if x205 < x204 then (if 0 ≤ x205 then (if x205 < (x203.length : Int) then (if x24 = x205 then (laws_FnChainsAndAntichains.l4 k x6 x12 x24 x25 x188 x189 x190 x203 x204 (wrap64 (x205 + 1)) x526000 x526001) else (if x25 = (rd x203 x205) then (if 0 ≤ x24 then (if x24 < (x526001.length : Int) then ((laws_pIn.f (rd x526001 x24) x205).bind fun t573 => (if t573 = true then (laws_FnChainsAndAntichains.l4 k x6 x12 x24 x25 x188 x189 x190 x203 x204 (wrap64 (x205 + 1)) x526000 x526001) else (if x205 < (x526001.length : Int) then ((laws_pIn.f (rd x526001 x205) x24).bind fun t575 => (if t575 = true then (laws_FnChainsAndAntichains.l4 k x6 x12 x24 x25 x188 x189 x190 x203 x204 (wrap64 (x205 + 1)) x526000 x526001) else (none))) else (none)))) else (none)) else (none)) else (laws_FnChainsAndAntichains.l4 k x6 x12 x24 x25 x188 x189 x190 x203 x204 (wrap64 (x205 + 1)) x526000 x526001))) else (none)) else (none)) else (laws_FnChainsAndAntichains.l3 k x6 x12 x188 x189 (wrap64 (x190 + 1)) x526000 x526001)
end
def laws_FnChainsAndAntichains.f (k : Nat) (l0 : List Int) (l1 : List Int) : Option (Bool) := (laws_big.f l0 l1).bind fun t520 => (if t520 = true then (some true) else ((spec_DrawChainNumbers.f k l0).bind fun bt521 => ((impl_ChainNumbers.f k bt521.1 bt521.2).bind fun bt526 => ((spec_ChainNumbers.f k bt521.1 bt521.2).bind fun bt530 => (if (bt526.2 != bt530.2) = true then (none) else ((laws_pSame.f k bt526.1 bt530.1).bind fun t534 => (if t534 = true then ((impl_LongestChain.f k bt521.1 bt521.2).bind fun bt535 => ((impl_LargestAntichain.f k bt521.1 bt521.2).bind fun bt539 => ((spec_LongestChain.f k bt521.1 bt521.2).bind fun bt543 => ((spec_LargestAntichain.f k bt521.1 bt521.2).bind fun bt547 => (if (bt535.2 != bt543.2) = true then (none) else (if (bt539.2 != bt547.2) = true then (none) else ((laws_pSame.f k bt535.1 bt543.1).bind fun t551 => (if t551 = true then ((laws_pSame.f k bt539.1 bt547.1).bind fun t552 => (if t552 = true then (if (bt535.2 != bt526.2) = true then (none) else (if (bt539.2 != bt526.2) = true then (none) else (if bt530.2 = true then (laws_FnChainsAndAntichains.l0 k bt526.1 bt535.1 bt539.1 1 bt521.1 bt521.2) else (some true)))) else (none))) else (none))))))))) else (none))))))))
theorem laws_FnChainsAndAntichains.mono_l : ∀ k, (∀ y0 y1 y2 y3 y4 y5, LeO (laws_FnChainsAndAntichains.l0 k y0 y1 y2 y3 y4 y5) (laws_FnChainsAndAntichains.l0 (k + 1) y0 y1 y2 y3 y4 y5)) ∧ (∀ y0 y1 y2 y3 y4 y5 y6 y7 y8, LeO (laws_FnChainsAndAntichains.l1 k y0 y1 y2 y3 y4 y5 y6 y7 y8) (laws_FnChainsAndAntichains.l1 (k + 1) y0 y1 y2 y3 y4 y5 y6 y7 y8)) ∧ (∀ y0 y1 y2 y3 y4 y5 y6 y7 y8 y9 y10, LeO (laws_FnChainsAndAntichains.j2 k y0 y1 y2 y3 y4 y5 y6 y7 y8 y9 y10) (laws_FnChainsAndAntichains.j2 (k + 1) y0 y1 y2 y3 y4 y5 y6 y7 y8 y9 y10)) ∧ (∀ y0 y1 y2 y3 y4 y5 y6 y7 y8 y9 y10 y11 y12, LeO (laws_FnChainsAndAntichains.l2 k y0 y1 y2 y3 y4 y5 y6 y7 y8 y9 y10 y11 y12) (laws_FnChainsAndAntichains.l2 (k + 1) y0 y1 y2 y3 y4 y5 y6 y7 y8 y9 y10 y11 y12)) ∧ (∀ y0 y1 y2 y3 y4 y5 y6, LeO (laws_FnChainsAndAntichains.l3 k y0 y1 y2 y3 y4 y5 y6) (laws_FnChainsAndAntichains.l3 (k + 1) y0 y1 y2 y3 y4 y5 y6)) ∧ (∀ y0 y1 y2 y3 y4 y5 y6 y7 y8 y9 y10 y11, LeO (laws_FnChainsAndAntichains.l4 k y0 y1 y2 y3 y4 y5 y6 y7 y8 y9 y10 y11) (laws_FnChainsAndAntichains.l4 (k + 1) y0 y1 y2 y3 y4 y5 y6 y7 y8 y9 y10 y11))
 | 0 => ⟨fun _ _ _ _ _ _ r h => by simp [laws_FnChainsAndAntichains.l0] at h, fun _ _ _ _ _ _ _ _ _ r h => by simp [laws_FnChainsAndAntichains.l1] at h, fun _ _ _ _ _ _ _ _ _ _ _ r h => by simp [laws_FnChainsAndAntichains.j2] at h, fun _ _ _ _ _ _ _ _ _ _ _ _ _ r h => by simp [laws_FnChainsAndAntichains.l2] at h, fun _ _ _ _ _ _ _ r h => by simp [laws_FnChainsAndAntichains.l3] at h, fun _ _ _ _ _ _ _ _ _ _ _ _ r h => by simp [laws_FnChainsAndAntichains.l4] at h⟩
 | k + 1 => by
  obtain ⟨ih0, ih1, ih2, ih3, ih4, ih5⟩ := laws_FnChainsAndAntichains.mono_l k
  refine ⟨?_, ?_, ?_, ?_, ?_, ?_⟩ <;> intros
  unfold laws_FnChainsAndAntichains.l0
  rotate_left
  unfold laws_FnChainsAndAntichains.l1
  rotate_left
  unfold laws_FnChainsAndAntichains.j2
  rotate_left
  unfold laws_FnChainsAndAntichains.l2
  rotate_left
  unfold laws_FnChainsAndAntichains.l3
  rotate_left
  unfold laws_FnChainsAndAntichains.l4
  rotate_left
  all_goals repeat' (with_reducible first|apply ih0|apply ih1|apply ih2|apply ih3|apply ih4|apply ih5|apply impl_ChainNumbers.mono|apply impl_LargestAntichain.mono|apply impl_LongestChain.mono|apply laws_pHas.mono|apply laws_pSame.mono|apply spec_ChainNumbers.mono|apply spec_DrawChainNumbers.mono|apply spec_LargestAntichain.mono|apply spec_LongestChain.mono|apply LeO.refl|apply LeO.none|apply LeO.ite|apply LeO.bind|intro)
theorem laws_FnChainsAndAntichains.mono : ∀ a0 a1 k, LeO (laws_FnChainsAndAntichains.f k a0 a1) (laws_FnChainsAndAntichains.f (k + 1) a0 a1) := by
 intro a0 a1 k
 obtain ⟨ih0, ih1, ih2, ih3, ih4, ih5⟩ := laws_FnChainsAndAntichains.mono_l k
 unfold laws_FnChainsAndAntichains.f
 repeat' (with_reducible first|apply ih0|apply ih1|apply ih2|apply ih3|apply ih4|apply ih5|apply impl_ChainNumbers.mono|apply impl_LargestAntichain.mono|apply impl_LongestChain.mono|apply laws_pHas.mono|apply laws_pSame.mono|apply spec_ChainNumbers.mono|apply spec_DrawChainNumbers.mono|apply spec_LargestAntichain.mono|apply spec_LongestChain.mono|apply LeO.refl|apply LeO.none|apply LeO.ite|apply LeO.bind|intro)
def laws_FnChainsAndAntichains.T19 : Bool × List (List Nat × List Nat) := (true, [([], []), ([0], [0]), ([], []), ([], []), ([3], [3]), ([2, 4], [2, 4]), ([5], [5]), ([1, 6], [1, 6]), ([7], [7]), ([], []), ([], []), ([9, 10], [9, 10]), ([11], [11]), ([8, 12], [8, 12]), ([13], [13])])
def laws_FnChainsAndAntichains.B19 : List Nat := [0, 1, 0, 0, 8, 28, 60, 127, 255, 0, 0, 1536, 3584, 8191, 16383]
theorem laws_FnChainsAndAntichains.tab19 : rtab .any (opsOf Tryd.f3 19) = laws_FnChainsAndAntichains.T19 := by kernel_rfl
theorem laws_FnChainsAndAntichains.bits19 : waitsOk laws_FnChainsAndAntichains.T19.2 laws_FnChainsAndAntichains.B19 = true := by kernel_rfl
def laws_FnChainsAndAntichains.T30 : Bool × List (List Nat × List Nat) := (true, [([], []), ([], []), ([0, 1], [0, 1]), ([2], [2]), ([3], [3]), ([4, 3], [3, 4]), ([3], [3]), ([5, 6, 3], [3, 5, 6]), ([7, 3], [3, 7]), ([3], [3]), ([8, 9, 3, 3], [3, 8, 9]), ([3, 10], [3, 10]), ([11, 10], [11]), ([12], [12]), ([13, 12], [12, 13]), ([12], [12]), ([14, 15, 12], [12, 14, 15]), ([16, 12], [12, 16]), ([12], [12]), ([17, 18, 12, 12], [12, 17, 18]), ([12, 19], [12, 19]), ([20, 19], [20]), ([21], [21]), ([21], [21]), ([22, 23, 21], [21, 22, 23]), ([24, 21], [21, 24]), ([21], [21]), ([21], [21]), ([26, 27, 21], [21, 26, 27]), ([28, 21], [21, 28]), ([25, 29, 21], [21, 25, 29]), ([21, 30], [21, 30])])
def laws_FnChainsAndAntichains.B30 : List Nat := [0, 0, 3, 7, 15, 31, 15, 127, 255, 15, 1023, 2047, 4095, 8191, 16383, 8191, 65535, 131071, 8191, 524287, 1048575, 2097151, 4194303, 4194303, 16777215, 33554431, 4194303, 4194303, 205520895, 473956351, 1073741823, 2147483647]
theorem laws_FnChainsAndAntichains.tab30 : rtab .any (opsOf Tryd.f3 30) = laws_FnChainsAndAntichains.T30 := by kernel_rfl
theorem laws_FnChainsAndAntichains.bits30 : waitsOk laws_FnChainsAndAntichains.T30.2 laws_FnChainsAndAntichains.B30 = true := by kernel_rfl
theorem laws_FnChainsAndAntichains.calls (k : Nat) (A0 : Option Addr) (c0 : Nat) (l0 : List Int) (A1 : Option Addr) (c1 : Nat) (l1 : List Int) (r : Bool) (w : World) (hr0 : Kd.C (Kd.int .u8) w A0 l0.length l0) (hc0 : l0.length ≤ c0) (hr1 : Kd.C (Kd.int .u8) w A1 l1.length l1) (hc1 : l1.length ≤ c1) (hTAB : Tab w) (h : laws_FnChainsAndAntichains.f k l0 l1 = some r) :
  Calls Tryd.prog 3 #[.slice A0 l0.length c0, .slice A1 l1.length c1] w fun e w' => e = .returned (.bool r) ∧ Below w.heap.size w w' := by
 have HTAB := mkA hTAB
 clear hTAB
 have hu26 := Tryd.underlying26
 have HR0 := mkA hr0
 have HC0 := mkA hc0
 clear hr0 hc0
 have HR1 := mkA hr1
 have HC1 := mkA hc1
 clear hr1 hc1
 have HB := mkA (Below.refl w.heap.size w)
 have H := h
 clear h
 unfold laws_FnChainsAndAntichains.f at H
 obtain ⟨t520, A3, H⟩ := obE H
 by_cases c4 : t520 = true
 ·subst c4
  replace H := ifT H
  obtain rfl := Option.some.inj H
  go_enter Tryd.func3, Tryd.ntmps3
  go_wp2_with (first | ((with_reducible refine gate_callee (f := 4) rfl ?_); refine goesQ (some 30) Tryd.func4 #[.slice A0 l0.length c0, .slice A1 l1.length c1] ?_; (with_reducible refine (laws_big.calls _ _ l0 _ _ l1 true _ ?s1 ?s2 ?s3 ?s4 A3.out).mono ?_); (case s1 => repeat (first | exact HR0.out | (with_reducible refine Kd.C_alloc ?_ _) | (with_reducible refine Kd.C_drewN ?_ _) | (with_reducible refine Kd.C_drew ?_))); (case s2 => exact HC0.out); (case s3 => repeat (first | exact HR1.out | (with_reducible refine Kd.C_alloc ?_ _) | (with_reducible refine Kd.C_drewN ?_ _) | (with_reducible refine Kd.C_drew ?_))); (case s4 => exact HC1.out); rintro e w' ⟨rfl, ⟨nd, rfl⟩⟩; refine ⟨_, rfl, ?_⟩))
  go_ret
  exact ⟨eqE, bel_g HB.out⟩
 ·replace c4 := Bool.eq_false_iff.mpr c4
  subst c4
  replace H := ifF H
  obtain ⟨⟨t521, t522⟩, A5, H⟩ := obE H
  dsimp only at H
  obtain ⟨⟨t526, t529⟩, A6, H⟩ := obE H
  dsimp only at H
  obtain ⟨⟨t530, t533⟩, A7, H⟩ := obE H
  dsimp only at H
  obtain ⟨c8, H⟩ := itMP H
  have c8b0 : (t529 != t533) = false := by simpa using c8
  (try (have c8b1 : decide (t529 = t533) = true := by simpa using c8))
  (try (have c8b2 : (t529 == t533) = true := by simpa using c8))
  clear c8
  obtain ⟨t534, A9, H⟩ := obE H
  by_cases c10 : t534 = true
  ·subst c10
   replace H := ifT H
   obtain ⟨⟨t535, t538⟩, A11, H⟩ := obE H
   dsimp only at H
   obtain ⟨⟨t539, t542⟩, A12, H⟩ := obE H
   dsimp only at H
   obtain ⟨⟨t543, t546⟩, A13, H⟩ := obE H
   dsimp only at H
   obtain ⟨⟨t547, t550⟩, A14, H⟩ := obE H
   dsimp only at H
   obtain ⟨c15, H⟩ := itMP H
   have c15b0 : (t538 != t546) = false := by simpa using c15
   (try (have c15b1 : decide (t538 = t546) = true := by simpa using c15))
   (try (have c15b2 : (t538 == t546) = true := by simpa using c15))
   clear c15
   obtain ⟨c16, H⟩ := itMP H
   have c16b0 : (t542 != t550) = false := by simpa using c16
   (try (have c16b1 : decide (t542 = t550) = true := by simpa using c16))
   (try (have c16b2 : (t542 == t550) = true := by simpa using c16))
   clear c16
   obtain ⟨t551, A17, H⟩ := obE H
   by_cases c18 : t551 = true
   ·subst c18
    replace H := ifT H
    obtain ⟨t552, A19, H⟩ := obE H
    by_cases c20 : t552 = true
    ·subst c20
     replace H := ifT H
     obtain ⟨c21, H⟩ := itMP H
     have c21b0 : (t538 != t529) = false := by simpa using c21
     (try (have c21b1 : decide (t538 = t529) = true := by simpa using c21))
     (try (have c21b2 : (t538 == t529) = true := by simpa using c21))
     clear c21
     obtain ⟨c22, H⟩ := itMP H
     have c22b0 : (t542 != t529) = false := by simpa using c22
     (try (have c22b1 : decide (t542 = t529) = true := by simpa using c22))
     (try (have c22b2 : (t542 == t529) = true := by simpa using c22))
     clear c22
     by_cases c23 : t533 = true
     ·subst c23
      replace H := ifT H
      have H' := mkA H
      clear H
      go_enter Tryd.func3, Tryd.ntmps3
      go_wp2_with (first | ((with_reducible refine gate_callee (f := 4) rfl ?_); refine goesQ (some 30) Tryd.func4 #[.slice A0 l0.length c0, .slice A1 l1.length c1] ?_; (with_reducible refine (laws_big.calls _ _ l0 _ _ l1 false _ ?s1 ?s2 ?s3 ?s4 A3.out).mono ?_); (case s1 => repeat (first | exact HR0.out | (with_reducible refine Kd.C_alloc ?_ _) | (with_reducible refine Kd.C_drewN ?_ _) | (with_reducible refine Kd.C_drew ?_))); (case s2 => exact HC0.out); (case s3 => repeat (first | exact HR1.out | (with_reducible refine Kd.C_alloc ?_ _) | (with_reducible refine Kd.C_drewN ?_ _) | (with_reducible refine Kd.C_drew ?_))); (case s4 => exact HC1.out); rintro e w' ⟨rfl, ⟨nd, rfl⟩⟩; refine ⟨_, rfl, ?_⟩) | ((with_reducible refine gate_callee (f := 5) rfl ?_); refine goesQ (some 32) Tryd.func5 #[.slice A0 l0.length c0] ?_; (with_reducible refine (spec_DrawChainNumbers.calls k _ _ l0 t521 t522 _ ?s1 ?s2 A5.out).mono ?_); (case s1 => repeat (first | exact HR0.out | (with_reducible refine Kd.C_alloc ?_ _) | (with_reducible refine Kd.C_drewN ?_ _) | (with_reducible refine Kd.C_drew ?_))); (case s2 => exact HC0.out); rintro e w24 ⟨v523, rfl, ho0, hb⟩; refine ⟨_, rfl, ?_⟩; have HO524 := rLo ho0 HB; replace HB := bst HB hb; clear hb ho0) | ((with_reducible refine gate_dst (N := 5) rfl ?_); (try (refine gate_guard (by rfl) ?_; dsimp only)); refine boxG HB #[.int .i64 0, .slice none 0 0] 26 ?_; intro gb525 hg w25 BK525 GE525 hb; replace HO524 := rB HO524 hb; replace HB := bst HB hb; clear hb hg; obtain ⟨_, _, _, _⟩ := blk2 BK525; obtain ⟨Ao27, co27, rfl⟩ := Kd.R_slice HO524.out) | ((with_reducible refine gate_callee (f := 6) rfl ?_); refine goesQ (some 35) Tryd.func6 #[.agg #[.int .i64 t521, .slice Ao27 t522.length co27]] ?_; (with_reducible refine (impl_ChainNumbers.calls k t521 _ _ t522 t526 t529 _ ?_ ?_ ?_ A6.out).mono ?_); exact rCF HO524 BK525; exact rL HO524; exact Tab.below HTAB.out (bel_g HB.out); rintro e w28 ⟨v527, rfl, ho0, hb⟩; refine ⟨_, rfl, ?_⟩; have HO528 := rLo (rNF ho0 HO524 BK525) HB; replace HO524 := rEF HO524 BK525 ho0 hb; replace BK525 := blkS BK525 hb; replace HB := bst HB hb; clear hb ho0; obtain ⟨_, _, _, _⟩ := blk2 BK525) | ((with_reducible refine gate_callee (f := 7) rfl ?_); refine goesQ (some 40) Tryd.func7 #[.agg #[.int .i64 t521, .slice Ao27 t522.length co27]] ?_; (with_reducible refine (spec_ChainNumbers.calls k t521 _ _ t522 t530 true _ ?_ ?_ A7.out).mono ?_); exact rC HO524; exact rL HO524; rintro e w30 ⟨v531, rfl, ho0, hb⟩; refine ⟨_, rfl, ?_⟩; have HO532 := rLo (rN (rN ho0 HO524) HO528) HB; replace HO524 := rE HO524 ho0 hb; replace HO528 := rE HO528 ho0 hb; replace BK525 := blkB BK525 hb; replace HB := bst HB hb; clear hb ho0; obtain ⟨Ao31, co31, rfl⟩ := Kd.R_slice HO528.out; obtain ⟨Ao32, co32, rfl⟩ := Kd.R_slice HO532.out) | (go_at_call 8; (with_reducible refine (laws_pSame.calls k _ _ t526 _ _ t530 true _ ?_ ?_ ?_ ?_ A9.out).mono ?_); exact rC HO528; exact rL HO528; exact rC HO532; exact rL HO532; rintro e w' ⟨rfl, ⟨nd, rfl⟩⟩; obtain ⟨_, _, _, _⟩ := blk2 BK525) | ((with_reducible refine gate_callee (f := 9) rfl ?_); refine goesQ (some 54) Tryd.func9 #[.agg #[.int .i64 t521, .slice Ao27 t522.length co27]] ?_; (with_reducible refine (impl_LongestChain.calls k t521 _ _ t522 t535 t538 _ ?_ ?_ ?_ A11.out).mono ?_); exact rC HO524; exact rL HO524; exact Tab.below HTAB.out (bel_g HB.out); rintro e w34 ⟨v536, rfl, ho0, hb⟩; refine ⟨_, rfl, ?_⟩; have HO537 := rLo (rN (rN (rN ho0 HO524) HO528) HO532) HB; replace HO524 := rE HO524 ho0 hb; replace HO528 := rE HO528 ho0 hb; replace HO532 := rE HO532 ho0 hb; replace BK525 := blkB BK525 hb; replace HB := bst HB hb; clear hb ho0; obtain ⟨_, _, _, _⟩ := blk2 BK525) | ((with_reducible refine gate_callee (f := 10) rfl ?_); refine goesQ (some 59) Tryd.func10 #[.agg #[.int .i64 t521, .slice Ao27 t522.length co27]] ?_; (with_reducible refine (impl_LargestAntichain.calls k t521 _ _ t522 t539 t542 _ ?_ ?_ ?_ A12.out).mono ?_); exact rC HO524; exact rL HO524; exact Tab.below HTAB.out (bel_g HB.out); rintro e w36 ⟨v540, rfl, ho0, hb⟩; refine ⟨_, rfl, ?_⟩; have HO541 := rLo (rN (rN (rN (rN ho0 HO524) HO528) HO532) HO537) HB; replace HO524 := rE HO524 ho0 hb; replace HO528 := rE HO528 ho0 hb; replace HO532 := rE HO532 ho0 hb; replace HO537 := rE HO537 ho0 hb; replace BK525 := blkB BK525 hb; replace HB := bst HB hb; clear hb ho0; obtain ⟨_, _, _, _⟩ := blk2 BK525) | ((with_reducible refine gate_callee (f := 11) rfl ?_); refine goesQ (some 64) Tryd.func11 #[.agg #[.int .i64 t521, .slice Ao27 t522.length co27]] ?_; (with_reducible refine (spec_LongestChain.calls k t521 _ _ t522 t543 t546 _ ?_ ?_ A13.out).mono ?_); exact rC HO524; exact rL HO524; rintro e w38 ⟨v544, rfl, ho0, hb⟩; refine ⟨_, rfl, ?_⟩; have HO545 := rLo (rN (rN (rN (rN (rN ho0 HO524) HO528) HO532) HO537) HO541) HB; replace HO524 := rE HO524 ho0 hb; replace HO528 := rE HO528 ho0 hb; replace HO532 := rE HO532 ho0 hb; replace HO537 := rE HO537 ho0 hb; replace HO541 := rE HO541 ho0 hb; replace BK525 := blkB BK525 hb; replace HB := bst HB hb; clear hb ho0; obtain ⟨_, _, _, _⟩ := blk2 BK525) | ((with_reducible refine gate_callee (f := 12) rfl ?_); refine goesQ (some 69) Tryd.func12 #[.agg #[.int .i64 t521, .slice Ao27 t522.length co27]] ?_; (with_reducible refine (spec_LargestAntichain.calls k t521 _ _ t522 t547 t550 _ ?_ ?_ A14.out).mono ?_); exact rC HO524; exact rL HO524; rintro e w40 ⟨v548, rfl, ho0, hb⟩; refine ⟨_, rfl, ?_⟩; have HO549 := rLo (rN (rN (rN (rN (rN (rN ho0 HO524) HO528) HO532) HO537) HO541) HO545) HB; replace HO524 := rE HO524 ho0 hb; replace HO528 := rE HO528 ho0 hb; replace HO532 := rE HO532 ho0 hb; replace HO537 := rE HO537 ho0 hb; replace HO541 := rE HO541 ho0 hb; replace HO545 := rE HO545 ho0 hb; replace BK525 := blkB BK525 hb; replace HB := bst HB hb; clear hb ho0; obtain ⟨Ao41, co41, rfl⟩ := Kd.R_slice HO537.out; obtain ⟨Ao42, co42, rfl⟩ := Kd.R_slice HO545.out) | (go_at_call 8; (with_reducible refine (laws_pSame.calls k _ _ t535 _ _ t543 true _ ?_ ?_ ?_ ?_ A17.out).mono ?_); exact rC HO537; exact rL HO537; exact rC HO545; exact rL HO545; rintro e w' ⟨rfl, ⟨nd, rfl⟩⟩; obtain ⟨Ao43, co43, rfl⟩ := Kd.R_slice HO541.out; obtain ⟨Ao44, co44, rfl⟩ := Kd.R_slice HO549.out) | (go_at_call 8; (with_reducible refine (laws_pSame.calls k _ _ t539 _ _ t547 true _ ?_ ?_ ?_ ?_ A19.out).mono ?_); exact rC HO541; exact rL HO541; exact rC HO549; exact rL HO549; rintro e w' ⟨rfl, ⟨nd, rfl⟩⟩))
      go_loopg [18] k (fun kq v18 w' => ∃ (x18_1 : Int), v18 = .int .i64 x18_1 ∧ Fc (laws_FnChainsAndAntichains.l0 kq t526 t535 t539 x18_1 t521 t522 = some r) ∧ Fc (kq ≤ k) ∧ Fc (Kd.R (Kd.int .i64) 3 w' w.heap.size (fun k_ => some k_ ≠ ((.slice Ao41 t535.length co41) : Value).ownBlock ∧ some k_ ≠ ((.slice Ao43 t539.length co43) : Value).ownBlock ∧ some k_ ≠ ((.slice Ao27 t522.length co27) : Value).ownBlock) (.slice Ao31 t526.length co31) t526) ∧ Fc (Kd.R (Kd.int .i64) 3 w' w.heap.size (fun k_ => some k_ ≠ ((.slice Ao31 t526.length co31) : Value).ownBlock ∧ some k_ ≠ ((.slice Ao43 t539.length co43) : Value).ownBlock ∧ some k_ ≠ ((.slice Ao27 t522.length co27) : Value).ownBlock) (.slice Ao41 t535.length co41) t535) ∧ Fc (Kd.R (Kd.int .i64) 3 w' w.heap.size (fun k_ => some k_ ≠ ((.slice Ao31 t526.length co31) : Value).ownBlock ∧ some k_ ≠ ((.slice Ao41 t535.length co41) : Value).ownBlock ∧ some k_ ≠ ((.slice Ao27 t522.length co27) : Value).ownBlock) (.slice Ao43 t539.length co43) t539) ∧ Fc (Kd.R (Kd.int .i64) 3 w' w.heap.size (fun k_ => some k_ ≠ ((.slice Ao31 t526.length co31) : Value).ownBlock ∧ some k_ ≠ ((.slice Ao41 t535.length co41) : Value).ownBlock ∧ some k_ ≠ ((.slice Ao43 t539.length co43) : Value).ownBlock) (.slice Ao27 t522.length co27) t522) ∧ Fc (w'.heap[gb525]? = some (.cells #[.int .i64 t521, (.slice Ao27 t522.length co27)] 26 (0, 0))) ∧ Fc (Below w.heap.size w w'))
      case atStart => exact ⟨(1), eqS, H', ⟨Nat.le_refl _⟩, ⟨Kd.R_g (Kd.R_mono HO528.out (fun _ hk => ⟨hk.1.1.1.2, ⟨hk.1.1.2, hk.1.1.1.1.1.2⟩⟩))⟩, ⟨Kd.R_g (Kd.R_mono HO537.out (fun _ hk => ⟨hk.1.1.1.1.2, ⟨hk.1.1.2, hk.1.1.1.1.1.2⟩⟩))⟩, ⟨Kd.R_g (Kd.R_mono HO541.out (fun _ hk => ⟨hk.1.1.1.1.2, ⟨hk.1.1.2, hk.1.1.1.1.1.2⟩⟩))⟩, ⟨Kd.R_g (Kd.R_mono HO524.out (fun _ hk => ⟨hk.1.1.1.1.1.2, ⟨hk.1.1.1.2, hk.1.1.2⟩⟩))⟩, bg BK525, hbg HB⟩
      case round =>
       clear H'
       try clear c1
       try clear c4
       try clear c8
       try clear c8b0
       try clear c8b1
       try clear c8b2
       try clear c10
       try clear c15
       try clear c15b0
       try clear c15b1
       try clear c15b2
       try clear c16
       try clear c16b0
       try clear c16b1
       try clear c16b2
       try clear c18
       try clear c20
       try clear c21
       try clear c21b0
       try clear c21b1
       try clear c21b2
       try clear c22
       try clear c22b0
       try clear c22b1
       try clear c22b2
       try clear c23
       obtain ⟨x18_1, rfl, HA, HK1, HO_6, HO_10, HO_12, HO_526001, BK525, HB⟩ := hrel
       cases gk with
       | zero => exact absurd HA.out (by simp [laws_FnChainsAndAntichains.l0])
       | succ k1 =>
        have H := HA.out
        clear HA
        simp only [laws_FnChainsAndAntichains.l0] at H
        rcases iteE H with ⟨c45b0, H⟩ | ⟨c45b0, H⟩
        ·obtain ⟨ji46, hji46⟩ : ∃ j_ : Int, (wrap64 (x18_1 - 1)) = j_ := ⟨_, rfl⟩
         first | rw [hji46] at H | simp only [hji46] at H
         have hji46w : (IntKind.i64.wrap (x18_1 - 1)) = ji46 := (i64_w _).trans hji46
         obtain ⟨c47b0, H⟩ := itND H
         obtain ⟨c48b0, H⟩ := itND H
         obtain ⟨c49b0, H⟩ := itND H
         obtain ⟨c50b0, H⟩ := itND H
         obtain ⟨c51b0, H⟩ := itND H
         obtain ⟨t556, A52, H⟩ := obE H
         by_cases c53 : t556 = true
         ·subst c53
          replace H := ifT H
          have H' := mkA H
          clear H
          try go_wp2
          replace HO_6 := mkA (Kd.R_drew HO_6.out)
          replace HO_10 := mkA (Kd.R_drew HO_10.out)
          replace HO_12 := mkA (Kd.R_drew HO_12.out)
          replace HO_526001 := mkA (Kd.R_drew HO_526001.out)
          replace BK525 := mkA (blk_drew BK525.out)
          replace HB := mkA (below_drew1 HB.out)
          obtain ⟨p553, q553, ad553, e553, hx553_0⟩ := atI (Kd.R_reads' HO_10.out).2.2 (ji46)
          cases e553
          obtain ⟨p554, q554, ad554, e554, hx554_0⟩ := atI (Kd.R_reads' HO_526001.out).2.2 (rd t535 (ji46))
          cases e554
          obtain ⟨p555, q555, ad555, e555, hx555_0⟩ := atI (Kd.R_reads' HO_10.out).2.2 x18_1
          obtain rfl : ad553 = ad555 := (by injection e555)
          refine start_ (n := 15) (S := fun w' => w'.cell? ⟨gb525, 0, none⟩ = some (.int .i64 t521) ∧ w'.cell? ⟨gb525, 1, none⟩ = some (.slice (some ad554) t522.length co27) ∧ w'.cell? (ad553.add ((ji46)).toNat) = some (.int .i64 (rd t535 (ji46))) ∧ w'.cell? (ad554.add ((rd t535 (ji46))).toNat) = some (.int .i64 (rd t522 (rd t535 (ji46)))) ∧ w'.cell? (ad553.add (x18_1).toNat) = some (.int .i64 (rd t535 x18_1))) (ds := []) (bm 15 0) (by kernel_rfl) rfl (by kernel_rfl) ⟨(blk_cell BK525.out 0).trans rfl, (blk_cell BK525.out 1).trans rfl, hx553_0, hx554_0, hx555_0⟩ (fun hHeld => ?_); refine with_tabW laws_FnChainsAndAntichains.tab19 laws_FnChainsAndAntichains.bits19 (fun HT_ HW_ => ?_)
          generalize wr.drew = w54 at HO_6 HO_10 HO_12 HO_526001 BK525 HB hx553_0 hx554_0 hx555_0 hHeld ⊢
          refine purW 0 110 15 1 HT_ ?_
          refine purW 2 112 15 5 HT_ ?_
          refine purW 3 113 15 13 HT_ ?_
          refine purW 4 114 15 29 HT_ ?_
          refine purW 5 115 15 61 HT_ ?_
          refine purW 9 119 15 573 HT_ ?_
          refine purW 10 120 15 1597 HT_ ?_
          refine purW 11 121 15 3645 HT_ ?_
          refine takeW 1 (some 111) (bm 15 3647) HT_ HW_ hHeld ?_
          refine takeW 6 (some 116) (bm 15 3711) HT_ HW_ hHeld ?_
          refine purW 7 117 15 3839 HT_ ?_
          refine takeW 8 (some 118) (bm 15 4095) HT_ HW_ hHeld ?_
          refine takeW 12 (some 122) (bm 15 8191) HT_ HW_ hHeld ?_
          refine oneW 13 (some 123) (bm 15 16383) HT_ (fun K hK => ?_)
          refine goes_ Tryd.func13 (by kernel_rfl) rfl #[.int .i64 (rd t522 (rd t535 (ji46))), .int .i64 (rd t535 x18_1)] (by rfl) rfl rfl (by (try simp only [List.map_toArray, List.map_cons, List.map_nil]); first | done | (simp only [hji46]; rfl) | rfl | (simp only [List.length_drop, List.length_take]; rfl)) ?_
          with_reducible refine (laws_pIn.calls (rd t522 (rd t535 (ji46))) (rd t535 x18_1) true _ A52.out).mono ?_
          rintro e w' ⟨rfl, ⟨nd, rfl⟩⟩
          refine ⟨_, rfl, ?_⟩
          refine hK.out _ _ ⟨(blk_cell BK525.out 0).trans rfl, (blk_cell BK525.out 1).trans rfl, hHeld.2.2.1, hHeld.2.2.2.1, hHeld.2.2.2.2⟩ (fun hHeld => ?_)
          clear hK K
          refine normW 123 ?_
          refine purW 14 124 15 32767 HT_ ?_
          refine doneW HT_ ?_
          try go_wp2
          go_roundg k1
          case measure => have := HK1.out; omega
          case rel => exact ⟨(wrap64 (x18_1 + 1)), eqS, H', ⟨by have := HK1.out; omega⟩, rg HO_6, rg HO_10, rg HO_12, rg HO_526001, bg BK525, hbg HB⟩
         ·replace c53 := Bool.eq_false_iff.mpr c53
          subst c53
          replace H := ifF H
          exact absurd H (by simp)
        ·have H' := mkA H
         clear H
         go_wp2
         go_loopg [19, 127] k1 (fun kq v19 v127 w' => ∃ (x19_2 : Int) (x127_2 : Int), v19 = .int .i64 x19_2 ∧ v127 = .int .i64 x127_2 ∧ Fc (laws_FnChainsAndAntichains.l1 kq t526 t535 t539 x19_2 t539 (t539.length : Int) x127_2 t521 t522 = some r) ∧ Fc (kq ≤ k1) ∧ Fc (Kd.R (Kd.int .i64) 3 w' w.heap.size (fun k_ => some k_ ≠ ((.slice Ao41 t535.length co41) : Value).ownBlock ∧ some k_ ≠ ((.slice Ao43 t539.length co43) : Value).ownBlock ∧ some k_ ≠ ((.slice Ao43 t539.length co43) : Value).ownBlock ∧ some k_ ≠ ((.slice Ao27 t522.length co27) : Value).ownBlock) (.slice Ao31 t526.length co31) t526) ∧ Fc (Kd.R (Kd.int .i64) 3 w' w.heap.size (fun k_ => some k_ ≠ ((.slice Ao31 t526.length co31) : Value).ownBlock ∧ some k_ ≠ ((.slice Ao43 t539.length co43) : Value).ownBlock ∧ some k_ ≠ ((.slice Ao43 t539.length co43) : Value).ownBlock ∧ some k_ ≠ ((.slice Ao27 t522.length co27) : Value).ownBlock) (.slice Ao41 t535.length co41) t535) ∧ Fc (Kd.R (Kd.int .i64) 3 w' w.heap.size (fun k_ => some k_ ≠ ((.slice Ao31 t526.length co31) : Value).ownBlock ∧ some k_ ≠ ((.slice Ao41 t535.length co41) : Value).ownBlock ∧ some k_ ≠ ((.slice Ao27 t522.length co27) : Value).ownBlock) (.slice Ao43 t539.length co43) t539) ∧ Fc (Kd.R (Kd.int .i64) 3 w' w.heap.size (fun k_ => some k_ ≠ ((.slice Ao31 t526.length co31) : Value).ownBlock ∧ some k_ ≠ ((.slice Ao41 t535.length co41) : Value).ownBlock ∧ some k_ ≠ ((.slice Ao27 t522.length co27) : Value).ownBlock) (.slice Ao43 t539.length co43) t539) ∧ Fc (Kd.R (Kd.int .i64) 3 w' w.heap.size (fun k_ => some k_ ≠ ((.slice Ao31 t526.length co31) : Value).ownBlock ∧ some k_ ≠ ((.slice Ao41 t535.length co41) : Value).ownBlock ∧ some k_ ≠ ((.slice Ao43 t539.length co43) : Value).ownBlock ∧ some k_ ≠ ((.slice Ao43 t539.length co43) : Value).ownBlock) (.slice Ao27 t522.length co27) t522) ∧ Fc (w'.heap[gb525]? = some (.cells #[.int .i64 t521, (.slice Ao27 t522.length co27)] 26 (0, 0))) ∧ Fc (Below w.heap.size w w'))
         case atStart => exact ⟨(0), (0), eqS, eqS, H', ⟨Nat.le_refl _⟩, ⟨Kd.R_g (Kd.R_mono HO_6.out (fun _ hk => ⟨hk.1, ⟨hk.2.1, ⟨hk.2.1, hk.2.2⟩⟩⟩))⟩, ⟨Kd.R_g (Kd.R_mono HO_10.out (fun _ hk => ⟨hk.1, ⟨hk.2.1, ⟨hk.2.1, hk.2.2⟩⟩⟩))⟩, rg HO_12, rg HO_12, ⟨Kd.R_g (Kd.R_mono HO_526001.out (fun _ hk => ⟨hk.1, ⟨hk.2.1, ⟨hk.2.2, hk.2.2⟩⟩⟩))⟩, bg BK525, hbg HB⟩
         case round =>
          clear H'
          try clear c1
          try clear c4
          try clear c8
          try clear c8b0
          try clear c8b1
          try clear c8b2
          try clear c10
          try clear c15
          try clear c15b0
          try clear c15b1
          try clear c15b2
          try clear c16
          try clear c16b0
          try clear c16b1
          try clear c16b2
          try clear c18
          try clear c20
          try clear c21
          try clear c21b0
          try clear c21b1
          try clear c21b2
          try clear c22
          try clear c22b0
          try clear c22b1
          try clear c22b2
          try clear c23
          try clear c45b0
          try clear c47
          try clear c47b0
          try clear c48
          try clear c48b0
          try clear c49
          try clear c49b0
          try clear c50
          try clear c50b0
          try clear c51
          try clear c51b0
          try clear c53
          try clear hx553_0
          try clear hx554_0
          try clear hx555_0
          try clear p553
          try clear p554
          try clear p555
          try clear q553
          try clear q554
          try clear q555
          obtain ⟨x19_2, x127_2, rfl, rfl, HA, HK2, HO_6, HO_10, HO_12, HO_125, HO_526001, BK525, HB⟩ := hrel
          cases gk with
          | zero => exact absurd HA.out (by simp [laws_FnChainsAndAntichains.l1])
          | succ k2 =>
           have H := HA.out
           clear HA
           simp only [laws_FnChainsAndAntichains.l1] at H
           rcases iteE H with ⟨c55b0, H⟩ | ⟨c55b0, H⟩
           ·obtain ⟨c56b0, H⟩ := itND H
            obtain ⟨c57b0, H⟩ := itND H
            obtain ⟨t558, A58, H⟩ := obE H
            have HC59 := mkA H
            clear H
            obtain ⟨p557, q557, ad557, e557, hx557_0⟩ := atI (Kd.R_reads' HO_125.out).2.2 x127_2
            cases e557
            go_upto_if 134 with (first | ((with_reducible refine gate_callee (f := 14) rfl ?_); refine goesQ (some 134) Tryd.func14 #[.slice Ao41 t535.length co41, .int .i64 (rd t539 x127_2)] ?_; (with_reducible refine (laws_pHas.calls k2 _ _ t535 (rd t539 x127_2) t558 _ ?_ ?_ A58.out).mono ?_); exact rC HO_10; exact rL HO_10; rintro e w' ⟨rfl, ⟨nd, rfl⟩⟩; refine ⟨_, rfl, ?_⟩))
            (try simp only [Act.put, List.setIfInBounds_toArray, List.set_cons_zero, List.set_cons_succ])
            go_cut [19] (fun v19 wc => ∃ (kq : Nat) (x19_58 : Int), v19 = .int .i64 x19_58 ∧ Fc (laws_FnChainsAndAntichains.j2 kq t526 t535 t539 x19_58 x127_2 (rd t539 x127_2) t539 (t539.length : Int) x127_2 t521 t522 = some r) ∧ Fc (kq ≤ k2) ∧ Fc (Kd.R (Kd.int .i64) 3 wc w.heap.size (fun k_ => some k_ ≠ ((.slice Ao41 t535.length co41) : Value).ownBlock ∧ some k_ ≠ ((.slice (some ad557) t539.length co43) : Value).ownBlock ∧ some k_ ≠ ((.slice (some ad557) t539.length co43) : Value).ownBlock ∧ some k_ ≠ ((.slice Ao27 t522.length co27) : Value).ownBlock) (.slice Ao31 t526.length co31) t526) ∧ Fc (Kd.R (Kd.int .i64) 3 wc w.heap.size (fun k_ => some k_ ≠ ((.slice Ao31 t526.length co31) : Value).ownBlock ∧ some k_ ≠ ((.slice (some ad557) t539.length co43) : Value).ownBlock ∧ some k_ ≠ ((.slice (some ad557) t539.length co43) : Value).ownBlock ∧ some k_ ≠ ((.slice Ao27 t522.length co27) : Value).ownBlock) (.slice Ao41 t535.length co41) t535) ∧ Fc (Kd.R (Kd.int .i64) 3 wc w.heap.size (fun k_ => some k_ ≠ ((.slice Ao31 t526.length co31) : Value).ownBlock ∧ some k_ ≠ ((.slice Ao41 t535.length co41) : Value).ownBlock ∧ some k_ ≠ ((.slice Ao27 t522.length co27) : Value).ownBlock) (.slice (some ad557) t539.length co43) t539) ∧ Fc (Kd.R (Kd.int .i64) 3 wc w.heap.size (fun k_ => some k_ ≠ ((.slice Ao31 t526.length co31) : Value).ownBlock ∧ some k_ ≠ ((.slice Ao41 t535.length co41) : Value).ownBlock ∧ some k_ ≠ ((.slice Ao27 t522.length co27) : Value).ownBlock) (.slice (some ad557) t539.length co43) t539) ∧ Fc (Kd.R (Kd.int .i64) 3 wc w.heap.size (fun k_ => some k_ ≠ ((.slice Ao31 t526.length co31) : Value).ownBlock ∧ some k_ ≠ ((.slice Ao41 t535.length co41) : Value).ownBlock ∧ some k_ ≠ ((.slice (some ad557) t539.length co43) : Value).ownBlock ∧ some k_ ≠ ((.slice (some ad557) t539.length co43) : Value).ownBlock) (.slice Ao27 t522.length co27) t522) ∧ Fc (wc.heap[gb525]? = some (.cells #[.int .i64 t521, (.slice Ao27 t522.length co27)] 26 (0, 0))) ∧ Fc (Below w.heap.size w wc))
            case first =>
             have H := HC59.out
             clear HC59
             by_cases c60 : t558 = true
             ·subst c60
              replace H := ifT H
              have H' := mkA H
              clear H
              go_wp2
              go_meet
              case rel => exact ⟨_, (wrap64 (x19_2 + 1)), eqS, H', ⟨by have := HK1.out; have := HK2.out; first | omega | exact Nat.le_refl _⟩, rg HO_6, rg HO_10, rg HO_12, rg HO_125, rg HO_526001, bg BK525, hbg HB⟩
             ·replace c60 := Bool.eq_false_iff.mpr c60
              subst c60
              replace H := ifF H
              have H' := mkA H
              clear H
              go_wp2
              go_meet
              case rel => exact ⟨_, (x19_2), eqS, H', ⟨by have := HK1.out; have := HK2.out; first | omega | exact Nat.le_refl _⟩, rg HO_6, rg HO_10, rg HO_12, rg HO_125, rg HO_526001, bg BK525, hbg HB⟩
            case rest =>
             clear HC59
             try clear c1
             try clear c4
             try clear c8
             try clear c8b0
             try clear c8b1
             try clear c8b2
             try clear c10
             try clear c15
             try clear c15b0
             try clear c15b1
             try clear c15b2
             try clear c16
             try clear c16b0
             try clear c16b1
             try clear c16b2
             try clear c18
             try clear c20
             try clear c21
             try clear c21b0
             try clear c21b1
             try clear c21b2
             try clear c22
             try clear c22b0
             try clear c22b1
             try clear c22b2
             try clear c23
             try clear c45b0
             try clear c47
             try clear c47b0
             try clear c48
             try clear c48b0
             try clear c49
             try clear c49b0
             try clear c50
             try clear c50b0
             try clear c51
             try clear c51b0
             try clear c53
             try clear c55b0
             try clear c56
             try clear c56b0
             try clear c57
             try clear c57b0
             try clear c60
             try clear hx553_0
             try clear hx554_0
             try clear hx555_0
             try clear hx557_0
             try clear p553
             try clear p554
             try clear p555
             try clear p557
             try clear q553
             try clear q554
             try clear q555
             try clear q557
             obtain ⟨kq, x19_58, rfl, HA, HJ58, HO_6, HO_10, HO_12, HO_125, HO_526001, BK525, HB⟩ := hcut
             cases kq with
             | zero => exact absurd HA.out (by simp [laws_FnChainsAndAntichains.j2])
             | succ kj58 =>
              have H := HA.out
              clear HA
              simp only [laws_FnChainsAndAntichains.j2] at H
              obtain ⟨c61b0, c61b1, H⟩ := itNQ H
              obtain ⟨c62b0, c62b1, H⟩ := itNQ H
              obtain ⟨y559, Ny559, H⟩ := nmE H
              have H' := mkA H
              clear H
              have q63 : (x127_2 : Int) ≤ ((t539.length : Int) : Int) := ofd
              obtain ⟨i063, hi063, _, hsz63, _⟩ := info_parts info3
              have hroom63 : t539.length ≤ co43 := (Kd.R_reads' HO_12.out).2.1
              have hC63 : Kd.C (Kd.int .i64) _ (some ad557) t539.length t539 := (Kd.R_reads' HO_12.out).2.2
              have hcut63 := cut_to (P := Tryd.prog) 24 3 .i64 Tryd.underlying24 hi063 (some ad557) t539.length co43 x127_2 (ofd) q63 hroom63
              have hr63 := Kd.C_take (m := (x127_2 : Int).toNat) hC63 (by omega)
              have hy63 : y559.length = (x127_2 : Int).toNat := (by rw [Ny559.out, List.length_take]; omega)
              rw [← Ny559.out] at hr63
              rw [← hy63] at hcut63
              have HR562 := mkA hr63
              have HC562 := mkA (show y559.length ≤ co43 from by omega)
              clear hr63 hC63 hroom63 hi063 hsz63
              have KY63 := mkA hy63
              clear hy63
              have KL63 := mkA (show (x127_2 : Int).toNat ≤ t539.length from by omega)
              replace q63 := eq_true q63
              go_wp2
              go_loopg [141] kj58 (fun kq v141 w' => ∃ (x141_4 : Int), v141 = .int .i64 x141_4 ∧ Fc (laws_FnChainsAndAntichains.l2 kq t526 t535 t539 x19_58 (rd t539 x127_2) t539 (t539.length : Int) x127_2 y559 (y559.length : Int) x141_4 t521 t522 = some r) ∧ Fc (kq ≤ kj58) ∧ Fc (Kd.R (Kd.int .i64) 3 w' w.heap.size (fun k_ => some k_ ≠ ((.slice Ao41 t535.length co41) : Value).ownBlock ∧ some k_ ≠ ((.slice (some ad557) t539.length co43) : Value).ownBlock ∧ some k_ ≠ ((.slice (some ad557) t539.length co43) : Value).ownBlock ∧ some k_ ≠ ((.slice Ao27 t522.length co27) : Value).ownBlock) (.slice Ao31 t526.length co31) t526) ∧ Fc (Kd.R (Kd.int .i64) 3 w' w.heap.size (fun k_ => some k_ ≠ ((.slice Ao31 t526.length co31) : Value).ownBlock ∧ some k_ ≠ ((.slice (some ad557) t539.length co43) : Value).ownBlock ∧ some k_ ≠ ((.slice (some ad557) t539.length co43) : Value).ownBlock ∧ some k_ ≠ ((.slice Ao27 t522.length co27) : Value).ownBlock) (.slice Ao41 t535.length co41) t535) ∧ Fc (Kd.R (Kd.int .i64) 3 w' w.heap.size (fun k_ => some k_ ≠ ((.slice Ao31 t526.length co31) : Value).ownBlock ∧ some k_ ≠ ((.slice Ao41 t535.length co41) : Value).ownBlock ∧ some k_ ≠ ((.slice Ao27 t522.length co27) : Value).ownBlock) (.slice (some ad557) t539.length co43) t539) ∧ Fc (Kd.R (Kd.int .i64) 3 w' w.heap.size (fun k_ => some k_ ≠ ((.slice Ao31 t526.length co31) : Value).ownBlock ∧ some k_ ≠ ((.slice Ao41 t535.length co41) : Value).ownBlock ∧ some k_ ≠ ((.slice Ao27 t522.length co27) : Value).ownBlock) (.slice (some ad557) t539.length co43) t539) ∧ Fc (Kd.R (Kd.int .i64) 3 w' w.heap.size (fun k_ => some k_ ≠ ((.slice Ao31 t526.length co31) : Value).ownBlock ∧ some k_ ≠ ((.slice Ao41 t535.length co41) : Value).ownBlock ∧ some k_ ≠ ((.slice (some ad557) t539.length co43) : Value).ownBlock ∧ some k_ ≠ ((.slice (some ad557) t539.length co43) : Value).ownBlock) (.slice Ao27 t522.length co27) t522) ∧ Fc (w'.heap[gb525]? = some (.cells #[.int .i64 t521, (.slice Ao27 t522.length co27)] 26 (0, 0))) ∧ Fc (Kd.C (Kd.int .i64) w' (some ad557) y559.length y559) ∧ Fc (Below w.heap.size w w'))
              case atStart => exact ⟨(0), eqS, H', ⟨Nat.le_refl _⟩, rg HO_6, rg HO_10, rg HO_12, rg HO_125, rg HO_526001, bg BK525, ⟨C_h HR562⟩, hbg HB⟩
              case round =>
               clear H'
               try clear c1
               try clear c4
               try clear c8
               try clear c8b0
               try clear c8b1
               try clear c8b2
               try clear c10
               try clear c15
               try clear c15b0
               try clear c15b1
               try clear c15b2
               try clear c16
               try clear c16b0
               try clear c16b1
               try clear c16b2
               try clear c18
               try clear c20
               try clear c21
               try clear c21b0
               try clear c21b1
               try clear c21b2
               try clear c22
               try clear c22b0
               try clear c22b1
               try clear c22b2
               try clear c23
               try clear c45b0
               try clear c47
               try clear c47b0
               try clear c48
               try clear c48b0
               try clear c49
               try clear c49b0
               try clear c50
               try clear c50b0
               try clear c51
               try clear c51b0
               try clear c53
               try clear c55b0
               try clear c56
               try clear c56b0
               try clear c57
               try clear c57b0
               try clear c60
               try clear c61
               try clear c61b0
               try clear c61b1
               try clear c62
               try clear c62b0
               try clear c62b1
               try clear q63
               try clear hx553_0
               try clear hx554_0
               try clear hx555_0
               try clear hx557_0
               try clear p553
               try clear p554
               try clear p555
               try clear p557
               try clear q553
               try clear q554
               try clear q555
               try clear q557
               try clear q63
               obtain ⟨x141_4, rfl, HA, HK4, HO_6, HO_10, HO_12, HO_125, HO_526001, BK525, HR562, HB⟩ := hrel
               cases gk with
               | zero => exact absurd HA.out (by simp [laws_FnChainsAndAntichains.l2])
               | succ k4 =>
                have H := HA.out
                clear HA
                simp only [laws_FnChainsAndAntichains.l2] at H
                rcases iteE H with ⟨c64b0, H⟩ | ⟨c64b0, H⟩
                ·obtain ⟨c65b0, H⟩ := itND H
                 obtain ⟨c66b0, H⟩ := itND H
                 rcases iteP H with ⟨c67, H⟩ | ⟨c67, H⟩
                 ·have c67b0 := decide_eq_true c67
                  clear c67
                  exact absurd H (by simp)
                 ·have c67b0 := decide_eq_false c67
                  clear c67
                  obtain ⟨c68b0, H⟩ := itND H
                  obtain ⟨c69b0, H⟩ := itND H
                  obtain ⟨t565, A70, H⟩ := obE H
                  by_cases c71 : t565 = true
                  ·subst c71
                   replace H := ifT H
                   exact absurd H (by simp)
                  ·replace c71 := Bool.eq_false_iff.mpr c71
                   subst c71
                   replace H := ifF H
                   obtain ⟨c72b0, H⟩ := itND H
                   obtain ⟨c73b0, H⟩ := itND H
                   obtain ⟨t567, A74, H⟩ := obE H
                   by_cases c75 : t567 = true
                   ·subst c75
                    replace H := ifT H
                    exact absurd H (by simp)
                   ·replace c75 := Bool.eq_false_iff.mpr c75
                    subst c75
                    replace H := ifF H
                    obtain ⟨c76b0, H⟩ := itND H
                    obtain ⟨c77b0, H⟩ := itND H
                    obtain ⟨c78, H⟩ := itMP H
                    have c78b0 := beq_eq_false_iff_ne.mpr c78
                    have c78b1 := bne_iff_ne.mpr c78
                    have H' := mkA H
                    clear H
                    obtain ⟨p563, q563, ad563, e563, hx563_0⟩ := atI HR562.out x141_4
                    obtain rfl : ad557 = ad563 := (by injection e563)
                    try replace hx563_0 := (HB.out.cell (World.block_lt_of_cell? w _ hx563_0)).trans hx563_0
                    try go_wp2
                    replace HO_6 := mkA (Kd.R_drew HO_6.out)
                    replace HO_10 := mkA (Kd.R_drew HO_10.out)
                    replace HO_12 := mkA (Kd.R_drew HO_12.out)
                    replace HO_125 := mkA (Kd.R_drew HO_125.out)
                    replace HO_526001 := mkA (Kd.R_drew HO_526001.out)
                    replace BK525 := mkA (blk_drew BK525.out)
                    replace HR562 := mkA (Kd.C_drew HR562.out)
                    replace HB := mkA (below_drew1 HB.out)
                    obtain ⟨p564, q564, ad564, e564, hx564_0⟩ := atI (Kd.R_reads' HO_526001.out).2.2 (rd t539 x127_2)
                    cases e564
                    obtain ⟨p566, q566, ad566, e566, hx566_0⟩ := atI (Kd.R_reads' HO_526001.out).2.2 (rd y559 x141_4)
                    obtain rfl : ad564 = ad566 := (by injection e566)
                    obtain ⟨p568, q568, ad568, e568, hx568_0⟩ := atI (Kd.R_reads' HO_6.out).2.2 (rd t539 x127_2)
                    cases e568
                    obtain ⟨p569, q569, ad569, e569, hx569_0⟩ := atI (Kd.R_reads' HO_6.out).2.2 (rd y559 x141_4)
                    obtain rfl : ad568 = ad569 := (by injection e569)
                    refine start_ (n := 32) (S := fun w' => w'.cell? ⟨gb525, 0, none⟩ = some (.int .i64 t521) ∧ w'.cell? ⟨gb525, 1, none⟩ = some (.slice (some ad564) t522.length co27) ∧ w'.cell? (ad564.add ((rd t539 x127_2)).toNat) = some (.int .i64 (rd t522 (rd t539 x127_2))) ∧ w'.cell? (ad564.add ((rd y559 x141_4)).toNat) = some (.int .i64 (rd t522 (rd y559 x141_4))) ∧ w'.cell? (ad568.add ((rd t539 x127_2)).toNat) = some (.int .i64 (rd t526 (rd t539 x127_2))) ∧ w'.cell? (ad568.add ((rd y559 x141_4)).toNat) = some (.int .i64 (rd t526 (rd y559 x141_4)))) (ds := []) (bm 32 0) (by kernel_rfl) rfl (by kernel_rfl) ⟨(blk_cell BK525.out 0).trans rfl, (blk_cell BK525.out 1).trans rfl, hx564_0, hx566_0, hx568_0, hx569_0⟩ (fun hHeld => ?_); refine with_tabW laws_FnChainsAndAntichains.tab30 laws_FnChainsAndAntichains.bits30 (fun HT_ HW_ => ?_)
                    generalize wr.drew = w79 at HO_6 HO_10 HO_12 HO_125 HO_526001 BK525 HR562 HB hx564_0 hx566_0 hx568_0 hx569_0 hHeld ⊢
                    refine purW 0 145 32 1 HT_ ?_
                    refine purW 1 146 32 3 HT_ ?_
                    refine purW 2 147 32 7 HT_ ?_
                    refine purW 3 148 32 15 HT_ ?_
                    refine purW 4 149 32 31 HT_ ?_
                    refine purW 6 151 32 95 HT_ ?_
                    refine purW 9 154 32 607 HT_ ?_
                    refine takeW 5 (some 150) (bm 32 639) HT_ HW_ hHeld ?_
                    refine purW 7 152 32 767 HT_ ?_
                    refine takeW 8 (some 153) (bm 32 1023) HT_ HW_ hHeld ?_
                    refine oneW 10 (some 155) (bm 32 2047) HT_ (fun K hK => ?_)
                    refine goesR Tryd.func13 #[.int .i64 (rd t522 (rd t539 x127_2)), .int .i64 (rd y559 x141_4)] ?_
                    with_reducible refine (laws_pIn.calls (rd t522 (rd t539 x127_2)) (rd y559 x141_4) false _ A70.out).mono ?_
                    rintro e w' ⟨rfl, ⟨nd, rfl⟩⟩
                    refine ⟨_, rfl, ?_⟩
                    refine hK.out _ _ ⟨(blk_cell BK525.out 0).trans rfl, (blk_cell BK525.out 1).trans rfl, hHeld.2.2.1, hHeld.2.2.2.1, hHeld.2.2.2.2.1, hHeld.2.2.2.2.2⟩ (fun hHeld => ?_)
                    clear hK K
                    refine normW 155 ?_
                    refine purW 11 156 32 4095 HT_ ?_
                    refine purW 12 157 32 8191 HT_ ?_
                    refine purW 13 158 32 16383 HT_ ?_
                    refine purW 15 160 32 49151 HT_ ?_
                    refine purW 18 163 32 311295 HT_ ?_
                    refine takeW 14 (some 159) (bm 32 327679) HT_ HW_ hHeld ?_
                    refine purW 16 161 32 393215 HT_ ?_
                    refine takeW 17 (some 162) (bm 32 524287) HT_ HW_ hHeld ?_
                    refine oneW 19 (some 164) (bm 32 1048575) HT_ (fun K hK => ?_)
                    refine goesR Tryd.func13 #[.int .i64 (rd t522 (rd y559 x141_4)), .int .i64 (rd t539 x127_2)] ?_
                    with_reducible refine (laws_pIn.calls (rd t522 (rd y559 x141_4)) (rd t539 x127_2) false _ A74.out).mono ?_
                    rintro e w' ⟨rfl, ⟨nd, rfl⟩⟩
                    refine ⟨_, rfl, ?_⟩
                    refine hK.out _ _ ⟨(blk_cell BK525.out 0).trans rfl, (blk_cell BK525.out 1).trans rfl, hHeld.2.2.1, hHeld.2.2.2.1, hHeld.2.2.2.2.1, hHeld.2.2.2.2.2⟩ (fun hHeld => ?_)
                    clear hK K
                    refine normW 164 ?_
                    refine purW 20 165 32 2097151 HT_ ?_
                    refine purW 21 166 32 4194303 HT_ ?_
                    refine purW 22 167 32 8388607 HT_ ?_
                    refine purW 23 168 32 16777215 HT_ ?_
                    refine purW 24 169 32 33554431 HT_ ?_
                    refine purW 26 171 32 100663295 HT_ ?_
                    refine purW 27 172 32 234881023 HT_ ?_
                    refine purW 28 173 32 503316479 HT_ ?_
                    refine takeW 25 (some 170) (bm 32 536870911) HT_ HW_ hHeld ?_
                    refine takeW 29 (some 174) (bm 32 1073741823) HT_ HW_ hHeld ?_
                    refine purW 30 175 32 2147483647 HT_ ?_
                    refine purW 31 176 32 4294967295 HT_ ?_
                    refine doneW HT_ ?_
                    try go_wp2
                    go_roundg k4
                    case measure => have := HK1.out; have := HK2.out; have := HJ58.out; have := HK4.out; omega
                    case rel => exact ⟨(wrap64 (x141_4 + 1)), eqS, H', ⟨by have := HK1.out; have := HK2.out; have := HJ58.out; have := HK4.out; omega⟩, rg HO_6, rg HO_10, rg HO_12, rg HO_125, rg HO_526001, bg BK525, ⟨C_h HR562⟩, hbg HB⟩
                ·have H' := mkA H
                 clear H
                 go_wp2
                 go_roundg k4
                 case measure => have := HK1.out; have := HK2.out; have := HJ58.out; have := HK4.out; omega
                 case rel => exact ⟨(x19_58), (wrap64 (x127_2 + 1)), eqS, eqS, H', ⟨by have := HK1.out; have := HK2.out; have := HJ58.out; have := HK4.out; omega⟩, rg HO_6, rg HO_10, rg HO_12, rg HO_125, rg HO_526001, bg BK525, hbg HB⟩
           ·obtain ⟨c80, H⟩ := itMP H
            have c80b0 := decide_eq_false c80
            clear c80
            obtain ⟨c81, H⟩ := itNP H
            have c81b0 := beq_iff_eq.mpr c81
            have c81b1 := bne_eq_false_iff_eq.mpr c81
            clear c81
            have H' := mkA H
            clear H
            obtain ⟨_, _, _, _⟩ := blk2 BK525
            go_wp2
            go_loopg [190] k2 (fun kq v190 w' => ∃ (x190_3 : Int), v190 = .int .i64 x190_3 ∧ Fc (laws_FnChainsAndAntichains.l3 kq t526 t539 t526 (t526.length : Int) x190_3 t521 t522 = some r) ∧ Fc (kq ≤ k2) ∧ Fc (Kd.R (Kd.int .i64) 3 w' w.heap.size (fun k_ => some k_ ≠ ((.slice Ao43 t539.length co43) : Value).ownBlock ∧ some k_ ≠ ((.slice Ao27 t522.length co27) : Value).ownBlock) (.slice Ao31 t526.length co31) t526) ∧ Fc (Kd.R (Kd.int .i64) 3 w' w.heap.size (fun k_ => some k_ ≠ ((.slice Ao31 t526.length co31) : Value).ownBlock ∧ some k_ ≠ ((.slice Ao31 t526.length co31) : Value).ownBlock ∧ some k_ ≠ ((.slice Ao27 t522.length co27) : Value).ownBlock) (.slice Ao43 t539.length co43) t539) ∧ Fc (Kd.R (Kd.int .i64) 3 w' w.heap.size (fun k_ => some k_ ≠ ((.slice Ao43 t539.length co43) : Value).ownBlock ∧ some k_ ≠ ((.slice Ao27 t522.length co27) : Value).ownBlock) (.slice Ao31 t526.length co31) t526) ∧ Fc (Kd.R (Kd.int .i64) 3 w' w.heap.size (fun k_ => some k_ ≠ ((.slice Ao31 t526.length co31) : Value).ownBlock ∧ some k_ ≠ ((.slice Ao43 t539.length co43) : Value).ownBlock ∧ some k_ ≠ ((.slice Ao31 t526.length co31) : Value).ownBlock) (.slice Ao27 t522.length co27) t522) ∧ Fc (w'.heap[gb525]? = some (.cells #[.int .i64 t521, (.slice Ao27 t522.length co27)] 26 (0, 0))) ∧ Fc (Below w.heap.size w w'))
            case atStart => exact ⟨(0), eqS, H', ⟨Nat.le_refl _⟩, ⟨Kd.R_g (Kd.R_mono HO_6.out (fun _ hk => ⟨hk.2.1, hk.2.2.2⟩))⟩, ⟨Kd.R_g (Kd.R_mono HO_12.out (fun _ hk => ⟨hk.1, ⟨hk.1, hk.2.2⟩⟩))⟩, ⟨Kd.R_g (Kd.R_mono HO_6.out (fun _ hk => ⟨hk.2.1, hk.2.2.2⟩))⟩, ⟨Kd.R_g (Kd.R_mono HO_526001.out (fun _ hk => ⟨hk.1, ⟨hk.2.2.1, hk.1⟩⟩))⟩, bg BK525, hbg HB⟩
            case round =>
             clear H'
             try clear c1
             try clear c4
             try clear c8
             try clear c8b0
             try clear c8b1
             try clear c8b2
             try clear c10
             try clear c15
             try clear c15b0
             try clear c15b1
             try clear c15b2
             try clear c16
             try clear c16b0
             try clear c16b1
             try clear c16b2
             try clear c18
             try clear c20
             try clear c21
             try clear c21b0
             try clear c21b1
             try clear c21b2
             try clear c22
             try clear c22b0
             try clear c22b1
             try clear c22b2
             try clear c23
             try clear c45b0
             try clear c47
             try clear c47b0
             try clear c48
             try clear c48b0
             try clear c49
             try clear c49b0
             try clear c50
             try clear c50b0
             try clear c51
             try clear c51b0
             try clear c53
             try clear c55b0
             try clear c56
             try clear c56b0
             try clear c57
             try clear c57b0
             try clear c60
             try clear c61
             try clear c61b0
             try clear c61b1
             try clear c62
             try clear c62b0
             try clear c62b1
             try clear q63
             try clear c64b0
             try clear c65
             try clear c65b0
             try clear c66
             try clear c66b0
             try clear c67
             try clear c67b0
             try clear c68
             try clear c68b0
             try clear c69
             try clear c69b0
             try clear c71
             try clear c72
             try clear c72b0
             try clear c73
             try clear c73b0
             try clear c75
             try clear c76
             try clear c76b0
             try clear c77
             try clear c77b0
             try clear c78
             try clear c78b0
             try clear c78b1
             try clear c80
             try clear c80b0
             try clear c81
             try clear c81b0
             try clear c81b1
             try clear hx553_0
             try clear hx554_0
             try clear hx555_0
             try clear hx557_0
             try clear hx563_0
             try clear hx564_0
             try clear hx566_0
             try clear hx568_0
             try clear hx569_0
             try clear p553
             try clear p554
             try clear p555
             try clear p557
             try clear p563
             try clear p564
             try clear p566
             try clear p568
             try clear p569
             try clear q553
             try clear q554
             try clear q555
             try clear q557
             try clear q563
             try clear q564
             try clear q566
             try clear q568
             try clear q569
             try clear q63
             obtain ⟨x190_3, rfl, HA, HK3, HO_6, HO_12, HO_188, HO_526001, BK525, HB⟩ := hrel
             cases gk with
             | zero => exact absurd HA.out (by simp [laws_FnChainsAndAntichains.l3])
             | succ k3 =>
              have H := HA.out
              clear HA
              simp only [laws_FnChainsAndAntichains.l3] at H
              rcases iteE H with ⟨c83b0, H⟩ | ⟨c83b0, H⟩
              ·obtain ⟨c84b0, H⟩ := itND H
               obtain ⟨c85b0, H⟩ := itND H
               obtain ⟨c86, H⟩ := itMP H
               have c86b0 := decide_eq_false c86
               clear c86
               obtain ⟨c87, H⟩ := itMP H
               have c87b0 := decide_eq_false c87
               clear c87
               have H' := mkA H
               clear H
               obtain ⟨p570, q570, ad570, e570, hx570_0⟩ := atI (Kd.R_reads' HO_188.out).2.2 x190_3
               cases e570
               go_wp2
               go_loopg [205] k3 (fun kq v205 w' => ∃ (x205_4 : Int), v205 = .int .i64 x205_4 ∧ Fc (laws_FnChainsAndAntichains.l4 kq t526 t539 x190_3 (rd t526 x190_3) t526 (t526.length : Int) x190_3 t526 (t526.length : Int) x205_4 t521 t522 = some r) ∧ Fc (kq ≤ k3) ∧ Fc (Kd.R (Kd.int .i64) 3 w' w.heap.size (fun k_ => some k_ ≠ ((.slice Ao43 t539.length co43) : Value).ownBlock ∧ some k_ ≠ ((.slice Ao27 t522.length co27) : Value).ownBlock) (.slice (some ad570) t526.length co31) t526) ∧ Fc (Kd.R (Kd.int .i64) 3 w' w.heap.size (fun k_ => some k_ ≠ ((.slice (some ad570) t526.length co31) : Value).ownBlock ∧ some k_ ≠ ((.slice (some ad570) t526.length co31) : Value).ownBlock ∧ some k_ ≠ ((.slice (some ad570) t526.length co31) : Value).ownBlock ∧ some k_ ≠ ((.slice Ao27 t522.length co27) : Value).ownBlock) (.slice Ao43 t539.length co43) t539) ∧ Fc (Kd.R (Kd.int .i64) 3 w' w.heap.size (fun k_ => some k_ ≠ ((.slice Ao43 t539.length co43) : Value).ownBlock ∧ some k_ ≠ ((.slice Ao27 t522.length co27) : Value).ownBlock) (.slice (some ad570) t526.length co31) t526) ∧ Fc (Kd.R (Kd.int .i64) 3 w' w.heap.size (fun k_ => some k_ ≠ ((.slice Ao43 t539.length co43) : Value).ownBlock ∧ some k_ ≠ ((.slice Ao27 t522.length co27) : Value).ownBlock) (.slice (some ad570) t526.length co31) t526) ∧ Fc (Kd.R (Kd.int .i64) 3 w' w.heap.size (fun k_ => some k_ ≠ ((.slice (some ad570) t526.length co31) : Value).ownBlock ∧ some k_ ≠ ((.slice Ao43 t539.length co43) : Value).ownBlock ∧ some k_ ≠ ((.slice (some ad570) t526.length co31) : Value).ownBlock ∧ some k_ ≠ ((.slice (some ad570) t526.length co31) : Value).ownBlock) (.slice Ao27 t522.length co27) t522) ∧ Fc (w'.heap[gb525]? = some (.cells #[.int .i64 t521, (.slice Ao27 t522.length co27)] 26 (0, 0))) ∧ Fc (Below w.heap.size w w'))
               case atStart => exact ⟨(0), eqS, H', ⟨Nat.le_refl _⟩, rg HO_6, ⟨Kd.R_g (Kd.R_mono HO_12.out (fun _ hk => ⟨hk.1, ⟨hk.2.1, ⟨hk.1, hk.2.2⟩⟩⟩))⟩, rg HO_188, rg HO_6, ⟨Kd.R_g (Kd.R_mono HO_526001.out (fun _ hk => ⟨hk.1, ⟨hk.2.1, ⟨hk.2.2, hk.1⟩⟩⟩))⟩, bg BK525, hbg HB⟩
               case round =>
                clear H'
                try clear c1
                try clear c4
                try clear c8
                try clear c8b0
                try clear c8b1
                try clear c8b2
                try clear c10
                try clear c15
                try clear c15b0
                try clear c15b1
                try clear c15b2
                try clear c16
                try clear c16b0
                try clear c16b1
                try clear c16b2
                try clear c18
                try clear c20
                try clear c21
                try clear c21b0
                try clear c21b1
                try clear c21b2
                try clear c22
                try clear c22b0
                try clear c22b1
                try clear c22b2
                try clear c23
                try clear c45b0
                try clear c47
                try clear c47b0
                try clear c48
                try clear c48b0
                try clear c49
                try clear c49b0
                try clear c50
                try clear c50b0
                try clear c51
                try clear c51b0
                try clear c53
                try clear c55b0
                try clear c56
                try clear c56b0
                try clear c57
                try clear c57b0
                try clear c60
                try clear c61
                try clear c61b0
                try clear c61b1
                try clear c62
                try clear c62b0
                try clear c62b1
                try clear q63
                try clear c64b0
                try clear c65
                try clear c65b0
                try clear c66
                try clear c66b0
                try clear c67
                try clear c67b0
                try clear c68
                try clear c68b0
                try clear c69
                try clear c69b0
                try clear c71
                try clear c72
                try clear c72b0
                try clear c73
                try clear c73b0
                try clear c75
                try clear c76
                try clear c76b0
                try clear c77
                try clear c77b0
                try clear c78
                try clear c78b0
                try clear c78b1
                try clear c80
                try clear c80b0
                try clear c81
                try clear c81b0
                try clear c81b1
                try clear c83b0
                try clear c84
                try clear c84b0
                try clear c85
                try clear c85b0
                try clear c86
                try clear c86b0
                try clear c87
                try clear c87b0
                try clear hx553_0
                try clear hx554_0
                try clear hx555_0
                try clear hx557_0
                try clear hx563_0
                try clear hx564_0
                try clear hx566_0
                try clear hx568_0
                try clear hx569_0
                try clear hx570_0
                try clear p553
                try clear p554
                try clear p555
                try clear p557
                try clear p563
                try clear p564
                try clear p566
                try clear p568
                try clear p569
                try clear p570
                try clear q553
                try clear q554
                try clear q555
                try clear q557
                try clear q563
                try clear q564
                try clear q566
                try clear q568
                try clear q569
                try clear q570
                try clear q63
                obtain ⟨x205_4, rfl, HA, HK4, HO_6, HO_12, HO_188, HO_203, HO_526001, BK525, HB⟩ := hrel
                cases gk with
                | zero => exact absurd HA.out (by simp [laws_FnChainsAndAntichains.l4])
                | succ k4 =>
                 have H := HA.out
                 clear HA
                 simp only [laws_FnChainsAndAntichains.l4] at H
                 rcases iteE H with ⟨c88b0, H⟩ | ⟨c88b0, H⟩
                 ·obtain ⟨c89b0, H⟩ := itND H
                  obtain ⟨c90b0, H⟩ := itND H
                  rcases iteP H with ⟨c91, H⟩ | ⟨c91, H⟩
                  ·have c91b0 := beq_iff_eq.mpr c91
                   have c91b1 := bne_eq_false_iff_eq.mpr c91
                   clear c91
                   have H' := mkA H
                   clear H
                   obtain ⟨p571, q571, ad571, e571, hx571_0⟩ := atI (Kd.R_reads' HO_203.out).2.2 x205_4
                   obtain rfl : ad570 = ad571 := (by injection e571)
                   go_wp2
                   go_roundg k4
                   case measure => have := HK1.out; have := HK2.out; have := HK3.out; have := HK4.out; omega
                   case rel => exact ⟨(wrap64 (x205_4 + 1)), eqS, H', ⟨by have := HK1.out; have := HK2.out; have := HK3.out; have := HK4.out; omega⟩, rg HO_6, rg HO_12, rg HO_188, rg HO_203, rg HO_526001, bg BK525, hbg HB⟩
                  ·have c91b0 := beq_eq_false_iff_ne.mpr c91
                   have c91b1 := bne_iff_ne.mpr c91
                   rcases iteP H with ⟨c92, H⟩ | ⟨c92, H⟩
                   ·have c92b0 := beq_iff_eq.mpr c92
                    have c92b1 := bne_eq_false_iff_eq.mpr c92
                    clear c92
                    obtain ⟨c93b0, H⟩ := itND H
                    obtain ⟨c94b0, H⟩ := itND H
                    obtain ⟨t573, A95, H⟩ := obE H
                    by_cases c96 : t573 = true
                    ·subst c96
                     replace H := ifT H
                     have H' := mkA H
                     clear H
                     obtain ⟨p571, q571, ad571, e571, hx571_0⟩ := atI (Kd.R_reads' HO_203.out).2.2 x205_4
                     obtain rfl : ad570 = ad571 := (by injection e571)
                     obtain ⟨_, _, _, _⟩ := blk2 BK525
                     obtain ⟨p572, q572, ad572, e572, hx572_0⟩ := atI (Kd.R_reads' HO_526001.out).2.2 x190_3
                     cases e572
                     go_wp2_with (first | (go_at_call 13; (with_reducible refine (laws_pIn.calls (rd t522 x190_3) x205_4 true _ A95.out).mono ?_); rintro e w' ⟨rfl, ⟨nd, rfl⟩⟩))
                     go_roundg k4
                     case measure => have := HK1.out; have := HK2.out; have := HK3.out; have := HK4.out; omega
                     case rel => exact ⟨(wrap64 (x205_4 + 1)), eqS, H', ⟨by have := HK1.out; have := HK2.out; have := HK3.out; have := HK4.out; omega⟩, rg HO_6, rg HO_12, rg HO_188, rg HO_203, rg HO_526001, bg BK525, hbg HB⟩
                    ·replace c96 := Bool.eq_false_iff.mpr c96
                     subst c96
                     replace H := ifF H
                     obtain ⟨c98b0, H⟩ := itND H
                     obtain ⟨t575, A99, H⟩ := obE H
                     by_cases c100 : t575 = true
                     ·subst c100
                      replace H := ifT H
                      have H' := mkA H
                      clear H
                      obtain ⟨p571, q571, ad571, e571, hx571_0⟩ := atI (Kd.R_reads' HO_203.out).2.2 x205_4
                      obtain rfl : ad570 = ad571 := (by injection e571)
                      obtain ⟨_, _, _, _⟩ := blk2 BK525
                      obtain ⟨p572, q572, ad572, e572, hx572_0⟩ := atI (Kd.R_reads' HO_526001.out).2.2 x190_3
                      cases e572
                      go_wp2_with (first | (go_at_call 13; (with_reducible refine (laws_pIn.calls (rd t522 x190_3) x205_4 false _ A95.out).mono ?_); rintro e w' ⟨rfl, ⟨nd, rfl⟩⟩; have p574 : 0 ≤ (x205_4 : Int) := ofd; have q574 : x205_4 < (t522.length : Int) := ofd; obtain ⟨ad574, e574, hx574_0⟩ := Kd.at_int (Kd.R_reads' HO_526001.out).2.2 x205_4 p574 q574; obtain rfl : ad572 = ad574 := (by injection e574); replace p574 := eq_true p574; replace q574 := eq_true q574) | (go_at_call 13; (with_reducible refine (laws_pIn.calls (rd t522 x205_4) x190_3 true _ A99.out).mono ?_); rintro e w' ⟨rfl, ⟨nd, rfl⟩⟩))
                      go_roundg k4
                      case measure => have := HK1.out; have := HK2.out; have := HK3.out; have := HK4.out; omega
                      case rel => exact ⟨(wrap64 (x205_4 + 1)), eqS, H', ⟨by have := HK1.out; have := HK2.out; have := HK3.out; have := HK4.out; omega⟩, rg HO_6, rg HO_12, rg HO_188, rg HO_203, rg HO_526001, bg BK525, hbg HB⟩
                     ·replace c100 := Bool.eq_false_iff.mpr c100
                      subst c100
                      replace H := ifF H
                      exact absurd H (by simp)
                   ·have c92b0 := beq_eq_false_iff_ne.mpr c92
                    have c92b1 := bne_iff_ne.mpr c92
                    have H' := mkA H
                    clear H
                    obtain ⟨p571, q571, ad571, e571, hx571_0⟩ := atI (Kd.R_reads' HO_203.out).2.2 x205_4
                    obtain rfl : ad570 = ad571 := (by injection e571)
                    go_wp2
                    go_roundg k4
                    case measure => have := HK1.out; have := HK2.out; have := HK3.out; have := HK4.out; omega
                    case rel => exact ⟨(wrap64 (x205_4 + 1)), eqS, H', ⟨by have := HK1.out; have := HK2.out; have := HK3.out; have := HK4.out; omega⟩, rg HO_6, rg HO_12, rg HO_188, rg HO_203, rg HO_526001, bg BK525, hbg HB⟩
                 ·have H' := mkA H
                  clear H
                  go_wp2
                  go_roundg k4
                  case measure => have := HK1.out; have := HK2.out; have := HK3.out; have := HK4.out; omega
                  case rel => exact ⟨(wrap64 (x190_3 + 1)), eqS, H', ⟨by have := HK1.out; have := HK2.out; have := HK3.out; have := HK4.out; omega⟩, rg HO_6, ⟨Kd.R_g (Kd.R_mono HO_12.out (fun _ hk => ⟨hk.1, ⟨hk.2.1, hk.2.2.2⟩⟩))⟩, rg HO_188, ⟨Kd.R_g (Kd.R_mono HO_526001.out (fun _ hk => ⟨hk.1, ⟨hk.2.1, hk.2.2.1⟩⟩))⟩, bg BK525, hbg HB⟩
              ·obtain rfl := Option.some.inj H
               go_wp2
               go_ret
               exact ⟨eqE, bel_g HB.out⟩
     ·replace c23 := Bool.eq_false_iff.mpr c23
      subst c23
      replace H := ifF H
      obtain rfl := Option.some.inj H
      go_enter Tryd.func3, Tryd.ntmps3
      go_wp2_with (first | ((with_reducible refine gate_callee (f := 4) rfl ?_); refine goesQ (some 30) Tryd.func4 #[.slice A0 l0.length c0, .slice A1 l1.length c1] ?_; (with_reducible refine (laws_big.calls _ _ l0 _ _ l1 false _ ?s1 ?s2 ?s3 ?s4 A3.out).mono ?_); (case s1 => repeat (first | exact HR0.out | (with_reducible refine Kd.C_alloc ?_ _) | (with_reducible refine Kd.C_drewN ?_ _) | (with_reducible refine Kd.C_drew ?_))); (case s2 => exact HC0.out); (case s3 => repeat (first | exact HR1.out | (with_reducible refine Kd.C_alloc ?_ _) | (with_reducible refine Kd.C_drewN ?_ _) | (with_reducible refine Kd.C_drew ?_))); (case s4 => exact HC1.out); rintro e w' ⟨rfl, ⟨nd, rfl⟩⟩; refine ⟨_, rfl, ?_⟩) | ((with_reducible refine gate_callee (f := 5) rfl ?_); refine goesQ (some 32) Tryd.func5 #[.slice A0 l0.length c0] ?_; (with_reducible refine (spec_DrawChainNumbers.calls k _ _ l0 t521 t522 _ ?s1 ?s2 A5.out).mono ?_); (case s1 => repeat (first | exact HR0.out | (with_reducible refine Kd.C_alloc ?_ _) | (with_reducible refine Kd.C_drewN ?_ _) | (with_reducible refine Kd.C_drew ?_))); (case s2 => exact HC0.out); rintro e w102 ⟨v523, rfl, ho0, hb⟩; refine ⟨_, rfl, ?_⟩; have HO524 := rLo ho0 HB; replace HB := bst HB hb; clear hb ho0) | ((with_reducible refine gate_dst (N := 5) rfl ?_); (try (refine gate_guard (by rfl) ?_; dsimp only)); refine boxG HB #[.int .i64 0, .slice none 0 0] 26 ?_; intro gb525 hg w103 BK525 GE525 hb; replace HO524 := rB HO524 hb; replace HB := bst HB hb; clear hb hg; obtain ⟨_, _, _, _⟩ := blk2 BK525; obtain ⟨Ao105, co105, rfl⟩ := Kd.R_slice HO524.out) | ((with_reducible refine gate_callee (f := 6) rfl ?_); refine goesQ (some 35) Tryd.func6 #[.agg #[.int .i64 t521, .slice Ao105 t522.length co105]] ?_; (with_reducible refine (impl_ChainNumbers.calls k t521 _ _ t522 t526 t529 _ ?_ ?_ ?_ A6.out).mono ?_); exact rCF HO524 BK525; exact rL HO524; exact Tab.below HTAB.out (bel_g HB.out); rintro e w106 ⟨v527, rfl, ho0, hb⟩; refine ⟨_, rfl, ?_⟩; have HO528 := rLo (rNF ho0 HO524 BK525) HB; replace HO524 := rEF HO524 BK525 ho0 hb; replace BK525 := blkS BK525 hb; replace HB := bst HB hb; clear hb ho0; obtain ⟨_, _, _, _⟩ := blk2 BK525) | ((with_reducible refine gate_callee (f := 7) rfl ?_); refine goesQ (some 40) Tryd.func7 #[.agg #[.int .i64 t521, .slice Ao105 t522.length co105]] ?_; (with_reducible refine (spec_ChainNumbers.calls k t521 _ _ t522 t530 false _ ?_ ?_ A7.out).mono ?_); exact rC HO524; exact rL HO524; rintro e w108 ⟨v531, rfl, ho0, hb⟩; refine ⟨_, rfl, ?_⟩; have HO532 := rLo (rN (rN ho0 HO524) HO528) HB; replace HO524 := rE HO524 ho0 hb; replace HO528 := rE HO528 ho0 hb; replace BK525 := blkB BK525 hb; replace HB := bst HB hb; clear hb ho0; obtain ⟨Ao109, co109, rfl⟩ := Kd.R_slice HO528.out; obtain ⟨Ao110, co110, rfl⟩ := Kd.R_slice HO532.out) | (go_at_call 8; (with_reducible refine (laws_pSame.calls k _ _ t526 _ _ t530 true _ ?_ ?_ ?_ ?_ A9.out).mono ?_); exact rC HO528; exact rL HO528; exact rC HO532; exact rL HO532; rintro e w' ⟨rfl, ⟨nd, rfl⟩⟩; obtain ⟨_, _, _, _⟩ := blk2 BK525) | ((with_reducible refine gate_callee (f := 9) rfl ?_); refine goesQ (some 54) Tryd.func9 #[.agg #[.int .i64 t521, .slice Ao105 t522.length co105]] ?_; (with_reducible refine (impl_LongestChain.calls k t521 _ _ t522 t535 t538 _ ?_ ?_ ?_ A11.out).mono ?_); exact rC HO524; exact rL HO524; exact Tab.below HTAB.out (bel_g HB.out); rintro e w112 ⟨v536, rfl, ho0, hb⟩; refine ⟨_, rfl, ?_⟩; have HO537 := rLo (rN (rN (rN ho0 HO524) HO528) HO532) HB; replace HO524 := rE HO524 ho0 hb; replace HO528 := rE HO528 ho0 hb; replace HO532 := rE HO532 ho0 hb; replace BK525 := blkB BK525 hb; replace HB := bst HB hb; clear hb ho0; obtain ⟨_, _, _, _⟩ := blk2 BK525) | ((with_reducible refine gate_callee (f := 10) rfl ?_); refine goesQ (some 59) Tryd.func10 #[.agg #[.int .i64 t521, .slice Ao105 t522.length co105]] ?_; (with_reducible refine (impl_LargestAntichain.calls k t521 _ _ t522 t539 t542 _ ?_ ?_ ?_ A12.out).mono ?_); exact rC HO524; exact rL HO524; exact Tab.below HTAB.out (bel_g HB.out); rintro e w114 ⟨v540, rfl, ho0, hb⟩; refine ⟨_, rfl, ?_⟩; have HO541 := rLo (rN (rN (rN (rN ho0 HO524) HO528) HO532) HO537) HB; replace HO524 := rE HO524 ho0 hb; replace HO528 := rE HO528 ho0 hb; replace HO532 := rE HO532 ho0 hb; replace HO537 := rE HO537 ho0 hb; replace BK525 := blkB BK525 hb; replace HB := bst HB hb; clear hb ho0; obtain ⟨_, _, _, _⟩ := blk2 BK525) | ((with_reducible refine gate_callee (f := 11) rfl ?_); refine goesQ (some 64) Tryd.func11 #[.agg #[.int .i64 t521, .slice Ao105 t522.length co105]] ?_; (with_reducible refine (spec_LongestChain.calls k t521 _ _ t522 t543 t546 _ ?_ ?_ A13.out).mono ?_); exact rC HO524; exact rL HO524; rintro e w116 ⟨v544, rfl, ho0, hb⟩; refine ⟨_, rfl, ?_⟩; have HO545 := rLo (rN (rN (rN (rN (rN ho0 HO524) HO528) HO532) HO537) HO541) HB; replace HO524 := rE HO524 ho0 hb; replace HO528 := rE HO528 ho0 hb; replace HO532 := rE HO532 ho0 hb; replace HO537 := rE HO537 ho0 hb; replace HO541 := rE HO541 ho0 hb; replace BK525 := blkB BK525 hb; replace HB := bst HB hb; clear hb ho0; obtain ⟨_, _, _, _⟩ := blk2 BK525) | ((with_reducible refine gate_callee (f := 12) rfl ?_); refine goesQ (some 69) Tryd.func12 #[.agg #[.int .i64 t521, .slice Ao105 t522.length co105]] ?_; (with_reducible refine (spec_LargestAntichain.calls k t521 _ _ t522 t547 t550 _ ?_ ?_ A14.out).mono ?_); exact rC HO524; exact rL HO524; rintro e w118 ⟨v548, rfl, ho0, hb⟩; refine ⟨_, rfl, ?_⟩; have HO549 := rLo (rN (rN (rN (rN (rN (rN ho0 HO524) HO528) HO532) HO537) HO541) HO545) HB; replace HO524 := rE HO524 ho0 hb; replace HO528 := rE HO528 ho0 hb; replace HO532 := rE HO532 ho0 hb; replace HO537 := rE HO537 ho0 hb; replace HO541 := rE HO541 ho0 hb; replace HO545 := rE HO545 ho0 hb; replace BK525 := blkB BK525 hb; replace HB := bst HB hb; clear hb ho0; obtain ⟨Ao119, co119, rfl⟩ := Kd.R_slice HO537.out; obtain ⟨Ao120, co120, rfl⟩ := Kd.R_slice HO545.out) | (go_at_call 8; (with_reducible refine (laws_pSame.calls k _ _ t535 _ _ t543 true _ ?_ ?_ ?_ ?_ A17.out).mono ?_); exact rC HO537; exact rL HO537; exact rC HO545; exact rL HO545; rintro e w' ⟨rfl, ⟨nd, rfl⟩⟩; obtain ⟨Ao121, co121, rfl⟩ := Kd.R_slice HO541.out; obtain ⟨Ao122, co122, rfl⟩ := Kd.R_slice HO549.out) | (go_at_call 8; (with_reducible refine (laws_pSame.calls k _ _ t539 _ _ t547 true _ ?_ ?_ ?_ ?_ A19.out).mono ?_); exact rC HO541; exact rL HO541; exact rC HO549; exact rL HO549; rintro e w' ⟨rfl, ⟨nd, rfl⟩⟩))
      go_ret
      exact ⟨eqE, bel_g HB.out⟩
    ·replace c20 := Bool.eq_false_iff.mpr c20
     subst c20
     replace H := ifF H
     exact absurd H (by simp)
   ·replace c18 := Bool.eq_false_iff.mpr c18
    subst c18
    replace H := ifF H
    exact absurd H (by simp)
  ·replace c10 := Bool.eq_false_iff.mpr c10
   subst c10
   replace H := ifF H
   exact absurd H (by simp)
end Go.Proofs.YtpphkeijklffgaaDoor.Q
