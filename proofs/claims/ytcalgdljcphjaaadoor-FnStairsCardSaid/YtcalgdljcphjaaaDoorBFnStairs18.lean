import Derived.Test.YtcalgdljcphjaaaDoorBFnStairs13
import Derived.Test.YtcalgdljcphjaaaDoorBFnStairs17
namespace Go.Proofs.YtcalgdljcphjaaaDoor.Q
open Go.RowKit Go.Proofs.YtcalgdljcphjaaaDoorW.PrintWords Go.Proofs.YtcalgdljcphjaaaDoorW.PrintLast Go.Proofs.YtcalgdljcphjaaaDoorW.PrintMore
attribute [local go_sem] max2_int min2_int max_two min_two max_three min_three max_four min_four neB_f
set_option linter.unusedVariables false
set_option maxHeartbeats 8000000
set_option maxRecDepth 100000
set_option linter.unusedSimpArgs false
mutual
def laws_FnStairs.j1 : Nat → List Int → Option (Bool)
 | 0, _ => none
 | k + 1, x1 => (spec_DrawStairsOf.f x1).bind fun t575 => ((impl_StairsOf.f t575).bind fun bt576 => ((spec_StairsOf.f k t575).bind fun bt580 => (if (bt576.2 != bt580.2) = true then (none) else ((laws_vLists.f k bt576.1 bt580.1).bind fun t584 => (if t584 = true then (if bt576.2 = true then ((impl_CountStairs.f t575).bind fun bt585 => (if bt585.2 = true then (if bt585.1 = (bt576.1.length : Int) then ((spec_DrawCountStairs.f x1).bind fun t587 => ((impl_CountStairs.f t587).bind fun bt588 => ((spec_CountStairs.f k t587).bind fun bt590 => (if (bt588.2 == bt590.2) = true then (some (bt588.1 == bt590.1)) else (none))))) else (none)) else (none))) else ((spec_DrawCountStairs.f x1).bind fun t592 => ((impl_CountStairs.f t592).bind fun bt593 => ((spec_CountStairs.f k t592).bind fun bt595 => (if (bt593.2 == bt595.2) = true then (some (bt593.1 == bt595.1)) else (none)))))) else (none))))))
def laws_FnStairs.l0 : Nat → List Int → List Int → Int → Int → List Int → Int → Int → List Int → Option (Bool)
 | 0, _, _, _, _, _, _, _, _ => none
 | k + 1, x1, x5, x18, x19, x20, x21, x535000, x535001 => if x21 < x18 then (if x18 = 0 then (none) else (if x20.length < 17592186044416 then (laws_FnStairs.l0 k x1 x5 x18 x19 (x20 ++ [Int.tmod (wrap64 (x21 + x19)) x18]) (wrap64 (x21 + 1)) x535000 x535001) else (none))) else ((impl_RenameOf.f k x535000 x535001 x20).bind fun bt564 => ((impl_StairOf.f k bt564.1 bt564.2.1).bind fun bt570 => (if bt564.2.2 = true then (if bt570.2 = true then ((laws_vSame.f k bt570.1 x5).bind fun t574 => (if t574 = true then (laws_FnStairs.j1 k x1) else (none))) else (none)) else (none))))
end
def laws_FnStairs.f (k : Nat) (l0 : List Int) (l1 : List Int) : Option (Bool) := (laws_big.f l0 l1).bind fun t525 => (if t525 = true then (some true) else ((spec_DrawOrderOfStair.f k l0).bind fun t526 => ((impl_OrderOfStair.f k t526).bind fun bt529 => ((spec_OrderOfStair.f k t526).bind fun bt535 => (if (bt529.2.2 != bt535.2.2) = true then (none) else ((laws_vOrder.f k bt529.1 bt529.2.1 bt535.1 bt535.2.1).bind fun t541 => (if t541 = true then ((impl_IsStair.f k t526).bind fun t542 => (if (bt529.2.2 != t542) = true then (none) else (if bt529.2.2 = true then ((impl_IsSemiorder.f k bt529.1 bt529.2.1).bind fun bt543 => ((impl_StairOf.f k bt529.1 bt529.2.1).bind fun bt545 => ((impl_MirrorStair.f k t526).bind fun bt549 => ((impl_MirrorStair.f k bt549.1).bind fun bt553 => (if bt543.2 = true then (if bt543.1 = true then (if bt545.2 = true then ((laws_vSame.f k bt545.1 t526).bind fun t557 => (if t557 = true then (if bt549.2 = true then ((impl_IsStair.f k bt549.1).bind fun t558 => (if t558 = true then (if bt553.2 = true then ((laws_vSame.f k bt553.1 t526).bind fun t559 => (if t559 = true then ((laws_vNumber.f k l1).bind fun t560 => (laws_FnStairs.l0 k l1 t526 (t526.length : Int) t560 ([] : List Int) 0 bt529.1 bt529.2.1)) else (none))) else (none)) else (none))) else (none)) else (none))) else (none)) else (none)) else (none)))))) else (laws_FnStairs.j1 k l1)))) else (none))))))))
theorem laws_FnStairs.mono_l : ∀ k, (∀ y0, LeO (laws_FnStairs.j1 k y0) (laws_FnStairs.j1 (k + 1) y0)) ∧ (∀ y0 y1 y2 y3 y4 y5 y6 y7, LeO (laws_FnStairs.l0 k y0 y1 y2 y3 y4 y5 y6 y7) (laws_FnStairs.l0 (k + 1) y0 y1 y2 y3 y4 y5 y6 y7))
 | 0 => ⟨fun _ r h => by simp [laws_FnStairs.j1] at h, fun _ _ _ _ _ _ _ _ r h => by simp [laws_FnStairs.l0] at h⟩
 | k + 1 => by
  obtain ⟨ih0, ih1⟩ := laws_FnStairs.mono_l k
  refine ⟨?_, ?_⟩ <;> intros
  unfold laws_FnStairs.j1
  rotate_left
  unfold laws_FnStairs.l0
  rotate_left
  all_goals repeat' (with_reducible first|apply ih0|apply ih1|apply impl_IsSemiorder.mono|apply impl_IsStair.mono|apply impl_MirrorStair.mono|apply impl_OrderOfStair.mono|apply impl_RenameOf.mono|apply impl_StairOf.mono|apply laws_vLists.mono|apply laws_vNumber.mono|apply laws_vOrder.mono|apply laws_vSame.mono|apply spec_CountStairs.mono|apply spec_DrawOrderOfStair.mono|apply spec_OrderOfStair.mono|apply spec_StairsOf.mono|apply LeO.refl|apply LeO.none|apply LeO.ite|apply LeO.bind|intro)
theorem laws_FnStairs.mono : ∀ a0 a1 k, LeO (laws_FnStairs.f k a0 a1) (laws_FnStairs.f (k + 1) a0 a1) := by
 intro a0 a1 k
 obtain ⟨ih0, ih1⟩ := laws_FnStairs.mono_l k
 unfold laws_FnStairs.f
 repeat' (with_reducible first|apply ih0|apply ih1|apply impl_IsSemiorder.mono|apply impl_IsStair.mono|apply impl_MirrorStair.mono|apply impl_OrderOfStair.mono|apply impl_RenameOf.mono|apply impl_StairOf.mono|apply laws_vLists.mono|apply laws_vNumber.mono|apply laws_vOrder.mono|apply laws_vSame.mono|apply spec_CountStairs.mono|apply spec_DrawOrderOfStair.mono|apply spec_OrderOfStair.mono|apply spec_StairsOf.mono|apply LeO.refl|apply LeO.none|apply LeO.ite|apply LeO.bind|intro)
theorem laws_FnStairs.calls (k : Nat) (A0 : Option Addr) (c0 : Nat) (l0 : List Int) (A1 : Option Addr) (c1 : Nat) (l1 : List Int) (r : Bool) (w : World) (hr0 : Kd.C (Kd.int .u8) w A0 l0.length l0) (hc0 : l0.length ≤ c0) (hr1 : Kd.C (Kd.int .u8) w A1 l1.length l1) (hc1 : l1.length ≤ c1) (hTAB : Tab w) (h : laws_FnStairs.f k l0 l1 = some r) :
  Calls Tryd.prog 3 #[.slice A0 l0.length c0, .slice A1 l1.length c1] w fun e w' => e = .returned (.bool r) ∧ Below w.heap.size w w' := by
 have HTAB := mkA hTAB
 clear hTAB
 have hu27 := Tryd.underlying27
 have HR0 := mkA hr0
 have HC0 := mkA hc0
 clear hr0 hc0
 have HR1 := mkA hr1
 have HC1 := mkA hc1
 clear hr1 hc1
 have HB := mkA (Below.refl w.heap.size w)
 have H := h
 clear h
 unfold laws_FnStairs.f at H
 obtain ⟨t525, A3, H⟩ := obE H
 by_cases c4 : t525 = true
 ·subst c4
  replace H := ifT H
  obtain rfl := Option.some.inj H
  go_enter Tryd.func3, Tryd.ntmps3
  go_wp2_with (first | ((with_reducible refine gate_callee (f := 4) rfl ?_); refine goesQ (some 40) Tryd.func4 #[.slice A0 l0.length c0, .slice A1 l1.length c1] ?_; (with_reducible refine (laws_big.calls _ _ l0 _ _ l1 true _ ?s1 ?s2 ?s3 ?s4 A3.out).mono ?_); (case s1 => repeat (first | exact HR0.out | (with_reducible refine Kd.C_alloc ?_ _) | (with_reducible refine Kd.C_drewN ?_ _) | (with_reducible refine Kd.C_drew ?_))); (case s2 => exact HC0.out); (case s3 => repeat (first | exact HR1.out | (with_reducible refine Kd.C_alloc ?_ _) | (with_reducible refine Kd.C_drewN ?_ _) | (with_reducible refine Kd.C_drew ?_))); (case s4 => exact HC1.out); rintro e w' ⟨rfl, ⟨nd, rfl⟩⟩; refine ⟨_, rfl, ?_⟩))
  go_ret
  exact ⟨eqE, bel_g HB.out⟩
 ·replace c4 := Bool.eq_false_iff.mpr c4
  subst c4
  replace H := ifF H
  obtain ⟨t526, A5, H⟩ := obE H
  obtain ⟨⟨t529, t530, t533⟩, A6, H⟩ := obE H
  dsimp only at H
  obtain ⟨⟨t535, t536, t539⟩, A7, H⟩ := obE H
  dsimp only at H
  obtain ⟨c8, H⟩ := itMP H
  have c8b0 : (t533 != t539) = false := by simpa using c8
  (try (have c8b1 : decide (t533 = t539) = true := by simpa using c8))
  (try (have c8b2 : (t533 == t539) = true := by simpa using c8))
  clear c8
  obtain ⟨t541, A9, H⟩ := obE H
  by_cases c10 : t541 = true
  ·subst c10
   replace H := ifT H
   obtain ⟨t542, A11, H⟩ := obE H
   obtain ⟨c12, H⟩ := itMP H
   have c12b0 : (t533 != t542) = false := by simpa using c12
   (try (have c12b1 : decide (t533 = t542) = true := by simpa using c12))
   (try (have c12b2 : (t533 == t542) = true := by simpa using c12))
   clear c12
   have HC13 := mkA H
   clear H
   go_enter Tryd.func3, Tryd.ntmps3
   go_upto_if 68 with (first | ((with_reducible refine gate_callee (f := 4) rfl ?_); refine goesQ (some 40) Tryd.func4 #[.slice A0 l0.length c0, .slice A1 l1.length c1] ?_; (with_reducible refine (laws_big.calls _ _ l0 _ _ l1 false _ ?s1 ?s2 ?s3 ?s4 A3.out).mono ?_); (case s1 => repeat (first | exact HR0.out | (with_reducible refine Kd.C_alloc ?_ _) | (with_reducible refine Kd.C_drewN ?_ _) | (with_reducible refine Kd.C_drew ?_))); (case s2 => exact HC0.out); (case s3 => repeat (first | exact HR1.out | (with_reducible refine Kd.C_alloc ?_ _) | (with_reducible refine Kd.C_drewN ?_ _) | (with_reducible refine Kd.C_drew ?_))); (case s4 => exact HC1.out); rintro e w' ⟨rfl, ⟨nd, rfl⟩⟩; refine ⟨_, rfl, ?_⟩) | ((with_reducible refine gate_callee (f := 5) rfl ?_); refine goesQ (some 42) Tryd.func5 #[.slice A0 l0.length c0] ?_; (with_reducible refine (spec_DrawOrderOfStair.calls k _ _ l0 t526 _ ?s1 ?s2 A5.out).mono ?_); (case s1 => repeat (first | exact HR0.out | (with_reducible refine Kd.C_alloc ?_ _) | (with_reducible refine Kd.C_drewN ?_ _) | (with_reducible refine Kd.C_drew ?_))); (case s2 => exact HC0.out); rintro e w14 ⟨v527, rfl, ho0, hb⟩; refine ⟨_, rfl, ?_⟩; have HO528 := rLo ho0 HB; replace HB := bst HB hb; clear hb ho0; obtain ⟨Ao15, co15, rfl⟩ := Kd.R_slice HO528.out) | ((with_reducible refine gate_callee (f := 6) rfl ?_); refine goesQ (some 45) Tryd.func6 #[.slice Ao15 t526.length co15] ?_; (with_reducible refine (impl_OrderOfStair.calls k _ _ t526 t529 t530 t533 _ ?_ ?_ A6.out).mono ?_); exact rC HO528; exact rL HO528; rintro e w16 ⟨v531, rfl, ho0, hb⟩; refine ⟨_, rfl, ?_⟩; have HO532 := rLo (rN ho0 HO528) HB; replace HO528 := rE HO528 ho0 hb; replace HB := bst HB hb; clear hb ho0) | ((with_reducible refine gate_dst (N := 6) rfl ?_); (try (refine gate_guard (by rfl) ?_; dsimp only)); refine boxG HB #[.int .i64 0, .slice none 0 0] 27 ?_; intro gb534 hg w17 BK534 GE534 hb; replace HO528 := rB HO528 hb; replace HO532 := rB HO532 hb; replace HB := bst HB hb; clear hb hg; obtain ⟨_, _, _, _⟩ := blk2 BK534; obtain ⟨Ao19, co19, rfl⟩ := Kd.R_slice HO532.out) | ((with_reducible refine gate_callee (f := 7) rfl ?_); refine goesQ (some 50) Tryd.func7 #[.slice Ao15 t526.length co15] ?_; (with_reducible refine (spec_OrderOfStair.calls k _ _ t526 t535 t536 t539 _ ?_ ?_ A7.out).mono ?_); exact rCF HO528 BK534; exact rL HO528; rintro e w20 ⟨v537, rfl, ho0, hb⟩; refine ⟨_, rfl, ?_⟩; have HO538 := rLo (rNF (rNF ho0 HO528 BK534) HO532 BK534) HB; replace HO528 := rEF HO528 BK534 ho0 hb; replace HO532 := rEF HO532 BK534 ho0 hb; replace BK534 := blkS BK534 hb; replace HB := bst HB hb; clear hb ho0) | ((with_reducible refine gate_dst (N := 8) rfl ?_); (try (refine gate_guard (by rfl) ?_; dsimp only)); refine boxG HB #[.int .i64 0, .slice none 0 0] 27 ?_; intro gb540 hg w21 BK540 GE540 hb; replace HO528 := rB HO528 hb; replace HO532 := rB HO532 hb; replace HO538 := rB HO538 hb; have NB534_540 := neL7 BK534 hg; have NB540_534 := neR7 BK534 hg; replace BK534 := blkB BK534 hb; replace HB := bst HB hb; clear hb hg; obtain ⟨_, _, _, _⟩ := blk2 BK540; obtain ⟨Ao24, co24, rfl⟩ := Kd.R_slice HO538.out; obtain ⟨_, _, _, _⟩ := blk2 BK534) | (go_at_call 8; (with_reducible refine (laws_vOrder.calls k t529 _ _ t530 t535 _ _ t536 true _ ?_ ?_ ?_ ?_ A9.out).mono ?_); exact rCF HO532 BK540; exact rL HO532; exact rCF HO538 BK540; exact rL HO538; rintro e w26 ⟨rfl, hb⟩; replace HO528 := mkA (Kd.R_below (rFg HO528 BK540) hb); replace HO532 := mkA (Kd.R_below (rFg HO532 BK540) hb); replace HO538 := mkA (Kd.R_below (rFg HO538 BK540) hb); replace BK534 := blkS BK534 hb; replace BK540 := blkS BK540 hb; replace HB := bst HB hb; clear hb) | (go_at_call 9; (with_reducible refine (impl_IsStair.calls k _ _ t526 t542 _ ?_ ?_ A11.out).mono ?_); exact rC HO528; exact rL HO528; rintro e w' ⟨rfl, ⟨nd, rfl⟩⟩))
   (try simp only [Act.put, List.setIfInBounds_toArray, List.set_cons_zero, List.set_cons_succ])
   go_cut [] (fun wc => ∃ (kq : Nat), Fc (laws_FnStairs.j1 kq l1 = some r) ∧ Fc (kq ≤ k) ∧ Fc (Kd.R (Kd.int .i64) 3 wc w.heap.size (fun k_ => some k_ ≠ ((.slice Ao24 t536.length co24) : Value).ownBlock) (.slice Ao19 t530.length co19) t530) ∧ Fc (Kd.R (Kd.int .i64) 3 wc w.heap.size (fun k_ => some k_ ≠ ((.slice Ao19 t530.length co19) : Value).ownBlock) (.slice Ao24 t536.length co24) t536) ∧ Fc (wc.heap[gb534]? = some (.cells #[.int .i64 t529, (.slice Ao19 t530.length co19)] 27 (0, 0))) ∧ Fc (wc.heap[gb540]? = some (.cells #[.int .i64 t535, (.slice Ao24 t536.length co24)] 27 (0, 0))) ∧ Fc (Below w.heap.size w wc))
   case first =>
    have H := HC13.out
    clear HC13
    by_cases c27 : t533 = true
    ·subst c27
     replace H := ifT H
     obtain ⟨⟨t543, t544⟩, A28, H⟩ := obE H
     dsimp only at H
     obtain ⟨⟨t545, t548⟩, A29, H⟩ := obE H
     dsimp only at H
     obtain ⟨⟨t549, t550⟩, A30, H⟩ := obE H
     dsimp only at H
     obtain ⟨⟨t553, t554⟩, A31, H⟩ := obE H
     dsimp only at H
     by_cases c32 : t544 = true
     ·subst c32
      replace H := ifT H
      by_cases c33 : t543 = true
      ·subst c33
       replace H := ifT H
       by_cases c34 : t548 = true
       ·subst c34
        replace H := ifT H
        obtain ⟨t557, A35, H⟩ := obE H
        by_cases c36 : t557 = true
        ·subst c36
         replace H := ifT H
         by_cases c37 : t550 = true
         ·subst c37
          replace H := ifT H
          obtain ⟨t558, A38, H⟩ := obE H
          by_cases c39 : t558 = true
          ·subst c39
           replace H := ifT H
           by_cases c40 : t554 = true
           ·subst c40
            replace H := ifT H
            obtain ⟨t559, A41, H⟩ := obE H
            by_cases c42 : t559 = true
            ·subst c42
             replace H := ifT H
             obtain ⟨t560, A43, H⟩ := obE H
             have H' := mkA H
             clear H
             obtain ⟨_, _, _, _⟩ := blk2 BK534
             go_wp2_with (first | ((with_reducible refine gate_callee (f := 10) rfl ?_); refine goesQ (some 71) Tryd.func10 #[.agg #[.int .i64 t529, .slice Ao19 t530.length co19]] ?_; (with_reducible refine (impl_IsSemiorder.calls k t529 _ _ t530 true true _ ?_ ?_ ?_ A28.out).mono ?_); exact rC HO532; exact rL HO532; exact Tab.below HTAB.out (bel_g HB.out); rintro e w46 ⟨rfl, hb⟩; refine ⟨_, rfl, ?_⟩; replace HO528 := rB HO528 hb; replace HO532 := rB HO532 hb; replace HO538 := rB HO538 hb; replace BK534 := blkB BK534 hb; replace BK540 := blkB BK540 hb; replace HB := bst HB hb; clear hb; obtain ⟨_, _, _, _⟩ := blk2 BK534) | ((with_reducible refine gate_callee (f := 11) rfl ?_); refine goesQ (some 76) Tryd.func11 #[.agg #[.int .i64 t529, .slice Ao19 t530.length co19]] ?_; (with_reducible refine (impl_StairOf.calls k t529 _ _ t530 t545 true _ ?_ ?_ ?_ A29.out).mono ?_); exact rC HO532; exact rL HO532; exact Tab.below HTAB.out (bel_g HB.out); rintro e w48 ⟨v546, rfl, ho0, hb⟩; refine ⟨_, rfl, ?_⟩; have HO547 := rLo (rN (rN (rN ho0 HO528) HO532) HO538) HB; replace HO528 := rE HO528 ho0 hb; replace HO532 := rE HO532 ho0 hb; replace HO538 := rE HO538 ho0 hb; replace BK534 := blkB BK534 hb; replace BK540 := blkB BK540 hb; replace HB := bst HB hb; clear hb ho0) | ((with_reducible refine gate_callee (f := 12) rfl ?_); refine goesQ (some 81) Tryd.func12 #[.slice Ao15 t526.length co15] ?_; (with_reducible refine (impl_MirrorStair.calls k _ _ t526 t549 true _ ?_ ?_ A30.out).mono ?_); exact rC HO528; exact rL HO528; rintro e w49 ⟨v551, rfl, ho0, hb⟩; refine ⟨_, rfl, ?_⟩; have HO552 := rLo (rN (rN (rN (rN ho0 HO528) HO532) HO538) HO547) HB; replace HO528 := rE HO528 ho0 hb; replace HO532 := rE HO532 ho0 hb; replace HO538 := rE HO538 ho0 hb; replace HO547 := rE HO547 ho0 hb; replace BK534 := blkB BK534 hb; replace BK540 := blkB BK540 hb; replace HB := bst HB hb; clear hb ho0; obtain ⟨Ao50, co50, rfl⟩ := Kd.R_slice HO552.out) | ((with_reducible refine gate_callee (f := 12) rfl ?_); refine goesQ (some 86) Tryd.func12 #[.slice Ao50 t549.length co50] ?_; (with_reducible refine (impl_MirrorStair.calls k _ _ t549 t553 true _ ?_ ?_ A31.out).mono ?_); exact rC HO552; exact rL HO552; rintro e w51 ⟨v555, rfl, ho0, hb⟩; refine ⟨_, rfl, ?_⟩; have HO556 := rLo (rN (rN (rN (rN (rN ho0 HO528) HO532) HO538) HO547) HO552) HB; replace HO528 := rE HO528 ho0 hb; replace HO532 := rE HO532 ho0 hb; replace HO538 := rE HO538 ho0 hb; replace HO547 := rE HO547 ho0 hb; replace HO552 := rE HO552 ho0 hb; replace BK534 := blkB BK534 hb; replace BK540 := blkB BK540 hb; replace HB := bst HB hb; clear hb ho0; obtain ⟨Ao52, co52, rfl⟩ := Kd.R_slice HO547.out) | (go_at_call 13; (with_reducible refine (laws_vSame.calls k _ _ t545 _ _ t526 true _ ?_ ?_ ?_ ?_ A35.out).mono ?_); exact rC HO547; exact rL HO547; exact rC HO528; exact rL HO528; rintro e w' ⟨rfl, ⟨nd, rfl⟩⟩) | (go_at_call 9; (with_reducible refine (impl_IsStair.calls k _ _ t549 true _ ?_ ?_ A38.out).mono ?_); exact rC HO552; exact rL HO552; rintro e w' ⟨rfl, ⟨nd, rfl⟩⟩; obtain ⟨Ao53, co53, rfl⟩ := Kd.R_slice HO556.out) | (go_at_call 13; (with_reducible refine (laws_vSame.calls k _ _ t553 _ _ t526 true _ ?_ ?_ ?_ ?_ A41.out).mono ?_); exact rC HO556; exact rL HO556; exact rC HO528; exact rL HO528; rintro e w' ⟨rfl, ⟨nd, rfl⟩⟩) | ((with_reducible refine gate_callee (f := 14) rfl ?_); refine goesQ (some 127) Tryd.func14 #[.slice A1 l1.length c1] ?_; (with_reducible refine (laws_vNumber.calls k _ _ l1 t560 _ ?s1 ?s2 A43.out).mono ?_); (case s1 => repeat (first | exact (Kd.C_below HR1.out (bel_g HB.out)) | (with_reducible refine Kd.C_alloc ?_ _) | (with_reducible refine Kd.C_drewN ?_ _) | (with_reducible refine Kd.C_drew ?_))); (case s2 => exact HC1.out); rintro e w' ⟨rfl, ⟨nd, rfl⟩⟩; refine ⟨_, rfl, ?_⟩))
             go_loopg [20, 21] k (fun kq v20 v21 w' => ∃ (x20_1 : List Int) (x21_1 : Int), v21 = .int .i64 x21_1 ∧ Fc (laws_FnStairs.l0 kq l1 t526 (t526.length : Int) t560 x20_1 x21_1 t529 t530 = some r) ∧ Fc (kq ≤ k) ∧ Fc (Kd.R (Kd.int .i64) 3 w' w.heap.size (fun k_ => some k_ ≠ (v20 : Value).ownBlock ∧ some k_ ≠ ((.slice Ao19 t530.length co19) : Value).ownBlock ∧ some k_ ≠ ((.slice Ao24 t536.length co24) : Value).ownBlock) (.slice Ao15 t526.length co15) t526) ∧ Fc (Kd.R (Kd.int .i64) 3 w' w.heap.size (fun k_ => some k_ ≠ ((.slice Ao15 t526.length co15) : Value).ownBlock ∧ some k_ ≠ ((.slice Ao19 t530.length co19) : Value).ownBlock ∧ some k_ ≠ ((.slice Ao24 t536.length co24) : Value).ownBlock) v20 x20_1) ∧ Fc (Kd.R (Kd.int .i64) 3 w' w.heap.size (fun k_ => some k_ ≠ ((.slice Ao15 t526.length co15) : Value).ownBlock ∧ some k_ ≠ (v20 : Value).ownBlock ∧ some k_ ≠ ((.slice Ao24 t536.length co24) : Value).ownBlock) (.slice Ao19 t530.length co19) t530) ∧ Fc (Kd.R (Kd.int .i64) 3 w' w.heap.size (fun k_ => some k_ ≠ ((.slice Ao15 t526.length co15) : Value).ownBlock ∧ some k_ ≠ (v20 : Value).ownBlock ∧ some k_ ≠ ((.slice Ao19 t530.length co19) : Value).ownBlock) (.slice Ao24 t536.length co24) t536) ∧ Fc (w'.heap[gb534]? = some (.cells #[.int .i64 t529, (.slice Ao19 t530.length co19)] 27 (0, 0))) ∧ Fc (w'.heap[gb540]? = some (.cells #[.int .i64 t535, (.slice Ao24 t536.length co24)] 27 (0, 0))) ∧ Fc (Below w.heap.size w w'))
             case atStart => exact ⟨(([] : List Int)), (0), eqS, H', ⟨Nat.le_refl _⟩, ⟨Kd.R_g (Kd.R_mono HO528.out (fun _ hk => ⟨(by simp [Value.ownBlock]), ⟨hk.1.1.1.1.2, hk.1.1.1.2⟩⟩))⟩, ⟨nilE⟩, ⟨Kd.R_g (Kd.R_mono HO532.out (fun _ hk => ⟨hk.1.1.1.1.2, ⟨(by simp [Value.ownBlock]), hk.1.1.1.2⟩⟩))⟩, ⟨Kd.R_g (Kd.R_mono HO538.out (fun _ hk => ⟨hk.1.1.1.1.2, ⟨(by simp [Value.ownBlock]), hk.1.1.1.2⟩⟩))⟩, bg BK534, bg BK540, hbg HB⟩
             case round =>
              clear H'
              try clear c1
              try clear c4
              try clear c8
              try clear c8b0
              try clear c8b1
              try clear c8b2
              try clear c10
              try clear c12
              try clear c12b0
              try clear c12b1
              try clear c12b2
              try clear c27
              try clear c32
              try clear c33
              try clear c34
              try clear c36
              try clear c37
              try clear c39
              try clear c40
              try clear c42
              obtain ⟨x20_1, x21_1, rfl, HA, HK1, HO_5, HO_20, HO_535001, HO_541001, BK534, BK540, HB⟩ := hrel
              cases gk with
              | zero => exact absurd HA.out (by simp [laws_FnStairs.l0])
              | succ k1 =>
               have H := HA.out
               clear HA
               simp only [laws_FnStairs.l0] at H
               rcases iteE H with ⟨c54b0, H⟩ | ⟨c54b0, H⟩
               ·(first | rw [c54b0] | (simp only [i64_w, i32_w]; rw [c54b0]) | skip)
                obtain ⟨c55, H⟩ := itMP H
                have c55b0 := beq_eq_false_iff_ne.mpr c55
                have c55b1 := bne_iff_ne.mpr c55
                have c55b2 : ¬ (t526 = []) := fun h_ => c55 (by rw [h_]; rfl)
                obtain ⟨c56, H⟩ := itNP H
                have LMc56 := mkA c56
                clear c56
                obtain ⟨y561, hy561⟩ : ∃ y_ : List Int, y_ = (x20_1 ++ [Int.tmod (wrap64 (x21_1 + t560)) (t526.length : Int)]) := ⟨_, rfl⟩
                rw [← hy561] at H
                have Ny561 := mkA hy561
                clear hy561
                have H' := mkA H
                clear H
                go_wp2_with (first | ((with_reducible refine gate_builtin (b := .append) (xs := #[.tmp 133, .tmp 139]) rfl ?_); (try (refine gate_guard (by rfl) ?_; dsimp only)); at_builtin; refine Kd.R_append (Kd.int .i64) (w0 := w) w.heap.size rfl (.tmp 133) (.tmp 139) 24 3 (.int .i64 0) 8 rfl Tryd.underlying24 info3 rfl (by decide) (by omega) u20 x20_1 (Int.tmod (wrap64 (x21_1 + t560)) (t526.length : Int)) [.int .i64 (Int.tmod (wrap64 (x21_1 + t560)) (t526.length : Int))] (fun k_ => some k_ ≠ (.slice Ao15 t526.length co15 : Value).ownBlock ∧ some k_ ≠ (.slice Ao19 t530.length co19 : Value).ownBlock ∧ some k_ ≠ (.slice Ao24 t536.length co24 : Value).ownBlock) (fun _ => False) rfl rfl ?aP (fun _ hk => hk.elim) ?aF ?aO ?aB ?aS ?aL ?_; (case aP => exact rfl); (case aB => exact (bel_g HB.out)); (case aF => exact (fun k_ hk => ⟨Kd.fresh' (Kd.R_lt (Kd.R_g HO_5.out)) k_ hk, Kd.fresh' (Kd.R_lt (Kd.R_g HO_535001.out)) k_ hk, Kd.fresh' (Kd.R_lt (Kd.R_g HO_541001.out)) k_ hk⟩)); (case aO => exact (Kd.R_g HO_20.out)); (case aS => exact (below_size (bel_g HB.out))); (case aL => have := LMc56.out; omega); intro v562 w57 ho hb hg hat; rw [← Ny561.out] at ho; replace HO_5 := mkA (Kd.R_after (ok := (fun k_ => some k_ ≠ (.slice Ao19 t530.length co19 : Value).ownBlock ∧ some k_ ≠ (.slice Ao24 t536.length co24 : Value).ownBlock)) (Kd.R_g (Kd.R_mono HO_5.out (fun _ hk => ⟨⟨hk.2.1, hk.2.2⟩, hk.1⟩))) hg hat); replace HO_535001 := mkA (Kd.R_after (ok := (fun k_ => some k_ ≠ (.slice Ao15 t526.length co15 : Value).ownBlock ∧ some k_ ≠ (.slice Ao24 t536.length co24 : Value).ownBlock)) (Kd.R_g (Kd.R_mono HO_535001.out (fun _ hk => ⟨⟨hk.1, hk.2.2⟩, hk.2.1⟩))) hg hat); replace HO_541001 := mkA (Kd.R_after (ok := (fun k_ => some k_ ≠ (.slice Ao15 t526.length co15 : Value).ownBlock ∧ some k_ ≠ (.slice Ao19 t530.length co19 : Value).ownBlock)) (Kd.R_g (Kd.R_mono HO_541001.out (fun _ hk => ⟨⟨hk.1, hk.2.2⟩, hk.2.1⟩))) hg hat); replace BK534 := mkA (blk_grown (g := gb534) (o := .cells #[.int .i64 t529, .slice Ao19 t530.length co19] 27 (0, 0)) (blk_g BK534.out) hg (Kd.R_ne HO_20.out BK534.out (by decide))); replace BK540 := mkA (blk_grown (g := gb540) (o := .cells #[.int .i64 t535, .slice Ao24 t536.length co24] 27 (0, 0)) (blk_g BK540.out) hg (Kd.R_ne HO_20.out BK540.out (by decide))); have HO563 := mkA (ho); replace HB := mkA (hb); clear HO_20; clear ho hb hg hat))
                go_roundg k1
                case measure => have := HK1.out; omega
                case rel => exact ⟨(y561), (wrap64 (x21_1 + 1)), eqS, H', ⟨by have := HK1.out; omega⟩, ⟨Kd.R_g (Kd.R_mono HO_5.out (fun _ hk => ⟨hk.2, ⟨hk.1.1, hk.1.2⟩⟩))⟩, rg HO563, ⟨Kd.R_g (Kd.R_mono HO_535001.out (fun _ hk => ⟨hk.1.1, ⟨hk.2, hk.1.2⟩⟩))⟩, ⟨Kd.R_g (Kd.R_mono HO_541001.out (fun _ hk => ⟨hk.1.1, ⟨hk.2, hk.1.2⟩⟩))⟩, bg BK534, bg BK540, hbg HB⟩
               ·(first | rw [c54b0] | (simp only [i64_w, i32_w]; rw [c54b0]) | skip)
                obtain ⟨⟨t564, t565, t568⟩, A58, H⟩ := obE H
                dsimp only at H
                obtain ⟨⟨t570, t573⟩, A59, H⟩ := obE H
                dsimp only at H
                by_cases c60 : t568 = true
                ·subst c60
                 replace H := ifT H
                 by_cases c61 : t573 = true
                 ·subst c61
                  replace H := ifT H
                  obtain ⟨t574, A62, H⟩ := obE H
                  by_cases c63 : t574 = true
                  ·subst c63
                   replace H := ifT H
                   have H' := mkA H
                   clear H
                   obtain ⟨_, _, _, _⟩ := blk2 BK534
                   obtain ⟨Ao66, co66, rfl⟩ := Kd.R_slice HO_20.out
                   go_wp2_with (first | ((with_reducible refine gate_callee (f := 15) rfl ?_); refine goesQ (some 144) Tryd.func15 #[.agg #[.int .i64 t529, .slice Ao19 t530.length co19], .slice Ao66 x20_1.length co66] ?_; (with_reducible refine (impl_RenameOf.calls k1 t529 _ _ t530 _ _ x20_1 t564 t565 true _ ?_ ?_ ?_ ?_ ?_ A58.out).mono ?_); exact rC HO_535001; exact rL HO_535001; exact rC HO_20; exact rL HO_20; exact Tab.below HTAB.out (bel_g HB.out); rintro e w67 ⟨v566, rfl, ho0, hb⟩; refine ⟨_, rfl, ?_⟩; have HO567 := rLo (rN (rN (rN (rN ho0 HO_5) HO_20) HO_535001) HO_541001) HB; replace HO_5 := rE HO_5 ho0 hb; replace HO_20 := rE HO_20 ho0 hb; replace HO_535001 := rE HO_535001 ho0 hb; replace HO_541001 := rE HO_541001 ho0 hb; replace BK534 := blkB BK534 hb; replace BK540 := blkB BK540 hb; replace HB := bst HB hb; clear hb ho0) | ((with_reducible refine gate_dst (N := 22) rfl ?_); (try (refine gate_guard (by rfl) ?_; dsimp only)); refine boxG HB #[.int .i64 0, .slice none 0 0] 27 ?_; intro gb569 hg w68 BK569 GE569 hb; replace HO_5 := rB HO_5 hb; replace HO_20 := rB HO_20 hb; replace HO_535001 := rB HO_535001 hb; replace HO_541001 := rB HO_541001 hb; replace HO567 := rB HO567 hb; have NB534_569 := neL7 BK534 hg; have NB569_534 := neR7 BK534 hg; replace BK534 := blkB BK534 hb; have NB540_569 := neL7 BK540 hg; have NB569_540 := neR7 BK540 hg; replace BK540 := blkB BK540 hb; replace HB := bst HB hb; clear hb hg; obtain ⟨_, _, _, _⟩ := blk2 BK569; obtain ⟨Ao72, co72, rfl⟩ := Kd.R_slice HO567.out) | ((with_reducible refine gate_callee (f := 11) rfl ?_); refine goesQ (some 149) Tryd.func11 #[.agg #[.int .i64 t564, .slice Ao72 t565.length co72]] ?_; (with_reducible refine (impl_StairOf.calls k1 t564 _ _ t565 t570 true _ ?_ ?_ ?_ A59.out).mono ?_); exact rCF HO567 BK569; exact rL HO567; exact Tab.below HTAB.out (bel_g HB.out); rintro e w73 ⟨v571, rfl, ho0, hb⟩; refine ⟨_, rfl, ?_⟩; have HO572 := rLo (rNF (rNF (rNF (rNF (rNF ho0 HO_5 BK569) HO_20 BK569) HO_535001 BK569) HO_541001 BK569) HO567 BK569) HB; replace HO_5 := rEF HO_5 BK569 ho0 hb; replace HO_20 := rEF HO_20 BK569 ho0 hb; replace HO_535001 := rEF HO_535001 BK569 ho0 hb; replace HO_541001 := rEF HO_541001 BK569 ho0 hb; replace HO567 := rEF HO567 BK569 ho0 hb; replace BK534 := blkS BK534 hb; replace BK540 := blkS BK540 hb; replace BK569 := blkS BK569 hb; replace HB := bst HB hb; clear hb ho0; obtain ⟨Ao74, co74, rfl⟩ := Kd.R_slice HO572.out) | (go_at_call 13; (with_reducible refine (laws_vSame.calls k1 _ _ t570 _ _ t526 true _ ?_ ?_ ?_ ?_ A62.out).mono ?_); exact rC HO572; exact rL HO572; exact rC HO_5; exact rL HO_5; rintro e w' ⟨rfl, ⟨nd, rfl⟩⟩))
                   go_meet
                   case rel => exact ⟨_, H', ⟨by have := HK1.out; first | omega | exact Nat.le_refl _⟩, ⟨Kd.R_g (Kd.R_mono HO_535001.out (fun _ hk => hk.1.1.2.2))⟩, ⟨Kd.R_g (Kd.R_mono HO_541001.out (fun _ hk => hk.1.1.2.2))⟩, bg BK534, bg BK540, hbg HB⟩
                  ·replace c63 := Bool.eq_false_iff.mpr c63
                   subst c63
                   replace H := ifF H
                   exact absurd H (by simp)
                 ·replace c61 := Bool.eq_false_iff.mpr c61
                  subst c61
                  replace H := ifF H
                  exact absurd H (by simp)
                ·replace c60 := Bool.eq_false_iff.mpr c60
                 subst c60
                 replace H := ifF H
                 exact absurd H (by simp)
            ·replace c42 := Bool.eq_false_iff.mpr c42
             subst c42
             replace H := ifF H
             exact absurd H (by simp)
           ·replace c40 := Bool.eq_false_iff.mpr c40
            subst c40
            replace H := ifF H
            exact absurd H (by simp)
          ·replace c39 := Bool.eq_false_iff.mpr c39
           subst c39
           replace H := ifF H
           exact absurd H (by simp)
         ·replace c37 := Bool.eq_false_iff.mpr c37
          subst c37
          replace H := ifF H
          exact absurd H (by simp)
        ·replace c36 := Bool.eq_false_iff.mpr c36
         subst c36
         replace H := ifF H
         exact absurd H (by simp)
       ·replace c34 := Bool.eq_false_iff.mpr c34
        subst c34
        replace H := ifF H
        exact absurd H (by simp)
      ·replace c33 := Bool.eq_false_iff.mpr c33
       subst c33
       replace H := ifF H
       exact absurd H (by simp)
     ·replace c32 := Bool.eq_false_iff.mpr c32
      subst c32
      replace H := ifF H
      exact absurd H (by simp)
    ·replace c27 := Bool.eq_false_iff.mpr c27
     subst c27
     replace H := ifF H
     have H' := mkA H
     clear H
     go_wp2
     go_meet
     case rel => exact ⟨_, H', ⟨by first | omega | exact Nat.le_refl _⟩, ⟨Kd.R_g (Kd.R_mono HO532.out (fun _ hk => hk.2))⟩, ⟨Kd.R_g (Kd.R_mono HO538.out (fun _ hk => hk.2))⟩, bg BK534, bg BK540, hbg HB⟩
   case rest =>
    clear HC13
    try clear c1
    try clear c4
    try clear c8
    try clear c8b0
    try clear c8b1
    try clear c8b2
    try clear c10
    try clear c12
    try clear c12b0
    try clear c12b1
    try clear c12b2
    try clear c27
    try clear c32
    try clear c33
    try clear c34
    try clear c36
    try clear c37
    try clear c39
    try clear c40
    try clear c42
    try clear c54b0
    try clear c55
    try clear c55b0
    try clear c55b1
    try clear c55b2
    try clear c56
    try clear c60
    try clear c61
    try clear c63
    obtain ⟨kq, HA, HJ12, HO_535001, HO_541001, BK534, BK540, HB⟩ := hcut
    cases kq with
    | zero => exact absurd HA.out (by simp [laws_FnStairs.j1])
    | succ kj12 =>
     have H := HA.out
     clear HA
     simp only [laws_FnStairs.j1] at H
     obtain ⟨t575, A75, H⟩ := obE H
     obtain ⟨⟨t576, t577⟩, A76, H⟩ := obE H
     dsimp only at H
     obtain ⟨⟨t580, t583⟩, A77, H⟩ := obE H
     dsimp only at H
     obtain ⟨c78, H⟩ := itMP H
     have c78b0 : (t577 != t583) = false := by simpa using c78
     (try (have c78b1 : decide (t577 = t583) = true := by simpa using c78))
     (try (have c78b2 : (t577 == t583) = true := by simpa using c78))
     clear c78
     obtain ⟨t584, A79, H⟩ := obE H
     by_cases c80 : t584 = true
     ·subst c80
      replace H := ifT H
      by_cases c81 : t577 = true
      ·subst c81
       replace H := ifT H
       obtain ⟨⟨t585, t586⟩, A82, H⟩ := obE H
       dsimp only at H
       by_cases c83 : t586 = true
       ·subst c83
        replace H := ifT H
        obtain ⟨c84, H⟩ := itNP H
        have c84b0 := beq_iff_eq.mpr c84
        have c84b1 := bne_eq_false_iff_eq.mpr c84
        clear c84
        obtain ⟨t587, A85, H⟩ := obE H
        obtain ⟨⟨t588, t589⟩, A86, H⟩ := obE H
        dsimp only at H
        obtain ⟨⟨t590, t591⟩, A87, H⟩ := obE H
        dsimp only at H
        obtain ⟨c88, H⟩ := itNP H
        have c88b0 : (t589 == t591) = true := c88
        (try (have c88b1 : decide (t589 = t591) = true := by simpa using c88))
        (try (have c88b2 : (t589 == t591) = true := by simpa using c88))
        clear c88
        obtain rfl := Option.some.inj H
        go_wp2_with (first | ((with_reducible refine gate_callee (f := 16) rfl ?_); refine goesQ (some 165) Tryd.func16 #[.slice A1 l1.length c1] ?_; (with_reducible refine (spec_DrawStairsOf.calls _ _ l1 t575 _ ?_ ?_ A75.out).mono ?_); exact C_g HR1 HB; exact HC1.out; rintro e w89 ⟨rfl, hb⟩; refine ⟨_, rfl, ?_⟩; replace HO_535001 := rB HO_535001 hb; replace HO_541001 := rB HO_541001 hb; replace BK534 := blkB BK534 hb; replace BK540 := blkB BK540 hb; replace HB := bst HB hb; clear hb) | ((with_reducible refine gate_callee (f := 17) rfl ?_); refine goesQ (some 168) Tryd.func17 #[.int .i64 t575] ?_; (with_reducible refine (impl_StairsOf.calls t575 t576 true _ A76.out).mono ?_); rintro e w90 ⟨v578, rfl, ho0, hb⟩; refine ⟨_, rfl, ?_⟩; have HO579 := mkA (Kd.N_lower (Kd.N_mono (ok' := fun k_ => some k_ ≠ (.slice Ao19 t530.length co19 : Value).ownBlock ∧ some k_ ≠ (.slice Ao24 t536.length co24 : Value).ownBlock ∧ k_ ≠ gb534 ∧ k_ ≠ gb540) (Kd.S_N (Kd.S_bound ho0)) (fun k_ hk_ => ⟨(Kd.fresh' (Kd.R_lt (Kd.R_g HO_535001.out)) k_ hk_.2.1), (Kd.fresh' (Kd.R_lt (Kd.R_g HO_541001.out)) k_ hk_.2.1), (Kd.freshB (g := gb534) (o := .cells #[.int .i64 t529, .slice Ao19 t530.length co19] 27 (0, 0)) (blk_g BK534.out) k_ hk_.2.1), (Kd.freshB (g := gb540) (o := .cells #[.int .i64 t535, .slice Ao24 t536.length co24] 27 (0, 0)) (blk_g BK540.out) k_ hk_.2.1)⟩)) (below_size (bel_g HB.out))); replace HO_535001 := rB HO_535001 hb; replace HO_541001 := rB HO_541001 hb; replace BK534 := blkB BK534 hb; replace BK540 := blkB BK540 hb; replace HB := bst HB hb; clear hb ho0) | ((with_reducible refine gate_callee (f := 18) rfl ?_); refine goesQ (some 173) Tryd.func18 #[.int .i64 t575] ?_; (with_reducible refine (spec_StairsOf.calls kj12 t575 t580 t583 _ A77.out).mono ?_); rintro e w91 ⟨v581, rfl, ho0, hb⟩; refine ⟨_, rfl, ?_⟩; have HO582 := mkA (Kd.N_lower (Kd.N_mono (ok' := fun k_ => some k_ ≠ (.slice Ao19 t530.length co19 : Value).ownBlock ∧ some k_ ≠ (.slice Ao24 t536.length co24 : Value).ownBlock ∧ some k_ ≠ (v578 : Value).ownBlock ∧ k_ ≠ gb534 ∧ k_ ≠ gb540) ho0 (fun k_ hk_ => ⟨(Kd.fresh' (Kd.R_lt (Kd.R_g HO_535001.out)) k_ hk_), (Kd.fresh' (Kd.R_lt (Kd.R_g HO_541001.out)) k_ hk_), (Kd.fresh' (Kd.N_lt (by (with_reducible repeat (first | apply Kd.N_alloc | apply Kd.N_drewN | apply Kd.N_drew)); exact HO579.out)) k_ hk_), (Kd.freshB (g := gb534) (o := .cells #[.int .i64 t529, .slice Ao19 t530.length co19] 27 (0, 0)) (blk_g BK534.out) k_ hk_), (Kd.freshB (g := gb540) (o := .cells #[.int .i64 t535, .slice Ao24 t536.length co24] 27 (0, 0)) (blk_g BK540.out) k_ hk_)⟩)) (below_size (bel_g HB.out))); replace HO_535001 := rB HO_535001 hb; replace HO_541001 := rB HO_541001 hb; replace HO579 := mkA (Kd.N_elder' (by (with_reducible repeat (first | apply Kd.N_alloc | apply Kd.N_drewN | apply Kd.N_drew)); exact HO579.out) (Kd.N_base ho0) hb); replace BK534 := blkB BK534 hb; replace BK540 := blkB BK540 hb; replace HB := bst HB hb; (try clear hb); (try clear hk); (try clear ho0); obtain ⟨Ao92, co92, rfl⟩ := Kd.N_slice HO579.out; obtain ⟨Ao93, co93, rfl⟩ := Kd.N_slice HO582.out) | (go_at_call 19; (with_reducible refine (laws_vLists.calls kj12 _ _ t576 _ _ t580 true _ ?s1 ?s2 ?s3 ?s4 A79.out).mono ?_); (case s1 => repeat (first | exact (Kd.N_reads' HO579.out).2.2 | (with_reducible refine Kd.C_alloc ?_ _) | (with_reducible refine Kd.C_drewN ?_ _) | (with_reducible refine Kd.C_drew ?_))); (case s2 => exact (Kd.N_reads' HO579.out).2.1); (case s3 => repeat (first | exact (Kd.N_reads' HO582.out).2.2 | (with_reducible refine Kd.C_alloc ?_ _) | (with_reducible refine Kd.C_drewN ?_ _) | (with_reducible refine Kd.C_drew ?_))); (case s4 => exact (Kd.N_reads' HO582.out).2.1); rintro e w' ⟨rfl, ⟨nd, rfl⟩⟩) | ((with_reducible refine gate_callee (f := 20) rfl ?_); refine goesQ (some 188) Tryd.func20 #[.int .i64 t575] ?_; (with_reducible refine (impl_CountStairs.calls t575 t585 true _ A82.out).mono ?_); rintro e w94 ⟨rfl, hb⟩; refine ⟨_, rfl, ?_⟩; replace HO_535001 := rB HO_535001 hb; replace HO_541001 := rB HO_541001 hb; replace HO579 := mkA (Kd.N_below (by (with_reducible repeat (first | apply Kd.N_alloc | apply Kd.N_drewN | apply Kd.N_drew)); exact HO579.out) hb); replace HO582 := mkA (Kd.N_below (by (with_reducible repeat (first | apply Kd.N_alloc | apply Kd.N_drewN | apply Kd.N_drew)); exact HO582.out) hb); replace BK534 := blkB BK534 hb; replace BK540 := blkB BK540 hb; replace HB := bst HB hb; (try clear hb); (try clear hk)) | ((with_reducible refine gate_callee (f := 21) rfl ?_); refine goesQ (some 200) Tryd.func21 #[.slice A1 l1.length c1] ?_; (with_reducible refine (spec_DrawCountStairs.calls _ _ l1 t587 _ ?_ ?_ A85.out).mono ?_); exact C_g HR1 HB; exact HC1.out; rintro e w95 ⟨rfl, hb⟩; refine ⟨_, rfl, ?_⟩; replace HO_535001 := rB HO_535001 hb; replace HO_541001 := rB HO_541001 hb; replace HO579 := mkA (Kd.N_below (by (with_reducible repeat (first | apply Kd.N_alloc | apply Kd.N_drewN | apply Kd.N_drew)); exact HO579.out) hb); replace HO582 := mkA (Kd.N_below (by (with_reducible repeat (first | apply Kd.N_alloc | apply Kd.N_drewN | apply Kd.N_drew)); exact HO582.out) hb); replace BK534 := blkB BK534 hb; replace BK540 := blkB BK540 hb; replace HB := bst HB hb; (try clear hb); (try clear hk)) | ((with_reducible refine gate_callee (f := 20) rfl ?_); refine goesQ (some 203) Tryd.func20 #[.int .i64 t587] ?_; (with_reducible refine (impl_CountStairs.calls t587 t588 t589 _ A86.out).mono ?_); rintro e w96 ⟨rfl, hb⟩; refine ⟨_, rfl, ?_⟩; replace HO_535001 := rB HO_535001 hb; replace HO_541001 := rB HO_541001 hb; replace HO579 := mkA (Kd.N_below (by (with_reducible repeat (first | apply Kd.N_alloc | apply Kd.N_drewN | apply Kd.N_drew)); exact HO579.out) hb); replace HO582 := mkA (Kd.N_below (by (with_reducible repeat (first | apply Kd.N_alloc | apply Kd.N_drewN | apply Kd.N_drew)); exact HO582.out) hb); replace BK534 := blkB BK534 hb; replace BK540 := blkB BK540 hb; replace HB := bst HB hb; (try clear hb); (try clear hk)) | ((with_reducible refine gate_callee (f := 22) rfl ?_); refine goesQ (some 208) Tryd.func22 #[.int .i64 t587] ?_; (with_reducible refine (spec_CountStairs.calls kj12 t587 t590 t591 _ A87.out).mono ?_); rintro e w' ⟨rfl, ⟨nd, rfl⟩⟩; refine ⟨_, rfl, ?_⟩))
        go_ret
        exact ⟨eqE, bel_g HB.out⟩
       ·replace c83 := Bool.eq_false_iff.mpr c83
        subst c83
        replace H := ifF H
        exact absurd H (by simp)
      ·replace c81 := Bool.eq_false_iff.mpr c81
       subst c81
       replace H := ifF H
       obtain ⟨t592, A97, H⟩ := obE H
       obtain ⟨⟨t593, t594⟩, A98, H⟩ := obE H
       dsimp only at H
       obtain ⟨⟨t595, t596⟩, A99, H⟩ := obE H
       dsimp only at H
       obtain ⟨c100, H⟩ := itNP H
       have c100b0 : (t594 == t596) = true := c100
       (try (have c100b1 : decide (t594 = t596) = true := by simpa using c100))
       (try (have c100b2 : (t594 == t596) = true := by simpa using c100))
       clear c100
       obtain rfl := Option.some.inj H
       go_wp2_with (first | ((with_reducible refine gate_callee (f := 16) rfl ?_); refine goesQ (some 165) Tryd.func16 #[.slice A1 l1.length c1] ?_; (with_reducible refine (spec_DrawStairsOf.calls _ _ l1 t575 _ ?_ ?_ A75.out).mono ?_); exact C_g HR1 HB; exact HC1.out; rintro e w101 ⟨rfl, hb⟩; refine ⟨_, rfl, ?_⟩; replace HO_535001 := rB HO_535001 hb; replace HO_541001 := rB HO_541001 hb; replace BK534 := blkB BK534 hb; replace BK540 := blkB BK540 hb; replace HB := bst HB hb; clear hb) | ((with_reducible refine gate_callee (f := 17) rfl ?_); refine goesQ (some 168) Tryd.func17 #[.int .i64 t575] ?_; (with_reducible refine (impl_StairsOf.calls t575 t576 false _ A76.out).mono ?_); rintro e w102 ⟨v578, rfl, ho0, hb⟩; refine ⟨_, rfl, ?_⟩; have HO579 := mkA (Kd.N_lower (Kd.N_mono (ok' := fun k_ => some k_ ≠ (.slice Ao19 t530.length co19 : Value).ownBlock ∧ some k_ ≠ (.slice Ao24 t536.length co24 : Value).ownBlock ∧ k_ ≠ gb534 ∧ k_ ≠ gb540) (Kd.S_N (Kd.S_bound ho0)) (fun k_ hk_ => ⟨(Kd.fresh' (Kd.R_lt (Kd.R_g HO_535001.out)) k_ hk_.2.1), (Kd.fresh' (Kd.R_lt (Kd.R_g HO_541001.out)) k_ hk_.2.1), (Kd.freshB (g := gb534) (o := .cells #[.int .i64 t529, .slice Ao19 t530.length co19] 27 (0, 0)) (blk_g BK534.out) k_ hk_.2.1), (Kd.freshB (g := gb540) (o := .cells #[.int .i64 t535, .slice Ao24 t536.length co24] 27 (0, 0)) (blk_g BK540.out) k_ hk_.2.1)⟩)) (below_size (bel_g HB.out))); replace HO_535001 := rB HO_535001 hb; replace HO_541001 := rB HO_541001 hb; replace BK534 := blkB BK534 hb; replace BK540 := blkB BK540 hb; replace HB := bst HB hb; clear hb ho0) | ((with_reducible refine gate_callee (f := 18) rfl ?_); refine goesQ (some 173) Tryd.func18 #[.int .i64 t575] ?_; (with_reducible refine (spec_StairsOf.calls kj12 t575 t580 t583 _ A77.out).mono ?_); rintro e w103 ⟨v581, rfl, ho0, hb⟩; refine ⟨_, rfl, ?_⟩; have HO582 := mkA (Kd.N_lower (Kd.N_mono (ok' := fun k_ => some k_ ≠ (.slice Ao19 t530.length co19 : Value).ownBlock ∧ some k_ ≠ (.slice Ao24 t536.length co24 : Value).ownBlock ∧ some k_ ≠ (v578 : Value).ownBlock ∧ k_ ≠ gb534 ∧ k_ ≠ gb540) ho0 (fun k_ hk_ => ⟨(Kd.fresh' (Kd.R_lt (Kd.R_g HO_535001.out)) k_ hk_), (Kd.fresh' (Kd.R_lt (Kd.R_g HO_541001.out)) k_ hk_), (Kd.fresh' (Kd.N_lt (by (with_reducible repeat (first | apply Kd.N_alloc | apply Kd.N_drewN | apply Kd.N_drew)); exact HO579.out)) k_ hk_), (Kd.freshB (g := gb534) (o := .cells #[.int .i64 t529, .slice Ao19 t530.length co19] 27 (0, 0)) (blk_g BK534.out) k_ hk_), (Kd.freshB (g := gb540) (o := .cells #[.int .i64 t535, .slice Ao24 t536.length co24] 27 (0, 0)) (blk_g BK540.out) k_ hk_)⟩)) (below_size (bel_g HB.out))); replace HO_535001 := rB HO_535001 hb; replace HO_541001 := rB HO_541001 hb; replace HO579 := mkA (Kd.N_elder' (by (with_reducible repeat (first | apply Kd.N_alloc | apply Kd.N_drewN | apply Kd.N_drew)); exact HO579.out) (Kd.N_base ho0) hb); replace BK534 := blkB BK534 hb; replace BK540 := blkB BK540 hb; replace HB := bst HB hb; (try clear hb); (try clear hk); (try clear ho0); obtain ⟨Ao104, co104, rfl⟩ := Kd.N_slice HO579.out; obtain ⟨Ao105, co105, rfl⟩ := Kd.N_slice HO582.out) | (go_at_call 19; (with_reducible refine (laws_vLists.calls kj12 _ _ t576 _ _ t580 true _ ?s1 ?s2 ?s3 ?s4 A79.out).mono ?_); (case s1 => repeat (first | exact (Kd.N_reads' HO579.out).2.2 | (with_reducible refine Kd.C_alloc ?_ _) | (with_reducible refine Kd.C_drewN ?_ _) | (with_reducible refine Kd.C_drew ?_))); (case s2 => exact (Kd.N_reads' HO579.out).2.1); (case s3 => repeat (first | exact (Kd.N_reads' HO582.out).2.2 | (with_reducible refine Kd.C_alloc ?_ _) | (with_reducible refine Kd.C_drewN ?_ _) | (with_reducible refine Kd.C_drew ?_))); (case s4 => exact (Kd.N_reads' HO582.out).2.1); rintro e w' ⟨rfl, ⟨nd, rfl⟩⟩) | ((with_reducible refine gate_callee (f := 21) rfl ?_); refine goesQ (some 200) Tryd.func21 #[.slice A1 l1.length c1] ?_; (with_reducible refine (spec_DrawCountStairs.calls _ _ l1 t592 _ ?s1 ?s2 A97.out).mono ?_); (case s1 => repeat (first | exact (Kd.C_below HR1.out (bel_g HB.out)) | (with_reducible refine Kd.C_alloc ?_ _) | (with_reducible refine Kd.C_drewN ?_ _) | (with_reducible refine Kd.C_drew ?_))); (case s2 => exact HC1.out); rintro e w106 ⟨rfl, hb⟩; refine ⟨_, rfl, ?_⟩; replace HO_535001 := rB HO_535001 hb; replace HO_541001 := rB HO_541001 hb; replace HO579 := mkA (Kd.N_below (by (with_reducible repeat (first | apply Kd.N_alloc | apply Kd.N_drewN | apply Kd.N_drew)); exact HO579.out) hb); replace HO582 := mkA (Kd.N_below (by (with_reducible repeat (first | apply Kd.N_alloc | apply Kd.N_drewN | apply Kd.N_drew)); exact HO582.out) hb); replace BK534 := blkB BK534 hb; replace BK540 := blkB BK540 hb; replace HB := bst HB hb; (try clear hb); (try clear hk)) | ((with_reducible refine gate_callee (f := 20) rfl ?_); refine goesQ (some 203) Tryd.func20 #[.int .i64 t592] ?_; (with_reducible refine (impl_CountStairs.calls t592 t593 t594 _ A98.out).mono ?_); rintro e w107 ⟨rfl, hb⟩; refine ⟨_, rfl, ?_⟩; replace HO_535001 := rB HO_535001 hb; replace HO_541001 := rB HO_541001 hb; replace HO579 := mkA (Kd.N_below (by (with_reducible repeat (first | apply Kd.N_alloc | apply Kd.N_drewN | apply Kd.N_drew)); exact HO579.out) hb); replace HO582 := mkA (Kd.N_below (by (with_reducible repeat (first | apply Kd.N_alloc | apply Kd.N_drewN | apply Kd.N_drew)); exact HO582.out) hb); replace BK534 := blkB BK534 hb; replace BK540 := blkB BK540 hb; replace HB := bst HB hb; (try clear hb); (try clear hk)) | ((with_reducible refine gate_callee (f := 22) rfl ?_); refine goesQ (some 208) Tryd.func22 #[.int .i64 t592] ?_; (with_reducible refine (spec_CountStairs.calls kj12 t592 t595 t596 _ A99.out).mono ?_); rintro e w' ⟨rfl, ⟨nd, rfl⟩⟩; refine ⟨_, rfl, ?_⟩))
       go_ret
       exact ⟨eqE, bel_g HB.out⟩
     ·replace c80 := Bool.eq_false_iff.mpr c80
      subst c80
      replace H := ifF H
      exact absurd H (by simp)
  ·replace c10 := Bool.eq_false_iff.mpr c10
   subst c10
   replace H := ifF H
   exact absurd H (by simp)
end Go.Proofs.YtcalgdljcphjaaaDoor.Q
