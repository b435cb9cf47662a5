import Derived.Test.YtjahodklmegglaaDoorBFnExactTraceOf0
import Derived.Test.YtjahodklmegglaaDoorBFnExactTraceOf3
import Derived.Test.YtjahodklmegglaaDoorBFnExactTraceOf4
import Derived.Test.YtjahodklmegglaaDoorBFnExactTraceOf5
import Derived.Test.YtjahodklmegglaaDoorBFnExactTraceOf6
-- printed by this project's own program (wip/mp/mp.py) over the kit's print, for this seat; Lean checks it
namespace Go.Proofs.YtjahodklmegglaaDoor.Q
open Go.RowKit Go.Proofs.YtjahodklmegglaaDoorW.PrintWords Go.Proofs.YtjahodklmegglaaDoorW.PrintLast Go.Proofs.YtjahodklmegglaaDoorW.PrintMore
attribute [local go_sem] max2_int min2_int max_two min_two max_three min_three max_four min_four   -- for this text's walks alone
set_option linter.unusedVariables false
set_option maxHeartbeats 8000000
set_option maxRecDepth 100000
set_option linter.unusedSimpArgs false

/-! ### spec_seGood: function 26 -/
def spec_seGood.f (k : Nat) (a0_0 : Int) (l0_1 : List Int) : Option (Bool) := (spec_ThreeOneOf.f k a0_0 l0_1).bind fun bt501 => ((spec_orGood.f k a0_0 l0_1).bind fun t505 => (if t505 = true then (if bt501.2 = true then (some false) else ((spec_seTwoTwo.f k a0_0 l0_1).bind fun t506 => (some (!t506)))) else (some false)))
theorem spec_seGood.mono : ∀ a0 a1 k, LeO (spec_seGood.f k a0 a1) (spec_seGood.f (k + 1) a0 a1) := by
 intro a0 a1 k
 unfold spec_seGood.f
 repeat' (with_reducible first|exact spec_ThreeOneOf.mono _ _ _|exact spec_orGood.mono _ _ _|exact spec_seTwoTwo.mono _ _ _|exact LeO.refl _|exact LeO.none _|refine LeO.ite ?_ ?_|refine LeO.bind ?_ (fun _ => ?_))
theorem spec_seGood.calls (k : Nat) (a0_0 : Int) (A0_1 : Option Addr) (c0_1 : Nat) (l0_1 : List Int) (r : Bool) (w : World) (hr0_1 : Kd.C (Kd.int .i64) w A0_1 l0_1.length l0_1) (hc0_1 : l0_1.length ≤ c0_1) (h : spec_seGood.f k a0_0 l0_1 = some r) :
  Calls Tryd.prog 26 #[.agg #[.int .i64 a0_0, .slice A0_1 l0_1.length c0_1]] w fun e w' => e = .returned (.bool r) ∧ Below w.heap.size w w' := by
 have hu28 := Tryd.underlying28
 have HR0_1 := Aside0.mk hr0_1
 have HC0_1 := Aside0.mk hc0_1
 clear hr0_1 hc0_1
 have HB := Aside0.mk (Below.refl w.heap.size w)
 have H : ((spec_ThreeOneOf.f k a0_0 l0_1).bind fun bt501 => ((spec_orGood.f k a0_0 l0_1).bind fun t505 => (if t505 = true then (if bt501.2 = true then (some false) else ((spec_seTwoTwo.f k a0_0 l0_1).bind fun t506 => (some (!t506)))) else (some false)))) = some r := h
 clear h
 obtain ⟨⟨t501, t504⟩, A2, H⟩ := obE H
 dsimp only at H
 obtain ⟨t505, A3, H⟩ := obE H
 by_cases c4 : t505 = true
 ·subst c4
  replace H := ifT H
  by_cases c5 : t504 = true
  ·subst c5
   replace H := ifT H
   obtain rfl := Option.some.inj H
   go_enter Tryd.func26, Tryd.ntmps26
   go_wp2_with (first | ((with_reducible refine gate_dst (N := 1) rfl ?_); refine boxE (N := 1) (cs := #[.int .i64 a0_0, .slice A0_1 l0_1.length c0_1]) (t := 28) ?_; intro gb500 hg w6 hbox hb; have BK500 := Aside0.mk (hbox); have GE500 := geB HB hg; replace HB := bst HB hb; clear hb hbox hg; obtain ⟨hcz7_0, hcz7_1, hfz7_0, hfz7_1⟩ := blk2 BK500) | ((with_reducible refine gate_callee (f := 45) rfl ?_); refine goesQ (some 7) Tryd.func45 #[.agg #[.int .i64 a0_0, .slice A0_1 l0_1.length c0_1]] ?_; (with_reducible refine (spec_ThreeOneOf.calls k a0_0 _ _ l0_1 t501 true _ ?side1 ?side2 A2.out).mono ?_); (case side1 => exact C_g HR0_1 HB); (case side2 => exact HC0_1.out); rintro e w8 ⟨v502, rfl, ho0, hb⟩; refine ⟨_, rfl, ?_⟩; have HO503 := Aside0.mk (Kd.R_lower ho0 (below_size (bel_g HB.out))); replace BK500 := blkB BK500 hb; replace HB := bst HB hb; (try clear hb); (try clear ho0); obtain ⟨hcz9_0, hcz9_1, hfz9_0, hfz9_1⟩ := blk2 BK500) | ((with_reducible refine gate_callee (f := 37) rfl ?_); refine goesQ (some 11) Tryd.func37 #[.agg #[.int .i64 a0_0, .slice A0_1 l0_1.length c0_1]] ?_; (with_reducible refine (spec_orGood.calls k a0_0 _ _ l0_1 true _ ?side1 ?side2 A3.out).mono ?_); (case side1 => exact C_g HR0_1 HB); (case side2 => exact HC0_1.out); rintro e w10 ⟨rfl, hb⟩; refine ⟨_, rfl, ?_⟩; replace HO503 := Aside0.mk (Kd.R_below (Kd.R_g HO503.out) hb); replace BK500 := blkB BK500 hb; replace HB := bst HB hb; (try clear hb)))
   go_ret
   exact ⟨eqE, bel_g HB.out⟩
  ·replace c5 := Bool.eq_false_iff.mpr c5
   subst c5
   replace H := ifF H
   obtain ⟨t506, A11, H⟩ := obE H
   obtain rfl := Option.some.inj H
   go_enter Tryd.func26, Tryd.ntmps26
   go_wp2_with (first | ((with_reducible refine gate_dst (N := 1) rfl ?_); refine boxE (N := 1) (cs := #[.int .i64 a0_0, .slice A0_1 l0_1.length c0_1]) (t := 28) ?_; intro gb500 hg w12 hbox hb; have BK500 := Aside0.mk (hbox); have GE500 := geB HB hg; replace HB := bst HB hb; clear hb hbox hg; obtain ⟨hcz13_0, hcz13_1, hfz13_0, hfz13_1⟩ := blk2 BK500) | ((with_reducible refine gate_callee (f := 45) rfl ?_); refine goesQ (some 7) Tryd.func45 #[.agg #[.int .i64 a0_0, .slice A0_1 l0_1.length c0_1]] ?_; (with_reducible refine (spec_ThreeOneOf.calls k a0_0 _ _ l0_1 t501 false _ ?side1 ?side2 A2.out).mono ?_); (case side1 => exact C_g HR0_1 HB); (case side2 => exact HC0_1.out); rintro e w14 ⟨v502, rfl, ho0, hb⟩; refine ⟨_, rfl, ?_⟩; have HO503 := Aside0.mk (Kd.R_lower ho0 (below_size (bel_g HB.out))); replace BK500 := blkB BK500 hb; replace HB := bst HB hb; (try clear hb); (try clear ho0); obtain ⟨hcz15_0, hcz15_1, hfz15_0, hfz15_1⟩ := blk2 BK500) | ((with_reducible refine gate_callee (f := 37) rfl ?_); refine goesQ (some 11) Tryd.func37 #[.agg #[.int .i64 a0_0, .slice A0_1 l0_1.length c0_1]] ?_; (with_reducible refine (spec_orGood.calls k a0_0 _ _ l0_1 true _ ?side1 ?side2 A3.out).mono ?_); (case side1 => exact C_g HR0_1 HB); (case side2 => exact HC0_1.out); rintro e w16 ⟨rfl, hb⟩; refine ⟨_, rfl, ?_⟩; replace HO503 := Aside0.mk (Kd.R_below (Kd.R_g HO503.out) hb); replace BK500 := blkB BK500 hb; replace HB := bst HB hb; (try clear hb); obtain ⟨hcz17_0, hcz17_1, hfz17_0, hfz17_1⟩ := blk2 BK500) | (go_at_call 46; (with_reducible refine (spec_seTwoTwo.calls k a0_0 _ _ l0_1 t506 _ ?side1 ?side2 A11.out).mono ?_); (case side1 => exact C_g HR0_1 HB); (case side2 => exact HC0_1.out); rintro e w18 ⟨rfl, hb⟩; replace HO503 := Aside0.mk (Kd.R_below (Kd.R_g HO503.out) hb); replace BK500 := blkB BK500 hb; replace HB := bst HB hb; (try clear hb)))
   go_ret
   exact ⟨eqE, bel_g HB.out⟩
 ·replace c4 := Bool.eq_false_iff.mpr c4
  subst c4
  replace H := ifF H
  obtain rfl := Option.some.inj H
  go_enter Tryd.func26, Tryd.ntmps26
  go_wp2_with (first | ((with_reducible refine gate_dst (N := 1) rfl ?_); refine boxE (N := 1) (cs := #[.int .i64 a0_0, .slice A0_1 l0_1.length c0_1]) (t := 28) ?_; intro gb500 hg w19 hbox hb; have BK500 := Aside0.mk (hbox); have GE500 := geB HB hg; replace HB := bst HB hb; clear hb hbox hg; obtain ⟨hcz20_0, hcz20_1, hfz20_0, hfz20_1⟩ := blk2 BK500) | ((with_reducible refine gate_callee (f := 45) rfl ?_); refine goesQ (some 7) Tryd.func45 #[.agg #[.int .i64 a0_0, .slice A0_1 l0_1.length c0_1]] ?_; (with_reducible refine (spec_ThreeOneOf.calls k a0_0 _ _ l0_1 t501 t504 _ ?side1 ?side2 A2.out).mono ?_); (case side1 => exact C_g HR0_1 HB); (case side2 => exact HC0_1.out); rintro e w21 ⟨v502, rfl, ho0, hb⟩; refine ⟨_, rfl, ?_⟩; have HO503 := Aside0.mk (Kd.R_lower ho0 (below_size (bel_g HB.out))); replace BK500 := blkB BK500 hb; replace HB := bst HB hb; (try clear hb); (try clear ho0); obtain ⟨hcz22_0, hcz22_1, hfz22_0, hfz22_1⟩ := blk2 BK500) | ((with_reducible refine gate_callee (f := 37) rfl ?_); refine goesQ (some 11) Tryd.func37 #[.agg #[.int .i64 a0_0, .slice A0_1 l0_1.length c0_1]] ?_; (with_reducible refine (spec_orGood.calls k a0_0 _ _ l0_1 false _ ?side1 ?side2 A3.out).mono ?_); (case side1 => exact C_g HR0_1 HB); (case side2 => exact HC0_1.out); rintro e w23 ⟨rfl, hb⟩; refine ⟨_, rfl, ?_⟩; replace HO503 := Aside0.mk (Kd.R_below (Kd.R_g HO503.out) hb); replace BK500 := blkB BK500 hb; replace HB := bst HB hb; (try clear hb)))
  go_ret
  exact ⟨eqE, bel_g HB.out⟩

end Go.Proofs.YtjahodklmegglaaDoor.Q

-- printed by this project's own program (wip/mp/mp.py) over the kit's print, for this seat; Lean checks it
namespace Go.Proofs.YtjahodklmegglaaDoor.Q
open Go.RowKit Go.Proofs.YtjahodklmegglaaDoorW.PrintWords Go.Proofs.YtjahodklmegglaaDoorW.PrintLast Go.Proofs.YtjahodklmegglaaDoorW.PrintMore
attribute [local go_sem] max2_int min2_int max_two min_two max_three min_three max_four min_four   -- for this text's walks alone
set_option linter.unusedVariables false
set_option maxHeartbeats 8000000
set_option maxRecDepth 100000
set_option linter.unusedSimpArgs false

/-! ### spec_seMany: function 30 -/
def spec_seMany.f (k : Nat) (a0 : Int) : Option (Int) := (spec_orList.f k a0).bind fun t507 => (some (t507.length : Int))
theorem spec_seMany.mono : ∀ a0 k, LeO (spec_seMany.f k a0) (spec_seMany.f (k + 1) a0) := by
 intro a0 k
 unfold spec_seMany.f
 repeat' (with_reducible first|exact spec_orList.mono _ _|exact LeO.refl _|exact LeO.none _|refine LeO.ite ?_ ?_|refine LeO.bind ?_ (fun _ => ?_))
theorem spec_seMany.calls (k : Nat) (a0 : Int) (r : Int) (w : World) (h : spec_seMany.f k a0 = some r) :
  Calls Tryd.prog 30 #[.int .i64 a0] w fun e w' => e = .returned (.int .i64 r) ∧ Below w.heap.size w w' := by
 have HB := Aside0.mk (Below.refl w.heap.size w)
 have H : ((spec_orList.f k a0).bind fun t507 => (some (t507.length : Int))) = some r := h
 clear h
 obtain ⟨t507, A2, H⟩ := obE H
 obtain rfl := Option.some.inj H
 go_enter Tryd.func30, Tryd.ntmps30
 go_wp2_with (first | ((with_reducible refine gate_callee (f := 38) rfl ?_); refine goesQ (some 4) Tryd.func38 #[.int .i64 a0] ?_; (with_reducible refine (spec_orList.calls k a0 t507 _ A2.out).mono ?_); rintro e w3 ⟨v508, rfl, ho0, hb⟩; refine ⟨_, rfl, ?_⟩; have HO509 := Aside0.mk (Kd.R_lower ho0 (below_size (bel_g HB.out))); replace HB := bst HB hb; (try clear hb); (try clear ho0); obtain ⟨Ao4, co4, eo4⟩ := Kd.R_slice HO509.out; subst eo4))
 go_ret
 exact ⟨eqE, bel_g HB.out⟩

end Go.Proofs.YtjahodklmegglaaDoor.Q
