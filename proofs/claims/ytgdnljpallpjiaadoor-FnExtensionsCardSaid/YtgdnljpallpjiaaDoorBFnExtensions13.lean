import Derived.Test.YtgdnljpallpjiaaDoorBFnExtensions10
import Derived.Test.YtgdnljpallpjiaaDoorBFnExtensions11
import Derived.Test.YtgdnljpallpjiaaDoorBFnExtensions12
namespace Go.Proofs.YtgdnljpallpjiaaDoor.Q
open Go.RowKit Go.Proofs.YtgdnljpallpjiaaDoorW.PrintWords Go.Proofs.YtgdnljpallpjiaaDoorW.PrintLast Go.Proofs.YtgdnljpallpjiaaDoorW.PrintMore
attribute [local go_sem] max2_int min2_int max_two min_two max_three min_three max_four min_four neB_f
set_option linter.unusedVariables false
set_option maxHeartbeats 8000000
set_option maxRecDepth 100000
set_option linter.unusedSimpArgs false
def spec_BesideOrders.f (k : Nat) (a0_0 : Int) (l0_1 : List Int) (a1_0 : Int) (l1_1 : List Int) : Option (Int × List Int × Bool) := (spec_orGood.f k a0_0 l0_1).bind fun t332 => (if t332 = true then ((spec_orGood.f k a1_0 l1_1).bind fun t333 => (if t333 = true then (if (wrap64 (a0_0 + a1_0)) > 10 then (some (0, ([] : List Int), false)) else ((spec_orTogether.f k a0_0 l0_1 a1_0 l1_1 0).bind fun bt334 => (some (bt334.1, bt334.2, true)))) else (some (0, ([] : List Int), false)))) else (some (0, ([] : List Int), false)))
theorem spec_BesideOrders.mono : ∀ a0 a1 a2 a3 k, LeO (spec_BesideOrders.f k a0 a1 a2 a3) (spec_BesideOrders.f (k + 1) a0 a1 a2 a3) := by
 intro a0 a1 a2 a3 k
 unfold spec_BesideOrders.f
 repeat' (with_reducible first|exact spec_orGood.mono _ _ _|exact spec_orTogether.mono _ _ _ _ _ _|exact LeO.refl _|exact LeO.none _|refine LeO.ite ?_ ?_|refine LeO.bind ?_ (fun _ => ?_))
theorem spec_BesideOrders.calls (k : Nat) (a0_0 : Int) (A0_1 : Option Addr) (c0_1 : Nat) (l0_1 : List Int) (a1_0 : Int) (A1_1 : Option Addr) (c1_1 : Nat) (l1_1 : List Int) (r1 : Int) (r2 : List Int) (r3 : Bool) (w : World) (hr0_1 : Kd.C (Kd.int .i64) w A0_1 l0_1.length l0_1) (hc0_1 : l0_1.length ≤ c0_1) (hr1_1 : Kd.C (Kd.int .i64) w A1_1 l1_1.length l1_1) (hc1_1 : l1_1.length ≤ c1_1) (h : spec_BesideOrders.f k a0_0 l0_1 a1_0 l1_1 = some (r1, r2, r3)) :
  Calls Tryd.prog 7 #[.agg #[.int .i64 a0_0, .slice A0_1 l0_1.length c0_1], .agg #[.int .i64 a1_0, .slice A1_1 l1_1.length c1_1]] w fun e w' => ∃ v1_ : Value, e = .returned (.tuple #[.agg #[.int .i64 r1, v1_], .bool r3]) ∧ Kd.R (Kd.int .i64) 3 w' w.heap.size (fun _ => True) v1_ r2 ∧ Below w.heap.size w w' := by
 have hu26 := Tryd.underlying26
 have HR0_1 := mkA hr0_1
 have HC0_1 := mkA hc0_1
 clear hr0_1 hc0_1
 have HR1_1 := mkA hr1_1
 have HC1_1 := mkA hc1_1
 clear hr1_1 hc1_1
 have HB := mkA (Below.refl w.heap.size w)
 have H := h
 clear h
 unfold spec_BesideOrders.f at H
 obtain ⟨t332, A3, H⟩ := obE H
 by_cases c4 : t332 = true
 ·subst c4
  replace H := ifT H
  obtain ⟨t333, A5, H⟩ := obE H
  by_cases c6 : t333 = true
  ·subst c6
   replace H := ifT H
   rcases iteP H with ⟨c7, H⟩ | ⟨c7, H⟩
   ·have c7b0 : decide (10 < (wrap64 (a0_0 + a1_0))) = true := decide_eq_true c7
    clear c7
    simp only [Option.some.injEq, Prod.mk.injEq] at H
    obtain ⟨rfl, rfl, rfl⟩ := H
    go_enter Tryd.func7, Tryd.ntmps7
    go_wp2_with (first | ((with_reducible refine gate_dst (N := 2) rfl ?_); refine boxE (N := 2) (cs := #[.int .i64 a0_0, .slice A0_1 l0_1.length c0_1]) (t := 26) ?_; intro gb329 hg w8 hbox hb; have BK329 := mkA (hbox); have GE329 := geB HB hg; replace HB := bst HB hb; clear hb hbox hg) | ((with_reducible refine gate_dst (N := 3) rfl ?_); refine boxE (N := 3) (cs := #[.int .i64 a1_0, .slice A1_1 l1_1.length c1_1]) (t := 26) ?_; intro gb330 hg w9 hbox hb; have BK330 := mkA (hbox); have GE330 := geB HB hg; have NB329_330 := neL7 BK329 hg; have NB330_329 := neR7 BK329 hg; replace BK329 := blkB BK329 hb; replace HB := bst HB hb; clear hb hbox hg) | ((with_reducible refine gate_dst (N := 4) rfl ?_); refine boxE (N := 4) (cs := #[.int .i64 0, .slice none 0 0]) (t := 26) ?_; intro gb331 hg w10 hbox hb; have BK331 := mkA (hbox); have GE331 := geB HB hg; have NB329_331 := neL7 BK329 hg; have NB331_329 := neR7 BK329 hg; replace BK329 := blkB BK329 hb; have NB330_331 := neL7 BK330 hg; have NB331_330 := neR7 BK330 hg; replace BK330 := blkB BK330 hb; replace HB := bst HB hb; clear hb hbox hg; obtain ⟨hcz13_0, hcz13_1, hfz13_0, hfz13_1⟩ := blk2 BK329) | ((with_reducible refine gate_callee (f := 17) rfl ?_); refine goesQ (some 7) Tryd.func17 #[.agg #[.int .i64 a0_0, .slice A0_1 l0_1.length c0_1]] ?_; (with_reducible refine (spec_orGood.calls k a0_0 _ _ l0_1 true _ ?s1 ?s2 A3.out).mono ?_); (case s1 => exact C_g HR0_1 HB); (case s2 => exact HC0_1.out); rintro e w14 ⟨rfl, hb⟩; refine ⟨_, rfl, ?_⟩; replace BK329 := blkB BK329 hb; replace BK330 := blkB BK330 hb; replace BK331 := blkB BK331 hb; replace HB := bst HB hb; (try clear hb); (try clear hk); obtain ⟨hcz16_0, hcz16_1, hfz16_0, hfz16_1⟩ := blk2 BK330) | (go_at_call 17; (with_reducible refine (spec_orGood.calls k a1_0 _ _ l1_1 true _ ?s1 ?s2 A5.out).mono ?_); (case s1 => exact C_g HR1_1 HB); (case s2 => exact HC1_1.out); rintro e w17 ⟨rfl, hb⟩; replace BK329 := blkB BK329 hb; replace BK330 := blkB BK330 hb; replace BK331 := blkB BK331 hb; replace HB := bst HB hb; (try clear hb); (try clear hk); obtain ⟨hcz18_0, hcz18_1, hfz18_0, hfz18_1⟩ := blk2 BK329; obtain ⟨hcz19_0, hcz19_1, hfz19_0, hfz19_1⟩ := blk2 BK330; obtain ⟨hcz20_0, hcz20_1, hfz20_0, hfz20_1⟩ := blk2 BK331))
    refine bodyPost_ret (results_ct rfl _ _ gb331 26 #[.int .i64 0, .slice none 0 0] (0, 0) _ rfl (blkT BK331) Tryd.underlying26 rfl (by kernel_rfl)) rfl ?_
    exact ⟨_, eqE, by first | exact Kd.R_nil _ _ _ _ _ | exact Kd.N_nil _ _ _ _ _ | exact Kd.V_nil _ _ _ _ _ | exact Kd.Q_nil _ _ _ _ _ | exact Kd.S_nil _ _ _ _ _, bel_g HB.out⟩
   ·have c7b0 : decide (10 < (wrap64 (a0_0 + a1_0))) = false := decide_eq_false c7
    clear c7
    obtain ⟨⟨t334, t335⟩, A21, H⟩ := obE H
    dsimp only at H
    simp only [Option.some.injEq, Prod.mk.injEq] at H
    obtain ⟨rfl, rfl, rfl⟩ := H
    go_enter Tryd.func7, Tryd.ntmps7
    go_wp2_with (first | ((with_reducible refine gate_dst (N := 2) rfl ?_); refine boxE (N := 2) (cs := #[.int .i64 a0_0, .slice A0_1 l0_1.length c0_1]) (t := 26) ?_; intro gb329 hg w22 hbox hb; have BK329 := mkA (hbox); have GE329 := geB HB hg; replace HB := bst HB hb; clear hb hbox hg) | ((with_reducible refine gate_dst (N := 3) rfl ?_); refine boxE (N := 3) (cs := #[.int .i64 a1_0, .slice A1_1 l1_1.length c1_1]) (t := 26) ?_; intro gb330 hg w23 hbox hb; have BK330 := mkA (hbox); have GE330 := geB HB hg; have NB329_330 := neL7 BK329 hg; have NB330_329 := neR7 BK329 hg; replace BK329 := blkB BK329 hb; replace HB := bst HB hb; clear hb hbox hg) | ((with_reducible refine gate_dst (N := 4) rfl ?_); refine boxE (N := 4) (cs := #[.int .i64 0, .slice none 0 0]) (t := 26) ?_; intro gb331 hg w24 hbox hb; have BK331 := mkA (hbox); have GE331 := geB HB hg; have NB329_331 := neL7 BK329 hg; have NB331_329 := neR7 BK329 hg; replace BK329 := blkB BK329 hb; have NB330_331 := neL7 BK330 hg; have NB331_330 := neR7 BK330 hg; replace BK330 := blkB BK330 hb; replace HB := bst HB hb; clear hb hbox hg; obtain ⟨hcz27_0, hcz27_1, hfz27_0, hfz27_1⟩ := blk2 BK329) | ((with_reducible refine gate_callee (f := 17) rfl ?_); refine goesQ (some 7) Tryd.func17 #[.agg #[.int .i64 a0_0, .slice A0_1 l0_1.length c0_1]] ?_; (with_reducible refine (spec_orGood.calls k a0_0 _ _ l0_1 true _ ?s1 ?s2 A3.out).mono ?_); (case s1 => exact C_g HR0_1 HB); (case s2 => exact HC0_1.out); rintro e w28 ⟨rfl, hb⟩; refine ⟨_, rfl, ?_⟩; replace BK329 := blkB BK329 hb; replace BK330 := blkB BK330 hb; replace BK331 := blkB BK331 hb; replace HB := bst HB hb; (try clear hb); (try clear hk); obtain ⟨hcz30_0, hcz30_1, hfz30_0, hfz30_1⟩ := blk2 BK330) | (go_at_call 17; (with_reducible refine (spec_orGood.calls k a1_0 _ _ l1_1 true _ ?s1 ?s2 A5.out).mono ?_); (case s1 => exact C_g HR1_1 HB); (case s2 => exact HC1_1.out); rintro e w31 ⟨rfl, hb⟩; replace BK329 := blkB BK329 hb; replace BK330 := blkB BK330 hb; replace BK331 := blkB BK331 hb; replace HB := bst HB hb; (try clear hb); (try clear hk); obtain ⟨hcz32_0, hcz32_1, hfz32_0, hfz32_1⟩ := blk2 BK329; obtain ⟨hcz33_0, hcz33_1, hfz33_0, hfz33_1⟩ := blk2 BK330) | ((with_reducible refine gate_callee (f := 18) rfl ?_); refine goesQ (some 25) Tryd.func18 #[.agg #[.int .i64 a0_0, .slice A0_1 l0_1.length c0_1], .agg #[.int .i64 a1_0, .slice A1_1 l1_1.length c1_1], .int .i64 0] ?_; (with_reducible refine (spec_orTogether.calls k a0_0 _ _ l0_1 a1_0 _ _ l1_1 0 t334 t335 _ ?s1 ?s2 ?s3 ?s4 A21.out).mono ?_); (case s1 => exact C_g HR0_1 HB); (case s2 => exact HC0_1.out); (case s3 => exact C_g HR1_1 HB); (case s4 => exact HC1_1.out); rintro e w34 ⟨v336, rfl, ho0, hb⟩; refine ⟨_, rfl, ?_⟩; have HO337 := mkA (Kd.R_lower ho0 (below_size (bel_g HB.out))); replace BK329 := blkB BK329 hb; replace BK330 := blkB BK330 hb; replace BK331 := blkB BK331 hb; replace HB := bst HB hb; (try clear hb); (try clear hk); (try clear ho0); obtain ⟨hcz35_0, hcz35_1, hfz35_0, hfz35_1⟩ := blk2 BK331; obtain ⟨Ao36, co36, eo36⟩ := Kd.R_slice HO337.out; subst eo36))
    refine bodyPost_ret (results_ct rfl _ _ gb331 26 #[.int .i64 t334, .slice Ao36 t335.length co36] (0, 0) _ rfl (blkT BK331) Tryd.underlying26 rfl (by kernel_rfl)) rfl ?_
    exact ⟨_, eqE, by (with_reducible repeat (first | apply Kd.R_alloc | apply Kd.R_drewN | apply Kd.R_drew)); exact Kd.R_mono (Kd.R_far (p := ⟨gb331, 1, none⟩) (Kd.R_far (p := ⟨gb331, 0, none⟩) (Kd.R_types HO337.out BK331.out (by decide)) (fun _ hk => hk.2) (.int .i64 t334)) (fun _ hk => hk.2) (.slice Ao36 t335.length co36)) (fun _ hk => trivial), bel_g HB.out⟩
  ·replace c6 := Bool.eq_false_iff.mpr c6
   subst c6
   replace H := ifF H
   simp only [Option.some.injEq, Prod.mk.injEq] at H
   obtain ⟨rfl, rfl, rfl⟩ := H
   go_enter Tryd.func7, Tryd.ntmps7
   go_wp2_with (first | ((with_reducible refine gate_dst (N := 2) rfl ?_); refine boxE (N := 2) (cs := #[.int .i64 a0_0, .slice A0_1 l0_1.length c0_1]) (t := 26) ?_; intro gb329 hg w37 hbox hb; have BK329 := mkA (hbox); have GE329 := geB HB hg; replace HB := bst HB hb; clear hb hbox hg) | ((with_reducible refine gate_dst (N := 3) rfl ?_); refine boxE (N := 3) (cs := #[.int .i64 a1_0, .slice A1_1 l1_1.length c1_1]) (t := 26) ?_; intro gb330 hg w38 hbox hb; have BK330 := mkA (hbox); have GE330 := geB HB hg; have NB329_330 := neL7 BK329 hg; have NB330_329 := neR7 BK329 hg; replace BK329 := blkB BK329 hb; replace HB := bst HB hb; clear hb hbox hg) | ((with_reducible refine gate_dst (N := 4) rfl ?_); refine boxE (N := 4) (cs := #[.int .i64 0, .slice none 0 0]) (t := 26) ?_; intro gb331 hg w39 hbox hb; have BK331 := mkA (hbox); have GE331 := geB HB hg; have NB329_331 := neL7 BK329 hg; have NB331_329 := neR7 BK329 hg; replace BK329 := blkB BK329 hb; have NB330_331 := neL7 BK330 hg; have NB331_330 := neR7 BK330 hg; replace BK330 := blkB BK330 hb; replace HB := bst HB hb; clear hb hbox hg; obtain ⟨hcz42_0, hcz42_1, hfz42_0, hfz42_1⟩ := blk2 BK329) | ((with_reducible refine gate_callee (f := 17) rfl ?_); refine goesQ (some 7) Tryd.func17 #[.agg #[.int .i64 a0_0, .slice A0_1 l0_1.length c0_1]] ?_; (with_reducible refine (spec_orGood.calls k a0_0 _ _ l0_1 true _ ?s1 ?s2 A3.out).mono ?_); (case s1 => exact C_g HR0_1 HB); (case s2 => exact HC0_1.out); rintro e w43 ⟨rfl, hb⟩; refine ⟨_, rfl, ?_⟩; replace BK329 := blkB BK329 hb; replace BK330 := blkB BK330 hb; replace BK331 := blkB BK331 hb; replace HB := bst HB hb; (try clear hb); (try clear hk); obtain ⟨hcz45_0, hcz45_1, hfz45_0, hfz45_1⟩ := blk2 BK330) | (go_at_call 17; (with_reducible refine (spec_orGood.calls k a1_0 _ _ l1_1 false _ ?s1 ?s2 A5.out).mono ?_); (case s1 => exact C_g HR1_1 HB); (case s2 => exact HC1_1.out); rintro e w46 ⟨rfl, hb⟩; replace BK329 := blkB BK329 hb; replace BK330 := blkB BK330 hb; replace BK331 := blkB BK331 hb; replace HB := bst HB hb; (try clear hb); (try clear hk); obtain ⟨hcz47_0, hcz47_1, hfz47_0, hfz47_1⟩ := blk2 BK331))
   refine bodyPost_ret (results_ct rfl _ _ gb331 26 #[.int .i64 0, .slice none 0 0] (0, 0) _ rfl (blkT BK331) Tryd.underlying26 rfl (by kernel_rfl)) rfl ?_
   exact ⟨_, eqE, by first | exact Kd.R_nil _ _ _ _ _ | exact Kd.N_nil _ _ _ _ _ | exact Kd.V_nil _ _ _ _ _ | exact Kd.Q_nil _ _ _ _ _ | exact Kd.S_nil _ _ _ _ _, bel_g HB.out⟩
 ·replace c4 := Bool.eq_false_iff.mpr c4
  subst c4
  replace H := ifF H
  simp only [Option.some.injEq, Prod.mk.injEq] at H
  obtain ⟨rfl, rfl, rfl⟩ := H
  go_enter Tryd.func7, Tryd.ntmps7
  go_wp2_with (first | ((with_reducible refine gate_dst (N := 2) rfl ?_); refine boxE (N := 2) (cs := #[.int .i64 a0_0, .slice A0_1 l0_1.length c0_1]) (t := 26) ?_; intro gb329 hg w48 hbox hb; have BK329 := mkA (hbox); have GE329 := geB HB hg; replace HB := bst HB hb; clear hb hbox hg) | ((with_reducible refine gate_dst (N := 3) rfl ?_); refine boxE (N := 3) (cs := #[.int .i64 a1_0, .slice A1_1 l1_1.length c1_1]) (t := 26) ?_; intro gb330 hg w49 hbox hb; have BK330 := mkA (hbox); have GE330 := geB HB hg; have NB329_330 := neL7 BK329 hg; have NB330_329 := neR7 BK329 hg; replace BK329 := blkB BK329 hb; replace HB := bst HB hb; clear hb hbox hg) | ((with_reducible refine gate_dst (N := 4) rfl ?_); refine boxE (N := 4) (cs := #[.int .i64 0, .slice none 0 0]) (t := 26) ?_; intro gb331 hg w50 hbox hb; have BK331 := mkA (hbox); have GE331 := geB HB hg; have NB329_331 := neL7 BK329 hg; have NB331_329 := neR7 BK329 hg; replace BK329 := blkB BK329 hb; have NB330_331 := neL7 BK330 hg; have NB331_330 := neR7 BK330 hg; replace BK330 := blkB BK330 hb; replace HB := bst HB hb; clear hb hbox hg; obtain ⟨hcz53_0, hcz53_1, hfz53_0, hfz53_1⟩ := blk2 BK329) | ((with_reducible refine gate_callee (f := 17) rfl ?_); refine goesQ (some 7) Tryd.func17 #[.agg #[.int .i64 a0_0, .slice A0_1 l0_1.length c0_1]] ?_; (with_reducible refine (spec_orGood.calls k a0_0 _ _ l0_1 false _ ?s1 ?s2 A3.out).mono ?_); (case s1 => exact C_g HR0_1 HB); (case s2 => exact HC0_1.out); rintro e w54 ⟨rfl, hb⟩; refine ⟨_, rfl, ?_⟩; replace BK329 := blkB BK329 hb; replace BK330 := blkB BK330 hb; replace BK331 := blkB BK331 hb; replace HB := bst HB hb; (try clear hb); (try clear hk); obtain ⟨hcz56_0, hcz56_1, hfz56_0, hfz56_1⟩ := blk2 BK331))
  refine bodyPost_ret (results_ct rfl _ _ gb331 26 #[.int .i64 0, .slice none 0 0] (0, 0) _ rfl (blkT BK331) Tryd.underlying26 rfl (by kernel_rfl)) rfl ?_
  exact ⟨_, eqE, by first | exact Kd.R_nil _ _ _ _ _ | exact Kd.N_nil _ _ _ _ _ | exact Kd.V_nil _ _ _ _ _ | exact Kd.Q_nil _ _ _ _ _ | exact Kd.S_nil _ _ _ _ _, bel_g HB.out⟩
def impl_StackOrders.f (k : Nat) (a0_0 : Int) (l0_1 : List Int) (a1_0 : Int) (l1_1 : List Int) : Option (Int × List Int × Bool) := (impl_together.f k a0_0 l0_1 a1_0 l1_1 true).bind fun bt341 => (some (bt341.1, bt341.2.1, bt341.2.2))
theorem impl_StackOrders.mono : ∀ a0 a1 a2 a3 k, LeO (impl_StackOrders.f k a0 a1 a2 a3) (impl_StackOrders.f (k + 1) a0 a1 a2 a3) := by
 intro a0 a1 a2 a3 k
 unfold impl_StackOrders.f
 repeat' (with_reducible first|exact impl_together.mono _ _ _ _ _ _|exact LeO.refl _|exact LeO.none _|refine LeO.ite ?_ ?_|refine LeO.bind ?_ (fun _ => ?_))
theorem impl_StackOrders.calls (k : Nat) (a0_0 : Int) (A0_1 : Option Addr) (c0_1 : Nat) (l0_1 : List Int) (a1_0 : Int) (A1_1 : Option Addr) (c1_1 : Nat) (l1_1 : List Int) (r1 : Int) (r2 : List Int) (r3 : Bool) (w : World) (hr0_1 : Kd.C (Kd.int .i64) w A0_1 l0_1.length l0_1) (hc0_1 : l0_1.length ≤ c0_1) (hr1_1 : Kd.C (Kd.int .i64) w A1_1 l1_1.length l1_1) (hc1_1 : l1_1.length ≤ c1_1) (hTAB : Tab w) (h : impl_StackOrders.f k a0_0 l0_1 a1_0 l1_1 = some (r1, r2, r3)) :
  Calls Tryd.prog 8 #[.agg #[.int .i64 a0_0, .slice A0_1 l0_1.length c0_1], .agg #[.int .i64 a1_0, .slice A1_1 l1_1.length c1_1]] w fun e w' => ∃ v1_ : Value, e = .returned (.tuple #[.agg #[.int .i64 r1, v1_], .bool r3]) ∧ Kd.R (Kd.int .i64) 3 w' w.heap.size (fun _ => True) v1_ r2 ∧ Below w.heap.size w w' := by
 have HTAB := mkA hTAB
 clear hTAB
 have hu26 := Tryd.underlying26
 have HR0_1 := mkA hr0_1
 have HC0_1 := mkA hc0_1
 clear hr0_1 hc0_1
 have HR1_1 := mkA hr1_1
 have HC1_1 := mkA hc1_1
 clear hr1_1 hc1_1
 have HB := mkA (Below.refl w.heap.size w)
 have H := h
 clear h
 unfold impl_StackOrders.f at H
 obtain ⟨⟨t341, t342, t345⟩, A3, H⟩ := obE H
 dsimp only at H
 simp only [Option.some.injEq, Prod.mk.injEq] at H
 obtain ⟨rfl, rfl, rfl⟩ := H
 go_enter Tryd.func8, Tryd.ntmps8
 go_wp2_with (first | ((with_reducible refine gate_dst (N := 2) rfl ?_); refine boxE (N := 2) (cs := #[.int .i64 a0_0, .slice A0_1 l0_1.length c0_1]) (t := 26) ?_; intro gb338 hg w4 hbox hb; have BK338 := mkA (hbox); have GE338 := geB HB hg; replace HB := bst HB hb; clear hb hbox hg) | ((with_reducible refine gate_dst (N := 3) rfl ?_); refine boxE (N := 3) (cs := #[.int .i64 a1_0, .slice A1_1 l1_1.length c1_1]) (t := 26) ?_; intro gb339 hg w5 hbox hb; have BK339 := mkA (hbox); have GE339 := geB HB hg; have NB338_339 := neL7 BK338 hg; have NB339_338 := neR7 BK338 hg; replace BK338 := blkB BK338 hb; replace HB := bst HB hb; clear hb hbox hg) | ((with_reducible refine gate_dst (N := 4) rfl ?_); refine boxE (N := 4) (cs := #[.int .i64 0, .slice none 0 0]) (t := 26) ?_; intro gb340 hg w6 hbox hb; have BK340 := mkA (hbox); have GE340 := geB HB hg; have NB338_340 := neL7 BK338 hg; have NB340_338 := neR7 BK338 hg; replace BK338 := blkB BK338 hb; have NB339_340 := neL7 BK339 hg; have NB340_339 := neR7 BK339 hg; replace BK339 := blkB BK339 hb; replace HB := bst HB hb; clear hb hbox hg; obtain ⟨hcz9_0, hcz9_1, hfz9_0, hfz9_1⟩ := blk2 BK338; obtain ⟨hcz11_0, hcz11_1, hfz11_0, hfz11_1⟩ := blk2 BK339) | ((with_reducible refine gate_callee (f := 16) rfl ?_); refine goesQ (some 8) Tryd.func16 #[.agg #[.int .i64 a0_0, .slice A0_1 l0_1.length c0_1], .agg #[.int .i64 a1_0, .slice A1_1 l1_1.length c1_1], .bool true] ?_; (with_reducible refine (impl_together.calls k a0_0 _ _ l0_1 a1_0 _ _ l1_1 true t341 t342 t345 _ ?s1 ?s2 ?s3 ?s4 ?s5 A3.out).mono ?_); (case s1 => exact C_g HR0_1 HB); (case s2 => exact HC0_1.out); (case s3 => exact C_g HR1_1 HB); (case s4 => exact HC1_1.out); (case s5 => exact Tab.below HTAB.out (bel_g HB.out)); rintro e w12 ⟨v343, rfl, ho0, hb⟩; refine ⟨_, rfl, ?_⟩; have HO344 := mkA (Kd.R_lower ho0 (below_size (bel_g HB.out))); replace BK338 := blkB BK338 hb; replace BK339 := blkB BK339 hb; replace BK340 := blkB BK340 hb; replace HB := bst HB hb; (try clear hb); (try clear hk); (try clear ho0); obtain ⟨hcz13_0, hcz13_1, hfz13_0, hfz13_1⟩ := blk2 BK340; obtain ⟨Ao14, co14, eo14⟩ := Kd.R_slice HO344.out; subst eo14))
 refine bodyPost_ret (results_ct rfl _ _ gb340 26 #[.int .i64 t341, .slice Ao14 t342.length co14] (0, 0) _ rfl (blkT BK340) Tryd.underlying26 rfl (by kernel_rfl)) rfl ?_
 exact ⟨_, eqE, by (with_reducible repeat (first | apply Kd.R_alloc | apply Kd.R_drewN | apply Kd.R_drew)); exact Kd.R_mono (Kd.R_far (p := ⟨gb340, 1, none⟩) (Kd.R_far (p := ⟨gb340, 0, none⟩) (Kd.R_types HO344.out BK340.out (by decide)) (fun _ hk => hk.2) (.int .i64 t341)) (fun _ hk => hk.2) (.slice Ao14 t342.length co14)) (fun _ hk => trivial), bel_g HB.out⟩
end Go.Proofs.YtgdnljpallpjiaaDoor.Q
