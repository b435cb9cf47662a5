import Derived.Test.YtlfjnllnddpgoaaDoorBFnStretchedIntervals2
namespace Go.Proofs.YtlfjnllnddpgoaaDoor.Q
open Go.RowKit Go.Proofs.YtlfjnllnddpgoaaDoorW.PrintWords Go.Proofs.YtlfjnllnddpgoaaDoorW.PrintLast Go.Proofs.YtlfjnllnddpgoaaDoorW.PrintMore
attribute [local go_sem] max2_int min2_int max_two min_two max_three min_three max_four min_four neB_f
set_option linter.unusedVariables false
set_option maxHeartbeats 8000000
set_option maxRecDepth 100000
set_option linter.unusedSimpArgs false
def spec_DrawStretchIntervals.f (k : Nat) (l0 : List Int) : Option ((List (S37)) × Int × Int) := (spec_l1Cur_pick.f l0 0 0 9).bind fun bt149 => ((spec_l1Cur_pick.f l0 bt149.2.1 bt149.2.2 5).bind fun bt152 => ((spec_l1Cur_pick.f l0 bt152.2.1 bt152.2.2 10).bind fun bt155 => (if bt155.1 = 0 then ((spec_l1Cur_among.f l0 bt155.2.1 bt155.2.2 (([(-1001), (-1000), 1000, 1001] : List Int))).bind fun bt161 => ((spec_l1Cur_intervals.f k l0 bt161.2.1 bt161.2.2 7).bind fun bt164 => (some (bt164.1, bt161.1, bt152.1)))) else (if bt155.1 = 1 then ((spec_l1Cur_among.f l0 bt155.2.1 bt155.2.2 (([(-1), 990, 1000, 1001] : List Int))).bind fun bt172 => ((spec_l1Cur_intervals.f k l0 bt172.2.1 bt172.2.2 7).bind fun bt175 => (some (bt175.1, wrap64 (bt149.1 - 1), bt172.1)))) else ((spec_l1Cur_intervals.f k l0 bt155.2.1 bt155.2.2 7).bind fun bt180 => (some (bt180.1, wrap64 (bt149.1 - 1), bt152.1)))))))
theorem spec_DrawStretchIntervals.mono : ∀ a0 k, LeO (spec_DrawStretchIntervals.f k a0) (spec_DrawStretchIntervals.f (k + 1) a0) := by
 intro a0 k
 unfold spec_DrawStretchIntervals.f
 repeat' (with_reducible first|apply spec_l1Cur_intervals.mono|apply LeO.refl|apply LeO.none|apply LeO.ite|apply LeO.bind|intro)
theorem spec_DrawStretchIntervals.calls (k : Nat) (A0 : Option Addr) (c0 : Nat) (l0 : List Int) (r1 : List (S37)) (r2 : Int) (r3 : Int) (w : World) (hr0 : Kd.C (Kd.int .u8) w A0 l0.length l0) (hc0 : l0.length ≤ c0) (h : spec_DrawStretchIntervals.f k l0 = some (r1, r2, r3)) :
  Calls Tryd.prog 5 #[.slice A0 l0.length c0] w fun e w' => ∃ v0_ : Value, e = .returned (.tuple #[v0_, .int .i64 r2, .int .i64 r3]) ∧ Kd.R k37 37 w' w.heap.size (fun _ => True) v0_ r1 ∧ Below w.heap.size w w' := by
 have hu49 := Tryd.underlying49
 have HR0 := mkA hr0
 have HC0 := mkA hc0
 clear hr0 hc0
 have HB := mkA (Below.refl w.heap.size w)
 have H := h
 clear h
 unfold spec_DrawStretchIntervals.f at H
 obtain ⟨⟨t149, t150, t151⟩, A2, H⟩ := obE H
 dsimp only at H
 obtain ⟨⟨t152, t153, t154⟩, A3, H⟩ := obE H
 dsimp only at H
 obtain ⟨⟨t155, t156, t157⟩, A4, H⟩ := obE H
 dsimp only at H
 rcases iteP H with ⟨c5, H⟩ | ⟨c5, H⟩
 ·have c5b0 := beq_iff_eq.mpr c5
  have c5b1 := bne_eq_false_iff_eq.mpr c5
  clear c5
  obtain ⟨y158, hy158⟩ : ∃ y_ : List Int, y_ = (([(-1001), (-1000), 1000, 1001] : List Int)) := ⟨_, rfl⟩
  rw [← hy158] at H
  have Ny158 := mkA hy158
  clear hy158
  obtain ⟨⟨t161, t162, t163⟩, A6, H⟩ := obE H
  dsimp only at H
  obtain ⟨⟨t164, t167, t168⟩, A7, H⟩ := obE H
  dsimp only at H
  simp only [Option.some.injEq, Prod.mk.injEq] at H
  obtain ⟨rfl, rfl, rfl⟩ := H
  go_enter Tryd.func5, Tryd.ntmps5
  go_wp2_with (first | ((with_reducible refine gate_dst (N := 10) rfl ?_); refine boxE (N := 10) (cs := #[.slice A0 l0.length c0, .int .i64 0, .int .u64 0]) (t := 49) ?_; intro gb148 hg w8 hbox hb; have HI148 := mkA ((⟨_, _, hbox, (by rw [hg]; exact (below_size (bel_g HB.out))), HR0.out⟩ : IsS49 w w8 gb148 l0 0 0)); have GE148 := geB HB hg; replace HB := bst HB hb; clear hb hbox hg) | ((with_reducible refine gate_callee (f := 18) rfl ?_); refine goesQ (some 12) Tryd.func18 #[.pointer (some ⟨gb148, 0, none⟩), .int .i64 9] ?_; (with_reducible refine (spec_l1Cur_pick.calls gb148 l0 0 0 9 t149 t150 t151 w _ ?_ ?_ A2.out).mono ?_); exact st49_0 HI148.out; exact bl49_0 HB.out HI148.out; rintro e w9 ⟨rfl, hi, hb, hk⟩; refine ⟨_, rfl, ?_⟩; replace HI148 := mkA (hi); replace HB := mkA (hb); clear hb hk hi) | ((with_reducible refine gate_callee (f := 18) rfl ?_); refine goesQ (some 15) Tryd.func18 #[.pointer (some ⟨gb148, 0, none⟩), .int .i64 5] ?_; (with_reducible refine (spec_l1Cur_pick.calls gb148 l0 t150 t151 5 t152 t153 t154 w _ ?_ ?_ A3.out).mono ?_); exact st49_0 HI148.out; exact bl49_0 HB.out HI148.out; rintro e w10 ⟨rfl, hi, hb, hk⟩; refine ⟨_, rfl, ?_⟩; replace HI148 := mkA (hi); replace HB := mkA (hb); clear hb hk hi) | ((with_reducible refine gate_callee (f := 18) rfl ?_); refine goesQ (some 17) Tryd.func18 #[.pointer (some ⟨gb148, 0, none⟩), .int .i64 10] ?_; (with_reducible refine (spec_l1Cur_pick.calls gb148 l0 t153 t154 10 t155 t156 t157 w _ ?_ ?_ A4.out).mono ?_); exact st49_0 HI148.out; exact bl49_0 HB.out HI148.out; rintro e w11 ⟨rfl, hi, hb, hk⟩; refine ⟨_, rfl, ?_⟩; replace HI148 := mkA (hi); replace HB := mkA (hb); clear hb hk hi) | ((with_reducible refine gate_dst (N := 21) rfl ?_); refine litE (Kd.int .i64) 3 ([(-1001), (-1000), 1000, 1001] : List Int) [.int .i64 (-1001), .int .i64 (-1000), .int .i64 1000, .int .i64 1001] ?hp ?_; (case hp => exact (Reps.one (show Kd.M (Kd.int .i64) _ _ _ (-1001) [.int .i64 (-1001)] from rfl) (Reps.one (show Kd.M (Kd.int .i64) _ _ _ (-1000) [.int .i64 (-1000)] from rfl) (Reps.one (show Kd.M (Kd.int .i64) _ _ _ 1000 [.int .i64 1000] from rfl) (Reps.one (show Kd.M (Kd.int .i64) _ _ _ 1001 [.int .i64 1001] from rfl) (Reps.none _ _)))))); intro v159 w12 ho13 hb hg_ hnew_; clear hg_ hnew_; (first | rw [← Ny158.out] at ho13 | (simp only [Int.reduceToNat] at ho13; rw [← Ny158.out] at ho13)); have HO160 := mkA (Kd.R_lower ho13 (below_size (by exact bl49_0 HB.out HI148.out))); replace HB := mkA (below_step (by exact bl49_0 HB.out HI148.out) hb); replace HI148 := mkA (IsS49.below (by exact st49_0 HI148.out) hb); clear hb ho13; obtain ⟨Ao14, co14, rfl⟩ := Kd.R_slice HO160.out) | ((with_reducible refine gate_callee (f := 19) rfl ?_); refine goesQ (some 22) Tryd.func19 #[.pointer (some ⟨gb148, 0, none⟩), .slice Ao14 y158.length co14] ?_; (with_reducible refine (spec_l1Cur_among.calls gb148 l0 t156 t157 _ _ y158 t161 t162 t163 w _ ?_ ?_ ?_ ?_ ?_ A6.out).mono ?_); exact st49_0 HI148.out; exact bl49_0 HB.out HI148.out; exact rC HO160; exact rL HO160; exact far_slice (IsS49.own_ne HI148.out HO160.out (by decide)); rintro e w15 ⟨rfl, hi, hb, hk⟩; refine ⟨_, rfl, ?_⟩; replace HO160 := rK (IsS49.apart (show IsS49 w _ gb148 l0 t156 t157 from by exact st49_0 HI148.out) (Kd.R_g HO160.out) (by decide)) hk; replace HI148 := mkA (hi); replace HB := mkA (hb); clear hb hk hi) | ((with_reducible refine gate_callee (f := 20) rfl ?_); refine goesQ (some 29) Tryd.func20 #[.pointer (some ⟨gb148, 0, none⟩), .int .i64 7] ?_; (with_reducible refine (spec_l1Cur_intervals.calls k gb148 l0 t162 t163 7 t164 t167 t168 w _ ?_ ?_ A7.out).mono ?_); exact st49_0 HI148.out; exact bl49_0 HB.out HI148.out; rintro e w16 ⟨v165, rfl, ho0, hi, hb, hk⟩; refine ⟨_, rfl, ?_⟩; replace HO160 := rK (IsS49.apart (show IsS49 w _ gb148 l0 t162 t163 from by exact st49_0 HI148.out) (Kd.R_g HO160.out) (by decide)) hk; have HO166 := mkA (Kd.R_lower ho0 (below_size (by exact bl49_0 HB.out HI148.out))); replace HI148 := mkA (hi); replace HB := mkA (hb); clear hb hk hi ho0))
  go_ret3
  exact ⟨_, eqE, Kd.R_g HO166.out, by exact bl49_0 HB.out HI148.out⟩
 ·have c5b0 := beq_eq_false_iff_ne.mpr c5
  have c5b1 := bne_iff_ne.mpr c5
  rcases iteP H with ⟨c17, H⟩ | ⟨c17, H⟩
  ·have c17b0 := beq_iff_eq.mpr c17
   have c17b1 := bne_eq_false_iff_eq.mpr c17
   clear c17
   obtain ⟨y169, hy169⟩ : ∃ y_ : List Int, y_ = (([(-1), 990, 1000, 1001] : List Int)) := ⟨_, rfl⟩
   rw [← hy169] at H
   have Ny169 := mkA hy169
   clear hy169
   obtain ⟨⟨t172, t173, t174⟩, A18, H⟩ := obE H
   dsimp only at H
   obtain ⟨⟨t175, t178, t179⟩, A19, H⟩ := obE H
   dsimp only at H
   simp only [Option.some.injEq, Prod.mk.injEq] at H
   obtain ⟨rfl, rfl, rfl⟩ := H
   go_enter Tryd.func5, Tryd.ntmps5
   go_wp2_with (first | ((with_reducible refine gate_dst (N := 10) rfl ?_); refine boxE (N := 10) (cs := #[.slice A0 l0.length c0, .int .i64 0, .int .u64 0]) (t := 49) ?_; intro gb148 hg w20 hbox hb; have HI148 := mkA ((⟨_, _, hbox, (by rw [hg]; exact (below_size (bel_g HB.out))), HR0.out⟩ : IsS49 w w20 gb148 l0 0 0)); have GE148 := geB HB hg; replace HB := bst HB hb; clear hb hbox hg) | ((with_reducible refine gate_callee (f := 18) rfl ?_); refine goesQ (some 12) Tryd.func18 #[.pointer (some ⟨gb148, 0, none⟩), .int .i64 9] ?_; (with_reducible refine (spec_l1Cur_pick.calls gb148 l0 0 0 9 t149 t150 t151 w _ ?_ ?_ A2.out).mono ?_); exact st49_0 HI148.out; exact bl49_0 HB.out HI148.out; rintro e w21 ⟨rfl, hi, hb, hk⟩; refine ⟨_, rfl, ?_⟩; replace HI148 := mkA (hi); replace HB := mkA (hb); clear hb hk hi) | ((with_reducible refine gate_callee (f := 18) rfl ?_); refine goesQ (some 15) Tryd.func18 #[.pointer (some ⟨gb148, 0, none⟩), .int .i64 5] ?_; (with_reducible refine (spec_l1Cur_pick.calls gb148 l0 t150 t151 5 t152 t153 t154 w _ ?_ ?_ A3.out).mono ?_); exact st49_0 HI148.out; exact bl49_0 HB.out HI148.out; rintro e w22 ⟨rfl, hi, hb, hk⟩; refine ⟨_, rfl, ?_⟩; replace HI148 := mkA (hi); replace HB := mkA (hb); clear hb hk hi) | ((with_reducible refine gate_callee (f := 18) rfl ?_); refine goesQ (some 17) Tryd.func18 #[.pointer (some ⟨gb148, 0, none⟩), .int .i64 10] ?_; (with_reducible refine (spec_l1Cur_pick.calls gb148 l0 t153 t154 10 t155 t156 t157 w _ ?_ ?_ A4.out).mono ?_); exact st49_0 HI148.out; exact bl49_0 HB.out HI148.out; rintro e w23 ⟨rfl, hi, hb, hk⟩; refine ⟨_, rfl, ?_⟩; replace HI148 := mkA (hi); replace HB := mkA (hb); clear hb hk hi) | ((with_reducible refine gate_dst (N := 26) rfl ?_); refine litE (Kd.int .i64) 3 ([(-1), 990, 1000, 1001] : List Int) [.int .i64 (-1), .int .i64 990, .int .i64 1000, .int .i64 1001] ?hp ?_; (case hp => exact (Reps.one (show Kd.M (Kd.int .i64) _ _ _ (-1) [.int .i64 (-1)] from rfl) (Reps.one (show Kd.M (Kd.int .i64) _ _ _ 990 [.int .i64 990] from rfl) (Reps.one (show Kd.M (Kd.int .i64) _ _ _ 1000 [.int .i64 1000] from rfl) (Reps.one (show Kd.M (Kd.int .i64) _ _ _ 1001 [.int .i64 1001] from rfl) (Reps.none _ _)))))); intro v170 w24 ho25 hb hg_ hnew_; clear hg_ hnew_; (first | rw [← Ny169.out] at ho25 | (simp only [Int.reduceToNat] at ho25; rw [← Ny169.out] at ho25)); have HO171 := mkA (Kd.R_lower ho25 (below_size (by exact bl49_0 HB.out HI148.out))); replace HB := mkA (below_step (by exact bl49_0 HB.out HI148.out) hb); replace HI148 := mkA (IsS49.below (by exact st49_0 HI148.out) hb); clear hb ho25; obtain ⟨Ao26, co26, rfl⟩ := Kd.R_slice HO171.out) | ((with_reducible refine gate_callee (f := 19) rfl ?_); refine goesQ (some 27) Tryd.func19 #[.pointer (some ⟨gb148, 0, none⟩), .slice Ao26 y169.length co26] ?_; (with_reducible refine (spec_l1Cur_among.calls gb148 l0 t156 t157 _ _ y169 t172 t173 t174 w _ ?_ ?_ ?_ ?_ ?_ A18.out).mono ?_); exact st49_0 HI148.out; exact bl49_0 HB.out HI148.out; exact rC HO171; exact rL HO171; exact far_slice (IsS49.own_ne HI148.out HO171.out (by decide)); rintro e w27 ⟨rfl, hi, hb, hk⟩; refine ⟨_, rfl, ?_⟩; replace HO171 := rK (IsS49.apart (show IsS49 w _ gb148 l0 t156 t157 from by exact st49_0 HI148.out) (Kd.R_g HO171.out) (by decide)) hk; replace HI148 := mkA (hi); replace HB := mkA (hb); clear hb hk hi) | ((with_reducible refine gate_callee (f := 20) rfl ?_); refine goesQ (some 29) Tryd.func20 #[.pointer (some ⟨gb148, 0, none⟩), .int .i64 7] ?_; (with_reducible refine (spec_l1Cur_intervals.calls k gb148 l0 t173 t174 7 t175 t178 t179 w _ ?_ ?_ A19.out).mono ?_); exact st49_0 HI148.out; exact bl49_0 HB.out HI148.out; rintro e w28 ⟨v176, rfl, ho0, hi, hb, hk⟩; refine ⟨_, rfl, ?_⟩; replace HO171 := rK (IsS49.apart (show IsS49 w _ gb148 l0 t173 t174 from by exact st49_0 HI148.out) (Kd.R_g HO171.out) (by decide)) hk; have HO177 := mkA (Kd.R_lower ho0 (below_size (by exact bl49_0 HB.out HI148.out))); replace HI148 := mkA (hi); replace HB := mkA (hb); clear hb hk hi ho0))
   go_ret3
   exact ⟨_, eqE, Kd.R_g HO177.out, by exact bl49_0 HB.out HI148.out⟩
  ·have c17b0 := beq_eq_false_iff_ne.mpr c17
   have c17b1 := bne_iff_ne.mpr c17
   obtain ⟨⟨t180, t183, t184⟩, A29, H⟩ := obE H
   dsimp only at H
   simp only [Option.some.injEq, Prod.mk.injEq] at H
   obtain ⟨rfl, rfl, rfl⟩ := H
   go_enter Tryd.func5, Tryd.ntmps5
   go_wp2_with (first | ((with_reducible refine gate_dst (N := 10) rfl ?_); refine boxE (N := 10) (cs := #[.slice A0 l0.length c0, .int .i64 0, .int .u64 0]) (t := 49) ?_; intro gb148 hg w30 hbox hb; have HI148 := mkA ((⟨_, _, hbox, (by rw [hg]; exact (below_size (bel_g HB.out))), HR0.out⟩ : IsS49 w w30 gb148 l0 0 0)); have GE148 := geB HB hg; replace HB := bst HB hb; clear hb hbox hg) | ((with_reducible refine gate_callee (f := 18) rfl ?_); refine goesQ (some 12) Tryd.func18 #[.pointer (some ⟨gb148, 0, none⟩), .int .i64 9] ?_; (with_reducible refine (spec_l1Cur_pick.calls gb148 l0 0 0 9 t149 t150 t151 w _ ?_ ?_ A2.out).mono ?_); exact st49_0 HI148.out; exact bl49_0 HB.out HI148.out; rintro e w31 ⟨rfl, hi, hb, hk⟩; refine ⟨_, rfl, ?_⟩; replace HI148 := mkA (hi); replace HB := mkA (hb); clear hb hk hi) | ((with_reducible refine gate_callee (f := 18) rfl ?_); refine goesQ (some 15) Tryd.func18 #[.pointer (some ⟨gb148, 0, none⟩), .int .i64 5] ?_; (with_reducible refine (spec_l1Cur_pick.calls gb148 l0 t150 t151 5 t152 t153 t154 w _ ?_ ?_ A3.out).mono ?_); exact st49_0 HI148.out; exact bl49_0 HB.out HI148.out; rintro e w32 ⟨rfl, hi, hb, hk⟩; refine ⟨_, rfl, ?_⟩; replace HI148 := mkA (hi); replace HB := mkA (hb); clear hb hk hi) | ((with_reducible refine gate_callee (f := 18) rfl ?_); refine goesQ (some 17) Tryd.func18 #[.pointer (some ⟨gb148, 0, none⟩), .int .i64 10] ?_; (with_reducible refine (spec_l1Cur_pick.calls gb148 l0 t153 t154 10 t155 t156 t157 w _ ?_ ?_ A4.out).mono ?_); exact st49_0 HI148.out; exact bl49_0 HB.out HI148.out; rintro e w33 ⟨rfl, hi, hb, hk⟩; refine ⟨_, rfl, ?_⟩; replace HI148 := mkA (hi); replace HB := mkA (hb); clear hb hk hi) | ((with_reducible refine gate_callee (f := 20) rfl ?_); refine goesQ (some 29) Tryd.func20 #[.pointer (some ⟨gb148, 0, none⟩), .int .i64 7] ?_; (with_reducible refine (spec_l1Cur_intervals.calls k gb148 l0 t156 t157 7 t180 t183 t184 w _ ?_ ?_ A29.out).mono ?_); exact st49_0 HI148.out; exact bl49_0 HB.out HI148.out; rintro e w34 ⟨v181, rfl, ho0, hi, hb, hk⟩; refine ⟨_, rfl, ?_⟩; have HO182 := mkA (Kd.R_lower ho0 (below_size (by exact bl49_0 HB.out HI148.out))); replace HI148 := mkA (hi); replace HB := mkA (hb); clear hb hk hi ho0))
   go_ret3
   exact ⟨_, eqE, Kd.R_g HO182.out, by exact bl49_0 HB.out HI148.out⟩
def impl_within.f (a0 : Int) (a1 : Int) (a2 : Int) : Option (Bool) := if a0 ≥ a1 then (some (decide (a0 ≤ a2))) else (some false)
theorem impl_within.calls (a0 : Int) (a1 : Int) (a2 : Int) (r : Bool) (w : World) (h : impl_within.f a0 a1 a2 = some r) :
  Calls Tryd.prog 22 #[.int .i64 a0, .int .i64 a1, .int .i64 a2] w fun e w' => e = .returned (.bool r) ∧ Drawn0 w w' := by
 have H := h
 clear h
 unfold impl_within.f at H
 rcases iteP H with ⟨c4, H⟩ | ⟨c4, H⟩
 ·have c4b0 := decide_eq_true c4
  clear c4
  obtain rfl := Option.some.inj H
  go_enter Tryd.func22, Tryd.ntmps22
  go_wp2
  go_ret
  exact ⟨eqS, drE⟩
 ·have c4b0 := decide_eq_false c4
  clear c4
  obtain rfl := Option.some.inj H
  go_enter Tryd.func22, Tryd.ntmps22
  go_wp2
  go_ret
  exact ⟨eqS, drE⟩
def impl_AreIntervals.l0 : Nat → List (S37) → List (S37) → Int → Int → Option (Bool)
 | 0, _, _, _, _ => none
 | k + 1, x0, x5, x6, x7 => if x7 < x6 then (if 0 ≤ x7 then (if x7 < (x5.length : Int) then ((impl_within.f ((rd_T37 x5 x7).f0) (-1000) 1000).bind fun t187 => (if t187 = true then ((impl_within.f ((rd_T37 x5 x7).f1) ((rd_T37 x5 x7).f0) 1000).bind fun t188 => (if t188 = true then (impl_AreIntervals.l0 k x0 x5 x6 (wrap64 (x7 + 1))) else (some false))) else (some false))) else (none)) else (none)) else (some (decide ((x0.length : Int) ≤ 10)))
def impl_AreIntervals.f (k : Nat) (l0 : List (S37)) : Option (Bool) := impl_AreIntervals.l0 k l0 l0 (l0.length : Int) 0
theorem impl_AreIntervals.mono_l : ∀ k, (∀ y0 y1 y2 y3, LeO (impl_AreIntervals.l0 k y0 y1 y2 y3) (impl_AreIntervals.l0 (k + 1) y0 y1 y2 y3))
 | 0 => fun _ _ _ _ r h => by simp [impl_AreIntervals.l0] at h
 | k + 1 => by
  have ih0 := impl_AreIntervals.mono_l k
  ·intro y0 y1 y2 y3
   unfold impl_AreIntervals.l0
   repeat' (with_reducible first|apply ih0|apply LeO.refl|apply LeO.none|apply LeO.ite|apply LeO.bind|intro)
theorem impl_AreIntervals.mono : ∀ a0 k, LeO (impl_AreIntervals.f k a0) (impl_AreIntervals.f (k + 1) a0) := by
 intro a0 k
 have ih0 := impl_AreIntervals.mono_l k
 unfold impl_AreIntervals.f
 repeat' (with_reducible first|apply ih0|apply LeO.refl|apply LeO.none|apply LeO.ite|apply LeO.bind|intro)
theorem impl_AreIntervals.calls (k : Nat) (A0 : Option Addr) (c0 : Nat) (l0 : List (S37)) (r : Bool) (w : World) (hr0 : Kd.C k37 w A0 l0.length l0) (hc0 : l0.length ≤ c0) (h : impl_AreIntervals.f k l0 = some r) :
  Calls Tryd.prog 21 #[.slice A0 l0.length c0] w fun e w' => e = .returned (.bool r) ∧ Below w.heap.size w w' := by
 have hu37 := Tryd.underlying37
 have HR0 := mkA hr0
 have HC0 := mkA hc0
 clear hr0 hc0
 have HB := mkA (Below.refl w.heap.size w)
 have H := h
 clear h
 unfold impl_AreIntervals.f at H
 have H' := mkA H
 clear H
 go_enter Tryd.func21, Tryd.ntmps21
 go_wp2
 go_loopg [7] k (fun kq v7 w' => ∃ (x7_1 : Int), v7 = .int .i64 x7_1 ∧ Fc (impl_AreIntervals.l0 kq l0 l0 (l0.length : Int) x7_1 = some r) ∧ Fc (kq ≤ k) ∧ Fc (Below w.heap.size w w'))
 case atStart => exact ⟨(0), eqS, H', ⟨Nat.le_refl _⟩, hbg HB⟩
 case round =>
  clear H'
  obtain ⟨x7_1, rfl, HA, HK1, HB⟩ := hrel
  cases gk with
  | zero => exact absurd HA.out (by simp [impl_AreIntervals.l0])
  | succ k1 =>
   have H := HA.out
   clear HA
   simp only [impl_AreIntervals.l0] at H
   rcases iteE H with ⟨c2b0, H⟩ | ⟨c2b0, H⟩
   ·obtain ⟨c3b0, H⟩ := itND H
    obtain ⟨c4b0, H⟩ := itND H
    obtain ⟨t187, A5, H⟩ := obE H
    by_cases c6 : t187 = true
    ·subst c6
     replace H := ifT H
     obtain ⟨t188, A7, H⟩ := obE H
     by_cases c8 : t188 = true
     ·subst c8
      replace H := ifT H
      have H' := mkA H
      clear H
      have p185 : 0 ≤ (x7_1 : Int) := ofd
      have q185 : x7_1 < (l0.length : Int) := ofd
      obtain ⟨ad185, e185, hx185_0, hx185_1⟩ := at_T37 HR0.out x7_1 p185 q185
      cases e185
      replace hx185_0 := (HB.out.cell (World.block_lt_of_cell? w _ hx185_0)).trans hx185_0
      replace hx185_1 := (HB.out.cell (World.block_lt_of_cell? w _ hx185_1)).trans hx185_1
      replace p185 := eq_true p185
      replace q185 := eq_true q185
      go_wp2_with (first | ((with_reducible refine gate_dst (N := 4) rfl ?_); refine boxG HB #[.int .i64 0, .int .i64 0] 37 ?_; intro gb186 hg w9 BK186 GE186 hb; replace HB := bst HB hb; clear hb hg; obtain ⟨_, _, _, _⟩ := blk2 BK186) | ((with_reducible refine gate_callee (f := 22) rfl ?_); refine goesQ (some 13) Tryd.func22 #[.int .i64 ((rd_T37 l0 x7_1).f0), .int .i64 (-1000), .int .i64 1000] ?_; (with_reducible refine (impl_within.calls ((rd_T37 l0 x7_1).f0) (-1000) 1000 true _ A5.out).mono ?_); rintro e w' ⟨rfl, ⟨nd, rfl⟩⟩; refine ⟨_, rfl, ?_⟩) | (go_at_call 22; (with_reducible refine (impl_within.calls ((rd_T37 l0 x7_1).f1) ((rd_T37 l0 x7_1).f0) 1000 true _ A7.out).mono ?_); rintro e w' ⟨rfl, ⟨nd, rfl⟩⟩))
      go_roundg k1
      case measure => have := HK1.out; omega
      case rel => exact ⟨(wrap64 (x7_1 + 1)), eqS, H', ⟨by have := HK1.out; omega⟩, hbg HB⟩
     ·replace c8 := Bool.eq_false_iff.mpr c8
      subst c8
      replace H := ifF H
      obtain rfl := Option.some.inj H
      have p185 : 0 ≤ (x7_1 : Int) := ofd
      have q185 : x7_1 < (l0.length : Int) := ofd
      obtain ⟨ad185, e185, hx185_0, hx185_1⟩ := at_T37 HR0.out x7_1 p185 q185
      cases e185
      replace hx185_0 := (HB.out.cell (World.block_lt_of_cell? w _ hx185_0)).trans hx185_0
      replace hx185_1 := (HB.out.cell (World.block_lt_of_cell? w _ hx185_1)).trans hx185_1
      replace p185 := eq_true p185
      replace q185 := eq_true q185
      go_wp2_with (first | ((with_reducible refine gate_dst (N := 4) rfl ?_); refine boxG HB #[.int .i64 0, .int .i64 0] 37 ?_; intro gb186 hg w11 BK186 GE186 hb; replace HB := bst HB hb; clear hb hg; obtain ⟨_, _, _, _⟩ := blk2 BK186) | ((with_reducible refine gate_callee (f := 22) rfl ?_); refine goesQ (some 13) Tryd.func22 #[.int .i64 ((rd_T37 l0 x7_1).f0), .int .i64 (-1000), .int .i64 1000] ?_; (with_reducible refine (impl_within.calls ((rd_T37 l0 x7_1).f0) (-1000) 1000 true _ A5.out).mono ?_); rintro e w' ⟨rfl, ⟨nd, rfl⟩⟩; refine ⟨_, rfl, ?_⟩) | (go_at_call 22; (with_reducible refine (impl_within.calls ((rd_T37 l0 x7_1).f1) ((rd_T37 l0 x7_1).f0) 1000 false _ A7.out).mono ?_); rintro e w' ⟨rfl, ⟨nd, rfl⟩⟩))
      go_ret
      exact ⟨eqE, bel_g HB.out⟩
    ·replace c6 := Bool.eq_false_iff.mpr c6
     subst c6
     replace H := ifF H
     obtain rfl := Option.some.inj H
     have p185 : 0 ≤ (x7_1 : Int) := ofd
     have q185 : x7_1 < (l0.length : Int) := ofd
     obtain ⟨ad185, e185, hx185_0, hx185_1⟩ := at_T37 HR0.out x7_1 p185 q185
     cases e185
     replace hx185_0 := (HB.out.cell (World.block_lt_of_cell? w _ hx185_0)).trans hx185_0
     replace hx185_1 := (HB.out.cell (World.block_lt_of_cell? w _ hx185_1)).trans hx185_1
     replace p185 := eq_true p185
     replace q185 := eq_true q185
     go_wp2_with (first | ((with_reducible refine gate_dst (N := 4) rfl ?_); refine boxG HB #[.int .i64 0, .int .i64 0] 37 ?_; intro gb186 hg w13 BK186 GE186 hb; replace HB := bst HB hb; clear hb hg; obtain ⟨_, _, _, _⟩ := blk2 BK186) | ((with_reducible refine gate_callee (f := 22) rfl ?_); refine goesQ (some 13) Tryd.func22 #[.int .i64 ((rd_T37 l0 x7_1).f0), .int .i64 (-1000), .int .i64 1000] ?_; (with_reducible refine (impl_within.calls ((rd_T37 l0 x7_1).f0) (-1000) 1000 false _ A5.out).mono ?_); rintro e w' ⟨rfl, ⟨nd, rfl⟩⟩; refine ⟨_, rfl, ?_⟩))
     go_ret
     exact ⟨eqE, bel_g HB.out⟩
   ·obtain rfl := Option.some.inj H
    go_wp2
    go_ret
    exact ⟨eqE, bel_g HB.out⟩
def impl_StretchIntervals_1.f (a0 : Int) (a1_0 : Int) (a2_0 : Int) : Option (Int) := if a0 > a1_0 then (some (wrap64 (a0 + a2_0))) else (some a0)
theorem impl_StretchIntervals_1.calls (a0 : Int) (gB1 : Nat) (a1_0 : Int) (gB2 : Nat) (a2_0 : Int) (r : Int) (w : World) (hb1 : w.heap[gB1]? = some (.cells #[.int .i64 a1_0] 3 (0, 0))) (hb2 : w.heap[gB2]? = some (.cells #[.int .i64 a2_0] 3 (0, 0))) (h : impl_StretchIntervals_1.f a0 a1_0 a2_0 = some r) :
  Calls Tryd.prog 23 #[.int .i64 a0, .pointer (some ⟨gB1, 0, none⟩), .pointer (some ⟨gB2, 0, none⟩)] w fun e w' => e = .returned (.int .i64 r) ∧ Drawn0 w w' := by
 have BK189 := mkA hb1
 clear hb1
 have BK190 := mkA hb2
 clear hb2
 have H := h
 clear h
 unfold impl_StretchIntervals_1.f at H
 rcases iteP H with ⟨c4, H⟩ | ⟨c4, H⟩
 ·have c4b0 := decide_eq_true c4
  clear c4
  obtain rfl := Option.some.inj H
  obtain ⟨_, _⟩ := blk1 BK189
  obtain ⟨_, _⟩ := blk1 BK190
  go_enter Tryd.func23, Tryd.ntmps23
  go_wp2
  go_ret
  exact ⟨eqS, drE⟩
 ·have c4b0 := decide_eq_false c4
  clear c4
  obtain rfl := Option.some.inj H
  obtain ⟨_, _⟩ := blk1 BK189
  go_enter Tryd.func23, Tryd.ntmps23
  go_wp2
  go_ret
  exact ⟨eqS, drE⟩
end Go.Proofs.YtlfjnllnddpgoaaDoor.Q
