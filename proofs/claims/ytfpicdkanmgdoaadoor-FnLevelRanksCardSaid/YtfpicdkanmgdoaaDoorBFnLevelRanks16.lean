import Derived.Test.YtfpicdkanmgdoaaDoorBFnLevelRanks6
import Derived.Test.YtfpicdkanmgdoaaDoorBFnLevelRanks10
namespace Go.Proofs.YtfpicdkanmgdoaaDoor.Q
open Go.RowKit Go.Proofs.YtfpicdkanmgdoaaDoorW.PrintWords Go.Proofs.YtfpicdkanmgdoaaDoorW.PrintLast Go.Proofs.YtfpicdkanmgdoaaDoorW.PrintMore
attribute [local go_sem] max2_int min2_int max_two min_two max_three min_three max_four min_four neB_f
set_option linter.unusedVariables false
set_option maxHeartbeats 8000000
set_option maxRecDepth 100000
set_option linter.unusedSimpArgs false
def spec_DrawCountWeak.f (l0 : List Int) : Option (Int) := (spec_l1Cur_among.f l0 0 0 (([0, 1, 2, 3, 5, 10, 11, (-1)] : List Int))).bind fun bt547 => (some bt547.1)
theorem spec_DrawCountWeak.calls (A0 : Option Addr) (c0 : Nat) (l0 : List Int) (r : Int) (w : World) (hr0 : Kd.C (Kd.int .u8) w A0 l0.length l0) (hc0 : l0.length ≤ c0) (h : spec_DrawCountWeak.f l0 = some r) :
  Calls Tryd.prog 17 #[.slice A0 l0.length c0] w fun e w' => e = .returned (.int .i64 r) ∧ Below w.heap.size w w' := by
 have hu43 := Tryd.underlying43
 have HR0 := mkA hr0
 have HC0 := mkA hc0
 clear hr0 hc0
 have HB := mkA (Below.refl w.heap.size w)
 have H := h
 clear h
 unfold spec_DrawCountWeak.f at H
 obtain ⟨y544, hy544⟩ : ∃ y_ : List Int, y_ = (([0, 1, 2, 3, 5, 10, 11, (-1)] : List Int)) := ⟨_, rfl⟩
 rw [← hy544] at H
 have Ny544 := mkA hy544
 clear hy544
 obtain ⟨⟨t547, t548, t549⟩, A2, H⟩ := obE H
 dsimp only at H
 obtain rfl := Option.some.inj H
 go_enter Tryd.func17, Tryd.ntmps17
 go_wp2_with (first | ((with_reducible refine gate_dst (N := 6) rfl ?_); refine boxE (N := 6) (cs := #[.slice A0 l0.length c0, .int .i64 0, .int .u64 0]) (t := 43) ?_; intro gb543 hg w3 hbox hb; have HI543 := mkA ((⟨_, _, hbox, (by rw [hg]; exact (below_size (bel_g HB.out))), HR0.out⟩ : IsS43 w w3 gb543 l0 0 0)); have GE543 := geB HB hg; replace HB := bst HB hb; clear hb hbox hg) | ((with_reducible refine gate_dst (N := 8) rfl ?_); refine litE (Kd.int .i64) 3 ([0, 1, 2, 3, 5, 10, 11, (-1)] : List Int) [.int .i64 0, .int .i64 1, .int .i64 2, .int .i64 3, .int .i64 5, .int .i64 10, .int .i64 11, .int .i64 (-1)] ?hp ?_; (case hp => exact (Reps.one (show Kd.M (Kd.int .i64) _ _ _ 0 [.int .i64 0] from rfl) (Reps.one (show Kd.M (Kd.int .i64) _ _ _ 1 [.int .i64 1] from rfl) (Reps.one (show Kd.M (Kd.int .i64) _ _ _ 2 [.int .i64 2] from rfl) (Reps.one (show Kd.M (Kd.int .i64) _ _ _ 3 [.int .i64 3] from rfl) (Reps.one (show Kd.M (Kd.int .i64) _ _ _ 5 [.int .i64 5] from rfl) (Reps.one (show Kd.M (Kd.int .i64) _ _ _ 10 [.int .i64 10] from rfl) (Reps.one (show Kd.M (Kd.int .i64) _ _ _ 11 [.int .i64 11] from rfl) (Reps.one (show Kd.M (Kd.int .i64) _ _ _ (-1) [.int .i64 (-1)] from rfl) (Reps.none _ _)))))))))); intro v545 w4 ho5 hb hg_ hnew_; clear hg_ hnew_; (first | rw [← Ny544.out] at ho5 | (simp only [Int.reduceToNat] at ho5; rw [← Ny544.out] at ho5)); have HO546 := mkA (Kd.R_lower ho5 (below_size (by exact bl43_0 HB.out HI543.out))); replace HB := mkA (below_step (by exact bl43_0 HB.out HI543.out) hb); replace HI543 := mkA (IsS43.below (by exact st43_0 HI543.out) hb); clear hb ho5; obtain ⟨Ao6, co6, rfl⟩ := Kd.R_slice HO546.out) | ((with_reducible refine gate_callee (f := 21) rfl ?_); refine goesQ (some 9) Tryd.func21 #[.pointer (some ⟨gb543, 0, none⟩), .slice Ao6 y544.length co6] ?_; (with_reducible refine (spec_l1Cur_among.calls gb543 l0 0 0 _ _ y544 t547 t548 t549 w _ ?_ ?_ ?_ ?_ ?_ A2.out).mono ?_); exact st43_0 HI543.out; exact bl43_0 HB.out HI543.out; exact rC HO546; exact rL HO546; exact far_slice (IsS43.own_ne HI543.out HO546.out (by decide)); rintro e w7 ⟨rfl, hi, hb, hk⟩; refine ⟨_, rfl, ?_⟩; replace HO546 := rK (IsS43.apart (show IsS43 w _ gb543 l0 0 0 from by exact st43_0 HI543.out) (Kd.R_g HO546.out) (by decide)) hk; replace HI543 := mkA (hi); replace HB := mkA (hb); clear hb hk hi))
 go_ret
 exact ⟨eqE, by exact bl43_0 HB.out HI543.out⟩
def spec_CountWeak.f (k : Nat) (a0 : Int) : Option (Int × Bool) := (spec_l1In.f a0 0 10).bind fun t550 => (if t550 = true then ((spec_weCount.f k a0).bind fun t551 => (some (t551, true))) else (some (0, false)))
theorem spec_CountWeak.mono : ∀ a0 k, LeO (spec_CountWeak.f k a0) (spec_CountWeak.f (k + 1) a0) := by
 intro a0 k
 unfold spec_CountWeak.f
 repeat' (with_reducible first|apply spec_weCount.mono|apply LeO.refl|apply LeO.none|apply LeO.ite|apply LeO.bind|intro)
theorem spec_CountWeak.calls (k : Nat) (a0 : Int) (r1 : Int) (r2 : Bool) (w : World) (h : spec_CountWeak.f k a0 = some (r1, r2)) :
  Calls Tryd.prog 18 #[.int .i64 a0] w fun e w' => e = .returned (.tuple #[.int .i64 r1, .bool r2]) ∧ Drawn0 w w' := by
 have H := h
 clear h
 unfold spec_CountWeak.f at H
 obtain ⟨t550, A2, H⟩ := obE H
 by_cases c3 : t550 = true
 ·subst c3
  replace H := ifT H
  obtain ⟨t551, A4, H⟩ := obE H
  simp only [Option.some.injEq, Prod.mk.injEq] at H
  obtain ⟨rfl, rfl⟩ := H
  go_enter Tryd.func18, Tryd.ntmps18
  go_wp2_with (first | ((with_reducible refine gate_callee (f := 27) rfl ?_); refine goesQ (some 5) Tryd.func27 #[.int .i64 a0, .int .i64 0, .int .i64 10] ?_; (with_reducible refine (spec_l1In.calls a0 0 10 true _ A2.out).mono ?_); rintro e w' ⟨rfl, ⟨nd, rfl⟩⟩; refine ⟨_, rfl, ?_⟩) | ((with_reducible refine gate_callee (f := 22) rfl ?_); refine goesQ (some 8) Tryd.func22 #[.int .i64 a0] ?_; (with_reducible refine (spec_weCount.calls k a0 t551 _ A4.out).mono ?_); rintro e w' ⟨rfl, ⟨nd, rfl⟩⟩; refine ⟨_, rfl, ?_⟩))
  go_ret2
  exact ⟨eqS, drE⟩
 ·replace c3 := Bool.eq_false_iff.mpr c3
  subst c3
  replace H := ifF H
  simp only [Option.some.injEq, Prod.mk.injEq] at H
  obtain ⟨rfl, rfl⟩ := H
  go_enter Tryd.func18, Tryd.ntmps18
  go_wp2_with (first | ((with_reducible refine gate_callee (f := 27) rfl ?_); refine goesQ (some 5) Tryd.func27 #[.int .i64 a0, .int .i64 0, .int .i64 10] ?_; (with_reducible refine (spec_l1In.calls a0 0 10 false _ A2.out).mono ?_); rintro e w' ⟨rfl, ⟨nd, rfl⟩⟩; refine ⟨_, rfl, ?_⟩))
  go_ret2
  exact ⟨eqS, drE⟩
def spec_DrawRankLevels.f (k : Nat) (l0 : List Int) : Option (List Int) := (spec_l1Cur_among.f l0 0 0 (([0, 1, 2, 3, 4, 4, 5, 6, 7] : List Int))).bind fun bt556 => ((spec_l1Cur_levels.f k l0 bt556.2.1 bt556.2.2 bt556.1).bind fun bt559 => (some bt559.1))
theorem spec_DrawRankLevels.mono : ∀ a0 k, LeO (spec_DrawRankLevels.f k a0) (spec_DrawRankLevels.f (k + 1) a0) := by
 intro a0 k
 unfold spec_DrawRankLevels.f
 repeat' (with_reducible first|apply spec_l1Cur_levels.mono|apply LeO.refl|apply LeO.none|apply LeO.ite|apply LeO.bind|intro)
theorem spec_DrawRankLevels.calls (k : Nat) (A0 : Option Addr) (c0 : Nat) (l0 : List Int) (r : List Int) (w : World) (hr0 : Kd.C (Kd.int .u8) w A0 l0.length l0) (hc0 : l0.length ≤ c0) (h : spec_DrawRankLevels.f k l0 = some r) :
  Calls Tryd.prog 19 #[.slice A0 l0.length c0] w fun e w' => ∃ v0_ : Value, e = .returned (v0_) ∧ Kd.R (Kd.int .i64) 3 w' w.heap.size (fun _ => True) v0_ r ∧ Below w.heap.size w w' := by
 have hu43 := Tryd.underlying43
 have HR0 := mkA hr0
 have HC0 := mkA hc0
 clear hr0 hc0
 have HB := mkA (Below.refl w.heap.size w)
 have H := h
 clear h
 unfold spec_DrawRankLevels.f at H
 obtain ⟨y553, hy553⟩ : ∃ y_ : List Int, y_ = (([0, 1, 2, 3, 4, 4, 5, 6, 7] : List Int)) := ⟨_, rfl⟩
 rw [← hy553] at H
 have Ny553 := mkA hy553
 clear hy553
 obtain ⟨⟨t556, t557, t558⟩, A2, H⟩ := obE H
 dsimp only at H
 obtain ⟨⟨t559, t562, t563⟩, A3, H⟩ := obE H
 dsimp only at H
 obtain rfl := Option.some.inj H
 go_enter Tryd.func19, Tryd.ntmps19
 go_wp2_with (first | ((with_reducible refine gate_dst (N := 6) rfl ?_); refine boxE (N := 6) (cs := #[.slice A0 l0.length c0, .int .i64 0, .int .u64 0]) (t := 43) ?_; intro gb552 hg w4 hbox hb; have HI552 := mkA ((⟨_, _, hbox, (by rw [hg]; exact (below_size (bel_g HB.out))), HR0.out⟩ : IsS43 w w4 gb552 l0 0 0)); have GE552 := geB HB hg; replace HB := bst HB hb; clear hb hbox hg) | ((with_reducible refine gate_dst (N := 9) rfl ?_); refine litE (Kd.int .i64) 3 ([0, 1, 2, 3, 4, 4, 5, 6, 7] : List Int) [.int .i64 0, .int .i64 1, .int .i64 2, .int .i64 3, .int .i64 4, .int .i64 4, .int .i64 5, .int .i64 6, .int .i64 7] ?hp ?_; (case hp => exact (Reps.one (show Kd.M (Kd.int .i64) _ _ _ 0 [.int .i64 0] from rfl) (Reps.one (show Kd.M (Kd.int .i64) _ _ _ 1 [.int .i64 1] from rfl) (Reps.one (show Kd.M (Kd.int .i64) _ _ _ 2 [.int .i64 2] from rfl) (Reps.one (show Kd.M (Kd.int .i64) _ _ _ 3 [.int .i64 3] from rfl) (Reps.one (show Kd.M (Kd.int .i64) _ _ _ 4 [.int .i64 4] from rfl) (Reps.one (show Kd.M (Kd.int .i64) _ _ _ 4 [.int .i64 4] from rfl) (Reps.one (show Kd.M (Kd.int .i64) _ _ _ 5 [.int .i64 5] from rfl) (Reps.one (show Kd.M (Kd.int .i64) _ _ _ 6 [.int .i64 6] from rfl) (Reps.one (show Kd.M (Kd.int .i64) _ _ _ 7 [.int .i64 7] from rfl) (Reps.none _ _))))))))))); intro v554 w5 ho6 hb hg_ hnew_; clear hg_ hnew_; (first | rw [← Ny553.out] at ho6 | (simp only [Int.reduceToNat] at ho6; rw [← Ny553.out] at ho6)); have HO555 := mkA (Kd.R_lower ho6 (below_size (by exact bl43_0 HB.out HI552.out))); replace HB := mkA (below_step (by exact bl43_0 HB.out HI552.out) hb); replace HI552 := mkA (IsS43.below (by exact st43_0 HI552.out) hb); clear hb ho6; obtain ⟨Ao7, co7, rfl⟩ := Kd.R_slice HO555.out) | ((with_reducible refine gate_callee (f := 21) rfl ?_); refine goesQ (some 10) Tryd.func21 #[.pointer (some ⟨gb552, 0, none⟩), .slice Ao7 y553.length co7] ?_; (with_reducible refine (spec_l1Cur_among.calls gb552 l0 0 0 _ _ y553 t556 t557 t558 w _ ?_ ?_ ?_ ?_ ?_ A2.out).mono ?_); exact st43_0 HI552.out; exact bl43_0 HB.out HI552.out; exact rC HO555; exact rL HO555; exact far_slice (IsS43.own_ne HI552.out HO555.out (by decide)); rintro e w8 ⟨rfl, hi, hb, hk⟩; refine ⟨_, rfl, ?_⟩; replace HO555 := rK (IsS43.apart (show IsS43 w _ gb552 l0 0 0 from by exact st43_0 HI552.out) (Kd.R_g HO555.out) (by decide)) hk; replace HI552 := mkA (hi); replace HB := mkA (hb); clear hb hk hi) | ((with_reducible refine gate_callee (f := 39) rfl ?_); refine goesQ (some 11) Tryd.func39 #[.pointer (some ⟨gb552, 0, none⟩), .int .i64 t556] ?_; (with_reducible refine (spec_l1Cur_levels.calls k gb552 l0 t557 t558 t556 t559 t562 t563 w _ ?_ ?_ A3.out).mono ?_); exact st43_0 HI552.out; exact bl43_0 HB.out HI552.out; rintro e w9 ⟨v560, rfl, ho0, hi, hb, hk⟩; refine ⟨_, rfl, ?_⟩; have HO561 := mkA (Kd.R_lower (rN ho0 HO555) (below_size (by exact bl43_0 HB.out HI552.out))); replace HO555 := mkA (Kd.R_mono (Kd.R_told (Kd.R_oldK (IsS43.apart (show IsS43 w _ gb552 l0 t557 t558 from by exact st43_0 HI552.out) (Kd.R_g HO555.out) (by decide)) hk) (Kd.R_base ho0)) (fun _ h_ => h_.1)); replace HI552 := mkA (hi); replace HB := mkA (hb); clear hb hk hi ho0))
 go_ret
 exact ⟨_, eqE, Kd.R_g (Kd.R_mono HO561.out (fun _ hk => trivial)), by exact bl43_0 HB.out HI552.out⟩
def spec_l1Same.l0 : Nat → List Int → List Int → Int → Int → Option (Bool)
 | 0, _, _, _, _ => none
 | k + 1, x0, x1, x12, x13 => if x13 < x12 then (if 0 ≤ x13 then (if x13 < (x0.length : Int) then (if x13 < (x1.length : Int) then (if (rd x0 x13) = (rd x1 x13) then (spec_l1Same.l0 k x0 x1 x12 (wrap64 (x13 + 1))) else (some false)) else (none)) else (none)) else (none)) else (some true)
def spec_l1Same.f (k : Nat) (l0 : List Int) (l1 : List Int) : Option (Bool) := if (l0.length : Int) = (l1.length : Int) then (spec_l1Same.l0 k l0 l1 (l0.length : Int) 0) else (some false)
theorem spec_l1Same.mono_l : ∀ k, (∀ y0 y1 y2 y3, LeO (spec_l1Same.l0 k y0 y1 y2 y3) (spec_l1Same.l0 (k + 1) y0 y1 y2 y3))
 | 0 => fun _ _ _ _ r h => by simp [spec_l1Same.l0] at h
 | k + 1 => by
  have ih0 := spec_l1Same.mono_l k
  ·intro y0 y1 y2 y3
   unfold spec_l1Same.l0
   repeat' (with_reducible first|apply ih0|apply LeO.refl|apply LeO.none|apply LeO.ite|apply LeO.bind|intro)
theorem spec_l1Same.mono : ∀ a0 a1 k, LeO (spec_l1Same.f k a0 a1) (spec_l1Same.f (k + 1) a0 a1) := by
 intro a0 a1 k
 have ih0 := spec_l1Same.mono_l k
 unfold spec_l1Same.f
 repeat' (with_reducible first|apply ih0|apply LeO.refl|apply LeO.none|apply LeO.ite|apply LeO.bind|intro)
theorem spec_l1Same.calls (k : Nat) (A0 : Option Addr) (c0 : Nat) (l0 : List Int) (A1 : Option Addr) (c1 : Nat) (l1 : List Int) (r : Bool) (w : World) (hr0 : Kd.C (Kd.int .i64) w A0 l0.length l0) (hc0 : l0.length ≤ c0) (hr1 : Kd.C (Kd.int .i64) w A1 l1.length l1) (hc1 : l1.length ≤ c1) (h : spec_l1Same.f k l0 l1 = some r) :
  Calls Tryd.prog 40 #[.slice A0 l0.length c0, .slice A1 l1.length c1] w fun e w' => e = .returned (.bool r) ∧ Drawn0 w w' := by
 have HR0 := mkA hr0
 have HC0 := mkA hc0
 clear hr0 hc0
 have HR1 := mkA hr1
 have HC1 := mkA hc1
 clear hr1 hc1
 have H := h
 clear h
 unfold spec_l1Same.f at H
 rcases iteP H with ⟨c3, H⟩ | ⟨c3, H⟩
 ·have c3b0 := beq_iff_eq.mpr c3
  have c3b1 := bne_eq_false_iff_eq.mpr c3
  have c3b2 : (l0.length == l1.length) = true := by first | simpa using c3 | (simp at c3 ⊢; omega)
  clear c3
  have H' := mkA H
  clear H
  go_enter Tryd.func40, Tryd.ntmps40
  go_wp2
  repeat (go_quiet (fail); try go_wp2)
  go_loopg [13] k (fun kq v13 w' => ∃ (x13_1 : Int), v13 = .int .i64 x13_1 ∧ Fc (spec_l1Same.l0 kq l0 l1 (l0.length : Int) x13_1 = some r) ∧ Fc (kq ≤ k) ∧ Drawn0 w w')
  case atStart => exact ⟨(0), eqS, H', ⟨Nat.le_refl _⟩, by repeat (first | exact Drawn0.refl _ | apply Drawn0.step)⟩
  case round =>
   clear H'
   try clear c1
   try clear c3
   try clear c3b0
   try clear c3b1
   try clear c3b2
   obtain ⟨x13_1, rfl, HA, HK1, ⟨m1, rfl⟩⟩ := hrel
   cases gk with
   | zero => exact absurd HA.out (by simp [spec_l1Same.l0])
   | succ k1 =>
    have H := HA.out
    clear HA
    simp only [spec_l1Same.l0] at H
    rcases iteE H with ⟨c4b0, H⟩ | ⟨c4b0, H⟩
    ·obtain ⟨c5b0, H⟩ := itND H
     obtain ⟨c6b0, H⟩ := itND H
     obtain ⟨c7b0, H⟩ := itND H
     rcases iteP H with ⟨c8, H⟩ | ⟨c8, H⟩
     ·have c8b0 := beq_iff_eq.mpr c8
      have c8b1 := bne_eq_false_iff_eq.mpr c8
      clear c8
      have H' := mkA H
      clear H
      obtain ⟨p564, q564, ad564, e564, hx564_0⟩ := atI HR0.out x13_1
      cases e564
      obtain ⟨p565, q565, ad565, e565, hx565_0⟩ := atI HR1.out x13_1
      cases e565
      go_wp2
      repeat (go_quiet (fail); try go_wp2)
      go_roundg k1
      case measure => have := HK1.out; omega
      case rel => exact ⟨(wrap64 (x13_1 + 1)), eqS, H', ⟨by have := HK1.out; omega⟩, by repeat (first | exact Drawn0.refl _ | apply Drawn0.step)⟩
     ·have c8b0 := beq_eq_false_iff_ne.mpr c8
      have c8b1 := bne_iff_ne.mpr c8
      obtain rfl := Option.some.inj H
      obtain ⟨p564, q564, ad564, e564, hx564_0⟩ := atI HR0.out x13_1
      cases e564
      obtain ⟨p565, q565, ad565, e565, hx565_0⟩ := atI HR1.out x13_1
      cases e565
      go_wp2
      repeat (go_quiet (fail); try go_wp2)
      go_ret
      exact ⟨eqS, drE⟩
    ·obtain rfl := Option.some.inj H
     go_wp2
     repeat (go_quiet (fail); try go_wp2)
     go_ret
     exact ⟨eqS, drE⟩
 ·have c3b0 := beq_eq_false_iff_ne.mpr c3
  have c3b1 := bne_iff_ne.mpr c3
  have c3b2 : (l0.length == l1.length) = false := by first | simpa using c3 | (simp at c3 ⊢; omega)
  obtain rfl := Option.some.inj H
  go_enter Tryd.func40, Tryd.ntmps40
  go_wp2
  repeat (go_quiet (fail); try go_wp2)
  go_ret
  exact ⟨eqS, drE⟩
mutual
def spec_RankLevels.j0 : Nat → List Int → Bool → Option (Int × Bool)
 | 0, _, _ => none
 | k + 1, x0, x13 => if x13 = true then (some (0, false)) else ((spec_weAll.f k ([] : List Int) (x0.length : Int)).bind fun t567 => (spec_RankLevels.l0 k x0 t567 (t567.length : Int) 0))
def spec_RankLevels.l0 : Nat → List Int → List (List Int) → Int → Int → Option (Int × Bool)
 | 0, _, _, _, _ => none
 | k + 1, x0, x16, x17, x18 => if x18 < x17 then (if 0 ≤ x18 then (if x18 < (x16.length : Int) then ((spec_l1Same.f k (rd_L2 x16 x18) x0).bind fun t571 => (if t571 = true then (some (x18, true)) else (spec_RankLevels.l0 k x0 x16 x17 (wrap64 (x18 + 1))))) else (none)) else (none)) else (some (0, false))
end
def spec_RankLevels.f (k : Nat) (l0 : List Int) : Option (Int × Bool) := (spec_weLevels.f k l0).bind fun t566 => (if t566 = true then (spec_RankLevels.j0 k l0 (decide ((l0.length : Int) > 6))) else (spec_RankLevels.j0 k l0 true))
theorem spec_RankLevels.mono_l : ∀ k, (∀ y0 y1, LeO (spec_RankLevels.j0 k y0 y1) (spec_RankLevels.j0 (k + 1) y0 y1)) ∧ (∀ y0 y1 y2 y3, LeO (spec_RankLevels.l0 k y0 y1 y2 y3) (spec_RankLevels.l0 (k + 1) y0 y1 y2 y3))
 | 0 => ⟨fun _ _ r h => by simp [spec_RankLevels.j0] at h, fun _ _ _ _ r h => by simp [spec_RankLevels.l0] at h⟩
 | k + 1 => by
  obtain ⟨ih0, ih1⟩ := spec_RankLevels.mono_l k
  refine ⟨?_, ?_⟩ <;> intros
  unfold spec_RankLevels.j0
  rotate_left
  unfold spec_RankLevels.l0
  rotate_left
  all_goals repeat' (with_reducible first|apply ih0|apply ih1|apply spec_l1Same.mono|apply spec_weAll.mono|apply spec_weLevels.mono|apply LeO.refl|apply LeO.none|apply LeO.ite|apply LeO.bind|intro)
theorem spec_RankLevels.mono : ∀ a0 k, LeO (spec_RankLevels.f k a0) (spec_RankLevels.f (k + 1) a0) := by
 intro a0 k
 obtain ⟨ih0, ih1⟩ := spec_RankLevels.mono_l k
 unfold spec_RankLevels.f
 repeat' (with_reducible first|apply ih0|apply ih1|apply spec_l1Same.mono|apply spec_weAll.mono|apply spec_weLevels.mono|apply LeO.refl|apply LeO.none|apply LeO.ite|apply LeO.bind|intro)
theorem spec_RankLevels.calls (k : Nat) (A0 : Option Addr) (c0 : Nat) (l0 : List Int) (r1 : Int) (r2 : Bool) (w : World) (hr0 : Kd.C (Kd.int .i64) w A0 l0.length l0) (hc0 : l0.length ≤ c0) (h : spec_RankLevels.f k l0 = some (r1, r2)) :
  Calls Tryd.prog 20 #[.slice A0 l0.length c0] w fun e w' => e = .returned (.tuple #[.int .i64 r1, .bool r2]) ∧ Below w.heap.size w w' := by
 have HR0 := mkA hr0
 have HC0 := mkA hc0
 clear hr0 hc0
 have HB := mkA (Below.refl w.heap.size w)
 have H := h
 clear h
 unfold spec_RankLevels.f at H
 have HC2 := mkA H
 clear H
 go_enter Tryd.func20, Tryd.ntmps20
 go_upto_region 1 with (fail)
 go_cut [13] (fun v13 wc => ∃ (kq : Nat) (x13_1 : Bool), v13 = .bool x13_1 ∧ Fc (spec_RankLevels.j0 kq l0 x13_1 = some (r1, r2)) ∧ Fc (kq ≤ k) ∧ Fc (Below w.heap.size w wc))
 case first =>
  have H := HC2.out
  clear HC2
  obtain ⟨t566, A3, H⟩ := obE H
  by_cases c4 : t566 = true
  ·subst c4
   replace H := ifT H
   have H' := mkA H
   clear H
   go_wp2_with (first | ((with_reducible refine gate_callee (f := 34) rfl ?_); refine goesQ (some 7) Tryd.func34 #[.slice A0 l0.length c0] ?_; (with_reducible refine (spec_weLevels.calls k _ _ l0 true _ ?_ ?_ A3.out).mono ?_); exact C_g HR0 HB; exact HC0.out; rintro e w' ⟨rfl, ⟨nd, rfl⟩⟩; refine ⟨_, rfl, ?_⟩))
   go_meet
   case rel => exact ⟨_, (decide ((l0.length : Int) > 6)), eqS, H', ⟨by first | omega | exact Nat.le_refl _⟩, hbg HB⟩
  ·replace c4 := Bool.eq_false_iff.mpr c4
   subst c4
   replace H := ifF H
   have H' := mkA H
   clear H
   go_wp2_with (first | ((with_reducible refine gate_callee (f := 34) rfl ?_); refine goesQ (some 7) Tryd.func34 #[.slice A0 l0.length c0] ?_; (with_reducible refine (spec_weLevels.calls k _ _ l0 false _ ?_ ?_ A3.out).mono ?_); exact C_g HR0 HB; exact HC0.out; rintro e w' ⟨rfl, ⟨nd, rfl⟩⟩; refine ⟨_, rfl, ?_⟩))
   go_meet
   case rel => exact ⟨_, (true), eqS, H', ⟨by first | omega | exact Nat.le_refl _⟩, hbg HB⟩
 case rest =>
  clear HC2
  try clear c4
  obtain ⟨kq, x13_1, rfl, HA, HJ1, HB⟩ := hcut
  cases kq with
  | zero => exact absurd HA.out (by simp [spec_RankLevels.j0])
  | succ kj1 =>
   have H := HA.out
   clear HA
   simp only [spec_RankLevels.j0] at H
   by_cases c5 : x13_1 = true
   ·subst c5
    replace H := ifT H
    simp only [Option.some.injEq, Prod.mk.injEq] at H
    obtain ⟨rfl, rfl⟩ := H
    go_wp2
    go_ret2
    exact ⟨eqE, bel_g HB.out⟩
   ·replace c5 := Bool.eq_false_iff.mpr c5
    subst c5
    replace H := ifF H
    obtain ⟨t567, A6, H⟩ := obE H
    have H' := mkA H
    clear H
    go_wp2_with (first | ((with_reducible refine gate_callee (f := 28) rfl ?_); refine goesQ (some 16) Tryd.func28 #[.slice none 0 0, .int .i64 (l0.length : Int)] ?_; (refine (spec_weAll.calls kj1 _ _ ([] : List Int) (l0.length : Int) t567 _ ?_ ?_ A6.out).mono ?_); exact Kd.C_nil _ _; exact Nat.le_refl _; rintro e w7 ⟨v568, rfl, ho0, hb⟩; refine ⟨_, rfl, ?_⟩; have HO569 := mkA (Kd.N_lower (Kd.N_mono (ok' := fun k_ => True) ho0 (fun k_ hk_ => trivial)) (below_size (bel_g HB.out))); replace HB := bst HB hb; clear hb ho0; obtain ⟨Ao8, co8, rfl⟩ := Kd.N_slice HO569.out))
    go_loopg [18] kj1 (fun kq v18 w' => ∃ (x18_2 : Int), v18 = .int .i64 x18_2 ∧ Fc (spec_RankLevels.l0 kq l0 t567 (t567.length : Int) x18_2 = some (r1, r2)) ∧ Fc (kq ≤ kj1) ∧ Fc (Kd.N (Kd.slice 3 (Kd.int .i64)) 26 w' w.heap.size (fun _ => True) (.slice Ao8 t567.length co8) t567) ∧ Fc (Below w.heap.size w w'))
    case atStart => exact ⟨(0), eqS, H', ⟨Nat.le_refl _⟩, ⟨by (with_reducible repeat (first | apply Kd.N_alloc | apply Kd.N_drewN | apply Kd.N_drew)); exact HO569.out⟩, hbg HB⟩
    case round =>
     clear H'
     try clear c4
     try clear c5
     obtain ⟨x18_2, rfl, HA, HK2, HO_16, HB⟩ := hrel
     cases gk with
     | zero => exact absurd HA.out (by simp [spec_RankLevels.l0])
     | succ k2 =>
      have H := HA.out
      clear HA
      simp only [spec_RankLevels.l0] at H
      rcases iteE H with ⟨c9b0, H⟩ | ⟨c9b0, H⟩
      ·obtain ⟨c10b0, H⟩ := itND H
       obtain ⟨c11b0, H⟩ := itND H
       obtain ⟨t571, A12, H⟩ := obE H
       by_cases c13 : t571 = true
       ·subst c13
        replace H := ifT H
        simp only [Option.some.injEq, Prod.mk.injEq] at H
        obtain ⟨rfl, rfl⟩ := H
        have p570 : 0 ≤ (x18_2 : Int) := ofd
        have q570 : x18_2 < (t567.length : Int) := ofd
        obtain ⟨ad570, A570_0, c570_0, e570, hx570_0, hl570_0, hi570_0⟩ := at_L2 (Kd.N_reads' HO_16.out).2.2 x18_2 p570 q570
        cases e570
        obtain ⟨ce570, hce570, hMe570, hcc570⟩ := Kd.N_get HO_16.out [] x18_2 p570 (by first | exact q570 | exact ofd | (have e_ := (Kd.N_reads' HO_16.out).1; omega))
        obtain ⟨ua570_0, uc570_0, rfl, ul570_0, ge570_0⟩ := Kd.FK_slice_open hMe570
        have hv570_0 := hcc570 0 _ rfl
        rw [Nat.add_zero, show ((Kd.slice 3 (Kd.int .i64))).sz = 1 from rfl, Nat.mul_one] at hv570_0
        replace hv570_0 := Option.some.inj (hv570_0.symm.trans hx570_0)
        injection hv570_0 with hva_ hvn_ hvc_
        rw [hva_] at ge570_0
        rw [hvc_] at ul570_0
        have HL570_0 := mkA (show Kd.V (Kd.int .i64) 3 _ w.heap.size _ _ (rd_L2 t567 x18_2) from Kd.V_mk ul570_0 ge570_0)
        clear hva_ hvn_ hvc_ ge570_0 ul570_0
        clear hcc570 hce570
        have HR570_0 := mkA hi570_0
        have HC570_0 := mkA hl570_0
        clear hi570_0 hl570_0
        replace p570 := eq_true p570
        replace q570 := eq_true q570
        go_wp2_with (first | ((with_reducible refine gate_callee (f := 40) rfl ?_); refine goesQ (some 25) Tryd.func40 #[.slice A570_0 (rd_L2 t567 x18_2).length c570_0, .slice A0 l0.length c0] ?_; (with_reducible refine (spec_l1Same.calls k2 _ _ (rd_L2 t567 x18_2) _ _ l0 true _ ?_ ?_ ?_ ?_ A12.out).mono ?_); exact C_h HR570_0; exact HC570_0.out; exact C_g HR0 HB; exact HC0.out; rintro e w' ⟨rfl, ⟨nd, rfl⟩⟩; refine ⟨_, rfl, ?_⟩))
        go_ret2
        exact ⟨eqE, bel_g HB.out⟩
       ·replace c13 := Bool.eq_false_iff.mpr c13
        subst c13
        replace H := ifF H
        have H' := mkA H
        clear H
        have p570 : 0 ≤ (x18_2 : Int) := ofd
        have q570 : x18_2 < (t567.length : Int) := ofd
        obtain ⟨ad570, A570_0, c570_0, e570, hx570_0, hl570_0, hi570_0⟩ := at_L2 (Kd.N_reads' HO_16.out).2.2 x18_2 p570 q570
        cases e570
        obtain ⟨ce570, hce570, hMe570, hcc570⟩ := Kd.N_get HO_16.out [] x18_2 p570 (by first | exact q570 | exact ofd | (have e_ := (Kd.N_reads' HO_16.out).1; omega))
        obtain ⟨ua570_0, uc570_0, rfl, ul570_0, ge570_0⟩ := Kd.FK_slice_open hMe570
        have hv570_0 := hcc570 0 _ rfl
        rw [Nat.add_zero, show ((Kd.slice 3 (Kd.int .i64))).sz = 1 from rfl, Nat.mul_one] at hv570_0
        replace hv570_0 := Option.some.inj (hv570_0.symm.trans hx570_0)
        injection hv570_0 with hva_ hvn_ hvc_
        rw [hva_] at ge570_0
        rw [hvc_] at ul570_0
        have HL570_0 := mkA (show Kd.V (Kd.int .i64) 3 _ w.heap.size _ _ (rd_L2 t567 x18_2) from Kd.V_mk ul570_0 ge570_0)
        clear hva_ hvn_ hvc_ ge570_0 ul570_0
        clear hcc570 hce570
        have HR570_0 := mkA hi570_0
        have HC570_0 := mkA hl570_0
        clear hi570_0 hl570_0
        replace p570 := eq_true p570
        replace q570 := eq_true q570
        go_wp2_with (first | ((with_reducible refine gate_callee (f := 40) rfl ?_); refine goesQ (some 25) Tryd.func40 #[.slice A570_0 (rd_L2 t567 x18_2).length c570_0, .slice A0 l0.length c0] ?_; (with_reducible refine (spec_l1Same.calls k2 _ _ (rd_L2 t567 x18_2) _ _ l0 false _ ?_ ?_ ?_ ?_ A12.out).mono ?_); exact C_h HR570_0; exact HC570_0.out; exact C_g HR0 HB; exact HC0.out; rintro e w' ⟨rfl, ⟨nd, rfl⟩⟩; refine ⟨_, rfl, ?_⟩))
        go_roundg k2
        case measure => have := HJ1.out; have := HK2.out; omega
        case rel => exact ⟨(wrap64 (x18_2 + 1)), eqS, H', ⟨by have := HJ1.out; have := HK2.out; omega⟩, ⟨by (with_reducible repeat (first | apply Kd.N_alloc | apply Kd.N_drewN | apply Kd.N_drew)); exact HO_16.out⟩, hbg HB⟩
      ·simp only [Option.some.injEq, Prod.mk.injEq] at H
       obtain ⟨rfl, rfl⟩ := H
       go_wp2
       go_ret2
       exact ⟨eqE, bel_g HB.out⟩
end Go.Proofs.YtfpicdkanmgdoaaDoor.Q
