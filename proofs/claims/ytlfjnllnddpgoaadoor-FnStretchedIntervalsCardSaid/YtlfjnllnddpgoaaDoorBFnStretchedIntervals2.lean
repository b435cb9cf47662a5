import Derived.Test.YtlfjnllnddpgoaaDoorBFnStretchedIntervals1
namespace Go.Proofs.YtlfjnllnddpgoaaDoor.Q
open Go.RowKit Go.Proofs.YtlfjnllnddpgoaaDoorW.PrintWords Go.Proofs.YtlfjnllnddpgoaaDoorW.PrintLast Go.Proofs.YtlfjnllnddpgoaaDoorW.PrintMore
attribute [local go_sem] max2_int min2_int max_two min_two max_three min_three max_four min_four neB_f
set_option linter.unusedVariables false
set_option maxHeartbeats 8000000
set_option maxRecDepth 100000
set_option linter.unusedSimpArgs false
mutual
def spec_l1Cur_intervals.l0 : Nat → List (S37) → Int → List Int → Int → Int → Option ((List (S37)) × Int × Int)
 | 0, _, _, _, _, _ => none
 | k + 1, x5, x6, x1000, x1001, x1002 => if x6 > 0 then ((spec_l1Cur_pick.f x1000 x1001 x1002 8).bind fun bt115 => ((spec_l1Cur_pick.f x1000 bt115.2.1 bt115.2.2 4).bind fun bt118 => (if x5.length < 8796093022208 then (spec_l1Cur_intervals.l0 k (x5 ++ [(⟨wrap64 (bt115.1 - 1), wrap64 ((wrap64 (bt115.1 - 1)) + bt118.1)⟩ : S37)]) (wrap64 (x6 - 1)) x1000 bt118.2.1 bt118.2.2) else (none)))) else ((spec_l1Cur_pick.f x1000 x1001 x1002 14).bind fun bt124 => (if bt124.1 = 0 then ((spec_l1Cur_among.f x1000 bt124.2.1 bt124.2.2 (([(-1001), (-1000), 1, 1000] : List Int))).bind fun bt130 => ((spec_l1Cur_among.f x1000 bt130.2.1 bt130.2.2 (([0, 1000, 1001] : List Int))).bind fun bt136 => (if x5.length < 8796093022208 then (some ((x5 ++ [(⟨bt130.1, bt136.1⟩ : S37)]), bt136.2.1, bt136.2.2)) else (none)))) else (if bt124.1 = 1 then (spec_l1Cur_intervals.l1 k ([] : List (S37)) x1000 bt124.2.1 bt124.2.2) else (some (x5, bt124.2.1, bt124.2.2)))))
def spec_l1Cur_intervals.l1 : Nat → List (S37) → List Int → Int → Int → Option ((List (S37)) × Int × Int)
 | 0, _, _, _, _ => none
 | k + 1, x5, x1000, x1001, x1002 => (spec_l1Cur_pick.f x1000 x1001 x1002 2).bind fun bt142 => (if (x5.length : Int) < (wrap64 (10 + bt142.1)) then (if x5.length < 8796093022208 then (spec_l1Cur_intervals.l1 k (x5 ++ [(⟨wrap64 ((x5.length : Int) / 2), 3⟩ : S37)]) x1000 bt142.2.1 bt142.2.2) else (none)) else (some (x5, bt142.2.1, bt142.2.2)))
end
def spec_l1Cur_intervals.f (k : Nat) (s0_0 : List Int) (s0_1 : Int) (s0_2 : Int) (a1 : Int) : Option ((List (S37)) × Int × Int) := (spec_l1Cur_pick.f s0_0 s0_1 s0_2 (wrap64 (a1 + 1))).bind fun bt112 => (spec_l1Cur_intervals.l0 k ([] : List (S37)) bt112.1 s0_0 bt112.2.1 bt112.2.2)
theorem spec_l1Cur_intervals.mono_l : ∀ k, (∀ y0 y1 y2 y3 y4, LeO (spec_l1Cur_intervals.l0 k y0 y1 y2 y3 y4) (spec_l1Cur_intervals.l0 (k + 1) y0 y1 y2 y3 y4)) ∧ (∀ y0 y1 y2 y3, LeO (spec_l1Cur_intervals.l1 k y0 y1 y2 y3) (spec_l1Cur_intervals.l1 (k + 1) y0 y1 y2 y3))
 | 0 => ⟨fun _ _ _ _ _ r h => by simp [spec_l1Cur_intervals.l0] at h, fun _ _ _ _ r h => by simp [spec_l1Cur_intervals.l1] at h⟩
 | k + 1 => by
  obtain ⟨ih0, ih1⟩ := spec_l1Cur_intervals.mono_l k
  refine ⟨?_, ?_⟩ <;> intros
  unfold spec_l1Cur_intervals.l0
  rotate_left
  unfold spec_l1Cur_intervals.l1
  rotate_left
  all_goals repeat' (with_reducible first|apply ih0|apply ih1|apply LeO.refl|apply LeO.none|apply LeO.ite|apply LeO.bind|intro)
theorem spec_l1Cur_intervals.mono : ∀ a0 a1 a2 a3 k, LeO (spec_l1Cur_intervals.f k a0 a1 a2 a3) (spec_l1Cur_intervals.f (k + 1) a0 a1 a2 a3) := by
 intro a0 a1 a2 a3 k
 obtain ⟨ih0, ih1⟩ := spec_l1Cur_intervals.mono_l k
 unfold spec_l1Cur_intervals.f
 repeat' (with_reducible first|apply ih0|apply ih1|apply LeO.refl|apply LeO.none|apply LeO.ite|apply LeO.bind|intro)
theorem spec_l1Cur_intervals.calls (k : Nat) (g : Nat) (s0_0 : List Int) (s0_1 : Int) (s0_2 : Int) (a1 : Int) (r1 : List (S37)) (r2 : Int) (r3 : Int) (w0 w : World) (hI : IsS49 w0 w g s0_0 s0_1 s0_2) (hB : Below w0.heap.size w0 w) (h : spec_l1Cur_intervals.f k s0_0 s0_1 s0_2 a1 = some (r1, r2, r3)) :
  Calls Tryd.prog 20 #[.pointer (some ⟨g, 0, none⟩), .int .i64 a1] w fun e w' => ∃ v0_ : Value, e = .returned (v0_) ∧ Kd.R k37 37 w' w.heap.size (fun _ => True) v0_ r1 ∧ IsS49 w0 w' g s0_0 r2 r3 ∧ Below w0.heap.size w0 w' ∧ KeepBut w w' g none := by
 have hu37 := Tryd.underlying37
 have HI0 := mkA hI
 have HK := mkA (KeepBut.refl w g none)
 have HL := mkA hB.size
 clear hI
 have HW0 := mkA hB.size
 have HB := mkA hB
 clear hB
 have H := h
 clear h
 unfold spec_l1Cur_intervals.f at H
 obtain ⟨⟨t112, t113, t114⟩, A3, H⟩ := obE H
 dsimp only at H
 have H' := mkA H
 clear H
 go_enter Tryd.func20, Tryd.ntmps20
 go_wp2_with (first | ((with_reducible refine gate_callee (f := 18) rfl ?_); refine goesQ (some 11) Tryd.func18 #[.pointer (some ⟨g, 0, none⟩), .int .i64 (wrap64 (a1 + 1))] ?_; (with_reducible refine (spec_l1Cur_pick.calls g s0_0 s0_1 s0_2 (wrap64 (a1 + 1)) t112 t113 t114 w0 _ ?_ ?_ A3.out).mono ?_); exact st49_0 HI0.out; exact bl49_0 HB.out HI0.out; rintro e w4 ⟨rfl, hi, hb, hk⟩; refine ⟨_, rfl, ?_⟩; replace HK := kT (by exact kb49_0 HK.out) hk; replace HI0 := mkA (hi); replace HB := mkA (hb); clear hb hk hi))
 go_loopg [5, 6] k (fun kq v5 v6 w' => ∃ (x5_1 : List (S37)) (x6_1 : Int) (x1001_1 : Int) (x1002_1 : Int), v6 = .int .i64 x6_1 ∧ Fc (spec_l1Cur_intervals.l0 kq x5_1 x6_1 s0_0 x1001_1 x1002_1 = some (r1, r2, r3)) ∧ Fc (kq ≤ k) ∧ Fc (Kd.R k37 37 w' w.heap.size (fun _ => True) v5 x5_1) ∧ Fc (IsS49 w0 w' g s0_0 x1001_1 x1002_1) ∧ Fc (KeepBut w w' g none) ∧ Fc (Below w0.heap.size w0 w'))
 case atStart => exact ⟨(([] : List (S37))), (t112), (t113), (t114), eqS, H', ⟨Nat.le_refl _⟩, ⟨nilE⟩, ⟨by exact st49_0 HI0.out⟩, ⟨by exact kb49_0 HK.out⟩, ⟨by exact bl49_0 HB.out HI0.out⟩⟩
 case round =>
  clear H'
  obtain ⟨x5_1, x6_1, x1001_1, x1002_1, rfl, HA, HK1, HO_5, HI0, HK, HB⟩ := hrel
  cases gk with
  | zero => exact absurd HA.out (by simp [spec_l1Cur_intervals.l0])
  | succ k1 =>
   have H := HA.out
   clear HA
   simp only [spec_l1Cur_intervals.l0] at H
   rcases iteP H with ⟨c5, H⟩ | ⟨c5, H⟩
   ·have c5b0 := decide_eq_true c5
    clear c5
    obtain ⟨⟨t115, t116, t117⟩, A6, H⟩ := obE H
    dsimp only at H
    obtain ⟨⟨t118, t119, t120⟩, A7, H⟩ := obE H
    dsimp only at H
    obtain ⟨c8, H⟩ := itNP H
    have LMc8 := mkA c8
    clear c8
    obtain ⟨y121, hy121⟩ : ∃ y_ : List (S37), y_ = (x5_1 ++ [(⟨wrap64 (t115 - 1), wrap64 ((wrap64 (t115 - 1)) + t118)⟩ : S37)]) := ⟨_, rfl⟩
    rw [← hy121] at H
    have Ny121 := mkA hy121
    clear hy121
    have H' := mkA H
    clear H
    go_wp2_with (first | ((with_reducible refine gate_callee (f := 18) rfl ?_); refine goesQ (some 17) Tryd.func18 #[.pointer (some ⟨g, 0, none⟩), .int .i64 8] ?_; (with_reducible refine (spec_l1Cur_pick.calls g s0_0 x1001_1 x1002_1 8 t115 t116 t117 w0 _ ?_ ?_ A6.out).mono ?_); exact st49_0 HI0.out; exact bl49_0 HB.out HI0.out; rintro e w9 ⟨rfl, hi, hb, hk⟩; refine ⟨_, rfl, ?_⟩; replace HO_5 := rK (IsS49.apart (show IsS49 w0 _ g s0_0 x1001_1 x1002_1 from by exact st49_0 HI0.out) (Kd.R_g HO_5.out) (by decide)) hk; replace HK := kT (by exact kb49_0 HK.out) hk; replace HI0 := mkA (hi); replace HB := mkA (hb); clear hb hk hi) | ((with_reducible refine gate_callee (f := 18) rfl ?_); refine goesQ (some 23) Tryd.func18 #[.pointer (some ⟨g, 0, none⟩), .int .i64 4] ?_; (with_reducible refine (spec_l1Cur_pick.calls g s0_0 t116 t117 4 t118 t119 t120 w0 _ ?_ ?_ A7.out).mono ?_); exact st49_0 HI0.out; exact bl49_0 HB.out HI0.out; rintro e w10 ⟨rfl, hi, hb, hk⟩; refine ⟨_, rfl, ?_⟩; replace HO_5 := rK (IsS49.apart (show IsS49 w0 _ g s0_0 t116 t117 from by exact st49_0 HI0.out) (Kd.R_g HO_5.out) (by decide)) hk; replace HK := kT (by exact kb49_0 HK.out) hk; replace HI0 := mkA (hi); replace HB := mkA (hb); clear hb hk hi) | ((with_reducible refine gate_builtin (b := .append) (xs := #[.tmp 19, .tmp 26]) rfl ?_); at_builtin; refine Kd.R_append k37 w.heap.size rfl (.tmp 19) (.tmp 26) 24 37 (.agg #[(.int .i64 0), (.int .i64 0)]) 16 rfl Tryd.underlying24 info37 rfl (by decide) (by omega) u5 x5_1 (⟨wrap64 (t115 - 1), wrap64 ((wrap64 (t115 - 1)) + t118)⟩ : S37) [.int .i64 (wrap64 (t115 - 1)), .int .i64 (wrap64 ((wrap64 (t115 - 1)) + t118))] (fun _ => True) (fun _ => False) rfl rfl ?aP (fun _ hk => hk.elim) ?aF ?aO (Below.refl _ _) ?aS ?aL ?_; (case aP => exact k37_mkM _ _ _ (⟨wrap64 (t115 - 1), wrap64 ((wrap64 (t115 - 1)) + t118)⟩ : S37)); (case aF => exact (fun _ _ => trivial)); (case aO => exact (Kd.R_g HO_5.out)); (case aS => exact (keep_size (w := w) (g := g) (row := none) (by exact kb49_0 HK.out))); (case aL => have := LMc8.out; omega); intro v122 w11 ho hb hg hat; rw [← Ny121.out] at ho; replace HK := mkA (KeepBut.trans (by exact kb49_0 HK.out) (KeepBut.of_grown hg g) (Kd.R_base2 HO_5.out)); have HO123 := mkA (ho); replace HB := mkA (below_weaken (by exact bl49_0 HB.out HI0.out) HL.out hb); replace HI0 := mkA (IsS49.grown (by exact st49_0 HI0.out) hg (IsS49.own_ne HI0.out HO_5.out (by decide))); clear HO_5; clear ho hb hg hat))
    go_roundg k1
    case measure => have := HK1.out; omega
    case rel => exact ⟨(y121), (wrap64 (x6_1 - 1)), (t119), (t120), eqS, H', ⟨by have := HK1.out; omega⟩, rg HO123, ⟨by exact st49_0 HI0.out⟩, ⟨by exact kb49_0 HK.out⟩, ⟨by exact bl49_0 HB.out HI0.out⟩⟩
   ·have c5b0 := decide_eq_false c5
    clear c5
    obtain ⟨⟨t124, t125, t126⟩, A12, H⟩ := obE H
    dsimp only at H
    rcases iteP H with ⟨c13, H⟩ | ⟨c13, H⟩
    ·have c13b0 := beq_iff_eq.mpr c13
     have c13b1 := bne_eq_false_iff_eq.mpr c13
     clear c13
     obtain ⟨y127, hy127⟩ : ∃ y_ : List Int, y_ = (([(-1001), (-1000), 1, 1000] : List Int)) := ⟨_, rfl⟩
     rw [← hy127] at H
     have Ny127 := mkA hy127
     clear hy127
     obtain ⟨⟨t130, t131, t132⟩, A14, H⟩ := obE H
     dsimp only at H
     obtain ⟨y133, hy133⟩ : ∃ y_ : List Int, y_ = (([0, 1000, 1001] : List Int)) := ⟨_, rfl⟩
     rw [← hy133] at H
     have Ny133 := mkA hy133
     clear hy133
     obtain ⟨⟨t136, t137, t138⟩, A15, H⟩ := obE H
     dsimp only at H
     obtain ⟨c16, H⟩ := itNP H
     have LMc16 := mkA c16
     clear c16
     obtain ⟨y139, hy139⟩ : ∃ y_ : List (S37), y_ = (x5_1 ++ [(⟨t130, t136⟩ : S37)]) := ⟨_, rfl⟩
     rw [← hy139] at H
     have Ny139 := mkA hy139
     clear hy139
     simp only [Option.some.injEq, Prod.mk.injEq] at H
     obtain ⟨rfl, rfl, rfl⟩ := H
     go_wp2_with (first | ((with_reducible refine gate_callee (f := 18) rfl ?_); refine goesQ (some 29) Tryd.func18 #[.pointer (some ⟨g, 0, none⟩), .int .i64 14] ?_; (with_reducible refine (spec_l1Cur_pick.calls g s0_0 x1001_1 x1002_1 14 t124 t125 t126 w0 _ ?_ ?_ A12.out).mono ?_); exact st49_0 HI0.out; exact bl49_0 HB.out HI0.out; rintro e w17 ⟨rfl, hi, hb, hk⟩; refine ⟨_, rfl, ?_⟩; replace HO_5 := rK (IsS49.apart (show IsS49 w0 _ g s0_0 x1001_1 x1002_1 from by exact st49_0 HI0.out) (Kd.R_g HO_5.out) (by decide)) hk; replace HK := kT (by exact kb49_0 HK.out) hk; replace HI0 := mkA (hi); replace HB := mkA (hb); clear hb hk hi) | ((with_reducible refine gate_dst (N := 34) rfl ?_); refine litE (Kd.int .i64) 3 ([(-1001), (-1000), 1, 1000] : List Int) [.int .i64 (-1001), .int .i64 (-1000), .int .i64 1, .int .i64 1000] ?hp ?_; (case hp => exact (Reps.one (show Kd.M (Kd.int .i64) _ _ _ (-1001) [.int .i64 (-1001)] from rfl) (Reps.one (show Kd.M (Kd.int .i64) _ _ _ (-1000) [.int .i64 (-1000)] from rfl) (Reps.one (show Kd.M (Kd.int .i64) _ _ _ 1 [.int .i64 1] from rfl) (Reps.one (show Kd.M (Kd.int .i64) _ _ _ 1000 [.int .i64 1000] from rfl) (Reps.none _ _)))))); intro v128 w18 ho19 hb hg_ hnew_; clear hg_ hnew_; (first | rw [← Ny127.out] at ho19 | (simp only [Int.reduceToNat] at ho19; rw [← Ny127.out] at ho19)); replace HO_5 := rB HO_5 hb; have HO129 := mkA (Kd.R_lower ho19 (keep_size (w := w) (g := g) (row := none) (by exact kb49_0 HK.out))); replace HK := kU (g := g) (by exact kb49_0 HK.out) hb; replace HB := mkA (below_step (by exact bl49_0 HB.out HI0.out) hb); replace HI0 := mkA (IsS49.below (by exact st49_0 HI0.out) hb); clear hb ho19; obtain ⟨Ao20, co20, rfl⟩ := Kd.R_slice HO129.out) | ((with_reducible refine gate_callee (f := 19) rfl ?_); refine goesQ (some 35) Tryd.func19 #[.pointer (some ⟨g, 0, none⟩), .slice Ao20 y127.length co20] ?_; (with_reducible refine (spec_l1Cur_among.calls g s0_0 t125 t126 _ _ y127 t130 t131 t132 w0 _ ?_ ?_ ?_ ?_ ?_ A14.out).mono ?_); exact st49_0 HI0.out; exact bl49_0 HB.out HI0.out; exact rC HO129; exact rL HO129; exact far_slice (IsS49.own_ne HI0.out HO129.out (by decide)); rintro e w21 ⟨rfl, hi, hb, hk⟩; refine ⟨_, rfl, ?_⟩; replace HO_5 := rK (IsS49.apart (show IsS49 w0 _ g s0_0 t125 t126 from by exact st49_0 HI0.out) (Kd.R_g HO_5.out) (by decide)) hk; replace HO129 := rK (IsS49.apart (show IsS49 w0 _ g s0_0 t125 t126 from by exact st49_0 HI0.out) (Kd.R_g HO129.out) (by decide)) hk; replace HK := kT (by exact kb49_0 HK.out) hk; replace HI0 := mkA (hi); replace HB := mkA (hb); clear hb hk hi) | ((with_reducible refine gate_dst (N := 37) rfl ?_); refine litE (Kd.int .i64) 3 ([0, 1000, 1001] : List Int) [.int .i64 0, .int .i64 1000, .int .i64 1001] ?hp ?_; (case hp => exact (Reps.one (show Kd.M (Kd.int .i64) _ _ _ 0 [.int .i64 0] from rfl) (Reps.one (show Kd.M (Kd.int .i64) _ _ _ 1000 [.int .i64 1000] from rfl) (Reps.one (show Kd.M (Kd.int .i64) _ _ _ 1001 [.int .i64 1001] from rfl) (Reps.none _ _))))); intro v134 w22 ho23 hb hg_ hnew_; clear hg_ hnew_; (first | rw [← Ny133.out] at ho23 | (simp only [Int.reduceToNat] at ho23; rw [← Ny133.out] at ho23)); replace HO_5 := rB HO_5 hb; have HO135 := mkA (Kd.R_lower (rN ho23 HO129) (keep_size (w := w) (g := g) (row := none) (by exact kb49_0 HK.out))); replace HO129 := rE HO129 ho23 hb; replace HK := kU (g := g) (by exact kb49_0 HK.out) hb; replace HB := mkA (below_step (by exact bl49_0 HB.out HI0.out) hb); replace HI0 := mkA (IsS49.below (by exact st49_0 HI0.out) hb); clear hb ho23; obtain ⟨Ao24, co24, rfl⟩ := Kd.R_slice HO135.out) | ((with_reducible refine gate_callee (f := 19) rfl ?_); refine goesQ (some 38) Tryd.func19 #[.pointer (some ⟨g, 0, none⟩), .slice Ao24 y133.length co24] ?_; (with_reducible refine (spec_l1Cur_among.calls g s0_0 t131 t132 _ _ y133 t136 t137 t138 w0 _ ?_ ?_ ?_ ?_ ?_ A15.out).mono ?_); exact st49_0 HI0.out; exact bl49_0 HB.out HI0.out; exact rC HO135; exact rL HO135; exact far_slice (IsS49.own_ne HI0.out HO135.out (by decide)); rintro e w25 ⟨rfl, hi, hb, hk⟩; refine ⟨_, rfl, ?_⟩; replace HO_5 := rK (IsS49.apart (show IsS49 w0 _ g s0_0 t131 t132 from by exact st49_0 HI0.out) (Kd.R_g HO_5.out) (by decide)) hk; replace HO129 := rK (IsS49.apart (show IsS49 w0 _ g s0_0 t131 t132 from by exact st49_0 HI0.out) (Kd.R_g HO129.out) (by decide)) hk; replace HO135 := rK (IsS49.apart (show IsS49 w0 _ g s0_0 t131 t132 from by exact st49_0 HI0.out) (Kd.R_g HO135.out) (by decide)) hk; replace HK := kT (by exact kb49_0 HK.out) hk; replace HI0 := mkA (hi); replace HB := mkA (hb); clear hb hk hi) | ((with_reducible refine gate_builtin (b := .append) (xs := #[.tmp 32, .tmp 40]) rfl ?_); at_builtin; refine Kd.R_append k37 w.heap.size rfl (.tmp 32) (.tmp 40) 24 37 (.agg #[(.int .i64 0), (.int .i64 0)]) 16 rfl Tryd.underlying24 info37 rfl (by decide) (by omega) u5 x5_1 (⟨t130, t136⟩ : S37) [.int .i64 t130, .int .i64 t136] (fun _ => True) (fun _ => False) rfl rfl ?aP (fun _ hk => hk.elim) ?aF ?aO (Below.refl _ _) ?aS ?aL ?_; (case aP => exact k37_mkM _ _ _ (⟨t130, t136⟩ : S37)); (case aF => exact (fun _ _ => trivial)); (case aO => exact (Kd.R_g HO_5.out)); (case aS => exact (keep_size (w := w) (g := g) (row := none) (by exact kb49_0 HK.out))); (case aL => have := LMc16.out; omega); intro v140 w26 ho hb hg hat; rw [← Ny139.out] at ho; replace HO129 := mkA (Kd.R_over' (Kd.R_g HO129.out) (Kd.R_typed (Kd.R_g HO_5.out)) (by decide) hg); replace HO135 := mkA (Kd.R_over' (Kd.R_g HO135.out) (Kd.R_typed (Kd.R_g HO_5.out)) (by decide) hg); replace HK := mkA (KeepBut.trans (by exact kb49_0 HK.out) (KeepBut.of_grown hg g) (Kd.R_base2 HO_5.out)); have HO141 := mkA (ho); replace HB := mkA (below_weaken (by exact bl49_0 HB.out HI0.out) HL.out hb); replace HI0 := mkA (IsS49.grown (by exact st49_0 HI0.out) hg (IsS49.own_ne HI0.out HO_5.out (by decide))); clear HO_5; clear ho hb hg hat))
     go_ret
     exact ⟨_, eqE, Kd.R_g HO141.out, by exact st49_0 HI0.out, by exact bl49_0 HB.out HI0.out, by exact kb49_0 HK.out⟩
    ·have c13b0 := beq_eq_false_iff_ne.mpr c13
     have c13b1 := bne_iff_ne.mpr c13
     rcases iteP H with ⟨c27, H⟩ | ⟨c27, H⟩
     ·have c27b0 := beq_iff_eq.mpr c27
      have c27b1 := bne_eq_false_iff_eq.mpr c27
      clear c27
      have H' := mkA H
      clear H
      go_wp2_with (first | ((with_reducible refine gate_callee (f := 18) rfl ?_); refine goesQ (some 29) Tryd.func18 #[.pointer (some ⟨g, 0, none⟩), .int .i64 14] ?_; (with_reducible refine (spec_l1Cur_pick.calls g s0_0 x1001_1 x1002_1 14 t124 t125 t126 w0 _ ?_ ?_ A12.out).mono ?_); exact st49_0 HI0.out; exact bl49_0 HB.out HI0.out; rintro e w28 ⟨rfl, hi, hb, hk⟩; refine ⟨_, rfl, ?_⟩; replace HO_5 := rK (IsS49.apart (show IsS49 w0 _ g s0_0 x1001_1 x1002_1 from by exact st49_0 HI0.out) (Kd.R_g HO_5.out) (by decide)) hk; replace HK := kT (by exact kb49_0 HK.out) hk; replace HI0 := mkA (hi); replace HB := mkA (hb); clear hb hk hi))
      go_loopg [5] k1 (fun kq v5 w' => ∃ (x5_2 : List (S37)) (x1001_2 : Int) (x1002_2 : Int), Fc (spec_l1Cur_intervals.l1 kq x5_2 s0_0 x1001_2 x1002_2 = some (r1, r2, r3)) ∧ Fc (kq ≤ k1) ∧ Fc (Kd.R k37 37 w' w.heap.size (fun _ => True) v5 x5_2) ∧ Fc (IsS49 w0 w' g s0_0 x1001_2 x1002_2) ∧ Fc (KeepBut w w' g none) ∧ Fc (Below w0.heap.size w0 w'))
      case atStart => exact ⟨(([] : List (S37))), (t125), (t126), H', ⟨Nat.le_refl _⟩, ⟨nilE⟩, ⟨by exact st49_0 HI0.out⟩, ⟨by exact kb49_0 HK.out⟩, ⟨by exact bl49_0 HB.out HI0.out⟩⟩
      case round =>
       clear H'
       try clear c5
       try clear c5b0
       try clear c8
       try clear c13
       try clear c13b0
       try clear c13b1
       try clear c16
       try clear c27
       try clear c27b0
       try clear c27b1
       obtain ⟨x5_2, x1001_2, x1002_2, HA, HK2, HO_5, HI0, HK, HB⟩ := hrel
       cases gk with
       | zero => exact absurd HA.out (by simp [spec_l1Cur_intervals.l1])
       | succ k2 =>
        have H := HA.out
        clear HA
        simp only [spec_l1Cur_intervals.l1] at H
        obtain ⟨⟨t142, t143, t144⟩, A29, H⟩ := obE H
        dsimp only at H
        rcases iteE H with ⟨c30b0, H⟩ | ⟨c30b0, H⟩
        ·obtain ⟨c31, H⟩ := itNP H
         have LMc31 := mkA c31
         clear c31
         obtain ⟨y145, hy145⟩ : ∃ y_ : List (S37), y_ = (x5_2 ++ [(⟨wrap64 ((x5_2.length : Int) / 2), 3⟩ : S37)]) := ⟨_, rfl⟩
         rw [← hy145] at H
         have Ny145 := mkA hy145
         clear hy145
         have H' := mkA H
         clear H
         obtain ⟨Ao32, co32, rfl⟩ := Kd.R_slice HO_5.out
         go_wp2_with (first | ((with_reducible refine gate_callee (f := 18) rfl ?_); refine goesQ (some 47) Tryd.func18 #[.pointer (some ⟨g, 0, none⟩), .int .i64 2] ?_; (with_reducible refine (spec_l1Cur_pick.calls g s0_0 x1001_2 x1002_2 2 t142 t143 t144 w0 _ ?_ ?_ A29.out).mono ?_); exact st49_0 HI0.out; exact bl49_0 HB.out HI0.out; rintro e w33 ⟨rfl, hi, hb, hk⟩; refine ⟨_, rfl, ?_⟩; replace HO_5 := rK (IsS49.apart (show IsS49 w0 _ g s0_0 x1001_2 x1002_2 from by exact st49_0 HI0.out) (Kd.R_g HO_5.out) (by decide)) hk; replace HK := kT (by exact kb49_0 HK.out) hk; replace HI0 := mkA (hi); replace HB := mkA (hb); clear hb hk hi) | ((with_reducible refine gate_builtin (b := .append) (xs := #[.tmp 50, .tmp 55]) rfl ?_); at_builtin; refine Kd.R_append k37 w.heap.size rfl (.tmp 50) (.tmp 55) 24 37 (.agg #[(.int .i64 0), (.int .i64 0)]) 16 rfl Tryd.underlying24 info37 rfl (by decide) (by omega) (.slice Ao32 x5_2.length co32) x5_2 (⟨wrap64 ((x5_2.length : Int) / 2), 3⟩ : S37) [.int .i64 (wrap64 ((x5_2.length : Int) / 2)), .int .i64 3] (fun _ => True) (fun _ => False) rfl rfl ?aP (fun _ hk => hk.elim) ?aF ?aO (Below.refl _ _) ?aS ?aL ?_; (case aP => exact k37_mkM _ _ _ (⟨wrap64 ((x5_2.length : Int) / 2), 3⟩ : S37)); (case aF => exact (fun _ _ => trivial)); (case aO => exact (Kd.R_g HO_5.out)); (case aS => exact (keep_size (w := w) (g := g) (row := none) (by exact kb49_0 HK.out))); (case aL => have := LMc31.out; omega); intro v146 w34 ho hb hg hat; rw [← Ny145.out] at ho; replace HK := mkA (KeepBut.trans (by exact kb49_0 HK.out) (KeepBut.of_grown hg g) (Kd.R_base2 HO_5.out)); have HO147 := mkA (ho); replace HB := mkA (below_weaken (by exact bl49_0 HB.out HI0.out) HL.out hb); replace HI0 := mkA (IsS49.grown (by exact st49_0 HI0.out) hg (IsS49.own_ne HI0.out HO_5.out (by decide))); clear HO_5; clear ho hb hg hat))
         go_roundg k2
         case measure => have := HK1.out; have := HK2.out; omega
         case rel => exact ⟨(y145), (t143), (t144), H', ⟨by have := HK1.out; have := HK2.out; omega⟩, rg HO147, ⟨by exact st49_0 HI0.out⟩, ⟨by exact kb49_0 HK.out⟩, ⟨by exact bl49_0 HB.out HI0.out⟩⟩
        ·simp only [Option.some.injEq, Prod.mk.injEq] at H
         obtain ⟨rfl, rfl, rfl⟩ := H
         obtain ⟨Ao35, co35, rfl⟩ := Kd.R_slice HO_5.out
         go_wp2_with (first | ((with_reducible refine gate_callee (f := 18) rfl ?_); refine goesQ (some 47) Tryd.func18 #[.pointer (some ⟨g, 0, none⟩), .int .i64 2] ?_; (with_reducible refine (spec_l1Cur_pick.calls g s0_0 x1001_2 x1002_2 2 t142 t143 t144 w0 _ ?_ ?_ A29.out).mono ?_); exact st49_0 HI0.out; exact bl49_0 HB.out HI0.out; rintro e w36 ⟨rfl, hi, hb, hk⟩; refine ⟨_, rfl, ?_⟩; replace HO_5 := rK (IsS49.apart (show IsS49 w0 _ g s0_0 x1001_2 x1002_2 from by exact st49_0 HI0.out) (Kd.R_g HO_5.out) (by decide)) hk; replace HK := kT (by exact kb49_0 HK.out) hk; replace HI0 := mkA (hi); replace HB := mkA (hb); clear hb hk hi))
         go_ret
         exact ⟨_, eqE, Kd.R_g HO_5.out, by exact st49_0 HI0.out, by exact bl49_0 HB.out HI0.out, by exact kb49_0 HK.out⟩
     ·have c27b0 := beq_eq_false_iff_ne.mpr c27
      have c27b1 := bne_iff_ne.mpr c27
      simp only [Option.some.injEq, Prod.mk.injEq] at H
      obtain ⟨rfl, rfl, rfl⟩ := H
      go_wp2_with (first | ((with_reducible refine gate_callee (f := 18) rfl ?_); refine goesQ (some 29) Tryd.func18 #[.pointer (some ⟨g, 0, none⟩), .int .i64 14] ?_; (with_reducible refine (spec_l1Cur_pick.calls g s0_0 x1001_1 x1002_1 14 t124 t125 t126 w0 _ ?_ ?_ A12.out).mono ?_); exact st49_0 HI0.out; exact bl49_0 HB.out HI0.out; rintro e w37 ⟨rfl, hi, hb, hk⟩; refine ⟨_, rfl, ?_⟩; replace HO_5 := rK (IsS49.apart (show IsS49 w0 _ g s0_0 x1001_1 x1002_1 from by exact st49_0 HI0.out) (Kd.R_g HO_5.out) (by decide)) hk; replace HK := kT (by exact kb49_0 HK.out) hk; replace HI0 := mkA (hi); replace HB := mkA (hb); clear hb hk hi))
      go_ret
      exact ⟨_, eqE, Kd.R_g HO_5.out, by exact st49_0 HI0.out, by exact bl49_0 HB.out HI0.out, by exact kb49_0 HK.out⟩
end Go.Proofs.YtlfjnllnddpgoaaDoor.Q
