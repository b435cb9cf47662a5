import Derived.Test.YtcalgdljcphjaaaDoorBFnStairs1
namespace Go.Proofs.YtcalgdljcphjaaaDoor.Q
open Go.RowKit Go.Proofs.YtcalgdljcphjaaaDoorW.PrintWords Go.Proofs.YtcalgdljcphjaaaDoorW.PrintLast Go.Proofs.YtcalgdljcphjaaaDoorW.PrintMore
attribute [local go_sem] max2_int min2_int max_two min_two max_three min_three max_four min_four neB_f
set_option linter.unusedVariables false
set_option maxHeartbeats 8000000
set_option maxRecDepth 100000
set_option linter.unusedSimpArgs false
mutual
def spec_l1Cur_stair.l0 : Nat → List Int → Int → Int → List Int → Int → Int → Option (List Int × Int × Int)
 | 0, _, _, _, _, _, _ => none
 | k + 1, x3, x4, x5, x1000, x1001, x1002 => if x5 > 0 then ((spec_l1Least.f 3 (wrap64 ((wrap64 ((x3.length : Int) - x4)) + 1))).bind fun t121 => ((spec_l1Cur_pick.f x1000 x1001 x1002 t121).bind fun bt122 => (if x3.length < 17592186044416 then (spec_l1Cur_stair.l0 k (x3 ++ [wrap64 (x4 + bt122.1)]) (wrap64 (x4 + bt122.1)) (wrap64 (x5 - 1)) x1000 bt122.2.1 bt122.2.2) else (none)))) else ((spec_l1Cur_pick.f x1000 x1001 x1002 16).bind fun bt128 => (if bt128.1 = 0 then ((spec_l1Cur_among.f x1000 bt128.2.1 bt128.2.2 (([(-1), 0, wrap64 ((x3.length : Int) + 1), (x3.length : Int)] : List Int))).bind fun bt134 => (if x3.length < 17592186044416 then (some ((x3 ++ [bt134.1]), bt134.2.1, bt134.2.2)) else (none))) else (if bt128.1 = 1 then (spec_l1Cur_stair.l1 k x3 x4 x1000 bt128.2.1 bt128.2.2) else (some (x3, bt128.2.1, bt128.2.2)))))
def spec_l1Cur_stair.l1 : Nat → List Int → Int → List Int → Int → Int → Option (List Int × Int × Int)
 | 0, _, _, _, _, _ => none
 | k + 1, x3, x4, x1000, x1001, x1002 => if (x3.length : Int) < 11 then (if x3.length < 17592186044416 then (spec_l1Cur_stair.l1 k (x3 ++ [x4]) x4 x1000 x1001 x1002) else (none)) else (some (x3, x1001, x1002))
end
def spec_l1Cur_stair.f (k : Nat) (s0_0 : List Int) (s0_1 : Int) (s0_2 : Int) : Option (List Int × Int × Int) := (spec_l1Cur_among.f s0_0 s0_1 s0_2 (([4, 7, 11] : List Int))).bind fun bt115 => ((spec_l1Cur_pick.f s0_0 bt115.2.1 bt115.2.2 bt115.1).bind fun bt118 => (spec_l1Cur_stair.l0 k ([] : List Int) 0 bt118.1 s0_0 bt118.2.1 bt118.2.2))
theorem spec_l1Cur_stair.mono_l : ∀ k, (∀ y0 y1 y2 y3 y4 y5, LeO (spec_l1Cur_stair.l0 k y0 y1 y2 y3 y4 y5) (spec_l1Cur_stair.l0 (k + 1) y0 y1 y2 y3 y4 y5)) ∧ (∀ y0 y1 y2 y3 y4, LeO (spec_l1Cur_stair.l1 k y0 y1 y2 y3 y4) (spec_l1Cur_stair.l1 (k + 1) y0 y1 y2 y3 y4))
 | 0 => ⟨fun _ _ _ _ _ _ r h => by simp [spec_l1Cur_stair.l0] at h, fun _ _ _ _ _ r h => by simp [spec_l1Cur_stair.l1] at h⟩
 | k + 1 => by
  obtain ⟨ih0, ih1⟩ := spec_l1Cur_stair.mono_l k
  refine ⟨?_, ?_⟩ <;> intros
  unfold spec_l1Cur_stair.l0
  rotate_left
  unfold spec_l1Cur_stair.l1
  rotate_left
  all_goals repeat' (with_reducible first|apply ih0|apply ih1|apply LeO.refl|apply LeO.none|apply LeO.ite|apply LeO.bind|intro)
theorem spec_l1Cur_stair.mono : ∀ a0 a1 a2 k, LeO (spec_l1Cur_stair.f k a0 a1 a2) (spec_l1Cur_stair.f (k + 1) a0 a1 a2) := by
 intro a0 a1 a2 k
 obtain ⟨ih0, ih1⟩ := spec_l1Cur_stair.mono_l k
 unfold spec_l1Cur_stair.f
 repeat' (with_reducible first|apply ih0|apply ih1|apply LeO.refl|apply LeO.none|apply LeO.ite|apply LeO.bind|intro)
theorem spec_l1Cur_stair.calls (k : Nat) (g : Nat) (s0_0 : List Int) (s0_1 : Int) (s0_2 : Int) (r1 : List Int) (r2 : Int) (r3 : Int) (w0 w : World) (hI : IsS56 w0 w g s0_0 s0_1 s0_2) (hB : Below w0.heap.size w0 w) (h : spec_l1Cur_stair.f k s0_0 s0_1 s0_2 = some (r1, r2, r3)) :
  Calls Tryd.prog 40 #[.pointer (some ⟨g, 0, none⟩)] w fun e w' => ∃ v0_ : Value, e = .returned (v0_) ∧ Kd.R (Kd.int .i64) 3 w' w.heap.size (fun _ => True) v0_ r1 ∧ IsS56 w0 w' g s0_0 r2 r3 ∧ Below w0.heap.size w0 w' ∧ KeepBut w w' g none := by
 have HI0 := mkA hI
 have HK := mkA (KeepBut.refl w g none)
 have HL := mkA hB.size
 clear hI
 have HW0 := mkA hB.size
 have HB := mkA hB
 clear hB
 have H := h
 clear h
 unfold spec_l1Cur_stair.f at H
 obtain ⟨y112, hy112⟩ : ∃ y_ : List Int, y_ = (([4, 7, 11] : List Int)) := ⟨_, rfl⟩
 rw [← hy112] at H
 have Ny112 := mkA hy112
 clear hy112
 obtain ⟨⟨t115, t116, t117⟩, A2, H⟩ := obE H
 dsimp only at H
 obtain ⟨⟨t118, t119, t120⟩, A3, H⟩ := obE H
 dsimp only at H
 have H' := mkA H
 clear H
 go_enter Tryd.func40, Tryd.ntmps40
 go_wp2_with (first | ((with_reducible refine gate_dst (N := 8) rfl ?_); refine litE (Kd.int .i64) 3 ([4, 7, 11] : List Int) [.int .i64 4, .int .i64 7, .int .i64 11] ?hp ?_; (case hp => exact (Reps.one (show Kd.M (Kd.int .i64) _ _ _ 4 [.int .i64 4] from rfl) (Reps.one (show Kd.M (Kd.int .i64) _ _ _ 7 [.int .i64 7] from rfl) (Reps.one (show Kd.M (Kd.int .i64) _ _ _ 11 [.int .i64 11] from rfl) (Reps.none _ _))))); intro v113 w4 ho5 hb hg_ hnew_; clear hg_ hnew_; (first | rw [← Ny112.out] at ho5 | (simp only [Int.reduceToNat] at ho5; rw [← Ny112.out] at ho5)); have HO114 := mkA (Kd.R_lower ho5 (keep_size (w := w) (g := g) (row := none) (by exact kb56_0 HK.out))); replace HK := kU (g := g) (by exact kb56_0 HK.out) hb; replace HB := mkA (below_step (by exact bl56_0 HB.out HI0.out) hb); replace HI0 := mkA (IsS56.below (by exact st56_0 HI0.out) hb); clear hb ho5; obtain ⟨Ao6, co6, rfl⟩ := Kd.R_slice HO114.out) | ((with_reducible refine gate_callee (f := 35) rfl ?_); refine goesQ (some 9) Tryd.func35 #[.pointer (some ⟨g, 0, none⟩), .slice Ao6 y112.length co6] ?_; (with_reducible refine (spec_l1Cur_among.calls g s0_0 s0_1 s0_2 _ _ y112 t115 t116 t117 w0 _ ?_ ?_ ?_ ?_ ?_ A2.out).mono ?_); exact st56_0 HI0.out; exact bl56_0 HB.out HI0.out; exact rC HO114; exact rL HO114; exact far_slice (IsS56.own_ne HI0.out HO114.out (by decide)); rintro e w7 ⟨rfl, hi, hb, hk⟩; refine ⟨_, rfl, ?_⟩; replace HO114 := rK (IsS56.apart (show IsS56 w0 _ g s0_0 s0_1 s0_2 from by exact st56_0 HI0.out) (Kd.R_g HO114.out) (by decide)) hk; replace HK := kT (by exact kb56_0 HK.out) hk; replace HI0 := mkA (hi); replace HB := mkA (hb); clear hb hk hi) | ((with_reducible refine gate_callee (f := 51) rfl ?_); refine goesQ (some 10) Tryd.func51 #[.pointer (some ⟨g, 0, none⟩), .int .i64 t115] ?_; (with_reducible refine (spec_l1Cur_pick.calls g s0_0 t116 t117 t115 t118 t119 t120 w0 _ ?_ ?_ A3.out).mono ?_); exact st56_0 HI0.out; exact bl56_0 HB.out HI0.out; rintro e w8 ⟨rfl, hi, hb, hk⟩; refine ⟨_, rfl, ?_⟩; replace HO114 := rK (IsS56.apart (show IsS56 w0 _ g s0_0 t116 t117 from by exact st56_0 HI0.out) (Kd.R_g HO114.out) (by decide)) hk; replace HK := kT (by exact kb56_0 HK.out) hk; replace HI0 := mkA (hi); replace HB := mkA (hb); clear hb hk hi))
 go_loopg [3, 4, 5] k (fun kq v3 v4 v5 w' => ∃ (x3_1 : List Int) (x4_1 : Int) (x5_1 : Int) (x1001_1 : Int) (x1002_1 : Int), v4 = .int .i64 x4_1 ∧ v5 = .int .i64 x5_1 ∧ Fc (spec_l1Cur_stair.l0 kq x3_1 x4_1 x5_1 s0_0 x1001_1 x1002_1 = some (r1, r2, r3)) ∧ Fc (kq ≤ k) ∧ Fc (Kd.R (Kd.int .i64) 3 w' w.heap.size (fun _ => True) v3 x3_1) ∧ Fc (IsS56 w0 w' g s0_0 x1001_1 x1002_1) ∧ Fc (KeepBut w w' g none) ∧ Fc (Below w0.heap.size w0 w'))
 case atStart => exact ⟨(([] : List Int)), (0), (t118), (t119), (t120), eqS, eqS, H', ⟨Nat.le_refl _⟩, ⟨nilE⟩, ⟨by exact st56_0 HI0.out⟩, ⟨by exact kb56_0 HK.out⟩, ⟨by exact bl56_0 HB.out HI0.out⟩⟩
 case round =>
  clear H'
  obtain ⟨x3_1, x4_1, x5_1, x1001_1, x1002_1, rfl, rfl, HA, HK1, HO_3, HI0, HK, HB⟩ := hrel
  cases gk with
  | zero => exact absurd HA.out (by simp [spec_l1Cur_stair.l0])
  | succ k1 =>
   have H := HA.out
   clear HA
   simp only [spec_l1Cur_stair.l0] at H
   rcases iteP H with ⟨c9, H⟩ | ⟨c9, H⟩
   ·have c9b0 := decide_eq_true c9
    clear c9
    obtain ⟨t121, A10, H⟩ := obE H
    obtain ⟨⟨t122, t123, t124⟩, A11, H⟩ := obE H
    dsimp only at H
    obtain ⟨c12, H⟩ := itNP H
    have LMc12 := mkA c12
    clear c12
    obtain ⟨y125, hy125⟩ : ∃ y_ : List Int, y_ = (x3_1 ++ [wrap64 (x4_1 + t122)]) := ⟨_, rfl⟩
    rw [← hy125] at H
    have Ny125 := mkA hy125
    clear hy125
    have H' := mkA H
    clear H
    obtain ⟨Ao13, co13, rfl⟩ := Kd.R_slice HO_3.out
    go_wp2_with (first | ((with_reducible refine gate_callee (f := 54) rfl ?_); refine goesQ (some 22) Tryd.func54 #[.int .i64 3, .int .i64 (wrap64 ((wrap64 ((x3_1.length : Int) - x4_1)) + 1))] ?_; (with_reducible refine (spec_l1Least.calls 3 (wrap64 ((wrap64 ((x3_1.length : Int) - x4_1)) + 1)) t121 _ A10.out).mono ?_); rintro e w' ⟨rfl, ⟨nd, rfl⟩⟩; refine ⟨_, rfl, ?_⟩) | ((with_reducible refine gate_callee (f := 51) rfl ?_); refine goesQ (some 23) Tryd.func51 #[.pointer (some ⟨g, 0, none⟩), .int .i64 t121] ?_; (with_reducible refine (spec_l1Cur_pick.calls g s0_0 x1001_1 x1002_1 t121 t122 t123 t124 w0 _ ?_ ?_ A11.out).mono ?_); exact st56_0 HI0.out; exact bl56_0 HB.out HI0.out; rintro e w14 ⟨rfl, hi, hb, hk⟩; refine ⟨_, rfl, ?_⟩; replace HO_3 := rK (IsS56.apart (show IsS56 w0 _ g s0_0 x1001_1 x1002_1 from by exact st56_0 HI0.out) (Kd.R_g HO_3.out) (by decide)) hk; replace HK := kT (by exact kb56_0 HK.out) hk; replace HI0 := mkA (hi); replace HB := mkA (hb); clear hb hk hi) | ((with_reducible refine gate_builtin (b := .append) (xs := #[.tmp 25, .tmp 27]) rfl ?_); at_builtin; refine Kd.R_append (Kd.int .i64) w.heap.size rfl (.tmp 25) (.tmp 27) 24 3 (.int .i64 0) 8 rfl Tryd.underlying24 info3 rfl (by decide) (by omega) (.slice Ao13 x3_1.length co13) x3_1 (wrap64 (x4_1 + t122)) [.int .i64 (wrap64 (x4_1 + t122))] (fun _ => True) (fun _ => False) rfl rfl ?aP (fun _ hk => hk.elim) ?aF ?aO (Below.refl _ _) ?aS ?aL ?_; (case aP => exact rfl); (case aF => exact (fun _ _ => trivial)); (case aO => exact (Kd.R_g HO_3.out)); (case aS => exact (keep_size (w := w) (g := g) (row := none) (by exact kb56_0 HK.out))); (case aL => have := LMc12.out; omega); intro v126 w15 ho hb hg hat; rw [← Ny125.out] at ho; replace HK := mkA (KeepBut.trans (by exact kb56_0 HK.out) (KeepBut.of_grown hg g) (Kd.R_base2 HO_3.out)); have HO127 := mkA (ho); replace HB := mkA (below_weaken (by exact bl56_0 HB.out HI0.out) HL.out hb); replace HI0 := mkA (IsS56.grown (by exact st56_0 HI0.out) hg (IsS56.own_ne HI0.out HO_3.out (by decide))); clear HO_3; clear ho hb hg hat))
    go_roundg k1
    case measure => have := HK1.out; omega
    case rel => exact ⟨(y125), (wrap64 (x4_1 + t122)), (wrap64 (x5_1 - 1)), (t123), (t124), eqS, eqS, H', ⟨by have := HK1.out; omega⟩, rg HO127, ⟨by exact st56_0 HI0.out⟩, ⟨by exact kb56_0 HK.out⟩, ⟨by exact bl56_0 HB.out HI0.out⟩⟩
   ·have c9b0 := decide_eq_false c9
    clear c9
    obtain ⟨⟨t128, t129, t130⟩, A16, H⟩ := obE H
    dsimp only at H
    rcases iteP H with ⟨c17, H⟩ | ⟨c17, H⟩
    ·have c17b0 := beq_iff_eq.mpr c17
     have c17b1 := bne_eq_false_iff_eq.mpr c17
     clear c17
     obtain ⟨y131, hy131⟩ : ∃ y_ : List Int, y_ = (([(-1), 0, wrap64 ((x3_1.length : Int) + 1), (x3_1.length : Int)] : List Int)) := ⟨_, rfl⟩
     rw [← hy131] at H
     have Ny131 := mkA hy131
     clear hy131
     obtain ⟨⟨t134, t135, t136⟩, A18, H⟩ := obE H
     dsimp only at H
     obtain ⟨c19, H⟩ := itNP H
     have LMc19 := mkA c19
     clear c19
     obtain ⟨y137, hy137⟩ : ∃ y_ : List Int, y_ = (x3_1 ++ [t134]) := ⟨_, rfl⟩
     rw [← hy137] at H
     have Ny137 := mkA hy137
     clear hy137
     simp only [Option.some.injEq, Prod.mk.injEq] at H
     obtain ⟨rfl, rfl, rfl⟩ := H
     go_wp2_with (first | ((with_reducible refine gate_callee (f := 51) rfl ?_); refine goesQ (some 30) Tryd.func51 #[.pointer (some ⟨g, 0, none⟩), .int .i64 16] ?_; (with_reducible refine (spec_l1Cur_pick.calls g s0_0 x1001_1 x1002_1 16 t128 t129 t130 w0 _ ?_ ?_ A16.out).mono ?_); exact st56_0 HI0.out; exact bl56_0 HB.out HI0.out; rintro e w20 ⟨rfl, hi, hb, hk⟩; refine ⟨_, rfl, ?_⟩; replace HO_3 := rK (IsS56.apart (show IsS56 w0 _ g s0_0 x1001_1 x1002_1 from by exact st56_0 HI0.out) (Kd.R_g HO_3.out) (by decide)) hk; replace HK := kT (by exact kb56_0 HK.out) hk; replace HI0 := mkA (hi); replace HB := mkA (hb); clear hb hk hi; obtain ⟨Ao21, co21, rfl⟩ := Kd.R_slice HO_3.out) | ((with_reducible refine gate_dst (N := 40) rfl ?_); refine litE (Kd.int .i64) 3 ([(-1), 0, wrap64 ((x3_1.length : Int) + 1), (x3_1.length : Int)] : List Int) [.int .i64 (-1), .int .i64 0, .int .i64 (wrap64 ((x3_1.length : Int) + 1)), .int .i64 (x3_1.length : Int)] ?hp ?_; (case hp => exact (Reps.one (show Kd.M (Kd.int .i64) _ _ _ (-1) [.int .i64 (-1)] from rfl) (Reps.one (show Kd.M (Kd.int .i64) _ _ _ 0 [.int .i64 0] from rfl) (Reps.one (show Kd.M (Kd.int .i64) _ _ _ (wrap64 ((x3_1.length : Int) + 1)) [.int .i64 (wrap64 ((x3_1.length : Int) + 1))] from rfl) (Reps.one (show Kd.M (Kd.int .i64) _ _ _ (x3_1.length : Int) [.int .i64 (x3_1.length : Int)] from rfl) (Reps.none _ _)))))); intro v132 w22 ho23 hb hg_ hnew_; clear hg_ hnew_; (first | rw [← Ny131.out] at ho23 | (simp only [Int.reduceToNat] at ho23; rw [← Ny131.out] at ho23)); have HO133 := mkA (Kd.R_lower (rN ho23 HO_3) (keep_size (w := w) (g := g) (row := none) (by exact kb56_0 HK.out))); replace HO_3 := rE HO_3 ho23 hb; replace HK := kU (g := g) (by exact kb56_0 HK.out) hb; replace HB := mkA (below_step (by exact bl56_0 HB.out HI0.out) hb); replace HI0 := mkA (IsS56.below (by exact st56_0 HI0.out) hb); clear hb ho23; obtain ⟨Ao24, co24, rfl⟩ := Kd.R_slice HO133.out) | ((with_reducible refine gate_callee (f := 35) rfl ?_); refine goesQ (some 41) Tryd.func35 #[.pointer (some ⟨g, 0, none⟩), .slice Ao24 y131.length co24] ?_; (with_reducible refine (spec_l1Cur_among.calls g s0_0 t129 t130 _ _ y131 t134 t135 t136 w0 _ ?_ ?_ ?_ ?_ ?_ A18.out).mono ?_); exact st56_0 HI0.out; exact bl56_0 HB.out HI0.out; exact rC HO133; exact rL HO133; exact far_slice (IsS56.own_ne HI0.out HO133.out (by decide)); rintro e w25 ⟨rfl, hi, hb, hk⟩; refine ⟨_, rfl, ?_⟩; replace HO_3 := rK (IsS56.apart (show IsS56 w0 _ g s0_0 t129 t130 from by exact st56_0 HI0.out) (Kd.R_g HO_3.out) (by decide)) hk; replace HO133 := rK (IsS56.apart (show IsS56 w0 _ g s0_0 t129 t130 from by exact st56_0 HI0.out) (Kd.R_g HO133.out) (by decide)) hk; replace HK := kT (by exact kb56_0 HK.out) hk; replace HI0 := mkA (hi); replace HB := mkA (hb); clear hb hk hi) | ((with_reducible refine gate_builtin (b := .append) (xs := #[.tmp 33, .tmp 42]) rfl ?_); at_builtin; refine Kd.R_append (Kd.int .i64) w.heap.size rfl (.tmp 33) (.tmp 42) 24 3 (.int .i64 0) 8 rfl Tryd.underlying24 info3 rfl (by decide) (by omega) (.slice Ao21 x3_1.length co21) x3_1 t134 [.int .i64 t134] (fun k_ => some k_ ≠ (.slice Ao24 y131.length co24 : Value).ownBlock) (fun _ => False) rfl rfl ?aP (fun _ hk => hk.elim) ?aF ?aO (Below.refl _ _) ?aS ?aL ?_; (case aP => exact rfl); (case aF => exact (fun k_ hk => Kd.fresh' (Kd.R_lt (Kd.R_g HO133.out)) k_ hk)); (case aO => exact (Kd.R_g (Kd.R_mono HO_3.out (fun _ hk => hk.2)))); (case aS => exact (keep_size (w := w) (g := g) (row := none) (by exact kb56_0 HK.out))); (case aL => have := LMc19.out; omega); intro v138 w26 ho hb hg hat; rw [← Ny137.out] at ho; replace HO133 := mkA (Kd.R_after (ok := (fun _ => True)) (Kd.R_g HO133.out) hg hat); replace HK := mkA (KeepBut.trans (by exact kb56_0 HK.out) (KeepBut.of_grown hg g) (Kd.R_base2 HO_3.out)); have HO139 := mkA (ho); replace HB := mkA (below_weaken (by exact bl56_0 HB.out HI0.out) HL.out hb); replace HI0 := mkA (IsS56.grown (by exact st56_0 HI0.out) hg (IsS56.own_ne HI0.out HO_3.out (by decide))); clear HO_3; clear ho hb hg hat))
     go_ret
     exact ⟨_, eqE, Kd.R_g (Kd.R_mono HO139.out (fun _ hk => trivial)), by exact st56_0 HI0.out, by exact bl56_0 HB.out HI0.out, by exact kb56_0 HK.out⟩
    ·have c17b0 := beq_eq_false_iff_ne.mpr c17
     have c17b1 := bne_iff_ne.mpr c17
     rcases iteP H with ⟨c27, H⟩ | ⟨c27, H⟩
     ·have c27b0 := beq_iff_eq.mpr c27
      have c27b1 := bne_eq_false_iff_eq.mpr c27
      clear c27
      have H' := mkA H
      clear H
      go_wp2_with (first | ((with_reducible refine gate_callee (f := 51) rfl ?_); refine goesQ (some 30) Tryd.func51 #[.pointer (some ⟨g, 0, none⟩), .int .i64 16] ?_; (with_reducible refine (spec_l1Cur_pick.calls g s0_0 x1001_1 x1002_1 16 t128 t129 t130 w0 _ ?_ ?_ A16.out).mono ?_); exact st56_0 HI0.out; exact bl56_0 HB.out HI0.out; rintro e w28 ⟨rfl, hi, hb, hk⟩; refine ⟨_, rfl, ?_⟩; replace HO_3 := rK (IsS56.apart (show IsS56 w0 _ g s0_0 x1001_1 x1002_1 from by exact st56_0 HI0.out) (Kd.R_g HO_3.out) (by decide)) hk; replace HK := kT (by exact kb56_0 HK.out) hk; replace HI0 := mkA (hi); replace HB := mkA (hb); clear hb hk hi))
      go_loopg [3] k1 (fun kq v3 w' => ∃ (x3_2 : List Int), Fc (spec_l1Cur_stair.l1 kq x3_2 x4_1 s0_0 t129 t130 = some (r1, r2, r3)) ∧ Fc (kq ≤ k1) ∧ Fc (Kd.R (Kd.int .i64) 3 w' w.heap.size (fun _ => True) v3 x3_2) ∧ Fc (IsS56 w0 w' g s0_0 t129 t130) ∧ Fc (KeepBut w w' g none) ∧ Fc (Below w0.heap.size w0 w'))
      case atStart => exact ⟨(x3_1), H', ⟨Nat.le_refl _⟩, rg HO_3, ⟨by exact st56_0 HI0.out⟩, ⟨by exact kb56_0 HK.out⟩, ⟨by exact bl56_0 HB.out HI0.out⟩⟩
      case round =>
       clear H'
       try clear c9
       try clear c9b0
       try clear c12
       try clear c17
       try clear c17b0
       try clear c17b1
       try clear c19
       try clear c27
       try clear c27b0
       try clear c27b1
       obtain ⟨x3_2, HA, HK2, HO_3, HI0, HK, HB⟩ := hrel
       cases gk with
       | zero => exact absurd HA.out (by simp [spec_l1Cur_stair.l1])
       | succ k2 =>
        have H := HA.out
        clear HA
        simp only [spec_l1Cur_stair.l1] at H
        rcases iteP H with ⟨c29, H⟩ | ⟨c29, H⟩
        ·have c29b0 := decide_eq_true c29
         have c29b1 : decide (x3_2.length < 11) = true := decide_eq_true (by omega)
         clear c29
         obtain ⟨c30, H⟩ := itNP H
         have LMc30 := mkA c30
         clear c30
         obtain ⟨y140, hy140⟩ : ∃ y_ : List Int, y_ = (x3_2 ++ [x4_1]) := ⟨_, rfl⟩
         rw [← hy140] at H
         have Ny140 := mkA hy140
         clear hy140
         have H' := mkA H
         clear H
         obtain ⟨Ao31, co31, rfl⟩ := Kd.R_slice HO_3.out
         go_wp2_with (first | ((with_reducible refine gate_builtin (b := .append) (xs := #[.tmp 49, .tmp 51]) rfl ?_); at_builtin; refine Kd.R_append (Kd.int .i64) w.heap.size rfl (.tmp 49) (.tmp 51) 24 3 (.int .i64 0) 8 rfl Tryd.underlying24 info3 rfl (by decide) (by omega) (.slice Ao31 x3_2.length co31) x3_2 x4_1 [.int .i64 x4_1] (fun _ => True) (fun _ => False) rfl rfl ?aP (fun _ hk => hk.elim) ?aF ?aO (Below.refl _ _) ?aS ?aL ?_; (case aP => exact rfl); (case aF => exact (fun _ _ => trivial)); (case aO => exact (Kd.R_g HO_3.out)); (case aS => exact (keep_size (w := w) (g := g) (row := none) (by exact kb56_0 HK.out))); (case aL => have := LMc30.out; omega); intro v141 w32 ho hb hg hat; rw [← Ny140.out] at ho; replace HK := mkA (KeepBut.trans (by exact kb56_0 HK.out) (KeepBut.of_grown hg g) (Kd.R_base2 HO_3.out)); have HO142 := mkA (ho); replace HB := mkA (below_weaken (by exact bl56_0 HB.out HI0.out) HL.out hb); replace HI0 := mkA (IsS56.grown (by exact st56_0 HI0.out) hg (IsS56.own_ne HI0.out HO_3.out (by decide))); clear HO_3; clear ho hb hg hat))
         go_roundg k2
         case measure => have := HK1.out; have := HK2.out; omega
         case rel => exact ⟨(y140), H', ⟨by have := HK1.out; have := HK2.out; omega⟩, rg HO142, ⟨by exact st56_0 HI0.out⟩, ⟨by exact kb56_0 HK.out⟩, ⟨by exact bl56_0 HB.out HI0.out⟩⟩
        ·have c29b0 := decide_eq_false c29
         have c29b1 : decide (x3_2.length < 11) = false := decide_eq_false (by omega)
         clear c29
         simp only [Option.some.injEq, Prod.mk.injEq] at H
         obtain ⟨rfl, rfl, rfl⟩ := H
         obtain ⟨Ao33, co33, rfl⟩ := Kd.R_slice HO_3.out
         go_wp2
         go_ret
         exact ⟨_, eqE, Kd.R_g HO_3.out, by exact st56_0 HI0.out, by exact bl56_0 HB.out HI0.out, by exact kb56_0 HK.out⟩
     ·have c27b0 := beq_eq_false_iff_ne.mpr c27
      have c27b1 := bne_iff_ne.mpr c27
      simp only [Option.some.injEq, Prod.mk.injEq] at H
      obtain ⟨rfl, rfl, rfl⟩ := H
      go_wp2_with (first | ((with_reducible refine gate_callee (f := 51) rfl ?_); refine goesQ (some 30) Tryd.func51 #[.pointer (some ⟨g, 0, none⟩), .int .i64 16] ?_; (with_reducible refine (spec_l1Cur_pick.calls g s0_0 x1001_1 x1002_1 16 t128 t129 t130 w0 _ ?_ ?_ A16.out).mono ?_); exact st56_0 HI0.out; exact bl56_0 HB.out HI0.out; rintro e w34 ⟨rfl, hi, hb, hk⟩; refine ⟨_, rfl, ?_⟩; replace HO_3 := rK (IsS56.apart (show IsS56 w0 _ g s0_0 x1001_1 x1002_1 from by exact st56_0 HI0.out) (Kd.R_g HO_3.out) (by decide)) hk; replace HK := kT (by exact kb56_0 HK.out) hk; replace HI0 := mkA (hi); replace HB := mkA (hb); clear hb hk hi))
      go_ret
      exact ⟨_, eqE, Kd.R_g HO_3.out, by exact st56_0 HI0.out, by exact bl56_0 HB.out HI0.out, by exact kb56_0 HK.out⟩
def spec_DrawIsStair.f (k : Nat) (l0 : List Int) : Option (List Int) := (spec_l1Cur_stair.f k l0 0 0).bind fun bt144 => (some bt144.1)
theorem spec_DrawIsStair.mono : ∀ a0 k, LeO (spec_DrawIsStair.f k a0) (spec_DrawIsStair.f (k + 1) a0) := by
 intro a0 k
 unfold spec_DrawIsStair.f
 repeat' (with_reducible first|apply spec_l1Cur_stair.mono|apply LeO.refl|apply LeO.none|apply LeO.ite|apply LeO.bind|intro)
theorem spec_DrawIsStair.calls (k : Nat) (A0 : Option Addr) (c0 : Nat) (l0 : List Int) (r : List Int) (w : World) (hr0 : Kd.C (Kd.int .u8) w A0 l0.length l0) (hc0 : l0.length ≤ c0) (h : spec_DrawIsStair.f k l0 = some r) :
  Calls Tryd.prog 23 #[.slice A0 l0.length c0] w fun e w' => ∃ v0_ : Value, e = .returned (v0_) ∧ Kd.R (Kd.int .i64) 3 w' w.heap.size (fun _ => True) v0_ r ∧ Below w.heap.size w w' := by
 have hu56 := Tryd.underlying56
 have HR0 := mkA hr0
 have HC0 := mkA hc0
 clear hr0 hc0
 have HB := mkA (Below.refl w.heap.size w)
 have H := h
 clear h
 unfold spec_DrawIsStair.f at H
 obtain ⟨⟨t144, t147, t148⟩, A2, H⟩ := obE H
 dsimp only at H
 obtain rfl := Option.some.inj H
 go_enter Tryd.func23, Tryd.ntmps23
 go_wp2_with (first | ((with_reducible refine gate_dst (N := 6) rfl ?_); refine boxE (N := 6) (cs := #[.slice A0 l0.length c0, .int .i64 0, .int .u64 0]) (t := 56) ?_; intro gb143 hg w3 hbox hb; have HI143 := mkA ((⟨_, _, hbox, (by rw [hg]; exact (below_size (bel_g HB.out))), HR0.out⟩ : IsS56 w w3 gb143 l0 0 0)); have GE143 := geB HB hg; replace HB := bst HB hb; clear hb hbox hg) | ((with_reducible refine gate_callee (f := 40) rfl ?_); refine goesQ (some 8) Tryd.func40 #[.pointer (some ⟨gb143, 0, none⟩)] ?_; (with_reducible refine (spec_l1Cur_stair.calls k gb143 l0 0 0 t144 t147 t148 w _ ?_ ?_ A2.out).mono ?_); exact st56_0 HI143.out; exact bl56_0 HB.out HI143.out; rintro e w4 ⟨v145, rfl, ho0, hi, hb, hk⟩; refine ⟨_, rfl, ?_⟩; have HO146 := mkA (Kd.R_lower ho0 (below_size (by exact bl56_0 HB.out HI143.out))); replace HI143 := mkA (hi); replace HB := mkA (hb); clear hb hk hi ho0))
 go_ret
 exact ⟨_, eqE, Kd.R_g HO146.out, by exact bl56_0 HB.out HI143.out⟩
def spec_DrawOrderOfStair.f (k : Nat) (l0 : List Int) : Option (List Int) := (spec_DrawIsStair.f k l0).bind fun t149 => (some t149)
theorem spec_DrawOrderOfStair.mono : ∀ a0 k, LeO (spec_DrawOrderOfStair.f k a0) (spec_DrawOrderOfStair.f (k + 1) a0) := by
 intro a0 k
 unfold spec_DrawOrderOfStair.f
 repeat' (with_reducible first|apply spec_DrawIsStair.mono|apply LeO.refl|apply LeO.none|apply LeO.ite|apply LeO.bind|intro)
theorem spec_DrawOrderOfStair.calls (k : Nat) (A0 : Option Addr) (c0 : Nat) (l0 : List Int) (r : List Int) (w : World) (hr0 : Kd.C (Kd.int .u8) w A0 l0.length l0) (hc0 : l0.length ≤ c0) (h : spec_DrawOrderOfStair.f k l0 = some r) :
  Calls Tryd.prog 5 #[.slice A0 l0.length c0] w fun e w' => ∃ v0_ : Value, e = .returned (v0_) ∧ Kd.R (Kd.int .i64) 3 w' w.heap.size (fun _ => True) v0_ r ∧ Below w.heap.size w w' := by
 have HR0 := mkA hr0
 have HC0 := mkA hc0
 clear hr0 hc0
 have HB := mkA (Below.refl w.heap.size w)
 have H := h
 clear h
 unfold spec_DrawOrderOfStair.f at H
 obtain ⟨t149, A2, H⟩ := obE H
 obtain rfl := Option.some.inj H
 go_enter Tryd.func5, Tryd.ntmps5
 go_wp2_with (first | ((with_reducible refine gate_callee (f := 23) rfl ?_); refine goesQ (some 4) Tryd.func23 #[.slice A0 l0.length c0] ?_; (with_reducible refine (spec_DrawIsStair.calls k _ _ l0 t149 _ ?s1 ?s2 A2.out).mono ?_); (case s1 => repeat (first | exact HR0.out | (with_reducible refine Kd.C_alloc ?_ _) | (with_reducible refine Kd.C_drewN ?_ _) | (with_reducible refine Kd.C_drew ?_))); (case s2 => exact HC0.out); rintro e w3 ⟨v150, rfl, ho0, hb⟩; refine ⟨_, rfl, ?_⟩; have HO151 := rLo ho0 HB; replace HB := bst HB hb; clear hb ho0))
 go_ret
 exact ⟨_, eqE, Kd.R_g HO151.out, bel_g HB.out⟩
def impl_within.f (a0 : Int) (a1 : Int) (a2 : Int) : Option (Bool) := if a0 ≥ a1 then (some (decide (a0 ≤ a2))) else (some false)
theorem impl_within.calls (a0 : Int) (a1 : Int) (a2 : Int) (r : Bool) (w : World) (h : impl_within.f a0 a1 a2 = some r) :
  Calls Tryd.prog 27 #[.int .i64 a0, .int .i64 a1, .int .i64 a2] w fun e w' => e = .returned (.bool r) ∧ Drawn0 w w' := by
 have H := h
 clear h
 unfold impl_within.f at H
 rcases iteP H with ⟨c4, H⟩ | ⟨c4, H⟩
 ·have c4b0 := decide_eq_true c4
  clear c4
  obtain rfl := Option.some.inj H
  go_enter Tryd.func27, Tryd.ntmps27
  go_wp2
  go_ret
  exact ⟨eqS, drE⟩
 ·have c4b0 := decide_eq_false c4
  clear c4
  obtain rfl := Option.some.inj H
  go_enter Tryd.func27, Tryd.ntmps27
  go_wp2
  go_ret
  exact ⟨eqS, drE⟩
end Go.Proofs.YtcalgdljcphjaaaDoor.Q
