import Derived.Test.YtlfjnllnddpgoaaDoorBFnStretchedIntervals7
namespace Go.Proofs.YtlfjnllnddpgoaaDoor.Q
open Go.RowKit Go.Proofs.YtlfjnllnddpgoaaDoorW.PrintWords Go.Proofs.YtlfjnllnddpgoaaDoorW.PrintLast Go.Proofs.YtlfjnllnddpgoaaDoorW.PrintMore
attribute [local go_sem] max2_int min2_int max_two min_two max_three min_three max_four min_four neB_f
set_option linter.unusedVariables false
set_option maxHeartbeats 8000000
set_option maxRecDepth 100000
set_option linter.unusedSimpArgs false
mutual
def spec_l1Cur_relation.l0 : Nat → List Int → Int → Int → Int → List Int → Option (Int × List Int × Int × Int)
 | 0, _, _, _, _, _ => none
 | k + 1, x1000, x1001, x1002, x337000, x337001 => if (x337001.length : Int) < x337000 then (spec_l1Cur_relation.l1 k 0 0 x1000 x1001 x1002 x337000 x337001) else (some (x337000, x337001, x1001, x1002))
def spec_l1Cur_relation.l1 : Nat → Int → Int → List Int → Int → Int → Int → List Int → Option (Int × List Int × Int × Int)
 | 0, _, _, _, _, _, _, _ => none
 | k + 1, x6, x7, x1000, x1001, x1002, x337000, x337001 => if x7 < x337000 then ((spec_l1Cur_one.f x1000 x1001 x1002 4).bind fun bt337 => (if bt337.1 = true then (if 0 ≤ x7 then (spec_l1Cur_relation.l1 k (Go.bits .or .i64 x6 (shl .i64 1 x7)) (wrap64 (x7 + 1)) x1000 bt337.2.1 bt337.2.2 x337000 x337001) else (none)) else (spec_l1Cur_relation.l1 k x6 (wrap64 (x7 + 1)) x1000 bt337.2.1 bt337.2.2 x337000 x337001))) else (if x337001.length < 17592186044416 then (spec_l1Cur_relation.l0 k x1000 x1001 x1002 x337000 (x337001 ++ [x6])) else (none))
end
def spec_l1Cur_relation.f (k : Nat) (s0_0 : List Int) (s0_1 : Int) (s0_2 : Int) (a1 : Int) : Option (Int × List Int × Int × Int) := (spec_l1Cur_pick.f s0_0 s0_1 s0_2 (wrap64 (a1 + 1))).bind fun bt333 => (spec_l1Cur_relation.l0 k s0_0 bt333.2.1 bt333.2.2 bt333.1 ([] : List Int))
theorem spec_l1Cur_relation.mono_l : ∀ k, (∀ y0 y1 y2 y3 y4, LeO (spec_l1Cur_relation.l0 k y0 y1 y2 y3 y4) (spec_l1Cur_relation.l0 (k + 1) y0 y1 y2 y3 y4)) ∧ (∀ y0 y1 y2 y3 y4 y5 y6, LeO (spec_l1Cur_relation.l1 k y0 y1 y2 y3 y4 y5 y6) (spec_l1Cur_relation.l1 (k + 1) y0 y1 y2 y3 y4 y5 y6))
 | 0 => ⟨fun _ _ _ _ _ r h => by simp [spec_l1Cur_relation.l0] at h, fun _ _ _ _ _ _ _ r h => by simp [spec_l1Cur_relation.l1] at h⟩
 | k + 1 => by
  obtain ⟨ih0, ih1⟩ := spec_l1Cur_relation.mono_l k
  refine ⟨?_, ?_⟩ <;> intros
  unfold spec_l1Cur_relation.l0
  rotate_left
  unfold spec_l1Cur_relation.l1
  rotate_left
  all_goals repeat' (with_reducible first|apply ih0|apply ih1|apply LeO.refl|apply LeO.none|apply LeO.ite|apply LeO.bind|intro)
theorem spec_l1Cur_relation.mono : ∀ a0 a1 a2 a3 k, LeO (spec_l1Cur_relation.f k a0 a1 a2 a3) (spec_l1Cur_relation.f (k + 1) a0 a1 a2 a3) := by
 intro a0 a1 a2 a3 k
 obtain ⟨ih0, ih1⟩ := spec_l1Cur_relation.mono_l k
 unfold spec_l1Cur_relation.f
 repeat' (with_reducible first|apply ih0|apply ih1|apply LeO.refl|apply LeO.none|apply LeO.ite|apply LeO.bind|intro)
theorem spec_l1Cur_relation.calls (k : Nat) (g : Nat) (s0_0 : List Int) (s0_1 : Int) (s0_2 : Int) (a1 : Int) (r1 : Int) (r2 : List Int) (r3 : Int) (r4 : Int) (w0 w : World) (hI : IsS49 w0 w g s0_0 s0_1 s0_2) (hB : Below w0.heap.size w0 w) (h : spec_l1Cur_relation.f k s0_0 s0_1 s0_2 a1 = some (r1, r2, r3, r4)) :
  Calls Tryd.prog 57 #[.pointer (some ⟨g, 0, none⟩), .int .i64 a1] w fun e w' => ∃ v1_ : Value, e = .returned (.agg #[.int .i64 r1, v1_]) ∧ Kd.R (Kd.int .i64) 3 w' w.heap.size (fun _ => True) v1_ r2 ∧ IsS49 w0 w' g s0_0 r3 r4 ∧ Below w0.heap.size w0 w' ∧ KeepBut w w' g none := by
 have hu32 := Tryd.underlying32
 have HI0 := mkA hI
 have HK := mkA (KeepBut.refl w g none)
 have HL := mkA hB.size
 clear hI
 have HW0 := mkA hB.size
 have HB := mkA hB
 clear hB
 have H := h
 clear h
 unfold spec_l1Cur_relation.f at H
 obtain ⟨⟨t333, t334, t335⟩, A3, H⟩ := obE H
 dsimp only at H
 have H' := mkA H
 clear H
 go_enter Tryd.func57, Tryd.ntmps57
 go_wp2_with (first | ((with_reducible refine gate_dst (N := 4) rfl ?_); refine boxE (N := 4) (cs := #[.int .i64 0, .slice none 0 0]) (t := 32) ?_; intro gb332 hg w4 hbox hb; have BK332 := mkA (hbox); have GW332 := mkA ((by rw [hg]; exact (keep_size (w := w) (g := g) (row := none) (by exact kb49_0 HK.out)) : w.heap.size ≤ gb332)); have GE332 := mkA (Nat.le_trans HW0.out GW332.out); replace HK := kU (g := g) (by exact kb49_0 HK.out) hb; have NB0_332 : NeB _ _ := ⟨(by rw [hg]; exact Nat.ne_of_lt (IsS49.lt (show IsS49 w0 _ g s0_0 s0_1 s0_2 from by exact st49_0 HI0.out)) : g ≠ gb332)⟩; have NB332_0 : NeB _ _ := ⟨(by rw [hg]; exact Nat.ne_of_gt (IsS49.lt (show IsS49 w0 _ g s0_0 s0_1 s0_2 from by exact st49_0 HI0.out)) : gb332 ≠ g)⟩; replace HB := mkA (below_step (by exact bl49_0 HB.out HI0.out) hb); replace HI0 := mkA (IsS49.below (by exact st49_0 HI0.out) hb); clear hb hbox hg) | ((with_reducible refine gate_callee (f := 18) rfl ?_); refine goesQ (some 11) Tryd.func18 #[.pointer (some ⟨g, 0, none⟩), .int .i64 (wrap64 (a1 + 1))] ?_; (with_reducible refine (spec_l1Cur_pick.calls g s0_0 s0_1 s0_2 (wrap64 (a1 + 1)) t333 t334 t335 w0 _ ?_ ?_ A3.out).mono ?_); exact st49_1 HI0.out NB0_332.out; exact bl49_1 HB.out HI0.out GE332.out; rintro e w5 ⟨rfl, hi, hb, hk⟩; refine ⟨_, rfl, ?_⟩; replace BK332 := kB hk BK332; replace HK := kT (by exact kb49_1 HK.out GW332.out) hk; replace HI0 := mkA (hi); replace HB := mkA (hb); clear hb hk hi) | ((with_reducible refine gate_dst (N := 5) rfl ?_); refine boxE (N := 5) (cs := #[.int .i64 0, .slice none 0 0]) (t := 32) ?_; intro gb336 hg w6 hbox hb; have BK336 := mkA (hbox); have GW336 := mkA ((by rw [hg]; exact (keep_size (w := w) (g := g) (row := none) (by exact kb49_1 HK.out GW332.out)) : w.heap.size ≤ gb336)); have GE336 := mkA (Nat.le_trans HW0.out GW336.out); replace HK := kU (g := g) (by exact kb49_1 HK.out GW332.out) hb; have NB332_336 := neL7 BK332 hg; have NB336_332 := neR7 BK332 hg; replace BK332 := blkB BK332 hb; have NB0_336 : NeB _ _ := ⟨(by rw [hg]; exact Nat.ne_of_lt (IsS49.lt (show IsS49 w0 _ g s0_0 t334 t335 from by exact st49_1 HI0.out NB0_332.out)) : g ≠ gb336)⟩; have NB336_0 : NeB _ _ := ⟨(by rw [hg]; exact Nat.ne_of_gt (IsS49.lt (show IsS49 w0 _ g s0_0 t334 t335 from by exact st49_1 HI0.out NB0_332.out)) : gb336 ≠ g)⟩; replace HB := mkA (below_step (by exact bl49_1 HB.out HI0.out GE332.out) hb); replace HI0 := mkA (IsS49.below (by exact st49_1 HI0.out NB0_332.out) hb); clear hb hbox hg; obtain ⟨_, _, _, _⟩ := blk2 BK336))
 go_loopg [] k (fun kq w' => ∃ (x1001_1 : Int) (x1002_1 : Int) (x337001_1 : List Int) (u337001 : Value), Fc (spec_l1Cur_relation.l0 kq s0_0 x1001_1 x1002_1 t333 x337001_1 = some (r1, r2, r3, r4)) ∧ Fc (kq ≤ k) ∧ Fc (Kd.R (Kd.int .i64) 3 w' w.heap.size (fun _ => True) u337001 x337001_1) ∧ Fc (w'.heap[gb332]? = some (.cells #[.int .i64 0, (.slice none 0 0)] 32 (0, 0))) ∧ Fc (w'.heap[gb336]? = some (.cells #[.int .i64 t333, u337001] 32 (0, 0))) ∧ Fc (IsS49 w0 w' g s0_0 x1001_1 x1002_1) ∧ Fc (KeepBut w w' g none) ∧ Fc (Below w0.heap.size w0 w'))
 case atStart => exact ⟨(t334), (t335), (([] : List Int)), (.slice none 0 0), H', ⟨Nat.le_refl _⟩, ⟨nilE⟩, ⟨blkT BK332⟩, ⟨blkT BK336⟩, ⟨by exact st49_2 HI0.out NB0_332.out NB0_336.out⟩, ⟨by exact kb49_2 HK.out GW332.out GW336.out⟩, ⟨by exact bl49_2 HB.out HI0.out GE332.out GE336.out⟩⟩
 case round =>
  clear H'
  obtain ⟨x1001_1, x1002_1, x337001_1, u337001, HA, HK1, HO_337001, BK332, BK336, HI0, HK, HB⟩ := hrel
  cases gk with
  | zero => exact absurd HA.out (by simp [spec_l1Cur_relation.l0])
  | succ k1 =>
   have H := HA.out
   clear HA
   simp only [spec_l1Cur_relation.l0] at H
   rcases iteE H with ⟨c10b0, H⟩ | ⟨c10b0, H⟩
   ·have H' := mkA H
    clear H
    obtain ⟨_, _, _, _⟩ := blk2 BK336
    obtain ⟨Ao14, co14, rfl⟩ := Kd.R_slice HO_337001.out
    go_wp2
    go_loopg [6, 7] k1 (fun kq v6 v7 w' => ∃ (x6_2 : Int) (x7_2 : Int) (x1001_2 : Int) (x1002_2 : Int), v6 = .int .i64 x6_2 ∧ v7 = .int .i64 x7_2 ∧ Fc (spec_l1Cur_relation.l1 kq x6_2 x7_2 s0_0 x1001_2 x1002_2 t333 x337001_1 = some (r1, r2, r3, r4)) ∧ Fc (kq ≤ k1) ∧ Fc (Kd.R (Kd.int .i64) 3 w' w.heap.size (fun _ => True) (.slice Ao14 x337001_1.length co14) x337001_1) ∧ Fc (w'.heap[gb332]? = some (.cells #[.int .i64 0, (.slice none 0 0)] 32 (0, 0))) ∧ Fc (w'.heap[gb336]? = some (.cells #[.int .i64 t333, (.slice Ao14 x337001_1.length co14)] 32 (0, 0))) ∧ Fc (IsS49 w0 w' g s0_0 x1001_2 x1002_2) ∧ Fc (KeepBut w w' g none) ∧ Fc (Below w0.heap.size w0 w'))
    case atStart => exact ⟨(0), (0), (x1001_1), (x1002_1), eqS, eqS, H', ⟨Nat.le_refl _⟩, rg HO_337001, bg BK332, bg BK336, ⟨by exact st49_2 HI0.out NB0_332.out NB0_336.out⟩, ⟨by exact kb49_2 HK.out GW332.out GW336.out⟩, ⟨by exact bl49_2 HB.out HI0.out GE332.out GE336.out⟩⟩
    case round =>
     clear H'
     try clear c10b0
     obtain ⟨x6_2, x7_2, x1001_2, x1002_2, rfl, rfl, HA, HK2, HO_337001, BK332, BK336, HI0, HK, HB⟩ := hrel
     cases gk with
     | zero => exact absurd HA.out (by simp [spec_l1Cur_relation.l1])
     | succ k2 =>
      have H := HA.out
      clear HA
      simp only [spec_l1Cur_relation.l1] at H
      rcases iteE H with ⟨c15b0, H⟩ | ⟨c15b0, H⟩
      ·obtain ⟨⟨t337, t338, t339⟩, A16, H⟩ := obE H
       dsimp only at H
       by_cases c17 : t337 = true
       ·subst c17
        replace H := ifT H
        obtain ⟨c18b0, c18b1, H⟩ := itNQ H
        obtain ⟨ji19, hji19⟩ : ∃ j_ : Int, (shl .i64 1 x7_2) = j_ := ⟨_, rfl⟩
        first | rw [hji19] at H | simp only [hji19] at H
        (try rw [hji19] at A16)
        have hji19_ : (IntKind.i64.wrap (1 * 2 ^ min x7_2.toNat 64)) = ji19 := hji19
        have hji19z : x7_2 ≤ 64 → (IntKind.i64.wrap (1 * 2 ^ x7_2.toNat)) = ji19 := shl_small hji19
        have hji19u : (IntKind.i64.wrap (2 ^ min x7_2.toNat 64)) = ji19 := by have h_ := hji19_; rw [Int.one_mul] at h_; exact h_
        have hji19v : x7_2 ≤ 64 → (IntKind.i64.wrap (2 ^ x7_2.toNat)) = ji19 := fun hle_ => by have h_ := hji19z hle_; rw [Int.one_mul] at h_; exact h_
        have hji19y : (wrap64 (1 * 2 ^ min x7_2.toNat 64)) = ji19 := (i64_w _).symm.trans hji19_
        have hji19x : x7_2 ≤ 64 → (wrap64 (1 * 2 ^ x7_2.toNat)) = ji19 := fun h_ => (i64_w _).symm.trans (hji19z h_)
        have H' := mkA H
        clear H
        obtain ⟨_, _, _, _⟩ := blk2 BK336
        go_wp2_with (first | ((with_reducible refine gate_callee (f := 30) rfl ?_); refine goesQ (some 26) Tryd.func30 #[.pointer (some ⟨g, 0, none⟩), .int .i64 4] ?_; (with_reducible refine (spec_l1Cur_one.calls g s0_0 x1001_2 x1002_2 4 true t338 t339 w0 _ ?_ ?_ A16.out).mono ?_); exact st49_2 HI0.out NB0_332.out NB0_336.out; exact bl49_2 HB.out HI0.out GE332.out GE336.out; rintro e w23 ⟨rfl, hi, hb, hk⟩; refine ⟨_, rfl, ?_⟩; replace HO_337001 := rK (IsS49.apart (show IsS49 w0 _ g s0_0 x1001_2 x1002_2 from by exact st49_2 HI0.out NB0_332.out NB0_336.out) (Kd.R_g HO_337001.out) (by decide)) hk; replace BK332 := kB hk BK332; replace BK336 := kB hk BK336; replace HK := kT (by exact kb49_2 HK.out GW332.out GW336.out) hk; replace HI0 := mkA (hi); replace HB := mkA (hb); clear hb hk hi))
        go_roundg k2
        case measure => have := HK1.out; have := HK2.out; omega
        case rel => exact ⟨(Go.bits .or .i64 x6_2 (ji19)), (wrap64 (x7_2 + 1)), (t338), (t339), (by first | rfl | (simp; done) | (simp only [← hji19] <;> (first | rfl | simp)) | (simp [*]; done)), eqS, H', ⟨by have := HK1.out; have := HK2.out; omega⟩, rg HO_337001, bg BK332, bg BK336, ⟨by exact st49_2 HI0.out NB0_332.out NB0_336.out⟩, ⟨by exact kb49_2 HK.out GW332.out GW336.out⟩, ⟨by exact bl49_2 HB.out HI0.out GE332.out GE336.out⟩⟩
       ·replace c17 := Bool.eq_false_iff.mpr c17
        subst c17
        replace H := ifF H
        have H' := mkA H
        clear H
        obtain ⟨_, _, _, _⟩ := blk2 BK336
        go_wp2_with (first | ((with_reducible refine gate_callee (f := 30) rfl ?_); refine goesQ (some 26) Tryd.func30 #[.pointer (some ⟨g, 0, none⟩), .int .i64 4] ?_; (with_reducible refine (spec_l1Cur_one.calls g s0_0 x1001_2 x1002_2 4 false t338 t339 w0 _ ?_ ?_ A16.out).mono ?_); exact st49_2 HI0.out NB0_332.out NB0_336.out; exact bl49_2 HB.out HI0.out GE332.out GE336.out; rintro e w27 ⟨rfl, hi, hb, hk⟩; refine ⟨_, rfl, ?_⟩; replace HO_337001 := rK (IsS49.apart (show IsS49 w0 _ g s0_0 x1001_2 x1002_2 from by exact st49_2 HI0.out NB0_332.out NB0_336.out) (Kd.R_g HO_337001.out) (by decide)) hk; replace BK332 := kB hk BK332; replace BK336 := kB hk BK336; replace HK := kT (by exact kb49_2 HK.out GW332.out GW336.out) hk; replace HI0 := mkA (hi); replace HB := mkA (hb); clear hb hk hi))
        go_roundg k2
        case measure => have := HK1.out; have := HK2.out; omega
        case rel => exact ⟨(x6_2), (wrap64 (x7_2 + 1)), (t338), (t339), eqS, eqS, H', ⟨by have := HK1.out; have := HK2.out; omega⟩, rg HO_337001, bg BK332, bg BK336, ⟨by exact st49_2 HI0.out NB0_332.out NB0_336.out⟩, ⟨by exact kb49_2 HK.out GW332.out GW336.out⟩, ⟨by exact bl49_2 HB.out HI0.out GE332.out GE336.out⟩⟩
      ·obtain ⟨c28, H⟩ := itNP H
       have LMc28 := mkA c28
       clear c28
       obtain ⟨y340, hy340⟩ : ∃ y_ : List Int, y_ = (x337001_1 ++ [x6_2]) := ⟨_, rfl⟩
       rw [← hy340] at H
       have Ny340 := mkA hy340
       clear hy340
       have H' := mkA H
       clear H
       obtain ⟨_, _, _, _⟩ := blk2 BK336
       go_wp2_with (first | ((with_reducible refine gate_builtin (b := .append) (xs := #[.tmp 32, .tmp 34]) rfl ?_); at_builtin; refine Kd.R_append (Kd.int .i64) w.heap.size rfl (.tmp 32) (.tmp 34) 30 3 (.int .i64 0) 8 rfl Tryd.underlying30 info3 rfl (by decide) (by omega) (.slice Ao14 x337001_1.length co14) x337001_1 x6_2 [.int .i64 x6_2] (fun _ => True) (fun _ => False) rfl rfl ?aP (fun _ hk => hk.elim) ?aF ?aO (Below.refl _ _) ?aS ?aL ?_; (case aP => exact rfl); (case aF => exact (fun _ _ => trivial)); (case aO => exact (Kd.R_g HO_337001.out)); (case aS => exact (keep_size (w := w) (g := g) (row := none) (by exact kb49_2 HK.out GW332.out GW336.out))); (case aL => have := LMc28.out; omega); intro v341 w32 ho hb hg hat; rw [← Ny340.out] at ho; replace BK332 := mkA (blk_grown (g := gb332) (o := .cells #[.int .i64 0, .slice none 0 0] 32 (0, 0)) (blk_g BK332.out) hg (Kd.R_ne HO_337001.out BK332.out (by decide))); replace BK336 := mkA (blk_grown (g := gb336) (o := .cells #[.int .i64 t333, .slice Ao14 x337001_1.length co14] 32 (0, 0)) (blk_g BK336.out) hg (Kd.R_ne HO_337001.out BK336.out (by decide))); replace HK := mkA (KeepBut.trans (by exact kb49_2 HK.out GW332.out GW336.out) (KeepBut.of_grown hg g) (Kd.R_base2 HO_337001.out)); have HO342 := mkA (ho); replace HB := mkA (below_weaken (by exact bl49_2 HB.out HI0.out GE332.out GE336.out) HL.out hb); replace HI0 := mkA (IsS49.grown (by exact st49_2 HI0.out NB0_332.out NB0_336.out) hg (IsS49.own_ne HI0.out HO_337001.out (by decide))); clear HO_337001; clear ho hb hg hat; obtain ⟨Ao33, co33, rfl⟩ := Kd.R_slice HO342.out; obtain ⟨_, _, _, _⟩ := blk2 BK336))
       go_roundg k2
       case measure => have := HK1.out; have := HK2.out; omega
       case rel => exact ⟨(x1001_2), (x1002_2), (y340), (.slice Ao33 y340.length co33), H', ⟨by have := HK1.out; have := HK2.out; omega⟩, ⟨Kd.R_g (Kd.R_mono (Kd.R_far (p := ⟨gb336, 1, none⟩) (Kd.R_types HO342.out BK336.out (by decide)) (fun _ hk => hk.2) (.slice Ao33 y340.length co33)) (fun _ hk => trivial))⟩, ⟨blkT BK332⟩, ⟨blkT BK336⟩, ⟨by exact st49_2 HI0.out NB0_332.out NB0_336.out⟩, ⟨by exact kb49_2 HK.out GW332.out GW336.out⟩, ⟨by exact bl49_2 HB.out HI0.out GE332.out GE336.out⟩⟩
   ·simp only [Option.some.injEq, Prod.mk.injEq] at H
    obtain ⟨rfl, rfl, rfl, rfl⟩ := H
    obtain ⟨_, _, _, _⟩ := blk2 BK336
    obtain ⟨Ao38, co38, rfl⟩ := Kd.R_slice HO_337001.out
    obtain ⟨_, _, _, _⟩ := blk2 BK332
    go_wp2
    refine bodyPost_ret (results_cell_row rfl _ _ gb332 32 #[.int .i64 t333, .slice Ao38 x337001_1.length co38] (0, 0) _ rfl (blkT BK332) Tryd.underlying32 rfl (by kernel_rfl)) rfl ?_
    exact ⟨_, eqE, Kd.R_g (Kd.R_mono (rF HO_337001 BK332) (fun _ _ => trivial)), by exact st49_2 HI0.out NB0_332.out NB0_336.out, by exact bl49_2 HB.out HI0.out GE332.out GE336.out, by exact kb49_2 HK.out GW332.out GW336.out⟩
end Go.Proofs.YtlfjnllnddpgoaaDoor.Q
