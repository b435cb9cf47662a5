import Derived.Test.YtgbdjchdfcodcaaGreatDoorBFnWeakOrders2
namespace Go.Proofs.YtgbdjchdfcodcaaGreatDoor.Q
open Go.RowKit Go.Proofs.YtgbdjchdfcodcaaGreatDoorW.PrintWords Go.Proofs.YtgbdjchdfcodcaaGreatDoorW.PrintLast Go.Proofs.YtgbdjchdfcodcaaGreatDoorW.PrintMore
attribute [local go_sem] max2_int min2_int max_two min_two max_three min_three max_four min_four neB_f
set_option linter.unusedVariables false
set_option maxHeartbeats 8000000
set_option maxRecDepth 100000
set_option linter.unusedSimpArgs false
mutual
def spec_l1Cur_relation.l0 : Nat → List Int → Int → Int → Int → List Int → Option (Int × List Int × Int × Int)
 | 0, _, _, _, _, _ => none
 | k + 1, x1000, x1001, x1002, x192000, x192001 => if (x192001.length : Int) < x192000 then (spec_l1Cur_relation.l1 k 0 0 x1000 x1001 x1002 x192000 x192001) else (some (x192000, x192001, x1001, x1002))
def spec_l1Cur_relation.l1 : Nat → Int → Int → List Int → Int → Int → Int → List Int → Option (Int × List Int × Int × Int)
 | 0, _, _, _, _, _, _, _ => none
 | k + 1, x6, x7, x1000, x1001, x1002, x192000, x192001 => if x7 < x192000 then ((spec_l1Cur_one.f x1000 x1001 x1002 4).bind fun bt192 => (if bt192.1 = true then (if 0 ≤ x7 then (spec_l1Cur_relation.l1 k (Go.bits .or .i64 x6 (shl .i64 1 x7)) (wrap64 (x7 + 1)) x1000 bt192.2.1 bt192.2.2 x192000 x192001) else (none)) else (spec_l1Cur_relation.l1 k x6 (wrap64 (x7 + 1)) x1000 bt192.2.1 bt192.2.2 x192000 x192001))) else (if x192001.length < 17592186044416 then (spec_l1Cur_relation.l0 k x1000 x1001 x1002 x192000 (x192001 ++ [x6])) else (none))
end
def spec_l1Cur_relation.f (k : Nat) (s0_0 : List Int) (s0_1 : Int) (s0_2 : Int) (a1 : Int) : Option (Int × List Int × Int × Int) := (spec_l1Cur_pick.f s0_0 s0_1 s0_2 (wrap64 (a1 + 1))).bind fun bt188 => (spec_l1Cur_relation.l0 k s0_0 bt188.2.1 bt188.2.2 bt188.1 ([] : List Int))
theorem spec_l1Cur_relation.mono_l : ∀ k, (∀ y0 y1 y2 y3 y4, LeO (spec_l1Cur_relation.l0 k y0 y1 y2 y3 y4) (spec_l1Cur_relation.l0 (k + 1) y0 y1 y2 y3 y4)) ∧ (∀ y0 y1 y2 y3 y4 y5 y6, LeO (spec_l1Cur_relation.l1 k y0 y1 y2 y3 y4 y5 y6) (spec_l1Cur_relation.l1 (k + 1) y0 y1 y2 y3 y4 y5 y6))
 | 0 => ⟨fun _ _ _ _ _ r h => by simp [spec_l1Cur_relation.l0] at h, fun _ _ _ _ _ _ _ r h => by simp [spec_l1Cur_relation.l1] at h⟩
 | k + 1 => by
  obtain ⟨ih0, ih1⟩ := spec_l1Cur_relation.mono_l k
  refine ⟨?_, ?_⟩ <;> intros
  unfold spec_l1Cur_relation.l0
  rotate_left
  unfold spec_l1Cur_relation.l1
  rotate_left
  all_goals repeat' (with_reducible first|apply ih0|apply ih1|apply LeO.refl|apply LeO.none|apply LeO.ite|apply LeO.bind|intro)
theorem spec_l1Cur_relation.mono : ∀ a0 a1 a2 a3 k, LeO (spec_l1Cur_relation.f k a0 a1 a2 a3) (spec_l1Cur_relation.f (k + 1) a0 a1 a2 a3) := by
 intro a0 a1 a2 a3 k
 obtain ⟨ih0, ih1⟩ := spec_l1Cur_relation.mono_l k
 unfold spec_l1Cur_relation.f
 repeat' (with_reducible first|apply ih0|apply ih1|apply LeO.refl|apply LeO.none|apply LeO.ite|apply LeO.bind|intro)
theorem spec_l1Cur_relation.calls (k : Nat) (g : Nat) (s0_0 : List Int) (s0_1 : Int) (s0_2 : Int) (a1 : Int) (r1 : Int) (r2 : List Int) (r3 : Int) (r4 : Int) (w0 w : World) (hI : IsS52 w0 w g s0_0 s0_1 s0_2) (hB : Below w0.heap.size w0 w) (h : spec_l1Cur_relation.f k s0_0 s0_1 s0_2 a1 = some (r1, r2, r3, r4)) :
  Calls Tryz.prog 67 #[.pointer (some ⟨g, 0, none⟩), .int .i64 a1] w fun e w' => ∃ v1_ : Value, e = .returned (.agg #[.int .i64 r1, v1_]) ∧ Kd.R (Kd.int .i64) 3 w' w.heap.size (fun _ => True) v1_ r2 ∧ IsS52 w0 w' g s0_0 r3 r4 ∧ Below w0.heap.size w0 w' ∧ KeepBut w w' g none := by
 have hu26 := Tryz.underlying26
 have HI0 := mkA hI
 have HK := mkA (KeepBut.refl w g none)
 have HL := mkA hB.size
 clear hI
 have HW0 := mkA hB.size
 have HB := mkA hB
 clear hB
 have H := h
 clear h
 unfold spec_l1Cur_relation.f at H
 obtain ⟨⟨t188, t189, t190⟩, A3, H⟩ := obE H
 dsimp only at H
 have H' := mkA H
 clear H
 go_enter Tryz.func67, Tryz.ntmps67
 go_wp2_with (first | ((with_reducible refine gate_dst (N := 4) rfl ?_); refine boxE (N := 4) (cs := #[.int .i64 0, .slice none 0 0]) (t := 26) ?_; intro gb187 hg w4 hbox hb; have BK187 := mkA (hbox); have GW187 := mkA ((by rw [hg]; exact (keep_size (w := w) (g := g) (row := none) (by exact kb52_0 HK.out)) : w.heap.size ≤ gb187)); have GE187 := mkA (Nat.le_trans HW0.out GW187.out); replace HK := kU (g := g) (by exact kb52_0 HK.out) hb; have NB0_187 : NeB _ _ := ⟨(by rw [hg]; exact Nat.ne_of_lt (IsS52.lt (show IsS52 w0 _ g s0_0 s0_1 s0_2 from by exact st52_0 HI0.out)) : g ≠ gb187)⟩; have NB187_0 : NeB _ _ := ⟨(by rw [hg]; exact Nat.ne_of_gt (IsS52.lt (show IsS52 w0 _ g s0_0 s0_1 s0_2 from by exact st52_0 HI0.out)) : gb187 ≠ g)⟩; replace HB := mkA (below_step (by exact bl52_0 HB.out HI0.out) hb); replace HI0 := mkA (IsS52.below (by exact st52_0 HI0.out) hb); clear hb hbox hg) | ((with_reducible refine gate_callee (f := 46) rfl ?_); refine goesQ (some 11) Tryz.func46 #[.pointer (some ⟨g, 0, none⟩), .int .i64 (wrap64 (a1 + 1))] ?_; (with_reducible refine (spec_l1Cur_pick.calls g s0_0 s0_1 s0_2 (wrap64 (a1 + 1)) t188 t189 t190 w0 _ ?_ ?_ A3.out).mono ?_); exact st52_1 HI0.out NB0_187.out; exact bl52_1 HB.out HI0.out GE187.out; rintro e w5 ⟨rfl, hi, hb, hk⟩; refine ⟨_, rfl, ?_⟩; replace BK187 := kB hk BK187; replace HK := kT (by exact kb52_1 HK.out GW187.out) hk; replace HI0 := mkA (hi); replace HB := mkA (hb); clear hb hk hi) | ((with_reducible refine gate_dst (N := 5) rfl ?_); refine boxE (N := 5) (cs := #[.int .i64 0, .slice none 0 0]) (t := 26) ?_; intro gb191 hg w6 hbox hb; have BK191 := mkA (hbox); have GW191 := mkA ((by rw [hg]; exact (keep_size (w := w) (g := g) (row := none) (by exact kb52_1 HK.out GW187.out)) : w.heap.size ≤ gb191)); have GE191 := mkA (Nat.le_trans HW0.out GW191.out); replace HK := kU (g := g) (by exact kb52_1 HK.out GW187.out) hb; have NB187_191 := neL7 BK187 hg; have NB191_187 := neR7 BK187 hg; replace BK187 := blkB BK187 hb; have NB0_191 : NeB _ _ := ⟨(by rw [hg]; exact Nat.ne_of_lt (IsS52.lt (show IsS52 w0 _ g s0_0 t189 t190 from by exact st52_1 HI0.out NB0_187.out)) : g ≠ gb191)⟩; have NB191_0 : NeB _ _ := ⟨(by rw [hg]; exact Nat.ne_of_gt (IsS52.lt (show IsS52 w0 _ g s0_0 t189 t190 from by exact st52_1 HI0.out NB0_187.out)) : gb191 ≠ g)⟩; replace HB := mkA (below_step (by exact bl52_1 HB.out HI0.out GE187.out) hb); replace HI0 := mkA (IsS52.below (by exact st52_1 HI0.out NB0_187.out) hb); clear hb hbox hg; obtain ⟨_, _, _, _⟩ := blk2 BK191))
 go_loopg [] k (fun kq w' => ∃ (x1001_1 : Int) (x1002_1 : Int) (x192001_1 : List Int) (u192001 : Value), Fc (spec_l1Cur_relation.l0 kq s0_0 x1001_1 x1002_1 t188 x192001_1 = some (r1, r2, r3, r4)) ∧ Fc (kq ≤ k) ∧ Fc (Kd.R (Kd.int .i64) 3 w' w.heap.size (fun _ => True) u192001 x192001_1) ∧ Fc (w'.heap[gb187]? = some (.cells #[.int .i64 0, (.slice none 0 0)] 26 (0, 0))) ∧ Fc (w'.heap[gb191]? = some (.cells #[.int .i64 t188, u192001] 26 (0, 0))) ∧ Fc (IsS52 w0 w' g s0_0 x1001_1 x1002_1) ∧ Fc (KeepBut w w' g none) ∧ Fc (Below w0.heap.size w0 w'))
 case atStart => exact ⟨(t189), (t190), (([] : List Int)), (.slice none 0 0), H', ⟨Nat.le_refl _⟩, ⟨nilE⟩, ⟨blkT BK187⟩, ⟨blkT BK191⟩, ⟨by exact st52_2 HI0.out NB0_187.out NB0_191.out⟩, ⟨by exact kb52_2 HK.out GW187.out GW191.out⟩, ⟨by exact bl52_2 HB.out HI0.out GE187.out GE191.out⟩⟩
 case round =>
  clear H'
  obtain ⟨x1001_1, x1002_1, x192001_1, u192001, HA, HK1, HO_192001, BK187, BK191, HI0, HK, HB⟩ := hrel
  cases gk with
  | zero => exact absurd HA.out (by simp [spec_l1Cur_relation.l0])
  | succ k1 =>
   have H := HA.out
   clear HA
   simp only [spec_l1Cur_relation.l0] at H
   rcases iteE H with ⟨c10b0, H⟩ | ⟨c10b0, H⟩
   ·have H' := mkA H
    clear H
    obtain ⟨_, _, _, _⟩ := blk2 BK191
    obtain ⟨Ao14, co14, rfl⟩ := Kd.R_slice HO_192001.out
    go_wp2
    go_loopg [6, 7] k1 (fun kq v6 v7 w' => ∃ (x6_2 : Int) (x7_2 : Int) (x1001_2 : Int) (x1002_2 : Int), v6 = .int .i64 x6_2 ∧ v7 = .int .i64 x7_2 ∧ Fc (spec_l1Cur_relation.l1 kq x6_2 x7_2 s0_0 x1001_2 x1002_2 t188 x192001_1 = some (r1, r2, r3, r4)) ∧ Fc (kq ≤ k1) ∧ Fc (Kd.R (Kd.int .i64) 3 w' w.heap.size (fun _ => True) (.slice Ao14 x192001_1.length co14) x192001_1) ∧ Fc (w'.heap[gb187]? = some (.cells #[.int .i64 0, (.slice none 0 0)] 26 (0, 0))) ∧ Fc (w'.heap[gb191]? = some (.cells #[.int .i64 t188, (.slice Ao14 x192001_1.length co14)] 26 (0, 0))) ∧ Fc (IsS52 w0 w' g s0_0 x1001_2 x1002_2) ∧ Fc (KeepBut w w' g none) ∧ Fc (Below w0.heap.size w0 w'))
    case atStart => exact ⟨(0), (0), (x1001_1), (x1002_1), eqS, eqS, H', ⟨Nat.le_refl _⟩, rg HO_192001, bg BK187, bg BK191, ⟨by exact st52_2 HI0.out NB0_187.out NB0_191.out⟩, ⟨by exact kb52_2 HK.out GW187.out GW191.out⟩, ⟨by exact bl52_2 HB.out HI0.out GE187.out GE191.out⟩⟩
    case round =>
     clear H'
     try clear c10b0
     obtain ⟨x6_2, x7_2, x1001_2, x1002_2, rfl, rfl, HA, HK2, HO_192001, BK187, BK191, HI0, HK, HB⟩ := hrel
     cases gk with
     | zero => exact absurd HA.out (by simp [spec_l1Cur_relation.l1])
     | succ k2 =>
      have H := HA.out
      clear HA
      simp only [spec_l1Cur_relation.l1] at H
      rcases iteE H with ⟨c15b0, H⟩ | ⟨c15b0, H⟩
      ·obtain ⟨⟨t192, t193, t194⟩, A16, H⟩ := obE H
       dsimp only at H
       by_cases c17 : t192 = true
       ·subst c17
        replace H := ifT H
        obtain ⟨c18b0, c18b1, H⟩ := itNQ H
        obtain ⟨ji19, hji19⟩ : ∃ j_ : Int, (shl .i64 1 x7_2) = j_ := ⟨_, rfl⟩
        first | rw [hji19] at H | simp only [hji19] at H
        (try rw [hji19] at A16)
        have hji19_ : (IntKind.i64.wrap (1 * 2 ^ min x7_2.toNat 64)) = ji19 := hji19
        have hji19z : x7_2 ≤ 64 → (IntKind.i64.wrap (1 * 2 ^ x7_2.toNat)) = ji19 := shl_small hji19
        have hji19u : (IntKind.i64.wrap (2 ^ min x7_2.toNat 64)) = ji19 := by have h_ := hji19_; rw [Int.one_mul] at h_; exact h_
        have hji19v : x7_2 ≤ 64 → (IntKind.i64.wrap (2 ^ x7_2.toNat)) = ji19 := fun hle_ => by have h_ := hji19z hle_; rw [Int.one_mul] at h_; exact h_
        have hji19y : (wrap64 (1 * 2 ^ min x7_2.toNat 64)) = ji19 := (i64_w _).symm.trans hji19_
        have hji19x : x7_2 ≤ 64 → (wrap64 (1 * 2 ^ x7_2.toNat)) = ji19 := fun h_ => (i64_w _).symm.trans (hji19z h_)
        have H' := mkA H
        clear H
        obtain ⟨_, _, _, _⟩ := blk2 BK191
        go_wp2_with (first | ((with_reducible refine gate_callee (f := 43) rfl ?_); refine goesQ (some 26) Tryz.func43 #[.pointer (some ⟨g, 0, none⟩), .int .i64 4] ?_; (with_reducible refine (spec_l1Cur_one.calls g s0_0 x1001_2 x1002_2 4 true t193 t194 w0 _ ?_ ?_ A16.out).mono ?_); exact st52_2 HI0.out NB0_187.out NB0_191.out; exact bl52_2 HB.out HI0.out GE187.out GE191.out; rintro e w23 ⟨rfl, hi, hb, hk⟩; refine ⟨_, rfl, ?_⟩; replace HO_192001 := rK (IsS52.apart (show IsS52 w0 _ g s0_0 x1001_2 x1002_2 from by exact st52_2 HI0.out NB0_187.out NB0_191.out) (Kd.R_g HO_192001.out) (by decide)) hk; replace BK187 := kB hk BK187; replace BK191 := kB hk BK191; replace HK := kT (by exact kb52_2 HK.out GW187.out GW191.out) hk; replace HI0 := mkA (hi); replace HB := mkA (hb); clear hb hk hi))
        go_roundg k2
        case measure => have := HK1.out; have := HK2.out; omega
        case rel => exact ⟨(Go.bits .or .i64 x6_2 (ji19)), (wrap64 (x7_2 + 1)), (t193), (t194), (by first | rfl | (simp; done) | (simp only [← hji19] <;> (first | rfl | simp)) | (simp [*]; done)), eqS, H', ⟨by have := HK1.out; have := HK2.out; omega⟩, rg HO_192001, bg BK187, bg BK191, ⟨by exact st52_2 HI0.out NB0_187.out NB0_191.out⟩, ⟨by exact kb52_2 HK.out GW187.out GW191.out⟩, ⟨by exact bl52_2 HB.out HI0.out GE187.out GE191.out⟩⟩
       ·replace c17 := Bool.eq_false_iff.mpr c17
        subst c17
        replace H := ifF H
        have H' := mkA H
        clear H
        obtain ⟨_, _, _, _⟩ := blk2 BK191
        go_wp2_with (first | ((with_reducible refine gate_callee (f := 43) rfl ?_); refine goesQ (some 26) Tryz.func43 #[.pointer (some ⟨g, 0, none⟩), .int .i64 4] ?_; (with_reducible refine (spec_l1Cur_one.calls g s0_0 x1001_2 x1002_2 4 false t193 t194 w0 _ ?_ ?_ A16.out).mono ?_); exact st52_2 HI0.out NB0_187.out NB0_191.out; exact bl52_2 HB.out HI0.out GE187.out GE191.out; rintro e w27 ⟨rfl, hi, hb, hk⟩; refine ⟨_, rfl, ?_⟩; replace HO_192001 := rK (IsS52.apart (show IsS52 w0 _ g s0_0 x1001_2 x1002_2 from by exact st52_2 HI0.out NB0_187.out NB0_191.out) (Kd.R_g HO_192001.out) (by decide)) hk; replace BK187 := kB hk BK187; replace BK191 := kB hk BK191; replace HK := kT (by exact kb52_2 HK.out GW187.out GW191.out) hk; replace HI0 := mkA (hi); replace HB := mkA (hb); clear hb hk hi))
        go_roundg k2
        case measure => have := HK1.out; have := HK2.out; omega
        case rel => exact ⟨(x6_2), (wrap64 (x7_2 + 1)), (t193), (t194), eqS, eqS, H', ⟨by have := HK1.out; have := HK2.out; omega⟩, rg HO_192001, bg BK187, bg BK191, ⟨by exact st52_2 HI0.out NB0_187.out NB0_191.out⟩, ⟨by exact kb52_2 HK.out GW187.out GW191.out⟩, ⟨by exact bl52_2 HB.out HI0.out GE187.out GE191.out⟩⟩
      ·obtain ⟨c28, H⟩ := itNP H
       have LMc28 := mkA c28
       clear c28
       obtain ⟨y195, hy195⟩ : ∃ y_ : List Int, y_ = (x192001_1 ++ [x6_2]) := ⟨_, rfl⟩
       rw [← hy195] at H
       have Ny195 := mkA hy195
       clear hy195
       have H' := mkA H
       clear H
       obtain ⟨_, _, _, _⟩ := blk2 BK191
       go_wp2_with (first | ((with_reducible refine gate_builtin (b := .append) (xs := #[.tmp 32, .tmp 34]) rfl ?_); at_builtin; refine Kd.R_append (Kd.int .i64) w.heap.size rfl (.tmp 32) (.tmp 34) 24 3 (.int .i64 0) 8 rfl Tryz.underlying24 info3 rfl (by decide) (by omega) (.slice Ao14 x192001_1.length co14) x192001_1 x6_2 [.int .i64 x6_2] (fun _ => True) (fun _ => False) rfl rfl ?aP (fun _ hk => hk.elim) ?aF ?aO (Below.refl _ _) ?aS ?aL ?_; (case aP => exact rfl); (case aF => exact (fun _ _ => trivial)); (case aO => exact (Kd.R_g HO_192001.out)); (case aS => exact (keep_size (w := w) (g := g) (row := none) (by exact kb52_2 HK.out GW187.out GW191.out))); (case aL => have := LMc28.out; omega); intro v196 w32 ho hb hg hat; rw [← Ny195.out] at ho; replace BK187 := mkA (blk_grown (g := gb187) (o := .cells #[.int .i64 0, .slice none 0 0] 26 (0, 0)) (blk_g BK187.out) hg (Kd.R_ne HO_192001.out BK187.out (by decide))); replace BK191 := mkA (blk_grown (g := gb191) (o := .cells #[.int .i64 t188, .slice Ao14 x192001_1.length co14] 26 (0, 0)) (blk_g BK191.out) hg (Kd.R_ne HO_192001.out BK191.out (by decide))); replace HK := mkA (KeepBut.trans (by exact kb52_2 HK.out GW187.out GW191.out) (KeepBut.of_grown hg g) (Kd.R_base2 HO_192001.out)); have HO197 := mkA (ho); replace HB := mkA (below_weaken (by exact bl52_2 HB.out HI0.out GE187.out GE191.out) HL.out hb); replace HI0 := mkA (IsS52.grown (by exact st52_2 HI0.out NB0_187.out NB0_191.out) hg (IsS52.own_ne HI0.out HO_192001.out (by decide))); clear HO_192001; clear ho hb hg hat; obtain ⟨Ao33, co33, rfl⟩ := Kd.R_slice HO197.out; obtain ⟨_, _, _, _⟩ := blk2 BK191))
       go_roundg k2
       case measure => have := HK1.out; have := HK2.out; omega
       case rel => exact ⟨(x1001_2), (x1002_2), (y195), (.slice Ao33 y195.length co33), H', ⟨by have := HK1.out; have := HK2.out; omega⟩, ⟨Kd.R_g (Kd.R_mono (Kd.R_far (p := ⟨gb191, 1, none⟩) (Kd.R_types HO197.out BK191.out (by decide)) (fun _ hk => hk.2) (.slice Ao33 y195.length co33)) (fun _ hk => trivial))⟩, ⟨blkT BK187⟩, ⟨blkT BK191⟩, ⟨by exact st52_2 HI0.out NB0_187.out NB0_191.out⟩, ⟨by exact kb52_2 HK.out GW187.out GW191.out⟩, ⟨by exact bl52_2 HB.out HI0.out GE187.out GE191.out⟩⟩
   ·simp only [Option.some.injEq, Prod.mk.injEq] at H
    obtain ⟨rfl, rfl, rfl, rfl⟩ := H
    obtain ⟨_, _, _, _⟩ := blk2 BK191
    obtain ⟨Ao38, co38, rfl⟩ := Kd.R_slice HO_192001.out
    obtain ⟨_, _, _, _⟩ := blk2 BK187
    go_wp2
    refine bodyPost_ret (results_cell_row rfl _ _ gb187 26 #[.int .i64 t188, .slice Ao38 x192001_1.length co38] (0, 0) _ rfl (blkT BK187) Tryz.underlying26 rfl (by kernel_rfl)) rfl ?_
    exact ⟨_, eqE, Kd.R_g (Kd.R_mono (rF HO_192001 BK187) (fun _ _ => trivial)), by exact st52_2 HI0.out NB0_187.out NB0_191.out, by exact bl52_2 HB.out HI0.out GE187.out GE191.out, by exact kb52_2 HK.out GW187.out GW191.out⟩
def spec_l1Cur_among.f (s0_0 : List Int) (s0_1 : Int) (s0_2 : Int) (l1 : List Int) : Option (Int × Int × Int) := (spec_l1Cur_pick.f s0_0 s0_1 s0_2 (l1.length : Int)).bind fun bt198 => (if 0 ≤ bt198.1 then (if bt198.1 < (l1.length : Int) then (some (rd l1 bt198.1, bt198.2.1, bt198.2.2)) else (none)) else (none))
theorem spec_l1Cur_among.calls (g : Nat) (s0_0 : List Int) (s0_1 : Int) (s0_2 : Int) (A1 : Option Addr) (c1 : Nat) (l1 : List Int) (r1 : Int) (r2 : Int) (r3 : Int) (w0 w : World) (hI : IsS52 w0 w g s0_0 s0_1 s0_2) (hB : Below w0.heap.size w0 w) (hr1 : Kd.C (Kd.int .i64) w A1 l1.length l1) (hc1 : l1.length ≤ c1) (hf1 : ∀ ad, A1 = some ad → 0 < l1.length → ad.block ≠ g) (h : spec_l1Cur_among.f s0_0 s0_1 s0_2 l1 = some (r1, r2, r3)) :
  Calls Tryz.prog 68 #[.pointer (some ⟨g, 0, none⟩), .slice A1 l1.length c1] w fun e w' => e = .returned (.int .i64 r1) ∧ IsS52 w0 w' g s0_0 r2 r3 ∧ Below w0.heap.size w0 w' ∧ KeepBut w w' g none := by
 have HR1 := mkA hr1
 have HC1 := mkA hc1
 clear hr1 hc1
 have HI0 := mkA hI
 have HK := mkA (KeepBut.refl w g none)
 have HL := mkA hB.size
 clear hI
 have HW0 := mkA hB.size
 have HB := mkA hB
 clear hB
 have H := h
 clear h
 unfold spec_l1Cur_among.f at H
 obtain ⟨⟨t198, t199, t200⟩, A3, H⟩ := obE H
 dsimp only at H
 obtain ⟨c4b0, H⟩ := itND H
 obtain ⟨c5b0, H⟩ := itND H
 simp only [Option.some.injEq, Prod.mk.injEq] at H
 obtain ⟨rfl, rfl, rfl⟩ := H
 go_enter Tryz.func68, Tryz.ntmps68
 go_wp2_with (first | ((with_reducible refine gate_callee (f := 46) rfl ?_); refine goesQ (some 9) Tryz.func46 #[.pointer (some ⟨g, 0, none⟩), .int .i64 (l1.length : Int)] ?_; (with_reducible refine (spec_l1Cur_pick.calls g s0_0 s0_1 s0_2 (l1.length : Int) t198 t199 t200 w0 _ ?_ ?_ A3.out).mono ?_); exact st52_0 HI0.out; exact bl52_0 HB.out HI0.out; rintro e w6 ⟨rfl, hi, hb, hk⟩; refine ⟨_, rfl, ?_⟩; replace HK := kT (by exact kb52_0 HK.out) hk; replace HI0 := mkA (hi); replace HB := mkA (hb); clear hb hk hi; have p201 : 0 ≤ (t198 : Int) := ofd; have q201 : t198 < (l1.length : Int) := ofd; obtain ⟨ad201, e201, hx201_0⟩ := Kd.at_int HR1.out t198 p201 q201; cases e201; replace hx201_0 := keep_cell HK.out hx201_0 (by first | (rw [add_block]; exact hf1 _ rfl (by omega)) | exact hf1 _ rfl (by omega) | exact hf1 ad201 rfl (by omega)); replace p201 := eq_true p201; replace q201 := eq_true q201))
 go_ret
 exact ⟨eqE, by exact st52_0 HI0.out, by exact bl52_0 HB.out HI0.out, by exact kb52_0 HK.out⟩
end Go.Proofs.YtgbdjchdfcodcaaGreatDoor.Q
