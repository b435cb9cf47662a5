import Derived.Test.YtmdnbjhboppkdaaDoorBFnMajorities2
namespace Go.Proofs.YtmdnbjhboppkdaaDoor.Q
open Go.RowKit Go.Proofs.YtmdnbjhboppkdaaDoorW.PrintWords Go.Proofs.YtmdnbjhboppkdaaDoorW.PrintLast Go.Proofs.YtmdnbjhboppkdaaDoorW.PrintMore
attribute [local go_sem] max2_int min2_int max_two min_two max_three min_three max_four min_four neB_f
set_option linter.unusedVariables false
set_option maxHeartbeats 8000000
set_option maxRecDepth 100000
set_option linter.unusedSimpArgs false
mutual
def spec_l1Cur_relation.l0 : Nat → List Int → Int → Int → Int → List Int → Option (Int × List Int × Int × Int)
 | 0, _, _, _, _, _ => none
 | k + 1, x1000, x1001, x1002, x583000, x583001 => if (x583001.length : Int) < x583000 then (spec_l1Cur_relation.l1 k 0 0 x1000 x1001 x1002 x583000 x583001) else (some (x583000, x583001, x1001, x1002))
def spec_l1Cur_relation.l1 : Nat → Int → Int → List Int → Int → Int → Int → List Int → Option (Int × List Int × Int × Int)
 | 0, _, _, _, _, _, _, _ => none
 | k + 1, x6, x7, x1000, x1001, x1002, x583000, x583001 => if x7 < x583000 then ((spec_l1Cur_one.f x1000 x1001 x1002 4).bind fun bt583 => (if bt583.1 = true then (if 0 ≤ x7 then (spec_l1Cur_relation.l1 k (Go.bits .or .i64 x6 (shl .i64 1 x7)) (wrap64 (x7 + 1)) x1000 bt583.2.1 bt583.2.2 x583000 x583001) else (none)) else (spec_l1Cur_relation.l1 k x6 (wrap64 (x7 + 1)) x1000 bt583.2.1 bt583.2.2 x583000 x583001))) else (if x583001.length < 17592186044416 then (spec_l1Cur_relation.l0 k x1000 x1001 x1002 x583000 (x583001 ++ [x6])) else (none))
end
def spec_l1Cur_relation.f (k : Nat) (s0_0 : List Int) (s0_1 : Int) (s0_2 : Int) (a1 : Int) : Option (Int × List Int × Int × Int) := (spec_l1Cur_pick.f s0_0 s0_1 s0_2 (wrap64 (a1 + 1))).bind fun bt579 => (spec_l1Cur_relation.l0 k s0_0 bt579.2.1 bt579.2.2 bt579.1 ([] : List Int))
theorem spec_l1Cur_relation.mono_l : ∀ k, (∀ y0 y1 y2 y3 y4, LeO (spec_l1Cur_relation.l0 k y0 y1 y2 y3 y4) (spec_l1Cur_relation.l0 (k + 1) y0 y1 y2 y3 y4)) ∧ (∀ y0 y1 y2 y3 y4 y5 y6, LeO (spec_l1Cur_relation.l1 k y0 y1 y2 y3 y4 y5 y6) (spec_l1Cur_relation.l1 (k + 1) y0 y1 y2 y3 y4 y5 y6))
 | 0 => ⟨fun _ _ _ _ _ r h => by simp [spec_l1Cur_relation.l0] at h, fun _ _ _ _ _ _ _ r h => by simp [spec_l1Cur_relation.l1] at h⟩
 | k + 1 => by
  obtain ⟨ih0, ih1⟩ := spec_l1Cur_relation.mono_l k
  refine ⟨?_, ?_⟩ <;> intros
  unfold spec_l1Cur_relation.l0
  rotate_left
  unfold spec_l1Cur_relation.l1
  rotate_left
  all_goals repeat' (with_reducible first|apply ih0|apply ih1|apply LeO.refl|apply LeO.none|apply LeO.ite|apply LeO.bind|intro)
theorem spec_l1Cur_relation.mono : ∀ a0 a1 a2 a3 k, LeO (spec_l1Cur_relation.f k a0 a1 a2 a3) (spec_l1Cur_relation.f (k + 1) a0 a1 a2 a3) := by
 intro a0 a1 a2 a3 k
 obtain ⟨ih0, ih1⟩ := spec_l1Cur_relation.mono_l k
 unfold spec_l1Cur_relation.f
 repeat' (with_reducible first|apply ih0|apply ih1|apply LeO.refl|apply LeO.none|apply LeO.ite|apply LeO.bind|intro)
theorem spec_l1Cur_relation.calls (k : Nat) (g : Nat) (s0_0 : List Int) (s0_1 : Int) (s0_2 : Int) (a1 : Int) (r1 : Int) (r2 : List Int) (r3 : Int) (r4 : Int) (w0 w : World) (hI : IsS46 w0 w g s0_0 s0_1 s0_2) (hB : Below w0.heap.size w0 w) (h : spec_l1Cur_relation.f k s0_0 s0_1 s0_2 a1 = some (r1, r2, r3, r4)) :
  Calls Tryd.prog 79 #[.pointer (some ⟨g, 0, none⟩), .int .i64 a1] w fun e w' => ∃ v1_ : Value, e = .returned (.agg #[.int .i64 r1, v1_]) ∧ Kd.R (Kd.int .i64) 3 w' w.heap.size (fun _ => True) v1_ r2 ∧ IsS46 w0 w' g s0_0 r3 r4 ∧ Below w0.heap.size w0 w' ∧ KeepBut w w' g none := by
 have hu28 := Tryd.underlying28
 have HI0 := mkA hI
 have HK := mkA (KeepBut.refl w g none)
 have HL := mkA hB.size
 clear hI
 have HW0 := mkA hB.size
 have HB := mkA hB
 clear hB
 have H := h
 clear h
 unfold spec_l1Cur_relation.f at H
 obtain ⟨⟨t579, t580, t581⟩, A3, H⟩ := obE H
 dsimp only at H
 have H' := mkA H
 clear H
 go_enter Tryd.func79, Tryd.ntmps79
 go_wp2_with (first | ((with_reducible refine gate_dst (N := 4) rfl ?_); refine boxE (N := 4) (cs := #[.int .i64 0, .slice none 0 0]) (t := 28) ?_; intro gb578 hg w4 hbox hb; have BK578 := mkA (hbox); have GW578 := mkA ((by rw [hg]; exact (keep_size (w := w) (g := g) (row := none) (by exact kb46_0 HK.out)) : w.heap.size ≤ gb578)); have GE578 := mkA (Nat.le_trans HW0.out GW578.out); replace HK := kU (g := g) (by exact kb46_0 HK.out) hb; have NB0_578 : NeB _ _ := ⟨(by rw [hg]; exact Nat.ne_of_lt (IsS46.lt (show IsS46 w0 _ g s0_0 s0_1 s0_2 from by exact st46_0 HI0.out)) : g ≠ gb578)⟩; have NB578_0 : NeB _ _ := ⟨(by rw [hg]; exact Nat.ne_of_gt (IsS46.lt (show IsS46 w0 _ g s0_0 s0_1 s0_2 from by exact st46_0 HI0.out)) : gb578 ≠ g)⟩; replace HB := mkA (below_step (by exact bl46_0 HB.out HI0.out) hb); replace HI0 := mkA (IsS46.below (by exact st46_0 HI0.out) hb); clear hb hbox hg) | ((with_reducible refine gate_callee (f := 41) rfl ?_); refine goesQ (some 11) Tryd.func41 #[.pointer (some ⟨g, 0, none⟩), .int .i64 (wrap64 (a1 + 1))] ?_; (with_reducible refine (spec_l1Cur_pick.calls g s0_0 s0_1 s0_2 (wrap64 (a1 + 1)) t579 t580 t581 w0 _ ?_ ?_ A3.out).mono ?_); exact st46_1 HI0.out NB0_578.out; exact bl46_1 HB.out HI0.out GE578.out; rintro e w5 ⟨rfl, hi, hb, hk⟩; refine ⟨_, rfl, ?_⟩; replace BK578 := kB hk BK578; replace HK := kT (by exact kb46_1 HK.out GW578.out) hk; replace HI0 := mkA (hi); replace HB := mkA (hb); clear hb hk hi) | ((with_reducible refine gate_dst (N := 5) rfl ?_); refine boxE (N := 5) (cs := #[.int .i64 0, .slice none 0 0]) (t := 28) ?_; intro gb582 hg w6 hbox hb; have BK582 := mkA (hbox); have GW582 := mkA ((by rw [hg]; exact (keep_size (w := w) (g := g) (row := none) (by exact kb46_1 HK.out GW578.out)) : w.heap.size ≤ gb582)); have GE582 := mkA (Nat.le_trans HW0.out GW582.out); replace HK := kU (g := g) (by exact kb46_1 HK.out GW578.out) hb; have NB578_582 := neL7 BK578 hg; have NB582_578 := neR7 BK578 hg; replace BK578 := blkB BK578 hb; have NB0_582 : NeB _ _ := ⟨(by rw [hg]; exact Nat.ne_of_lt (IsS46.lt (show IsS46 w0 _ g s0_0 t580 t581 from by exact st46_1 HI0.out NB0_578.out)) : g ≠ gb582)⟩; have NB582_0 : NeB _ _ := ⟨(by rw [hg]; exact Nat.ne_of_gt (IsS46.lt (show IsS46 w0 _ g s0_0 t580 t581 from by exact st46_1 HI0.out NB0_578.out)) : gb582 ≠ g)⟩; replace HB := mkA (below_step (by exact bl46_1 HB.out HI0.out GE578.out) hb); replace HI0 := mkA (IsS46.below (by exact st46_1 HI0.out NB0_578.out) hb); clear hb hbox hg; obtain ⟨_, _, _, _⟩ := blk2 BK582))
 go_loopg [] k (fun kq w' => ∃ (x1001_1 : Int) (x1002_1 : Int) (x583001_1 : List Int) (u583001 : Value), Fc (spec_l1Cur_relation.l0 kq s0_0 x1001_1 x1002_1 t579 x583001_1 = some (r1, r2, r3, r4)) ∧ Fc (kq ≤ k) ∧ Fc (Kd.R (Kd.int .i64) 3 w' w.heap.size (fun _ => True) u583001 x583001_1) ∧ Fc (w'.heap[gb578]? = some (.cells #[.int .i64 0, (.slice none 0 0)] 28 (0, 0))) ∧ Fc (w'.heap[gb582]? = some (.cells #[.int .i64 t579, u583001] 28 (0, 0))) ∧ Fc (IsS46 w0 w' g s0_0 x1001_1 x1002_1) ∧ Fc (KeepBut w w' g none) ∧ Fc (Below w0.heap.size w0 w'))
 case atStart => exact ⟨(t580), (t581), (([] : List Int)), (.slice none 0 0), H', ⟨Nat.le_refl _⟩, ⟨nilE⟩, ⟨blkT BK578⟩, ⟨blkT BK582⟩, ⟨by exact st46_2 HI0.out NB0_578.out NB0_582.out⟩, ⟨by exact kb46_2 HK.out GW578.out GW582.out⟩, ⟨by exact bl46_2 HB.out HI0.out GE578.out GE582.out⟩⟩
 case round =>
  clear H'
  obtain ⟨x1001_1, x1002_1, x583001_1, u583001, HA, HK1, HO_583001, BK578, BK582, HI0, HK, HB⟩ := hrel
  cases gk with
  | zero => exact absurd HA.out (by simp [spec_l1Cur_relation.l0])
  | succ k1 =>
   have H := HA.out
   clear HA
   simp only [spec_l1Cur_relation.l0] at H
   rcases iteE H with ⟨c10b0, H⟩ | ⟨c10b0, H⟩
   ·have H' := mkA H
    clear H
    obtain ⟨_, _, _, _⟩ := blk2 BK582
    obtain ⟨Ao14, co14, rfl⟩ := Kd.R_slice HO_583001.out
    go_wp2
    go_loopg [6, 7] k1 (fun kq v6 v7 w' => ∃ (x6_2 : Int) (x7_2 : Int) (x1001_2 : Int) (x1002_2 : Int), v6 = .int .i64 x6_2 ∧ v7 = .int .i64 x7_2 ∧ Fc (spec_l1Cur_relation.l1 kq x6_2 x7_2 s0_0 x1001_2 x1002_2 t579 x583001_1 = some (r1, r2, r3, r4)) ∧ Fc (kq ≤ k1) ∧ Fc (Kd.R (Kd.int .i64) 3 w' w.heap.size (fun _ => True) (.slice Ao14 x583001_1.length co14) x583001_1) ∧ Fc (w'.heap[gb578]? = some (.cells #[.int .i64 0, (.slice none 0 0)] 28 (0, 0))) ∧ Fc (w'.heap[gb582]? = some (.cells #[.int .i64 t579, (.slice Ao14 x583001_1.length co14)] 28 (0, 0))) ∧ Fc (IsS46 w0 w' g s0_0 x1001_2 x1002_2) ∧ Fc (KeepBut w w' g none) ∧ Fc (Below w0.heap.size w0 w'))
    case atStart => exact ⟨(0), (0), (x1001_1), (x1002_1), eqS, eqS, H', ⟨Nat.le_refl _⟩, rg HO_583001, bg BK578, bg BK582, ⟨by exact st46_2 HI0.out NB0_578.out NB0_582.out⟩, ⟨by exact kb46_2 HK.out GW578.out GW582.out⟩, ⟨by exact bl46_2 HB.out HI0.out GE578.out GE582.out⟩⟩
    case round =>
     clear H'
     try clear c10b0
     obtain ⟨x6_2, x7_2, x1001_2, x1002_2, rfl, rfl, HA, HK2, HO_583001, BK578, BK582, HI0, HK, HB⟩ := hrel
     cases gk with
     | zero => exact absurd HA.out (by simp [spec_l1Cur_relation.l1])
     | succ k2 =>
      have H := HA.out
      clear HA
      simp only [spec_l1Cur_relation.l1] at H
      rcases iteE H with ⟨c15b0, H⟩ | ⟨c15b0, H⟩
      ·obtain ⟨⟨t583, t584, t585⟩, A16, H⟩ := obE H
       dsimp only at H
       by_cases c17 : t583 = true
       ·subst c17
        replace H := ifT H
        obtain ⟨c18b0, c18b1, H⟩ := itNQ H
        obtain ⟨ji19, hji19⟩ : ∃ j_ : Int, (shl .i64 1 x7_2) = j_ := ⟨_, rfl⟩
        first | rw [hji19] at H | simp only [hji19] at H
        (try rw [hji19] at A16)
        have hji19_ : (IntKind.i64.wrap (1 * 2 ^ min x7_2.toNat 64)) = ji19 := hji19
        have hji19z : x7_2 ≤ 64 → (IntKind.i64.wrap (1 * 2 ^ x7_2.toNat)) = ji19 := shl_small hji19
        have hji19u : (IntKind.i64.wrap (2 ^ min x7_2.toNat 64)) = ji19 := by have h_ := hji19_; rw [Int.one_mul] at h_; exact h_
        have hji19v : x7_2 ≤ 64 → (IntKind.i64.wrap (2 ^ x7_2.toNat)) = ji19 := fun hle_ => by have h_ := hji19z hle_; rw [Int.one_mul] at h_; exact h_
        have hji19y : (wrap64 (1 * 2 ^ min x7_2.toNat 64)) = ji19 := (i64_w _).symm.trans hji19_
        have hji19x : x7_2 ≤ 64 → (wrap64 (1 * 2 ^ x7_2.toNat)) = ji19 := fun h_ => (i64_w _).symm.trans (hji19z h_)
        have H' := mkA H
        clear H
        obtain ⟨_, _, _, _⟩ := blk2 BK582
        go_wp2_with (first | ((with_reducible refine gate_callee (f := 40) rfl ?_); refine goesQ (some 26) Tryd.func40 #[.pointer (some ⟨g, 0, none⟩), .int .i64 4] ?_; (with_reducible refine (spec_l1Cur_one.calls g s0_0 x1001_2 x1002_2 4 true t584 t585 w0 _ ?_ ?_ A16.out).mono ?_); exact st46_2 HI0.out NB0_578.out NB0_582.out; exact bl46_2 HB.out HI0.out GE578.out GE582.out; rintro e w23 ⟨rfl, hi, hb, hk⟩; refine ⟨_, rfl, ?_⟩; replace HO_583001 := rK (IsS46.apart (show IsS46 w0 _ g s0_0 x1001_2 x1002_2 from by exact st46_2 HI0.out NB0_578.out NB0_582.out) (Kd.R_g HO_583001.out) (by decide)) hk; replace BK578 := kB hk BK578; replace BK582 := kB hk BK582; replace HK := kT (by exact kb46_2 HK.out GW578.out GW582.out) hk; replace HI0 := mkA (hi); replace HB := mkA (hb); clear hb hk hi))
        go_roundg k2
        case measure => have := HK1.out; have := HK2.out; omega
        case rel => exact ⟨(Go.bits .or .i64 x6_2 (ji19)), (wrap64 (x7_2 + 1)), (t584), (t585), (by first | rfl | (simp; done) | (simp only [← hji19] <;> (first | rfl | simp)) | (simp [*]; done)), eqS, H', ⟨by have := HK1.out; have := HK2.out; omega⟩, rg HO_583001, bg BK578, bg BK582, ⟨by exact st46_2 HI0.out NB0_578.out NB0_582.out⟩, ⟨by exact kb46_2 HK.out GW578.out GW582.out⟩, ⟨by exact bl46_2 HB.out HI0.out GE578.out GE582.out⟩⟩
       ·replace c17 := Bool.eq_false_iff.mpr c17
        subst c17
        replace H := ifF H
        have H' := mkA H
        clear H
        obtain ⟨_, _, _, _⟩ := blk2 BK582
        go_wp2_with (first | ((with_reducible refine gate_callee (f := 40) rfl ?_); refine goesQ (some 26) Tryd.func40 #[.pointer (some ⟨g, 0, none⟩), .int .i64 4] ?_; (with_reducible refine (spec_l1Cur_one.calls g s0_0 x1001_2 x1002_2 4 false t584 t585 w0 _ ?_ ?_ A16.out).mono ?_); exact st46_2 HI0.out NB0_578.out NB0_582.out; exact bl46_2 HB.out HI0.out GE578.out GE582.out; rintro e w27 ⟨rfl, hi, hb, hk⟩; refine ⟨_, rfl, ?_⟩; replace HO_583001 := rK (IsS46.apart (show IsS46 w0 _ g s0_0 x1001_2 x1002_2 from by exact st46_2 HI0.out NB0_578.out NB0_582.out) (Kd.R_g HO_583001.out) (by decide)) hk; replace BK578 := kB hk BK578; replace BK582 := kB hk BK582; replace HK := kT (by exact kb46_2 HK.out GW578.out GW582.out) hk; replace HI0 := mkA (hi); replace HB := mkA (hb); clear hb hk hi))
        go_roundg k2
        case measure => have := HK1.out; have := HK2.out; omega
        case rel => exact ⟨(x6_2), (wrap64 (x7_2 + 1)), (t584), (t585), eqS, eqS, H', ⟨by have := HK1.out; have := HK2.out; omega⟩, rg HO_583001, bg BK578, bg BK582, ⟨by exact st46_2 HI0.out NB0_578.out NB0_582.out⟩, ⟨by exact kb46_2 HK.out GW578.out GW582.out⟩, ⟨by exact bl46_2 HB.out HI0.out GE578.out GE582.out⟩⟩
      ·obtain ⟨c28, H⟩ := itNP H
       have LMc28 := mkA c28
       clear c28
       obtain ⟨y586, hy586⟩ : ∃ y_ : List Int, y_ = (x583001_1 ++ [x6_2]) := ⟨_, rfl⟩
       rw [← hy586] at H
       have Ny586 := mkA hy586
       clear hy586
       have H' := mkA H
       clear H
       obtain ⟨_, _, _, _⟩ := blk2 BK582
       go_wp2_with (first | ((with_reducible refine gate_builtin (b := .append) (xs := #[.tmp 32, .tmp 34]) rfl ?_); at_builtin; refine Kd.R_append (Kd.int .i64) w.heap.size rfl (.tmp 32) (.tmp 34) 26 3 (.int .i64 0) 8 rfl Tryd.underlying26 info3 rfl (by decide) (by omega) (.slice Ao14 x583001_1.length co14) x583001_1 x6_2 [.int .i64 x6_2] (fun _ => True) (fun _ => False) rfl rfl ?aP (fun _ hk => hk.elim) ?aF ?aO (Below.refl _ _) ?aS ?aL ?_; (case aP => exact rfl); (case aF => exact (fun _ _ => trivial)); (case aO => exact (Kd.R_g HO_583001.out)); (case aS => exact (keep_size (w := w) (g := g) (row := none) (by exact kb46_2 HK.out GW578.out GW582.out))); (case aL => have := LMc28.out; omega); intro v587 w32 ho hb hg hat; rw [← Ny586.out] at ho; replace BK578 := mkA (blk_grown (g := gb578) (o := .cells #[.int .i64 0, .slice none 0 0] 28 (0, 0)) (blk_g BK578.out) hg (Kd.R_ne HO_583001.out BK578.out (by decide))); replace BK582 := mkA (blk_grown (g := gb582) (o := .cells #[.int .i64 t579, .slice Ao14 x583001_1.length co14] 28 (0, 0)) (blk_g BK582.out) hg (Kd.R_ne HO_583001.out BK582.out (by decide))); replace HK := mkA (KeepBut.trans (by exact kb46_2 HK.out GW578.out GW582.out) (KeepBut.of_grown hg g) (Kd.R_base2 HO_583001.out)); have HO588 := mkA (ho); replace HB := mkA (below_weaken (by exact bl46_2 HB.out HI0.out GE578.out GE582.out) HL.out hb); replace HI0 := mkA (IsS46.grown (by exact st46_2 HI0.out NB0_578.out NB0_582.out) hg (IsS46.own_ne HI0.out HO_583001.out (by decide))); clear HO_583001; clear ho hb hg hat; obtain ⟨Ao33, co33, rfl⟩ := Kd.R_slice HO588.out; obtain ⟨_, _, _, _⟩ := blk2 BK582))
       go_roundg k2
       case measure => have := HK1.out; have := HK2.out; omega
       case rel => exact ⟨(x1001_2), (x1002_2), (y586), (.slice Ao33 y586.length co33), H', ⟨by have := HK1.out; have := HK2.out; omega⟩, ⟨Kd.R_g (Kd.R_mono (Kd.R_far (p := ⟨gb582, 1, none⟩) (Kd.R_types HO588.out BK582.out (by decide)) (fun _ hk => hk.2) (.slice Ao33 y586.length co33)) (fun _ hk => trivial))⟩, ⟨blkT BK578⟩, ⟨blkT BK582⟩, ⟨by exact st46_2 HI0.out NB0_578.out NB0_582.out⟩, ⟨by exact kb46_2 HK.out GW578.out GW582.out⟩, ⟨by exact bl46_2 HB.out HI0.out GE578.out GE582.out⟩⟩
   ·simp only [Option.some.injEq, Prod.mk.injEq] at H
    obtain ⟨rfl, rfl, rfl, rfl⟩ := H
    obtain ⟨_, _, _, _⟩ := blk2 BK582
    obtain ⟨Ao38, co38, rfl⟩ := Kd.R_slice HO_583001.out
    obtain ⟨_, _, _, _⟩ := blk2 BK578
    go_wp2
    refine bodyPost_ret (results_cell_row rfl _ _ gb578 28 #[.int .i64 t579, .slice Ao38 x583001_1.length co38] (0, 0) _ rfl (blkT BK578) Tryd.underlying28 rfl (by kernel_rfl)) rfl ?_
    exact ⟨_, eqE, Kd.R_g (Kd.R_mono (rF HO_583001 BK578) (fun _ _ => trivial)), by exact st46_2 HI0.out NB0_578.out NB0_582.out, by exact bl46_2 HB.out HI0.out GE578.out GE582.out, by exact kb46_2 HK.out GW578.out GW582.out⟩
end Go.Proofs.YtmdnbjhboppkdaaDoor.Q
