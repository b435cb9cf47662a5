import Derived.Test.YtgbdjchdfcodcaaDoorBFnRefinements3
namespace Go.Proofs.YtgbdjchdfcodcaaDoor.Q
open Go.RowKit Go.Proofs.YtgbdjchdfcodcaaDoorW.PrintWords Go.Proofs.YtgbdjchdfcodcaaDoorW.PrintLast Go.Proofs.YtgbdjchdfcodcaaDoorW.PrintMore
attribute [local go_sem] max2_int min2_int max_two min_two max_three min_three max_four min_four neB_f
set_option linter.unusedVariables false
set_option maxHeartbeats 8000000
set_option maxRecDepth 100000
set_option linter.unusedSimpArgs false
mutual
def spec_l1Cur_relation.l0 : Nat → List Int → Int → Int → Int → List Int → Option (Int × List Int × Int × Int)
 | 0, _, _, _, _, _ => none
 | k + 1, x1000, x1001, x1002, x276000, x276001 => if (x276001.length : Int) < x276000 then (spec_l1Cur_relation.l1 k 0 0 x1000 x1001 x1002 x276000 x276001) else (some (x276000, x276001, x1001, x1002))
def spec_l1Cur_relation.l1 : Nat → Int → Int → List Int → Int → Int → Int → List Int → Option (Int × List Int × Int × Int)
 | 0, _, _, _, _, _, _, _ => none
 | k + 1, x6, x7, x1000, x1001, x1002, x276000, x276001 => if x7 < x276000 then ((spec_l1Cur_one.f x1000 x1001 x1002 4).bind fun bt276 => (if bt276.1 = true then (if 0 ≤ x7 then (spec_l1Cur_relation.l1 k (Go.bits .or .i64 x6 (shl .i64 1 x7)) (wrap64 (x7 + 1)) x1000 bt276.2.1 bt276.2.2 x276000 x276001) else (none)) else (spec_l1Cur_relation.l1 k x6 (wrap64 (x7 + 1)) x1000 bt276.2.1 bt276.2.2 x276000 x276001))) else (if x276001.length < 17592186044416 then (spec_l1Cur_relation.l0 k x1000 x1001 x1002 x276000 (x276001 ++ [x6])) else (none))
end
def spec_l1Cur_relation.f (k : Nat) (s0_0 : List Int) (s0_1 : Int) (s0_2 : Int) (a1 : Int) : Option (Int × List Int × Int × Int) := (spec_l1Cur_pick.f s0_0 s0_1 s0_2 (wrap64 (a1 + 1))).bind fun bt272 => (spec_l1Cur_relation.l0 k s0_0 bt272.2.1 bt272.2.2 bt272.1 ([] : List Int))
theorem spec_l1Cur_relation.mono_l : ∀ k, (∀ y0 y1 y2 y3 y4, LeO (spec_l1Cur_relation.l0 k y0 y1 y2 y3 y4) (spec_l1Cur_relation.l0 (k + 1) y0 y1 y2 y3 y4)) ∧ (∀ y0 y1 y2 y3 y4 y5 y6, LeO (spec_l1Cur_relation.l1 k y0 y1 y2 y3 y4 y5 y6) (spec_l1Cur_relation.l1 (k + 1) y0 y1 y2 y3 y4 y5 y6))
 | 0 => ⟨fun _ _ _ _ _ r h => by simp [spec_l1Cur_relation.l0] at h, fun _ _ _ _ _ _ _ r h => by simp [spec_l1Cur_relation.l1] at h⟩
 | k + 1 => by
  obtain ⟨ih0, ih1⟩ := spec_l1Cur_relation.mono_l k
  refine ⟨?_, ?_⟩ <;> intros
  unfold spec_l1Cur_relation.l0
  rotate_left
  unfold spec_l1Cur_relation.l1
  rotate_left
  all_goals repeat' (with_reducible first|exact ih0 _ _ _ _ _|exact ih1 _ _ _ _ _ _ _|exact LeO.refl _|exact LeO.none _|refine LeO.ite ?_ ?_|refine LeO.bind ?_ (fun _ => ?_))
theorem spec_l1Cur_relation.mono : ∀ a0 a1 a2 a3 k, LeO (spec_l1Cur_relation.f k a0 a1 a2 a3) (spec_l1Cur_relation.f (k + 1) a0 a1 a2 a3) := by
 intro a0 a1 a2 a3 k
 obtain ⟨ih0, ih1⟩ := spec_l1Cur_relation.mono_l k
 unfold spec_l1Cur_relation.f
 repeat' (with_reducible first|exact ih0 _ _ _ _ _|exact ih1 _ _ _ _ _ _ _|exact LeO.refl _|exact LeO.none _|refine LeO.ite ?_ ?_|refine LeO.bind ?_ (fun _ => ?_))
theorem spec_l1Cur_relation.calls (k : Nat) (g : Nat) (s0_0 : List Int) (s0_1 : Int) (s0_2 : Int) (a1 : Int) (r1 : Int) (r2 : List Int) (r3 : Int) (r4 : Int) (w0 w : World) (hI : IsS47 w0 w g s0_0 s0_1 s0_2) (hB : Below w0.heap.size w0 w) (h : spec_l1Cur_relation.f k s0_0 s0_1 s0_2 a1 = some (r1, r2, r3, r4)) :
  Calls Tryd.prog 63 #[.pointer (some ⟨g, 0, none⟩), .int .i64 a1] w fun e w' => ∃ v1_ : Value, e = .returned (.agg #[.int .i64 r1, v1_]) ∧ Kd.R (Kd.int .i64) 3 w' w.heap.size (fun _ => True) v1_ r2 ∧ IsS47 w0 w' g s0_0 r3 r4 ∧ Below w0.heap.size w0 w' ∧ KeepBut w w' g none := by
 have hu26 := Tryd.underlying26
 have HI0 := mkA hI
 have HK := mkA (KeepBut.refl w g none)
 have HL := mkA hB.size
 clear hI
 have HW0 := mkA hB.size
 have HB := mkA hB
 clear hB
 have H := h
 clear h
 unfold spec_l1Cur_relation.f at H
 obtain ⟨⟨t272, t273, t274⟩, A3, H⟩ := obE H
 dsimp only at H
 have H' := mkA H
 clear H
 go_enter Tryd.func63, Tryd.ntmps63
 go_wp2_with (first | ((with_reducible refine gate_dst (N := 4) rfl ?_); refine boxE (N := 4) (cs := #[.int .i64 0, .slice none 0 0]) (t := 26) ?_; intro gb271 hg w4 hbox hb; have BK271 := mkA (hbox); have GW271 := mkA ((by rw [hg]; exact (keep_size (w := w) (g := g) (row := none) (by exact kb47_0 HK.out)) : w.heap.size ≤ gb271)); have GE271 := mkA (Nat.le_trans HW0.out GW271.out); replace HK := kU (g := g) (by exact kb47_0 HK.out) hb; have NB0_271 : NeB _ _ := ⟨(by rw [hg]; exact Nat.ne_of_lt (IsS47.lt (show IsS47 w0 _ g s0_0 s0_1 s0_2 from by exact st47_0 HI0.out)) : g ≠ gb271)⟩; have NB271_0 : NeB _ _ := ⟨(by rw [hg]; exact Nat.ne_of_gt (IsS47.lt (show IsS47 w0 _ g s0_0 s0_1 s0_2 from by exact st47_0 HI0.out)) : gb271 ≠ g)⟩; replace HB := mkA (below_step (by exact bl47_0 HB.out HI0.out) hb); replace HI0 := mkA (IsS47.below (by exact st47_0 HI0.out) hb); clear hb hbox hg) | ((with_reducible refine gate_callee (f := 41) rfl ?_); refine goesQ (some 11) Tryd.func41 #[.pointer (some ⟨g, 0, none⟩), .int .i64 (wrap64 (a1 + 1))] ?_; (with_reducible refine (spec_l1Cur_pick.calls g s0_0 s0_1 s0_2 (wrap64 (a1 + 1)) t272 t273 t274 w0 _ ?s1 ?s2 A3.out).mono ?_); (case s1 => exact st47_1 HI0.out NB0_271.out); (case s2 => exact bl47_1 HB.out HI0.out GE271.out); rintro e w5 ⟨rfl, hi, hb, hk⟩; refine ⟨_, rfl, ?_⟩; replace BK271 := kB hk BK271; replace HK := kT (by exact kb47_1 HK.out GW271.out) hk; replace HI0 := mkA (hi); replace HB := mkA (hb); (try clear hb); (try clear hk); (try clear hi)) | ((with_reducible refine gate_dst (N := 5) rfl ?_); refine boxE (N := 5) (cs := #[.int .i64 0, .slice none 0 0]) (t := 26) ?_; intro gb275 hg w6 hbox hb; have BK275 := mkA (hbox); have GW275 := mkA ((by rw [hg]; exact (keep_size (w := w) (g := g) (row := none) (by exact kb47_1 HK.out GW271.out)) : w.heap.size ≤ gb275)); have GE275 := mkA (Nat.le_trans HW0.out GW275.out); replace HK := kU (g := g) (by exact kb47_1 HK.out GW271.out) hb; have NB271_275 := neL7 BK271 hg; have NB275_271 := neR7 BK271 hg; replace BK271 := blkB BK271 hb; have NB0_275 : NeB _ _ := ⟨(by rw [hg]; exact Nat.ne_of_lt (IsS47.lt (show IsS47 w0 _ g s0_0 t273 t274 from by exact st47_1 HI0.out NB0_271.out)) : g ≠ gb275)⟩; have NB275_0 : NeB _ _ := ⟨(by rw [hg]; exact Nat.ne_of_gt (IsS47.lt (show IsS47 w0 _ g s0_0 t273 t274 from by exact st47_1 HI0.out NB0_271.out)) : gb275 ≠ g)⟩; replace HB := mkA (below_step (by exact bl47_1 HB.out HI0.out GE271.out) hb); replace HI0 := mkA (IsS47.below (by exact st47_1 HI0.out NB0_271.out) hb); clear hb hbox hg; obtain ⟨_, _, _, _⟩ := blk2 BK275))
 go_loopg [] k (fun kq w' => ∃ (x1001_1 : Int) (x1002_1 : Int) (x276001_1 : List Int) (u276001 : Value), Fc (spec_l1Cur_relation.l0 kq s0_0 x1001_1 x1002_1 t272 x276001_1 = some (r1, r2, r3, r4)) ∧ Fc (kq ≤ k) ∧ Fc (Kd.R (Kd.int .i64) 3 w' w.heap.size (fun _ => True) u276001 x276001_1) ∧ Fc (w'.heap[gb271]? = some (.cells #[.int .i64 0, (.slice none 0 0)] 26 (0, 0))) ∧ Fc (w'.heap[gb275]? = some (.cells #[.int .i64 t272, u276001] 26 (0, 0))) ∧ Fc (IsS47 w0 w' g s0_0 x1001_1 x1002_1) ∧ Fc (KeepBut w w' g none) ∧ Fc (Below w0.heap.size w0 w'))
 case atStart => exact ⟨(t273), (t274), (([] : List Int)), (.slice none 0 0), H', ⟨Nat.le_refl _⟩, ⟨by first | exact Kd.R_nil _ _ _ _ _ | exact Kd.N_nil _ _ _ _ _ | exact Kd.V_nil _ _ _ _ _ | exact Kd.Q_nil _ _ _ _ _ | exact Kd.S_nil _ _ _ _ _⟩, ⟨blkT BK271⟩, ⟨blkT BK275⟩, ⟨by exact st47_2 HI0.out NB0_271.out NB0_275.out⟩, ⟨by exact kb47_2 HK.out GW271.out GW275.out⟩, ⟨by exact bl47_2 HB.out HI0.out GE271.out GE275.out⟩⟩
 case round =>
  clear H'
  obtain ⟨x1001_1, x1002_1, x276001_1, u276001, HA, HK1, HO_276001, BK271, BK275, HI0, HK, HB⟩ := hrel
  cases gk with
  | zero => exact absurd HA.out (by simp [spec_l1Cur_relation.l0])
  | succ k1 =>
   have H := HA.out
   clear HA
   simp only [spec_l1Cur_relation.l0] at H
   rcases iteE H with ⟨c10b0, H⟩ | ⟨c10b0, H⟩
   ·have H' := mkA H
    clear H
    obtain ⟨_, _, _, _⟩ := blk2 BK275
    obtain ⟨Ao14, co14, eo14⟩ := Kd.R_slice HO_276001.out
    subst eo14
    go_wp2
    go_loopg [6, 7] k1 (fun kq v6 v7 w' => ∃ (x6_2 : Int) (x7_2 : Int) (x1001_2 : Int) (x1002_2 : Int), v6 = .int .i64 x6_2 ∧ v7 = .int .i64 x7_2 ∧ Fc (spec_l1Cur_relation.l1 kq x6_2 x7_2 s0_0 x1001_2 x1002_2 t272 x276001_1 = some (r1, r2, r3, r4)) ∧ Fc (kq ≤ k1) ∧ Fc (Kd.R (Kd.int .i64) 3 w' w.heap.size (fun _ => True) (.slice Ao14 x276001_1.length co14) x276001_1) ∧ Fc (w'.heap[gb271]? = some (.cells #[.int .i64 0, (.slice none 0 0)] 26 (0, 0))) ∧ Fc (w'.heap[gb275]? = some (.cells #[.int .i64 t272, (.slice Ao14 x276001_1.length co14)] 26 (0, 0))) ∧ Fc (IsS47 w0 w' g s0_0 x1001_2 x1002_2) ∧ Fc (KeepBut w w' g none) ∧ Fc (Below w0.heap.size w0 w'))
    case atStart => exact ⟨(0), (0), (x1001_1), (x1002_1), eqS, eqS, H', ⟨Nat.le_refl _⟩, ⟨Kd.R_g HO_276001.out⟩, ⟨blk_g BK271.out⟩, ⟨blk_g BK275.out⟩, ⟨by exact st47_2 HI0.out NB0_271.out NB0_275.out⟩, ⟨by exact kb47_2 HK.out GW271.out GW275.out⟩, ⟨by exact bl47_2 HB.out HI0.out GE271.out GE275.out⟩⟩
    case round =>
     clear H'
     try clear c10b0
     obtain ⟨x6_2, x7_2, x1001_2, x1002_2, rfl, rfl, HA, HK2, HO_276001, BK271, BK275, HI0, HK, HB⟩ := hrel
     cases gk with
     | zero => exact absurd HA.out (by simp [spec_l1Cur_relation.l1])
     | succ k2 =>
      have H := HA.out
      clear HA
      simp only [spec_l1Cur_relation.l1] at H
      rcases iteE H with ⟨c15b0, H⟩ | ⟨c15b0, H⟩
      ·obtain ⟨⟨t276, t277, t278⟩, A16, H⟩ := obE H
       dsimp only at H
       by_cases c17 : t276 = true
       ·subst c17
        replace H := ifT H
        obtain ⟨c18, H⟩ := itNP H
        have c18b0 := eq_true c18
        have c18b1 : decide (0 ≤ x7_2) = true := decide_eq_true c18
        clear c18
        obtain ⟨ji19, hji19⟩ : ∃ j_ : Int, (shl .i64 1 x7_2) = j_ := ⟨_, rfl⟩
        replace H : (spec_l1Cur_relation.l1 k2 (Go.bits .or .i64 x6_2 (ji19)) (wrap64 (x7_2 + 1)) s0_0 t277 t278 t272 x276001_1) = some (r1, r2, r3, r4) := by first | (rw [hji19] at H; exact H) | (simp only [hji19] at H ⊢; exact H)
        (try rw [hji19] at A16)
        have hji19_ : (IntKind.i64.wrap (1 * 2 ^ min x7_2.toNat 64)) = ji19 := hji19
        have hji19z : x7_2 ≤ 64 → (IntKind.i64.wrap (1 * 2 ^ x7_2.toNat)) = ji19 := shl_small hji19
        have hji19u : (IntKind.i64.wrap (2 ^ min x7_2.toNat 64)) = ji19 := by have h_ := hji19_; rw [Int.one_mul] at h_; exact h_
        have hji19v : x7_2 ≤ 64 → (IntKind.i64.wrap (2 ^ x7_2.toNat)) = ji19 := fun hle_ => by have h_ := hji19z hle_; rw [Int.one_mul] at h_; exact h_
        have hji19y : (wrap64 (1 * 2 ^ min x7_2.toNat 64)) = ji19 := (i64_w _).symm.trans hji19_
        have hji19x : x7_2 ≤ 64 → (wrap64 (1 * 2 ^ x7_2.toNat)) = ji19 := fun h_ => (i64_w _).symm.trans (hji19z h_)
        have H' := mkA H
        clear H
        obtain ⟨_, _, _, _⟩ := blk2 BK275
        go_wp2_with (first | ((with_reducible refine gate_callee (f := 26) rfl ?_); refine goesQ (some 26) Tryd.func26 #[.pointer (some ⟨g, 0, none⟩), .int .i64 4] ?_; (with_reducible refine (spec_l1Cur_one.calls g s0_0 x1001_2 x1002_2 4 true t277 t278 w0 _ ?s1 ?s2 A16.out).mono ?_); (case s1 => exact st47_2 HI0.out NB0_271.out NB0_275.out); (case s2 => exact bl47_2 HB.out HI0.out GE271.out GE275.out); rintro e w23 ⟨rfl, hi, hb, hk⟩; refine ⟨_, rfl, ?_⟩; replace HO_276001 := rK (IsS47.apart (show IsS47 w0 _ g s0_0 x1001_2 x1002_2 from by exact st47_2 HI0.out NB0_271.out NB0_275.out) (Kd.R_g HO_276001.out) (by decide)) hk; replace BK271 := kB hk BK271; replace BK275 := kB hk BK275; replace HK := kT (by exact kb47_2 HK.out GW271.out GW275.out) hk; replace HI0 := mkA (hi); replace HB := mkA (hb); (try clear hb); (try clear hk); (try clear hi)))
        go_roundg k2
        case measure => have := HK1.out; have := HK2.out; omega
        case rel => exact ⟨(Go.bits .or .i64 x6_2 (ji19)), (wrap64 (x7_2 + 1)), (t277), (t278), (by first | rfl | (simp; done) | (simp only [← hji19] <;> (first | rfl | simp)) | (simp [*]; done)), eqS, H', ⟨by have := HK1.out; have := HK2.out; omega⟩, ⟨Kd.R_g HO_276001.out⟩, ⟨blk_g BK271.out⟩, ⟨blk_g BK275.out⟩, ⟨by exact st47_2 HI0.out NB0_271.out NB0_275.out⟩, ⟨by exact kb47_2 HK.out GW271.out GW275.out⟩, ⟨by exact bl47_2 HB.out HI0.out GE271.out GE275.out⟩⟩
       ·replace c17 := Bool.eq_false_iff.mpr c17
        subst c17
        replace H := ifF H
        have H' := mkA H
        clear H
        obtain ⟨_, _, _, _⟩ := blk2 BK275
        go_wp2_with (first | ((with_reducible refine gate_callee (f := 26) rfl ?_); refine goesQ (some 26) Tryd.func26 #[.pointer (some ⟨g, 0, none⟩), .int .i64 4] ?_; (with_reducible refine (spec_l1Cur_one.calls g s0_0 x1001_2 x1002_2 4 false t277 t278 w0 _ ?s1 ?s2 A16.out).mono ?_); (case s1 => exact st47_2 HI0.out NB0_271.out NB0_275.out); (case s2 => exact bl47_2 HB.out HI0.out GE271.out GE275.out); rintro e w27 ⟨rfl, hi, hb, hk⟩; refine ⟨_, rfl, ?_⟩; replace HO_276001 := rK (IsS47.apart (show IsS47 w0 _ g s0_0 x1001_2 x1002_2 from by exact st47_2 HI0.out NB0_271.out NB0_275.out) (Kd.R_g HO_276001.out) (by decide)) hk; replace BK271 := kB hk BK271; replace BK275 := kB hk BK275; replace HK := kT (by exact kb47_2 HK.out GW271.out GW275.out) hk; replace HI0 := mkA (hi); replace HB := mkA (hb); (try clear hb); (try clear hk); (try clear hi)))
        go_roundg k2
        case measure => have := HK1.out; have := HK2.out; omega
        case rel => exact ⟨(x6_2), (wrap64 (x7_2 + 1)), (t277), (t278), eqS, eqS, H', ⟨by have := HK1.out; have := HK2.out; omega⟩, ⟨Kd.R_g HO_276001.out⟩, ⟨blk_g BK271.out⟩, ⟨blk_g BK275.out⟩, ⟨by exact st47_2 HI0.out NB0_271.out NB0_275.out⟩, ⟨by exact kb47_2 HK.out GW271.out GW275.out⟩, ⟨by exact bl47_2 HB.out HI0.out GE271.out GE275.out⟩⟩
      ·obtain ⟨c28, H⟩ := itNP H
       have LMc28 := mkA c28
       clear c28
       obtain ⟨y279, hy279⟩ : ∃ y_ : List Int, y_ = (x276001_1 ++ [x6_2]) := ⟨_, rfl⟩
       replace H : (spec_l1Cur_relation.l0 k2 s0_0 x1001_2 x1002_2 t272 y279) = some (r1, r2, r3, r4) := by first | (rw [hy279]; with_reducible exact H) | (have H2_ := (Option.bind_some _ _).symm.trans H; rw [hy279]; with_reducible exact H2_) | (have H2_ := (Option.bind_some _ _).symm.trans H; with_reducible exact H2_) | with_reducible exact H | (rw [hy279]; exact H) | exact H
       have Ny279 := mkA hy279
       clear hy279
       have H' := mkA H
       clear H
       obtain ⟨_, _, _, _⟩ := blk2 BK275
       go_wp2_with (first | ((with_reducible refine gate_builtin (b := .append) (xs := #[.tmp 32, .tmp 34]) rfl ?_); at_builtin; refine Kd.R_append (Kd.int .i64) w.heap.size rfl (.tmp 32) (.tmp 34) 24 3 (.int .i64 0) 8 rfl Tryd.underlying24 info3 rfl (by decide) (by omega) (.slice Ao14 x276001_1.length co14) x276001_1 x6_2 [.int .i64 x6_2] (fun _ => True) (fun _ => False) rfl rfl ?aP (fun _ hk => hk.elim) ?aF ?aO (Below.refl _ _) ?aS ?aL ?_; (case aP => exact rfl); (case aF => exact (fun _ _ => trivial)); (case aO => exact (Kd.R_g HO_276001.out)); (case aS => exact (keep_size (w := w) (g := g) (row := none) (by exact kb47_2 HK.out GW271.out GW275.out))); (case aL => have := LMc28.out; omega); intro v280 w32 ho hb hg hat; rw [← Ny279.out] at ho; replace BK271 := mkA (blk_grown (g := gb271) (o := .cells #[.int .i64 0, .slice none 0 0] 26 (0, 0)) (blk_g BK271.out) hg (Kd.R_ne HO_276001.out BK271.out (by decide))); replace BK275 := mkA (blk_grown (g := gb275) (o := .cells #[.int .i64 t272, .slice Ao14 x276001_1.length co14] 26 (0, 0)) (blk_g BK275.out) hg (Kd.R_ne HO_276001.out BK275.out (by decide))); replace HK := mkA (KeepBut.trans (by exact kb47_2 HK.out GW271.out GW275.out) (KeepBut.of_grown hg g) (Kd.R_base2 HO_276001.out)); have HO281 := mkA (ho); replace HB := mkA (below_weaken (by exact bl47_2 HB.out HI0.out GE271.out GE275.out) HL.out hb); replace HI0 := mkA (IsS47.grown (by exact st47_2 HI0.out NB0_271.out NB0_275.out) hg (IsS47.own_ne HI0.out HO_276001.out (by decide))); clear HO_276001; clear ho hb hg hat; obtain ⟨Ao33, co33, eo33⟩ := Kd.R_slice HO281.out; subst eo33; obtain ⟨_, _, _, _⟩ := blk2 BK275))
       go_roundg k2
       case measure => have := HK1.out; have := HK2.out; omega
       case rel => exact ⟨(x1001_2), (x1002_2), (y279), (.slice Ao33 y279.length co33), H', ⟨by have := HK1.out; have := HK2.out; omega⟩, ⟨Kd.R_g (Kd.R_mono (Kd.R_far (p := ⟨gb275, 1, none⟩) (Kd.R_types HO281.out BK275.out (by decide)) (fun _ hk => hk.2) (.slice Ao33 y279.length co33)) (fun _ hk => trivial))⟩, ⟨blkT BK271⟩, ⟨blkT BK275⟩, ⟨by exact st47_2 HI0.out NB0_271.out NB0_275.out⟩, ⟨by exact kb47_2 HK.out GW271.out GW275.out⟩, ⟨by exact bl47_2 HB.out HI0.out GE271.out GE275.out⟩⟩
   ·simp only [Option.some.injEq, Prod.mk.injEq] at H
    obtain ⟨rfl, rfl, rfl, rfl⟩ := H
    obtain ⟨_, _, _, _⟩ := blk2 BK275
    obtain ⟨Ao38, co38, eo38⟩ := Kd.R_slice HO_276001.out
    subst eo38
    obtain ⟨_, _, _, _⟩ := blk2 BK271
    go_wp2
    refine bodyPost_ret (results_cell_row rfl _ _ gb271 26 #[.int .i64 t272, .slice Ao38 x276001_1.length co38] (0, 0) _ rfl (blkT BK271) Tryd.underlying26 rfl (by kernel_rfl)) rfl ?_
    exact ⟨_, eqE, by (with_reducible repeat (first | apply Kd.R_alloc | apply Kd.R_drewN | apply Kd.R_drew)); exact Kd.R_mono (rF HO_276001 BK271) (fun _ _ => trivial), by exact st47_2 HI0.out NB0_271.out NB0_275.out, by exact bl47_2 HB.out HI0.out GE271.out GE275.out, by exact kb47_2 HK.out GW271.out GW275.out⟩
end Go.Proofs.YtgbdjchdfcodcaaDoor.Q
