import Derived.Test.YtgbdjchdfcodcaaDoorBFnRefinements2
namespace Go.Proofs.YtgbdjchdfcodcaaDoor.Q
open Go.RowKit Go.Proofs.YtgbdjchdfcodcaaDoorW.PrintWords Go.Proofs.YtgbdjchdfcodcaaDoorW.PrintLast Go.Proofs.YtgbdjchdfcodcaaDoorW.PrintMore
attribute [local go_sem] max2_int min2_int max_two min_two max_three min_three max_four min_four neB_f
set_option linter.unusedVariables false
set_option maxHeartbeats 8000000
set_option maxRecDepth 100000
set_option linter.unusedSimpArgs false
mutual
def spec_weOrder.l0 : Nat → List Int → List Int → Int → Int → Int → List Int → Option (Int × List Int)
 | 0, _, _, _, _, _, _ => none
 | k + 1, x0, x12, x13, x14, x323000, x323001 => if x14 < x13 then (if 0 ≤ x14 then (if x14 < (x12.length : Int) then (spec_weOrder.l1 k x0 (rd x12 x14) 0 x12 x13 x14 x0 (x0.length : Int) 0 x323000 x323001) else (none)) else (none)) else (some (x323000, x323001))
def spec_weOrder.l1 : Nat → List Int → Int → Int → List Int → Int → Int → List Int → Int → Int → Int → List Int → Option (Int × List Int)
 | 0, _, _, _, _, _, _, _, _, _, _, _ => none
 | k + 1, x0, x5, x6, x12, x13, x14, x18, x19, x20, x323000, x323001 => if x20 < x19 then (if 0 ≤ x20 then (if x20 < (x18.length : Int) then (if (rd x18 x20) > x5 then (spec_weOrder.l1 k x0 x5 (Go.bits .or .i64 x6 (shl .i64 1 x20)) x12 x13 x14 x18 x19 (wrap64 (x20 + 1)) x323000 x323001) else (spec_weOrder.l1 k x0 x5 x6 x12 x13 x14 x18 x19 (wrap64 (x20 + 1)) x323000 x323001)) else (none)) else (none)) else (if x323001.length < 17592186044416 then (spec_weOrder.l0 k x0 x12 x13 (wrap64 (x14 + 1)) x323000 (x323001 ++ [x6])) else (none))
end
def spec_weOrder.f (k : Nat) (l0 : List Int) : Option (Int × List Int) := spec_weOrder.l0 k l0 l0 (l0.length : Int) 0 (l0.length : Int) ([] : List Int)
theorem spec_weOrder.mono_l : ∀ k, (∀ y0 y1 y2 y3 y4 y5, LeO (spec_weOrder.l0 k y0 y1 y2 y3 y4 y5) (spec_weOrder.l0 (k + 1) y0 y1 y2 y3 y4 y5)) ∧ (∀ y0 y1 y2 y3 y4 y5 y6 y7 y8 y9 y10, LeO (spec_weOrder.l1 k y0 y1 y2 y3 y4 y5 y6 y7 y8 y9 y10) (spec_weOrder.l1 (k + 1) y0 y1 y2 y3 y4 y5 y6 y7 y8 y9 y10))
 | 0 => ⟨fun _ _ _ _ _ _ r h => by simp [spec_weOrder.l0] at h, fun _ _ _ _ _ _ _ _ _ _ _ r h => by simp [spec_weOrder.l1] at h⟩
 | k + 1 => by
  obtain ⟨ih0, ih1⟩ := spec_weOrder.mono_l k
  refine ⟨?_, ?_⟩ <;> intros
  unfold spec_weOrder.l0
  rotate_left
  unfold spec_weOrder.l1
  rotate_left
  all_goals repeat' (with_reducible first|exact ih0 _ _ _ _ _ _|exact ih1 _ _ _ _ _ _ _ _ _ _ _|exact LeO.refl _|exact LeO.none _|refine LeO.ite ?_ ?_|refine LeO.bind ?_ (fun _ => ?_))
theorem spec_weOrder.mono : ∀ a0 k, LeO (spec_weOrder.f k a0) (spec_weOrder.f (k + 1) a0) := by
 intro a0 k
 obtain ⟨ih0, ih1⟩ := spec_weOrder.mono_l k
 unfold spec_weOrder.f
 repeat' (with_reducible first|exact ih0 _ _ _ _ _ _|exact ih1 _ _ _ _ _ _ _ _ _ _ _|exact LeO.refl _|exact LeO.none _|refine LeO.ite ?_ ?_|refine LeO.bind ?_ (fun _ => ?_))
theorem spec_weOrder.calls (k : Nat) (A0 : Option Addr) (c0 : Nat) (l0 : List Int) (r1 : Int) (r2 : List Int) (w : World) (hr0 : Kd.C (Kd.int .i64) w A0 l0.length l0) (hc0 : l0.length ≤ c0) (h : spec_weOrder.f k l0 = some (r1, r2)) :
  Calls Tryd.prog 50 #[.slice A0 l0.length c0] w fun e w' => ∃ v1_ : Value, e = .returned (.agg #[.int .i64 r1, v1_]) ∧ Kd.R (Kd.int .i64) 3 w' w.heap.size (fun _ => True) v1_ r2 ∧ Below w.heap.size w w' := by
 have hu26 := Tryd.underlying26
 have HR0 := mkA hr0
 have HC0 := mkA hc0
 clear hr0 hc0
 have HB := mkA (Below.refl w.heap.size w)
 have H := h
 clear h
 unfold spec_weOrder.f at H
 have H' := mkA H
 clear H
 go_enter Tryd.func50, Tryd.ntmps50
 go_wp2_with (first | ((with_reducible refine gate_dst (N := 2) rfl ?_); refine boxE (N := 2) (cs := #[.int .i64 0, .slice none 0 0]) (t := 26) ?_; intro gb321 hg w2 hbox hb; have BK321 := mkA (hbox); have GE321 := geB HB hg; replace HB := bst HB hb; clear hb hbox hg) | ((with_reducible refine gate_dst (N := 3) rfl ?_); refine boxE (N := 3) (cs := #[.int .i64 0, .slice none 0 0]) (t := 26) ?_; intro gb322 hg w3 hbox hb; have BK322 := mkA (hbox); have GE322 := geB HB hg; have NB321_322 := neL7 BK321 hg; have NB322_321 := neR7 BK321 hg; replace BK321 := blkB BK321 hb; replace HB := bst HB hb; clear hb hbox hg; obtain ⟨_, _, _, _⟩ := blk2 BK322))
 go_loopg [14] k (fun kq v14 w' => ∃ (x14_1 : Int) (x323001_1 : List Int) (u323001 : Value), v14 = .int .i64 x14_1 ∧ Fc (spec_weOrder.l0 kq l0 l0 (l0.length : Int) x14_1 (l0.length : Int) x323001_1 = some (r1, r2)) ∧ Fc (kq ≤ k) ∧ Fc (Kd.R (Kd.int .i64) 3 w' w.heap.size (fun _ => True) u323001 x323001_1) ∧ Fc (w'.heap[gb321]? = some (.cells #[.int .i64 0, (.slice none 0 0)] 26 (0, 0))) ∧ Fc (w'.heap[gb322]? = some (.cells #[.int .i64 (l0.length : Int), u323001] 26 (0, 0))) ∧ Fc (Below w.heap.size w w'))
 case atStart => exact ⟨(0), (([] : List Int)), (.slice none 0 0), eqS, H', ⟨Nat.le_refl _⟩, ⟨by first | exact Kd.R_nil _ _ _ _ _ | exact Kd.N_nil _ _ _ _ _ | exact Kd.V_nil _ _ _ _ _ | exact Kd.Q_nil _ _ _ _ _ | exact Kd.S_nil _ _ _ _ _⟩, ⟨blkT BK321⟩, ⟨blkT BK322⟩, ⟨bel_g HB.out⟩⟩
 case round =>
  clear H'
  obtain ⟨x14_1, x323001_1, u323001, rfl, HA, HK1, HO_323001, BK321, BK322, HB⟩ := hrel
  cases gk with
  | zero => exact absurd HA.out (by simp [spec_weOrder.l0])
  | succ k1 =>
   have H := HA.out
   clear HA
   simp only [spec_weOrder.l0] at H
   rcases iteE H with ⟨c6b0, H⟩ | ⟨c6b0, H⟩
   ·obtain ⟨c7, H⟩ := itNP H
    have c7b0 : decide (0 ≤ x14_1) = true := decide_eq_true c7
    clear c7
    obtain ⟨c8, H⟩ := itNP H
    have c8b0 : decide (x14_1 < (l0.length : Int)) = true := decide_eq_true c8
    clear c8
    have H' := mkA H
    clear H
    have p323 : 0 ≤ (x14_1 : Int) := ofd
    have q323 : x14_1 < (l0.length : Int) := ofd
    obtain ⟨ad323, e323, hx323_0⟩ := Kd.at_int HR0.out x14_1 p323 q323
    cases e323
    replace hx323_0 := (HB.out.cell (World.block_lt_of_cell? w _ hx323_0)).trans hx323_0
    replace p323 := eq_true p323
    replace q323 := eq_true q323
    go_wp2
    go_loopg [6, 20] k1 (fun kq v6 v20 w' => ∃ (x6_2 : Int) (x20_2 : Int), v6 = .int .i64 x6_2 ∧ v20 = .int .i64 x20_2 ∧ Fc (spec_weOrder.l1 kq l0 (rd l0 x14_1) x6_2 l0 (l0.length : Int) x14_1 l0 (l0.length : Int) x20_2 (l0.length : Int) x323001_1 = some (r1, r2)) ∧ Fc (kq ≤ k1) ∧ Fc (Kd.R (Kd.int .i64) 3 w' w.heap.size (fun _ => True) u323001 x323001_1) ∧ Fc (w'.heap[gb321]? = some (.cells #[.int .i64 0, (.slice none 0 0)] 26 (0, 0))) ∧ Fc (w'.heap[gb322]? = some (.cells #[.int .i64 (l0.length : Int), u323001] 26 (0, 0))) ∧ Fc (Below w.heap.size w w'))
    case atStart => exact ⟨(0), (0), eqS, eqS, H', ⟨Nat.le_refl _⟩, ⟨Kd.R_g HO_323001.out⟩, ⟨blk_g BK321.out⟩, ⟨blk_g BK322.out⟩, ⟨bel_g HB.out⟩⟩
    case round =>
     clear H'
     try clear c6b0
     try clear c7
     try clear c7b0
     try clear c8
     try clear c8b0
     try clear hx323_0
     try clear p323
     try clear q323
     obtain ⟨x6_2, x20_2, rfl, rfl, HA, HK2, HO_323001, BK321, BK322, HB⟩ := hrel
     cases gk with
     | zero => exact absurd HA.out (by simp [spec_weOrder.l1])
     | succ k2 =>
      have H := HA.out
      clear HA
      simp only [spec_weOrder.l1] at H
      rcases iteE H with ⟨c9b0, H⟩ | ⟨c9b0, H⟩
      ·obtain ⟨c10, H⟩ := itNP H
       have c10b0 : decide (0 ≤ x20_2) = true := decide_eq_true c10
       clear c10
       obtain ⟨c11, H⟩ := itNP H
       have c11b0 : decide (x20_2 < (l0.length : Int)) = true := decide_eq_true c11
       clear c11
       rcases iteP H with ⟨c12, H⟩ | ⟨c12, H⟩
       ·have c12b0 : decide ((rd l0 x14_1) < (rd l0 x20_2)) = true := decide_eq_true c12
        clear c12
        have c13b0 := eq_true (ofd : 0 ≤ x20_2)
        obtain ⟨ji14, hji14⟩ : ∃ j_ : Int, (shl .i64 1 x20_2) = j_ := ⟨_, rfl⟩
        replace H : (spec_weOrder.l1 k2 l0 (rd l0 x14_1) (Go.bits .or .i64 x6_2 (ji14)) l0 (l0.length : Int) x14_1 l0 (l0.length : Int) (wrap64 (x20_2 + 1)) (l0.length : Int) x323001_1) = some (r1, r2) := by first | (rw [hji14] at H; exact H) | (simp only [hji14] at H ⊢; exact H)
        have hji14_ : (IntKind.i64.wrap (1 * 2 ^ min x20_2.toNat 64)) = ji14 := hji14
        have hji14z : x20_2 ≤ 64 → (IntKind.i64.wrap (1 * 2 ^ x20_2.toNat)) = ji14 := shl_small hji14
        have hji14u : (IntKind.i64.wrap (2 ^ min x20_2.toNat 64)) = ji14 := by have h_ := hji14_; rw [Int.one_mul] at h_; exact h_
        have hji14v : x20_2 ≤ 64 → (IntKind.i64.wrap (2 ^ x20_2.toNat)) = ji14 := fun hle_ => by have h_ := hji14z hle_; rw [Int.one_mul] at h_; exact h_
        have hji14y : (wrap64 (1 * 2 ^ min x20_2.toNat 64)) = ji14 := (i64_w _).symm.trans hji14_
        have hji14x : x20_2 ≤ 64 → (wrap64 (1 * 2 ^ x20_2.toNat)) = ji14 := fun h_ => (i64_w _).symm.trans (hji14z h_)
        have H' := mkA H
        clear H
        have p324 : 0 ≤ (x20_2 : Int) := ofd
        have q324 : x20_2 < (l0.length : Int) := ofd
        obtain ⟨ad324, e324, hx324_0⟩ := Kd.at_int HR0.out x20_2 p324 q324
        obtain rfl : ad323 = ad324 := (by injection e324)
        replace hx324_0 := (HB.out.cell (World.block_lt_of_cell? w _ hx324_0)).trans hx324_0
        replace p324 := eq_true p324
        replace q324 := eq_true q324
        go_wp2
        go_roundg k2
        case measure => have := HK1.out; have := HK2.out; omega
        case rel => exact ⟨(Go.bits .or .i64 x6_2 (ji14)), (wrap64 (x20_2 + 1)), (by first | rfl | (simp; done) | (simp only [← hji14] <;> (first | rfl | simp)) | (simp [*]; done)), eqS, H', ⟨by have := HK1.out; have := HK2.out; omega⟩, ⟨Kd.R_g HO_323001.out⟩, ⟨blk_g BK321.out⟩, ⟨blk_g BK322.out⟩, ⟨bel_g HB.out⟩⟩
       ·have c12b0 : decide ((rd l0 x14_1) < (rd l0 x20_2)) = false := decide_eq_false c12
        clear c12
        have H' := mkA H
        clear H
        have p324 : 0 ≤ (x20_2 : Int) := ofd
        have q324 : x20_2 < (l0.length : Int) := ofd
        obtain ⟨ad324, e324, hx324_0⟩ := Kd.at_int HR0.out x20_2 p324 q324
        obtain rfl : ad323 = ad324 := (by injection e324)
        replace hx324_0 := (HB.out.cell (World.block_lt_of_cell? w _ hx324_0)).trans hx324_0
        replace p324 := eq_true p324
        replace q324 := eq_true q324
        go_wp2
        go_roundg k2
        case measure => have := HK1.out; have := HK2.out; omega
        case rel => exact ⟨(x6_2), (wrap64 (x20_2 + 1)), eqS, eqS, H', ⟨by have := HK1.out; have := HK2.out; omega⟩, ⟨Kd.R_g HO_323001.out⟩, ⟨blk_g BK321.out⟩, ⟨blk_g BK322.out⟩, ⟨bel_g HB.out⟩⟩
      ·obtain ⟨c15, H⟩ := itNP H
       have LMc15 := mkA c15
       clear c15
       obtain ⟨y325, hy325⟩ : ∃ y_ : List Int, y_ = (x323001_1 ++ [x6_2]) := ⟨_, rfl⟩
       replace H : (spec_weOrder.l0 k2 l0 l0 (l0.length : Int) (wrap64 (x14_1 + 1)) (l0.length : Int) y325) = some (r1, r2) := by first | (rw [hy325]; with_reducible exact H) | (have H2_ := (Option.bind_some _ _).symm.trans H; rw [hy325]; with_reducible exact H2_) | (have H2_ := (Option.bind_some _ _).symm.trans H; with_reducible exact H2_) | with_reducible exact H | (rw [hy325]; exact H) | exact H
       have Ny325 := mkA hy325
       clear hy325
       have H' := mkA H
       clear H
       obtain ⟨_, _, _, _⟩ := blk2 BK322
       go_wp2_with (first | ((with_reducible refine gate_builtin (b := .append) (xs := #[.tmp 34, .tmp 36]) rfl ?_); at_builtin; refine Kd.R_append (Kd.int .i64) (w0 := w) w.heap.size rfl (.tmp 34) (.tmp 36) 24 3 (.int .i64 0) 8 rfl Tryd.underlying24 info3 rfl (by decide) (by omega) u323001 x323001_1 x6_2 [.int .i64 x6_2] (fun _ => True) (fun _ => False) rfl rfl ?aP (fun _ hk => hk.elim) ?aF ?aO ?aB ?aS ?aL ?_; (case aP => exact rfl); (case aB => exact (bel_g HB.out)); (case aF => exact (fun _ _ => trivial)); (case aO => exact (Kd.R_g HO_323001.out)); (case aS => exact (below_size (bel_g HB.out))); (case aL => have := LMc15.out; omega); intro v326 w18 ho hb hg hat; rw [← Ny325.out] at ho; replace BK321 := mkA (blk_grown (g := gb321) (o := .cells #[.int .i64 0, .slice none 0 0] 26 (0, 0)) (blk_g BK321.out) hg (Kd.R_ne HO_323001.out BK321.out (by decide))); replace BK322 := mkA (blk_grown (g := gb322) (o := .cells #[.int .i64 (l0.length : Int), u323001] 26 (0, 0)) (blk_g BK322.out) hg (Kd.R_ne HO_323001.out BK322.out (by decide))); have HO327 := mkA (ho); replace HB := mkA (hb); clear HO_323001; clear ho hb hg hat; obtain ⟨Ao19, co19, eo19⟩ := Kd.R_slice HO327.out; subst eo19; obtain ⟨_, _, _, _⟩ := blk2 BK322))
       go_roundg k2
       case measure => have := HK1.out; have := HK2.out; omega
       case rel => exact ⟨(wrap64 (x14_1 + 1)), (y325), (.slice Ao19 y325.length co19), eqS, H', ⟨by have := HK1.out; have := HK2.out; omega⟩, ⟨Kd.R_g (Kd.R_mono (Kd.R_far (p := ⟨gb322, 1, none⟩) (Kd.R_types HO327.out BK322.out (by decide)) (fun _ hk => hk.2) (.slice Ao19 y325.length co19)) (fun _ hk => trivial))⟩, ⟨blkT BK321⟩, ⟨blkT BK322⟩, ⟨bel_g HB.out⟩⟩
   ·simp only [Option.some.injEq, Prod.mk.injEq] at H
    obtain ⟨rfl, rfl⟩ := H
    obtain ⟨_, _, _, _⟩ := blk2 BK322
    obtain ⟨_, _, _, _⟩ := blk2 BK321
    obtain ⟨Ao24, co24, eo24⟩ := Kd.R_slice HO_323001.out
    subst eo24
    go_wp2
    refine bodyPost_ret (results_cell_row rfl _ _ gb321 26 #[.int .i64 (l0.length : Int), .slice Ao24 x323001_1.length co24] (0, 0) _ rfl (blkT BK321) Tryd.underlying26 rfl (by kernel_rfl)) rfl ?_
    exact ⟨_, eqE, by (with_reducible repeat (first | apply Kd.R_alloc | apply Kd.R_drewN | apply Kd.R_drew)); exact Kd.R_mono (rF HO_323001 BK321) (fun _ _ => trivial), bel_g HB.out⟩
def spec_orBelow.l0 : Nat → Int → Int → List Int → Int → Int → Option (Int)
 | 0, _, _, _, _, _ => none
 | k + 1, x1, x5, x9, x10, x11 => if x11 < x10 then (if 0 ≤ x11 then (if x11 < (x9.length : Int) then ((spec_orHas.f (rd x9 x11) x1).bind fun t330 => (if t330 = true then (spec_orBelow.l0 k x1 (Go.bits .or .i64 x5 (shl .i64 1 x11)) x9 x10 (wrap64 (x11 + 1))) else (spec_orBelow.l0 k x1 x5 x9 x10 (wrap64 (x11 + 1))))) else (none)) else (none)) else (some x5)
def spec_orBelow.f (k : Nat) (a0_0 : Int) (l0_1 : List Int) (a1 : Int) : Option (Int) := spec_orBelow.l0 k a1 0 l0_1 (l0_1.length : Int) 0
theorem spec_orBelow.mono_l : ∀ k, (∀ y0 y1 y2 y3 y4, LeO (spec_orBelow.l0 k y0 y1 y2 y3 y4) (spec_orBelow.l0 (k + 1) y0 y1 y2 y3 y4))
 | 0 => fun _ _ _ _ _ r h => by simp [spec_orBelow.l0] at h
 | k + 1 => by
  have ih0 := spec_orBelow.mono_l k
  ·intro y0 y1 y2 y3 y4
   unfold spec_orBelow.l0
   repeat' (with_reducible first|exact ih0 _ _ _ _ _|exact LeO.refl _|exact LeO.none _|refine LeO.ite ?_ ?_|refine LeO.bind ?_ (fun _ => ?_))
theorem spec_orBelow.mono : ∀ a0 a1 a2 k, LeO (spec_orBelow.f k a0 a1 a2) (spec_orBelow.f (k + 1) a0 a1 a2) := by
 intro a0 a1 a2 k
 have ih0 := spec_orBelow.mono_l k
 unfold spec_orBelow.f
 repeat' (with_reducible first|exact ih0 _ _ _ _ _|exact LeO.refl _|exact LeO.none _|refine LeO.ite ?_ ?_|refine LeO.bind ?_ (fun _ => ?_))
theorem spec_orBelow.calls (k : Nat) (a0_0 : Int) (A0_1 : Option Addr) (c0_1 : Nat) (l0_1 : List Int) (a1 : Int) (r : Int) (w : World) (hr0_1 : Kd.C (Kd.int .i64) w A0_1 l0_1.length l0_1) (hc0_1 : l0_1.length ≤ c0_1) (h : spec_orBelow.f k a0_0 l0_1 a1 = some r) :
  Calls Tryd.prog 64 #[.agg #[.int .i64 a0_0, .slice A0_1 l0_1.length c0_1], .int .i64 a1] w fun e w' => e = .returned (.int .i64 r) ∧ Below w.heap.size w w' := by
 have hu26 := Tryd.underlying26
 have HR0_1 := mkA hr0_1
 have HC0_1 := mkA hc0_1
 clear hr0_1 hc0_1
 have HB := mkA (Below.refl w.heap.size w)
 have H := h
 clear h
 unfold spec_orBelow.f at H
 have H' := mkA H
 clear H
 go_enter Tryd.func64, Tryd.ntmps64
 go_wp2_with (first | ((with_reducible refine gate_dst (N := 2) rfl ?_); refine boxE (N := 2) (cs := #[.int .i64 a0_0, .slice A0_1 l0_1.length c0_1]) (t := 26) ?_; intro gb328 hg w3 hbox hb; have BK328 := mkA (hbox); have GE328 := geB HB hg; replace HB := bst HB hb; clear hb hbox hg; obtain ⟨_, _, _, _⟩ := blk2 BK328))
 go_loopg [5, 11] k (fun kq v5 v11 w' => ∃ (x5_1 : Int) (x11_1 : Int), v5 = .int .i64 x5_1 ∧ v11 = .int .i64 x11_1 ∧ Fc (spec_orBelow.l0 kq a1 x5_1 l0_1 (l0_1.length : Int) x11_1 = some r) ∧ Fc (kq ≤ k) ∧ Fc (w'.heap[gb328]? = some (.cells #[.int .i64 a0_0, (.slice A0_1 l0_1.length c0_1)] 26 (0, 0))) ∧ Fc (Below w.heap.size w w'))
 case atStart => exact ⟨(0), (0), eqS, eqS, H', ⟨Nat.le_refl _⟩, ⟨blk_g BK328.out⟩, ⟨bel_g HB.out⟩⟩
 case round =>
  clear H'
  obtain ⟨x5_1, x11_1, rfl, rfl, HA, HK1, BK328, HB⟩ := hrel
  cases gk with
  | zero => exact absurd HA.out (by simp [spec_orBelow.l0])
  | succ k1 =>
   have H := HA.out
   clear HA
   simp only [spec_orBelow.l0] at H
   rcases iteE H with ⟨c5b0, H⟩ | ⟨c5b0, H⟩
   ·obtain ⟨c6, H⟩ := itNP H
    have c6b0 : decide (0 ≤ x11_1) = true := decide_eq_true c6
    clear c6
    obtain ⟨c7, H⟩ := itNP H
    have c7b0 : decide (x11_1 < (l0_1.length : Int)) = true := decide_eq_true c7
    clear c7
    obtain ⟨t330, A8, H⟩ := obE H
    by_cases c9 : t330 = true
    ·subst c9
     replace H := ifT H
     have c10b0 := eq_true (ofd : 0 ≤ x11_1)
     obtain ⟨ji11, hji11⟩ : ∃ j_ : Int, (shl .i64 1 x11_1) = j_ := ⟨_, rfl⟩
     replace H : (spec_orBelow.l0 k1 a1 (Go.bits .or .i64 x5_1 (ji11)) l0_1 (l0_1.length : Int) (wrap64 (x11_1 + 1))) = some r := by first | (rw [hji11] at H; exact H) | (simp only [hji11] at H ⊢; exact H)
     (try rw [hji11] at A8)
     have hji11_ : (IntKind.i64.wrap (1 * 2 ^ min x11_1.toNat 64)) = ji11 := hji11
     have hji11z : x11_1 ≤ 64 → (IntKind.i64.wrap (1 * 2 ^ x11_1.toNat)) = ji11 := shl_small hji11
     have hji11u : (IntKind.i64.wrap (2 ^ min x11_1.toNat 64)) = ji11 := by have h_ := hji11_; rw [Int.one_mul] at h_; exact h_
     have hji11v : x11_1 ≤ 64 → (IntKind.i64.wrap (2 ^ x11_1.toNat)) = ji11 := fun hle_ => by have h_ := hji11z hle_; rw [Int.one_mul] at h_; exact h_
     have hji11y : (wrap64 (1 * 2 ^ min x11_1.toNat 64)) = ji11 := (i64_w _).symm.trans hji11_
     have hji11x : x11_1 ≤ 64 → (wrap64 (1 * 2 ^ x11_1.toNat)) = ji11 := fun h_ => (i64_w _).symm.trans (hji11z h_)
     have H' := mkA H
     clear H
     have p329 : 0 ≤ (x11_1 : Int) := ofd
     have q329 : x11_1 < (l0_1.length : Int) := ofd
     obtain ⟨ad329, e329, hx329_0⟩ := Kd.at_int HR0_1.out x11_1 p329 q329
     cases e329
     replace hx329_0 := (HB.out.cell (World.block_lt_of_cell? w _ hx329_0)).trans hx329_0
     replace p329 := eq_true p329
     replace q329 := eq_true q329
     go_wp2_with (first | ((with_reducible refine gate_callee (f := 35) rfl ?_); refine goesQ (some 18) Tryd.func35 #[.int .i64 (rd l0_1 x11_1), .int .i64 a1] ?_; (with_reducible refine (spec_orHas.calls (rd l0_1 x11_1) a1 true _ A8.out).mono ?_); rintro e w' ⟨rfl, ⟨nd, rfl⟩⟩; refine ⟨_, rfl, ?_⟩))
     go_roundg k1
     case measure => have := HK1.out; omega
     case rel => exact ⟨(Go.bits .or .i64 x5_1 (ji11)), (wrap64 (x11_1 + 1)), (by first | rfl | (simp; done) | (simp only [← hji11] <;> (first | rfl | simp)) | (simp [*]; done)), eqS, H', ⟨by have := HK1.out; omega⟩, ⟨blk_g BK328.out⟩, ⟨bel_g HB.out⟩⟩
    ·replace c9 := Bool.eq_false_iff.mpr c9
     subst c9
     replace H := ifF H
     have H' := mkA H
     clear H
     have p329 : 0 ≤ (x11_1 : Int) := ofd
     have q329 : x11_1 < (l0_1.length : Int) := ofd
     obtain ⟨ad329, e329, hx329_0⟩ := Kd.at_int HR0_1.out x11_1 p329 q329
     cases e329
     replace hx329_0 := (HB.out.cell (World.block_lt_of_cell? w _ hx329_0)).trans hx329_0
     replace p329 := eq_true p329
     replace q329 := eq_true q329
     go_wp2_with (first | ((with_reducible refine gate_callee (f := 35) rfl ?_); refine goesQ (some 18) Tryd.func35 #[.int .i64 (rd l0_1 x11_1), .int .i64 a1] ?_; (with_reducible refine (spec_orHas.calls (rd l0_1 x11_1) a1 false _ A8.out).mono ?_); rintro e w' ⟨rfl, ⟨nd, rfl⟩⟩; refine ⟨_, rfl, ?_⟩))
     go_roundg k1
     case measure => have := HK1.out; omega
     case rel => exact ⟨(x5_1), (wrap64 (x11_1 + 1)), eqS, eqS, H', ⟨by have := HK1.out; omega⟩, ⟨blk_g BK328.out⟩, ⟨bel_g HB.out⟩⟩
   ·obtain rfl := Option.some.inj H
    go_wp2
    go_ret
    exact ⟨eqE, bel_g HB.out⟩
end Go.Proofs.YtgbdjchdfcodcaaDoor.Q
