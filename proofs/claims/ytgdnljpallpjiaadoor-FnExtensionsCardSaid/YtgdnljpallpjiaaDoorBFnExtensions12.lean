import Derived.Test.YtgdnljpallpjiaaDoorBFnExtensions0
namespace Go.Proofs.YtgdnljpallpjiaaDoor.Q
open Go.RowKit Go.Proofs.YtgdnljpallpjiaaDoorW.PrintWords Go.Proofs.YtgdnljpallpjiaaDoorW.PrintLast Go.Proofs.YtgdnljpallpjiaaDoorW.PrintMore
attribute [local go_sem] max2_int min2_int max_two min_two max_three min_three max_four min_four neB_f
set_option linter.unusedVariables false
set_option maxHeartbeats 8000000
set_option maxRecDepth 100000
set_option linter.unusedSimpArgs false
mutual
def spec_orTogether.l0 : Nat → Int → List Int → Int → Int → Int → List Int → Int → List Int → Int → List Int → Option (Int × List Int)
 | 0, _, _, _, _, _, _, _, _, _, _ => none
 | k + 1, x2, x19, x20, x21, x318000, x318001, x319000, x319001, x321000, x321001 => if x21 < x20 then (if 0 ≤ x21 then (if x21 < (x19.length : Int) then (if x321001.length < 17592186044416 then (spec_orTogether.l0 k x2 x19 x20 (wrap64 (x21 + 1)) x318000 x318001 x319000 x319001 x321000 (x321001 ++ [Go.bits .or .i64 (rd x19 x21) x2])) else (none)) else (none)) else (none)) else (spec_orTogether.l1 k x319001 (x319001.length : Int) 0 x318000 x318001 x321000 x321001)
def spec_orTogether.l1 : Nat → List Int → Int → Int → Int → List Int → Int → List Int → Option (Int × List Int)
 | 0, _, _, _, _, _, _, _ => none
 | k + 1, x35, x36, x37, x318000, x318001, x321000, x321001 => if x37 < x36 then (if 0 ≤ x37 then (if x37 < (x35.length : Int) then (if 0 ≤ x318000 then (if x321001.length < 17592186044416 then (spec_orTogether.l1 k x35 x36 (wrap64 (x37 + 1)) x318000 x318001 x321000 (x321001 ++ [shl .i64 (rd x35 x37) x318000])) else (none)) else (none)) else (none)) else (none)) else (some (x321000, x321001))
end
def spec_orTogether.f (k : Nat) (a0_0 : Int) (l0_1 : List Int) (a1_0 : Int) (l1_1 : List Int) (a2 : Int) : Option (Int × List Int) := spec_orTogether.l0 k a2 l0_1 (l0_1.length : Int) 0 a0_0 l0_1 a1_0 l1_1 (wrap64 (a0_0 + a1_0)) ([] : List Int)
theorem spec_orTogether.mono_l : ∀ k, (∀ y0 y1 y2 y3 y4 y5 y6 y7 y8 y9, LeO (spec_orTogether.l0 k y0 y1 y2 y3 y4 y5 y6 y7 y8 y9) (spec_orTogether.l0 (k + 1) y0 y1 y2 y3 y4 y5 y6 y7 y8 y9)) ∧ (∀ y0 y1 y2 y3 y4 y5 y6, LeO (spec_orTogether.l1 k y0 y1 y2 y3 y4 y5 y6) (spec_orTogether.l1 (k + 1) y0 y1 y2 y3 y4 y5 y6))
 | 0 => ⟨fun _ _ _ _ _ _ _ _ _ _ r h => by simp [spec_orTogether.l0] at h, fun _ _ _ _ _ _ _ r h => by simp [spec_orTogether.l1] at h⟩
 | k + 1 => by
  obtain ⟨ih0, ih1⟩ := spec_orTogether.mono_l k
  refine ⟨?_, ?_⟩ <;> intros
  unfold spec_orTogether.l0
  rotate_left
  unfold spec_orTogether.l1
  rotate_left
  all_goals repeat' (with_reducible first|exact ih0 _ _ _ _ _ _ _ _ _ _|exact ih1 _ _ _ _ _ _ _|exact LeO.refl _|exact LeO.none _|refine LeO.ite ?_ ?_|refine LeO.bind ?_ (fun _ => ?_))
theorem spec_orTogether.mono : ∀ a0 a1 a2 a3 a4 k, LeO (spec_orTogether.f k a0 a1 a2 a3 a4) (spec_orTogether.f (k + 1) a0 a1 a2 a3 a4) := by
 intro a0 a1 a2 a3 a4 k
 obtain ⟨ih0, ih1⟩ := spec_orTogether.mono_l k
 unfold spec_orTogether.f
 repeat' (with_reducible first|exact ih0 _ _ _ _ _ _ _ _ _ _|exact ih1 _ _ _ _ _ _ _|exact LeO.refl _|exact LeO.none _|refine LeO.ite ?_ ?_|refine LeO.bind ?_ (fun _ => ?_))
def spec_orTogether.T10 : Bool × List (List Nat × List Nat) := (true, [([], []), ([0], [0]), ([], []), ([], []), ([3], [3]), ([2, 4], [2, 4]), ([5], [5]), ([1, 6], [1, 6]), ([0, 1, 2, 3, 4, 5, 6, 7], []), ([8, 7, 7, 0, 1, 2, 3, 4, 5, 6, 7], [7, 8])])
def spec_orTogether.B10 : List Nat := [0, 1, 0, 0, 8, 28, 60, 127, 255, 511]
theorem spec_orTogether.tab10 : rtab .any (opsOf Tryd.f18 10) = spec_orTogether.T10 := by kernel_rfl
theorem spec_orTogether.bits10 : waitsOk spec_orTogether.T10.2 spec_orTogether.B10 = true := by kernel_rfl
theorem spec_orTogether.calls (k : Nat) (a0_0 : Int) (A0_1 : Option Addr) (c0_1 : Nat) (l0_1 : List Int) (a1_0 : Int) (A1_1 : Option Addr) (c1_1 : Nat) (l1_1 : List Int) (a2 : Int) (r1 : Int) (r2 : List Int) (w : World) (hr0_1 : Kd.C (Kd.int .i64) w A0_1 l0_1.length l0_1) (hc0_1 : l0_1.length ≤ c0_1) (hr1_1 : Kd.C (Kd.int .i64) w A1_1 l1_1.length l1_1) (hc1_1 : l1_1.length ≤ c1_1) (h : spec_orTogether.f k a0_0 l0_1 a1_0 l1_1 a2 = some (r1, r2)) :
  Calls Tryd.prog 18 #[.agg #[.int .i64 a0_0, .slice A0_1 l0_1.length c0_1], .agg #[.int .i64 a1_0, .slice A1_1 l1_1.length c1_1], .int .i64 a2] w fun e w' => ∃ v1_ : Value, e = .returned (.agg #[.int .i64 r1, v1_]) ∧ Kd.R (Kd.int .i64) 3 w' w.heap.size (fun _ => True) v1_ r2 ∧ Below w.heap.size w w' := by
 have hu26 := Tryd.underlying26
 have HR0_1 := mkA hr0_1
 have HC0_1 := mkA hc0_1
 clear hr0_1 hc0_1
 have HR1_1 := mkA hr1_1
 have HC1_1 := mkA hc1_1
 clear hr1_1 hc1_1
 have HB := mkA (Below.refl w.heap.size w)
 have H := h
 clear h
 unfold spec_orTogether.f at H
 have H' := mkA H
 clear H
 go_enter Tryd.func18, Tryd.ntmps18
 go_wp2_with (first | ((with_reducible refine gate_dst (N := 3) rfl ?_); refine boxE (N := 3) (cs := #[.int .i64 a0_0, .slice A0_1 l0_1.length c0_1]) (t := 26) ?_; intro gb317 hg w4 hbox hb; have BK317 := mkA (hbox); have GE317 := geB HB hg; replace HB := bst HB hb; clear hb hbox hg) | ((with_reducible refine gate_dst (N := 4) rfl ?_); refine boxE (N := 4) (cs := #[.int .i64 a1_0, .slice A1_1 l1_1.length c1_1]) (t := 26) ?_; intro gb318 hg w5 hbox hb; have BK318 := mkA (hbox); have GE318 := geB HB hg; have NB317_318 := neL7 BK317 hg; have NB318_317 := neR7 BK317 hg; replace BK317 := blkB BK317 hb; replace HB := bst HB hb; clear hb hbox hg) | ((with_reducible refine gate_dst (N := 6) rfl ?_); refine boxE (N := 6) (cs := #[.int .i64 0, .slice none 0 0]) (t := 26) ?_; intro gb319 hg w6 hbox hb; have BK319 := mkA (hbox); have GE319 := geB HB hg; have NB317_319 := neL7 BK317 hg; have NB319_317 := neR7 BK317 hg; replace BK317 := blkB BK317 hb; have NB318_319 := neL7 BK318 hg; have NB319_318 := neR7 BK318 hg; replace BK318 := blkB BK318 hb; replace HB := bst HB hb; clear hb hbox hg; obtain ⟨hcz9_0, hcz9_1, hfz9_0, hfz9_1⟩ := blk2 BK317; obtain ⟨hcz11_0, hcz11_1, hfz11_0, hfz11_1⟩ := blk2 BK318) | ((with_reducible refine gate_dst (N := 7) rfl ?_); refine boxE (N := 7) (cs := #[.int .i64 0, .slice none 0 0]) (t := 26) ?_; intro gb320 hg w12 hbox hb; have BK320 := mkA (hbox); have GE320 := geB HB hg; have NB317_320 := neL7 BK317 hg; have NB320_317 := neR7 BK317 hg; replace BK317 := blkB BK317 hb; have NB318_320 := neL7 BK318 hg; have NB320_318 := neR7 BK318 hg; replace BK318 := blkB BK318 hb; have NB319_320 := neL7 BK319 hg; have NB320_319 := neR7 BK319 hg; replace BK319 := blkB BK319 hb; replace HB := bst HB hb; clear hb hbox hg; obtain ⟨hcz16_0, hcz16_1, hfz16_0, hfz16_1⟩ := blk2 BK320; obtain ⟨hcz17_0, hcz17_1, hfz17_0, hfz17_1⟩ := blk2 BK317))
 go_loopg [21] k (fun kq v21 w' => ∃ (x21_1 : Int) (x321001_1 : List Int) (u321001 : Value), v21 = .int .i64 x21_1 ∧ Fc (spec_orTogether.l0 kq a2 l0_1 (l0_1.length : Int) x21_1 a0_0 l0_1 a1_0 l1_1 (wrap64 (a0_0 + a1_0)) x321001_1 = some (r1, r2)) ∧ Fc (kq ≤ k) ∧ Fc (Kd.R (Kd.int .i64) 3 w' w.heap.size (fun _ => True) u321001 x321001_1) ∧ Fc (w'.heap[gb317]? = some (.cells #[.int .i64 a0_0, (.slice A0_1 l0_1.length c0_1)] 26 (0, 0))) ∧ Fc (w'.heap[gb318]? = some (.cells #[.int .i64 a1_0, (.slice A1_1 l1_1.length c1_1)] 26 (0, 0))) ∧ Fc (w'.heap[gb319]? = some (.cells #[.int .i64 0, (.slice none 0 0)] 26 (0, 0))) ∧ Fc (w'.heap[gb320]? = some (.cells #[.int .i64 (wrap64 (a0_0 + a1_0)), u321001] 26 (0, 0))) ∧ Fc (Below w.heap.size w w'))
 case atStart => exact ⟨(0), (([] : List Int)), (.slice none 0 0), eqS, H', ⟨Nat.le_refl _⟩, ⟨by first | exact Kd.R_nil _ _ _ _ _ | exact Kd.N_nil _ _ _ _ _ | exact Kd.V_nil _ _ _ _ _ | exact Kd.Q_nil _ _ _ _ _ | exact Kd.S_nil _ _ _ _ _⟩, ⟨blkT BK317⟩, ⟨blkT BK318⟩, ⟨blkT BK319⟩, ⟨blkT BK320⟩, ⟨bel_g HB.out⟩⟩
 case round =>
  clear H'
  obtain ⟨x21_1, x321001_1, u321001, rfl, HA, HK1, HO_321001, BK317, BK318, BK319, BK320, HB⟩ := hrel
  cases gk with
  | zero => exact absurd HA.out (by simp [spec_orTogether.l0])
  | succ k1 =>
   have H := HA.out
   clear HA
   simp only [spec_orTogether.l0] at H
   rcases iteE H with ⟨c18b0, H⟩ | ⟨c18b0, H⟩
   ·obtain ⟨c19, H⟩ := itNP H
    have c19b0 : decide (0 ≤ x21_1) = true := decide_eq_true c19
    clear c19
    obtain ⟨c20, H⟩ := itNP H
    have c20b0 : decide (x21_1 < (l0_1.length : Int)) = true := decide_eq_true c20
    clear c20
    obtain ⟨c21, H⟩ := itNP H
    have LMc21 := mkA c21
    clear c21
    obtain ⟨y322, hy322⟩ : ∃ y_ : List Int, y_ = (x321001_1 ++ [Go.bits .or .i64 (rd l0_1 x21_1) a2]) := ⟨_, rfl⟩
    replace H : (spec_orTogether.l0 k1 a2 l0_1 (l0_1.length : Int) (wrap64 (x21_1 + 1)) a0_0 l0_1 a1_0 l1_1 (wrap64 (a0_0 + a1_0)) y322) = some (r1, r2) := by first | (rw [hy322]; with_reducible exact H) | (have H2_ := (Option.bind_some _ _).symm.trans H; rw [hy322]; with_reducible exact H2_) | (have H2_ := (Option.bind_some _ _).symm.trans H; with_reducible exact H2_) | with_reducible exact H | (rw [hy322]; exact H) | exact H
    have Ny322 := mkA hy322
    clear hy322
    have H' := mkA H
    clear H
    have p321 : 0 ≤ (x21_1 : Int) := ofd
    have q321 : x21_1 < (l0_1.length : Int) := ofd
    obtain ⟨ad321, e321, hx321_0⟩ := Kd.at_int HR0_1.out x21_1 p321 q321
    cases e321
    replace hx321_0 := (HB.out.cell (World.block_lt_of_cell? w _ hx321_0)).trans hx321_0
    replace p321 := eq_true p321
    replace q321 := eq_true q321
    obtain ⟨hcz25_0, hcz25_1, hfz25_0, hfz25_1⟩ := blk2 BK320
    go_wp2_with (first | ((with_reducible refine gate_builtin (b := .append) (xs := #[.tmp 26, .tmp 30]) rfl ?_); at_builtin; refine Kd.R_append (Kd.int .i64) (w0 := w) w.heap.size rfl (.tmp 26) (.tmp 30) 24 3 (.int .i64 0) 8 rfl Tryd.underlying24 info3 rfl (by decide) (by omega) u321001 x321001_1 (Go.bits .or .i64 (rd l0_1 x21_1) a2) [.int .i64 (Go.bits .or .i64 (rd l0_1 x21_1) a2)] (fun _ => True) (fun _ => False) rfl rfl ?aP (fun _ hk => hk.elim) ?aF ?aO ?aB ?aS ?aL ?_; (case aP => exact rfl); (case aB => exact (bel_g HB.out)); (case aF => exact (fun _ _ => trivial)); (case aO => exact (Kd.R_g HO_321001.out)); (case aS => exact (below_size (bel_g HB.out))); (case aL => have := LMc21.out; omega); intro v323 w26 ho hb hg hat; rw [← Ny322.out] at ho; replace BK317 := mkA (blk_grown (g := gb317) (o := .cells #[.int .i64 a0_0, .slice (some ad321) l0_1.length c0_1] 26 (0, 0)) (blk_g BK317.out) hg (Kd.R_ne HO_321001.out BK317.out (by decide))); replace BK318 := mkA (blk_grown (g := gb318) (o := .cells #[.int .i64 a1_0, .slice A1_1 l1_1.length c1_1] 26 (0, 0)) (blk_g BK318.out) hg (Kd.R_ne HO_321001.out BK318.out (by decide))); replace BK319 := mkA (blk_grown (g := gb319) (o := .cells #[.int .i64 0, .slice none 0 0] 26 (0, 0)) (blk_g BK319.out) hg (Kd.R_ne HO_321001.out BK319.out (by decide))); replace BK320 := mkA (blk_grown (g := gb320) (o := .cells #[.int .i64 (wrap64 (a0_0 + a1_0)), u321001] 26 (0, 0)) (blk_g BK320.out) hg (Kd.R_ne HO_321001.out BK320.out (by decide))); have HO324 := mkA (ho); replace HB := mkA (hb); clear HO_321001; clear ho hb hg hat; obtain ⟨Ao27, co27, eo27⟩ := Kd.R_slice HO324.out; subst eo27; obtain ⟨hcz28_0, hcz28_1, hfz28_0, hfz28_1⟩ := blk2 BK320))
    go_roundg k1
    case measure => have := HK1.out; omega
    case rel => exact ⟨(wrap64 (x21_1 + 1)), (y322), (.slice Ao27 y322.length co27), eqS, H', ⟨by have := HK1.out; omega⟩, ⟨Kd.R_g (Kd.R_mono (Kd.R_far (p := ⟨gb320, 1, none⟩) (Kd.R_types HO324.out BK320.out (by decide)) (fun _ hk => hk.2) (.slice Ao27 y322.length co27)) (fun _ hk => trivial))⟩, ⟨blkT BK317⟩, ⟨blkT BK318⟩, ⟨blkT BK319⟩, ⟨blkT BK320⟩, ⟨bel_g HB.out⟩⟩
   ·have H' := mkA H
    clear H
    obtain ⟨hcz32_0, hcz32_1, hfz32_0, hfz32_1⟩ := blk2 BK318
    go_wp2
    go_loopg [37] k1 (fun kq v37 w' => ∃ (x37_2 : Int) (x321001_2 : List Int) (u321001 : Value), v37 = .int .i64 x37_2 ∧ Fc (spec_orTogether.l1 kq l1_1 (l1_1.length : Int) x37_2 a0_0 l0_1 (wrap64 (a0_0 + a1_0)) x321001_2 = some (r1, r2)) ∧ Fc (kq ≤ k1) ∧ Fc (Kd.R (Kd.int .i64) 3 w' w.heap.size (fun _ => True) u321001 x321001_2) ∧ Fc (w'.heap[gb317]? = some (.cells #[.int .i64 a0_0, (.slice A0_1 l0_1.length c0_1)] 26 (0, 0))) ∧ Fc (w'.heap[gb318]? = some (.cells #[.int .i64 a1_0, (.slice A1_1 l1_1.length c1_1)] 26 (0, 0))) ∧ Fc (w'.heap[gb319]? = some (.cells #[.int .i64 0, (.slice none 0 0)] 26 (0, 0))) ∧ Fc (w'.heap[gb320]? = some (.cells #[.int .i64 (wrap64 (a0_0 + a1_0)), u321001] 26 (0, 0))) ∧ Fc (Below w.heap.size w w'))
    case atStart => exact ⟨(0), (x321001_1), (u321001), eqS, H', ⟨Nat.le_refl _⟩, ⟨Kd.R_g HO_321001.out⟩, ⟨blk_g BK317.out⟩, ⟨blk_g BK318.out⟩, ⟨blk_g BK319.out⟩, ⟨blk_g BK320.out⟩, ⟨bel_g HB.out⟩⟩
    case round =>
     clear H'
     try clear c18b0
     try clear c19
     try clear c19b0
     try clear c20
     try clear c20b0
     try clear c21
     try clear hx321_0
     try clear p321
     try clear q321
     obtain ⟨x37_2, x321001_2, u321001, rfl, HA, HK2, HO_321001, BK317, BK318, BK319, BK320, HB⟩ := hrel
     cases gk with
     | zero => exact absurd HA.out (by simp [spec_orTogether.l1])
     | succ k2 =>
      have H := HA.out
      clear HA
      simp only [spec_orTogether.l1] at H
      rcases iteE H with ⟨c33b0, H⟩ | ⟨c33b0, H⟩
      ·obtain ⟨c34, H⟩ := itNP H
       have c34b0 : decide (0 ≤ x37_2) = true := decide_eq_true c34
       clear c34
       obtain ⟨c35, H⟩ := itNP H
       have c35b0 : decide (x37_2 < (l1_1.length : Int)) = true := decide_eq_true c35
       clear c35
       obtain ⟨c36, H⟩ := itNP H
       have c36b0 := eq_true c36
       have c36b1 : decide (0 ≤ a0_0) = true := decide_eq_true c36
       clear c36
       obtain ⟨ji37, hji37⟩ : ∃ j_ : Int, (shl .i64 (rd l1_1 x37_2) a0_0) = j_ := ⟨_, rfl⟩
       replace H : (if x321001_2.length < 17592186044416 then (spec_orTogether.l1 k2 l1_1 (l1_1.length : Int) (wrap64 (x37_2 + 1)) a0_0 l0_1 (wrap64 (a0_0 + a1_0)) (x321001_2 ++ [ji37])) else (none)) = some (r1, r2) := by first | (rw [hji37] at H; exact H) | (simp only [hji37] at H ⊢; exact H)
       have hji37_ : (IntKind.i64.wrap ((rd l1_1 x37_2) * 2 ^ min a0_0.toNat 64)) = ji37 := hji37
       have hji37z : a0_0 ≤ 64 → (IntKind.i64.wrap ((rd l1_1 x37_2) * 2 ^ a0_0.toNat)) = ji37 := shl_small hji37
       have hji37y : (wrap64 ((rd l1_1 x37_2) * 2 ^ min a0_0.toNat 64)) = ji37 := (i64_w _).symm.trans hji37_
       have hji37x : a0_0 ≤ 64 → (wrap64 ((rd l1_1 x37_2) * 2 ^ a0_0.toNat)) = ji37 := fun h_ => (i64_w _).symm.trans (hji37z h_)
       obtain ⟨c38, H⟩ := itNP H
       have LMc38 := mkA c38
       clear c38
       obtain ⟨y326, hy326⟩ : ∃ y_ : List Int, y_ = (x321001_2 ++ [ji37]) := ⟨_, rfl⟩
       replace H : (spec_orTogether.l1 k2 l1_1 (l1_1.length : Int) (wrap64 (x37_2 + 1)) a0_0 l0_1 (wrap64 (a0_0 + a1_0)) y326) = some (r1, r2) := by first | (rw [hy326]; with_reducible exact H) | (have H2_ := (Option.bind_some _ _).symm.trans H; rw [hy326]; with_reducible exact H2_) | (have H2_ := (Option.bind_some _ _).symm.trans H; with_reducible exact H2_) | with_reducible exact H | (rw [hy326]; exact H) | exact H
       have Ny326 := mkA hy326
       clear hy326
       have H' := mkA H
       clear H
       have p325 : 0 ≤ (x37_2 : Int) := ofd
       have q325 : x37_2 < (l1_1.length : Int) := ofd
       obtain ⟨ad325, e325, hx325_0⟩ := Kd.at_int HR1_1.out x37_2 p325 q325
       cases e325
       replace hx325_0 := (HB.out.cell (World.block_lt_of_cell? w _ hx325_0)).trans hx325_0
       replace p325 := eq_true p325
       replace q325 := eq_true q325
       try go_wp2
       replace HO_321001 := mkA (Kd.R_drew HO_321001.out)
       replace BK317 := mkA (blk_drew BK317.out)
       replace BK318 := mkA (blk_drew BK318.out)
       replace BK319 := mkA (blk_drew BK319.out)
       replace BK320 := mkA (blk_drew BK320.out)
       replace HB := mkA (below_drew1 HB.out)
       refine start_ (n := 10) (S := fun w' => w'.cell? ⟨gb320, 0, none⟩ = some (.int .i64 (wrap64 (a0_0 + a1_0))) ∧ w'.cell? ⟨gb320, 1, none⟩ = some (u321001) ∧ w'.cell? ⟨gb317, 0, none⟩ = some (.int .i64 a0_0) ∧ w'.cell? ⟨gb317, 1, none⟩ = some (.slice A0_1 l0_1.length c0_1)) (ds := [9]) (bm 10 0) (by kernel_rfl) rfl rfl ⟨(blk_cell BK320.out 0).trans rfl, (blk_cell BK320.out 1).trans rfl, (blk_cell BK317.out 0).trans rfl, (blk_cell BK317.out 1).trans rfl⟩ (fun hHeld => ?_); refine with_tabW spec_orTogether.tab10 spec_orTogether.bits10 (fun HT_ HW_ => ?_)
       generalize wr.drew = w39 at HO_321001 BK317 BK318 BK319 BK320 HB hHeld ⊢
       refine pureW 0 (some 41) (bm 10 1) HT_ ?_
       refine pureW 2 (some 43) (bm 10 5) HT_ ?_
       refine pureW 3 (some 44) (bm 10 13) HT_ ?_
       refine takeW 1 (some 42) (bm 10 15) HT_ HW_ hHeld ?_
       refine takeW 4 (some 45) (bm 10 31) HT_ HW_ hHeld ?_
       refine pureW 5 (some 46) (bm 10 63) HT_ ?_
       refine oneW 6 (some 47) (bm 10 127) HT_ (fun K hK => ?_)
       refine value_ (w1 := ?_) (v := ?_) (by rfl) rfl ?_ ?_
       rotate_left 2
       ·go_simp
        constructor
        ·rfl
        ·rfl
       refine hK.out _ _ ⟨(blk_cell (blk_alloc BK320.out _) 0).trans rfl, (blk_cell (blk_alloc BK320.out _) 1).trans rfl, (blk_cell (blk_alloc BK317.out _) 0).trans rfl, (blk_cell (blk_alloc BK317.out _) 1).trans rfl⟩ (fun hHeld => ?_)
       clear hK K
       refine normW 47 ?_
       refine oneW 7 (some 48) (bm 10 255) HT_ (fun K hK => ?_)
       refine Kd.R_append_step (Kd.int .i64) (w0 := w) w.heap.size (by rfl) (.tmp 42) (.tmp 47) 24 3 (.int .i64 0) 8 rfl Tryd.underlying24 info3 rfl (by decide) (by omega) u321001 x321001_2 ji37 [.int .i64 ji37] (fun _ => True) (fun _ => False) rfl rfl ?aP (fun _ hk => hk.elim) ?aF ?aO ?aB ?aS ?aL ?_
       (case aP => exact rfl)
       (case aB => exact (bel_g HB.out))
       (case aF => exact (fun _ _ => trivial))
       (case aO => exact (Kd.R_g HO_321001.out))
       (case aS => exact (below_size (bel_g HB.out)))
       (case aL => have := LMc38.out; omega)
       intro v327 w40 ho hb hg hat
       rw [← Ny326.out] at ho
       replace BK317 := mkA (blk_grown (g := gb317) (o := .cells #[.int .i64 a0_0, .slice A0_1 l0_1.length c0_1] 26 (0, 0)) (blk_g BK317.out) hg (Kd.R_ne HO_321001.out BK317.out (by decide)))
       replace BK318 := mkA (blk_grown (g := gb318) (o := .cells #[.int .i64 a1_0, .slice (some ad325) l1_1.length c1_1] 26 (0, 0)) (blk_g BK318.out) hg (Kd.R_ne HO_321001.out BK318.out (by decide)))
       replace BK319 := mkA (blk_grown (g := gb319) (o := .cells #[.int .i64 0, .slice none 0 0] 26 (0, 0)) (blk_g BK319.out) hg (Kd.R_ne HO_321001.out BK319.out (by decide)))
       replace BK320 := mkA (blk_grown (g := gb320) (o := .cells #[.int .i64 (wrap64 (a0_0 + a1_0)), u321001] 26 (0, 0)) (blk_g BK320.out) hg (Kd.R_ne HO_321001.out BK320.out (by decide)))
       have HO328 := mkA (ho)
       replace HB := mkA (hb)
       clear HO_321001
       clear ho hb hg hat
       obtain ⟨Ao41, co41, eo41⟩ := Kd.R_slice HO328.out
       (first | subst eo41 | (injection eo41 with f1_ f2_ f3_; have f4_ := f1_.symm; have f5_ := f3_.symm; clear f1_ f2_ f3_; subst f4_; subst f5_))
       refine hK.out _ _ ⟨(blk_cell BK320.out 0).trans rfl, (blk_cell BK320.out 1).trans rfl, (blk_cell BK317.out 0).trans rfl, (blk_cell BK317.out 1).trans rfl⟩ (fun hHeld => ?_)
       clear hK K
       refine normW 48 ?_
       refine pureW 8 (some 49) (bm 10 511) HT_ ?_
       refine last_ (i := 9) (N := none) (bm 10 1023) rfl rfl (one_of HT_.out (by kernel_rfl)) (by decide) (fun K hK => ?_)
       have hs42 : w40.cell? ⟨gb320, 1, none⟩ = some (u321001) := (blk_cell BK320.out 1).trans rfl
       have hfs42 := blk_frozen BK320.out 1
       have hns42_0 := NB317_320.out
       have hns42_1 := NB318_320.out
       have hns42_2 := NB319_320.out
       have hms42_0 := NB320_317.out
       have hms42_1 := NB320_318.out
       have hms42_2 := NB320_319.out
       refine skip_ (w1 := ?_) (by rfl) rfl ?_ ?_
       rotate_left
       ·go_simp
        rfl
       refine hK.out _ _ ?_
       clear hK K
       refine doneW HT_ ?_
       try go_wp2
       go_roundg k2
       case measure => have := HK1.out; have := HK2.out; omega
       case rel => exact ⟨(wrap64 (x37_2 + 1)), (y326), (.slice Ao41 y326.length co41), eqS, H', ⟨by have := HK1.out; have := HK2.out; omega⟩, ⟨Kd.R_g (Kd.R_mono (Kd.R_far (p := ⟨gb320, 1, none⟩) (Kd.R_types HO328.out BK320.out (by decide)) (fun _ hk => hk.2) (.slice Ao41 y326.length co41)) (fun _ hk => trivial))⟩, ⟨blkT BK317⟩, ⟨blkT BK318⟩, ⟨blkT BK319⟩, ⟨blkT BK320⟩, ⟨bel_g HB.out⟩⟩
      ·simp only [Option.some.injEq, Prod.mk.injEq] at H
       obtain ⟨rfl, rfl⟩ := H
       obtain ⟨hcz46_0, hcz46_1, hfz46_0, hfz46_1⟩ := blk2 BK320
       obtain ⟨hcz49_0, hcz49_1, hfz49_0, hfz49_1⟩ := blk2 BK319
       obtain ⟨Ao50, co50, eo50⟩ := Kd.R_slice HO_321001.out
       subst eo50
       go_wp2
       refine bodyPost_ret (results_cell_row rfl _ _ gb319 26 #[.int .i64 (wrap64 (a0_0 + a1_0)), .slice Ao50 x321001_2.length co50] (0, 0) _ rfl (blkT BK319) Tryd.underlying26 rfl (by kernel_rfl)) rfl ?_
       exact ⟨_, eqE, by (with_reducible repeat (first | apply Kd.R_alloc | apply Kd.R_drewN | apply Kd.R_drew)); exact Kd.R_mono (Kd.R_far (p := ⟨gb319, 1, none⟩) (Kd.R_far (p := ⟨gb319, 0, none⟩) (Kd.R_types HO_321001.out BK319.out (by decide)) (fun _ hk => hk.2) (.int .i64 (wrap64 (a0_0 + a1_0)))) (fun _ hk => hk.2) (.slice Ao50 x321001_2.length co50)) (fun _ hk => trivial), bel_g HB.out⟩
end Go.Proofs.YtgdnljpallpjiaaDoor.Q
