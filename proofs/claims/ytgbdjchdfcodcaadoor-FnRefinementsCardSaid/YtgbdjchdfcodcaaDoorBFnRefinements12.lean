import Derived.Test.YtgbdjchdfcodcaaDoorBFnRefinements11
namespace Go.Proofs.YtgbdjchdfcodcaaDoor.Q
open Go.RowKit Go.Proofs.YtgbdjchdfcodcaaDoorW.PrintWords Go.Proofs.YtgbdjchdfcodcaaDoorW.PrintLast Go.Proofs.YtgbdjchdfcodcaaDoorW.PrintMore
attribute [local go_sem] max2_int min2_int max_two min_two max_three min_three max_four min_four neB_f
set_option linter.unusedVariables false
set_option maxHeartbeats 8000000
set_option maxRecDepth 100000
set_option linter.unusedSimpArgs false
def spec_orMirror.l0 : Nat → Int → Int → Int → List Int → Int → List Int → Option (Int × List Int)
 | 0, _, _, _, _, _, _ => none
 | k + 1, x10, x11, x332000, x332001, x334000, x334001 => if x11 < x10 then ((spec_orBelow.f k x332000 x332001 x11).bind fun t334 => (if x334001.length < 17592186044416 then (spec_orMirror.l0 k x10 (wrap64 (x11 + 1)) x332000 x332001 x334000 (x334001 ++ [t334])) else (none))) else (some (x334000, x334001))
def spec_orMirror.f (k : Nat) (a0_0 : Int) (l0_1 : List Int) : Option (Int × List Int) := spec_orMirror.l0 k (l0_1.length : Int) 0 a0_0 l0_1 a0_0 ([] : List Int)
theorem spec_orMirror.mono_l : ∀ k, (∀ y0 y1 y2 y3 y4 y5, LeO (spec_orMirror.l0 k y0 y1 y2 y3 y4 y5) (spec_orMirror.l0 (k + 1) y0 y1 y2 y3 y4 y5))
 | 0 => fun _ _ _ _ _ _ r h => by simp [spec_orMirror.l0] at h
 | k + 1 => by
  have ih0 := spec_orMirror.mono_l k
  ·intro y0 y1 y2 y3 y4 y5
   unfold spec_orMirror.l0
   repeat' (with_reducible first|exact ih0 _ _ _ _ _ _|exact spec_orBelow.mono _ _ _ _|exact LeO.refl _|exact LeO.none _|refine LeO.ite ?_ ?_|refine LeO.bind ?_ (fun _ => ?_))
theorem spec_orMirror.mono : ∀ a0 a1 k, LeO (spec_orMirror.f k a0 a1) (spec_orMirror.f (k + 1) a0 a1) := by
 intro a0 a1 k
 have ih0 := spec_orMirror.mono_l k
 unfold spec_orMirror.f
 repeat' (with_reducible first|exact ih0 _ _ _ _ _ _|exact spec_orBelow.mono _ _ _ _|exact LeO.refl _|exact LeO.none _|refine LeO.ite ?_ ?_|refine LeO.bind ?_ (fun _ => ?_))
def spec_orMirror.T5 : Bool × List (List Nat × List Nat) := (true, [([], []), ([0], [0]), ([], []), ([], []), ([2, 3], [2, 3]), ([4], [4]), ([1, 5, 4], [1, 5]), ([0, 1, 2, 3, 4, 5, 6], []), ([7, 6, 6, 0, 1, 2, 3, 4, 5, 6], [6, 7])])
def spec_orMirror.B5 : List Nat := [0, 1, 0, 0, 12, 28, 63, 127, 255]
theorem spec_orMirror.tab5 : rtab .any (opsOf Tryd.f52 5) = spec_orMirror.T5 := by kernel_rfl
theorem spec_orMirror.bits5 : waitsOk spec_orMirror.T5.2 spec_orMirror.B5 = true := by kernel_rfl
theorem spec_orMirror.calls (k : Nat) (a0_0 : Int) (A0_1 : Option Addr) (c0_1 : Nat) (l0_1 : List Int) (r1 : Int) (r2 : List Int) (w : World) (hr0_1 : Kd.C (Kd.int .i64) w A0_1 l0_1.length l0_1) (hc0_1 : l0_1.length ≤ c0_1) (h : spec_orMirror.f k a0_0 l0_1 = some (r1, r2)) :
  Calls Tryd.prog 52 #[.agg #[.int .i64 a0_0, .slice A0_1 l0_1.length c0_1]] w fun e w' => ∃ v1_ : Value, e = .returned (.agg #[.int .i64 r1, v1_]) ∧ Kd.R (Kd.int .i64) 3 w' w.heap.size (fun _ => True) v1_ r2 ∧ Below w.heap.size w w' := by
 have hu26 := Tryd.underlying26
 have HR0_1 := mkA hr0_1
 have HC0_1 := mkA hc0_1
 clear hr0_1 hc0_1
 have HB := mkA (Below.refl w.heap.size w)
 have H := h
 clear h
 unfold spec_orMirror.f at H
 have H' := mkA H
 clear H
 go_enter Tryd.func52, Tryd.ntmps52
 go_wp2_with (first | ((with_reducible refine gate_dst (N := 1) rfl ?_); refine boxE (N := 1) (cs := #[.int .i64 a0_0, .slice A0_1 l0_1.length c0_1]) (t := 26) ?_; intro gb331 hg w2 hbox hb; have BK331 := mkA (hbox); have GE331 := geB HB hg; replace HB := bst HB hb; clear hb hbox hg) | ((with_reducible refine gate_dst (N := 2) rfl ?_); refine boxE (N := 2) (cs := #[.int .i64 0, .slice none 0 0]) (t := 26) ?_; intro gb332 hg w3 hbox hb; have BK332 := mkA (hbox); have GE332 := geB HB hg; have NB331_332 := neL7 BK331 hg; have NB332_331 := neR7 BK331 hg; replace BK331 := blkB BK331 hb; replace HB := bst HB hb; clear hb hbox hg; obtain ⟨_, _, _, _⟩ := blk2 BK331) | ((with_reducible refine gate_dst (N := 3) rfl ?_); refine boxE (N := 3) (cs := #[.int .i64 0, .slice none 0 0]) (t := 26) ?_; intro gb333 hg w6 hbox hb; have BK333 := mkA (hbox); have GE333 := geB HB hg; have NB331_333 := neL7 BK331 hg; have NB333_331 := neR7 BK331 hg; replace BK331 := blkB BK331 hb; have NB332_333 := neL7 BK332 hg; have NB333_332 := neR7 BK332 hg; replace BK332 := blkB BK332 hb; replace HB := bst HB hb; clear hb hbox hg; obtain ⟨_, _, _, _⟩ := blk2 BK333; obtain ⟨_, _, _, _⟩ := blk2 BK331))
 go_loopg [11] k (fun kq v11 w' => ∃ (x11_1 : Int) (x334001_1 : List Int) (u334001 : Value), v11 = .int .i64 x11_1 ∧ Fc (spec_orMirror.l0 kq (l0_1.length : Int) x11_1 a0_0 l0_1 a0_0 x334001_1 = some (r1, r2)) ∧ Fc (kq ≤ k) ∧ Fc (Kd.R (Kd.int .i64) 3 w' w.heap.size (fun _ => True) u334001 x334001_1) ∧ Fc (w'.heap[gb331]? = some (.cells #[.int .i64 a0_0, (.slice A0_1 l0_1.length c0_1)] 26 (0, 0))) ∧ Fc (w'.heap[gb332]? = some (.cells #[.int .i64 0, (.slice none 0 0)] 26 (0, 0))) ∧ Fc (w'.heap[gb333]? = some (.cells #[.int .i64 a0_0, u334001] 26 (0, 0))) ∧ Fc (Below w.heap.size w w'))
 case atStart => exact ⟨(0), (([] : List Int)), (.slice none 0 0), eqS, H', ⟨Nat.le_refl _⟩, ⟨by first | exact Kd.R_nil _ _ _ _ _ | exact Kd.N_nil _ _ _ _ _ | exact Kd.V_nil _ _ _ _ _ | exact Kd.Q_nil _ _ _ _ _ | exact Kd.S_nil _ _ _ _ _⟩, ⟨blkT BK331⟩, ⟨blkT BK332⟩, ⟨blkT BK333⟩, ⟨bel_g HB.out⟩⟩
 case round =>
  clear H'
  obtain ⟨x11_1, x334001_1, u334001, rfl, HA, HK1, HO_334001, BK331, BK332, BK333, HB⟩ := hrel
  cases gk with
  | zero => exact absurd HA.out (by simp [spec_orMirror.l0])
  | succ k1 =>
   have H := HA.out
   clear HA
   simp only [spec_orMirror.l0] at H
   rcases iteE H with ⟨c11b0, H⟩ | ⟨c11b0, H⟩
   ·obtain ⟨t334, A12, H⟩ := obE H
    obtain ⟨c13, H⟩ := itNP H
    have LMc13 := mkA c13
    clear c13
    obtain ⟨y335, hy335⟩ : ∃ y_ : List Int, y_ = (x334001_1 ++ [t334]) := ⟨_, rfl⟩
    replace H : (spec_orMirror.l0 k1 (l0_1.length : Int) (wrap64 (x11_1 + 1)) a0_0 l0_1 a0_0 y335) = some (r1, r2) := by first | (rw [hy335]; with_reducible exact H) | (have H2_ := (Option.bind_some _ _).symm.trans H; rw [hy335]; with_reducible exact H2_) | (have H2_ := (Option.bind_some _ _).symm.trans H; with_reducible exact H2_) | with_reducible exact H | (rw [hy335]; exact H) | exact H
    have Ny335 := mkA hy335
    clear hy335
    have H' := mkA H
    clear H
    try go_wp2
    replace HO_334001 := mkA (Kd.R_drew HO_334001.out)
    replace BK331 := mkA (blk_drew BK331.out)
    replace BK332 := mkA (blk_drew BK332.out)
    replace BK333 := mkA (blk_drew BK333.out)
    replace HB := mkA (below_drew1 HB.out)
    refine start_ (n := 9) (S := fun w' => w'.cell? ⟨gb333, 0, none⟩ = some (.int .i64 a0_0) ∧ w'.cell? ⟨gb333, 1, none⟩ = some (u334001) ∧ w'.cell? ⟨gb331, 0, none⟩ = some (.int .i64 a0_0) ∧ w'.cell? ⟨gb331, 1, none⟩ = some (.slice A0_1 l0_1.length c0_1)) (ds := [8]) (bm 9 0) (by kernel_rfl) rfl rfl ⟨(blk_cell BK333.out 0).trans rfl, (blk_cell BK333.out 1).trans rfl, (blk_cell BK331.out 0).trans rfl, (blk_cell BK331.out 1).trans rfl⟩ (fun hHeld => ?_); refine with_tabW spec_orMirror.tab5 spec_orMirror.bits5 (fun HT_ HW_ => ?_)
    generalize wr.drew = w14 at HO_334001 BK331 BK332 BK333 HB hHeld ⊢
    refine purW 0 14 9 1 HT_ ?_
    refine purW 3 17 9 9 HT_ ?_
    refine takeW 1 (some 15) (bm 9 11) HT_ HW_ hHeld ?_
    refine takeW 2 (some 16) (bm 9 15) HT_ HW_ hHeld ?_
    refine oneW 4 (some 18) (bm 9 31) HT_ (fun K hK => ?_)
    refine goesR Tryd.func64 #[.agg #[.int .i64 a0_0, .slice A0_1 l0_1.length c0_1], .int .i64 x11_1] ?_
    with_reducible refine (spec_orBelow.calls k1 a0_0 _ _ l0_1 x11_1 t334 _ ?s1 ?s2 A12.out).mono ?_
    (case s1 => exact C_g HR0_1 HB)
    (case s2 => exact HC0_1.out)
    rintro e w15 ⟨rfl, hb⟩
    refine ⟨_, rfl, ?_⟩
    replace HO_334001 := rB HO_334001 hb
    replace BK331 := blkB BK331 hb
    replace BK332 := blkB BK332 hb
    replace BK333 := blkB BK333 hb
    replace HB := bst HB hb
    (try clear hb)
    (try clear hb2)
    (try clear hk)
    (try clear hi)
    refine hK.out _ _ ⟨(blk_cell BK333.out 0).trans rfl, (blk_cell BK333.out 1).trans rfl, (blk_cell BK331.out 0).trans rfl, (blk_cell BK331.out 1).trans rfl⟩ (fun hHeld => ?_)
    clear hK K
    refine normW 18 ?_
    refine oneW 5 (some 19) (bm 9 63) HT_ (fun K hK => ?_)
    refine value_ (w1 := ?_) (v := ?_) (by rfl) rfl ?_ ?_
    rotate_left 2
    ·go_simp
     constructor
     ·rfl
     ·rfl
    refine hK.out _ _ ⟨(blk_cell (blk_alloc BK333.out _) 0).trans rfl, (blk_cell (blk_alloc BK333.out _) 1).trans rfl, (blk_cell (blk_alloc BK331.out _) 0).trans rfl, (blk_cell (blk_alloc BK331.out _) 1).trans rfl⟩ (fun hHeld => ?_)
    clear hK K
    refine normW 19 ?_
    refine oneW 6 (some 20) (bm 9 127) HT_ (fun K hK => ?_)
    refine Kd.R_append_step (Kd.int .i64) (w0 := w) w.heap.size (by rfl) (.tmp 15) (.tmp 19) 24 3 (.int .i64 0) 8 rfl Tryd.underlying24 info3 rfl (by decide) (by omega) u334001 x334001_1 t334 [.int .i64 t334] (fun _ => True) (fun _ => False) rfl rfl ?aP (fun _ hk => hk.elim) ?aF ?aO ?aB ?aS ?aL ?_
    (case aP => exact rfl)
    (case aB => exact (bel_g HB.out))
    (case aF => exact (fun _ _ => trivial))
    (case aO => exact (Kd.R_g HO_334001.out))
    (case aS => exact (below_size (bel_g HB.out)))
    (case aL => have := LMc13.out; omega)
    intro v336 w16 ho hb hg hat
    rw [← Ny335.out] at ho
    replace BK331 := mkA (blk_grown (g := gb331) (o := .cells #[.int .i64 a0_0, .slice A0_1 l0_1.length c0_1] 26 (0, 0)) (blk_g BK331.out) hg (Kd.R_ne HO_334001.out BK331.out (by decide)))
    replace BK332 := mkA (blk_grown (g := gb332) (o := .cells #[.int .i64 0, .slice none 0 0] 26 (0, 0)) (blk_g BK332.out) hg (Kd.R_ne HO_334001.out BK332.out (by decide)))
    replace BK333 := mkA (blk_grown (g := gb333) (o := .cells #[.int .i64 a0_0, u334001] 26 (0, 0)) (blk_g BK333.out) hg (Kd.R_ne HO_334001.out BK333.out (by decide)))
    have HO337 := mkA (ho)
    replace HB := mkA (hb)
    clear HO_334001
    clear ho hb hg hat
    obtain ⟨Ao17, co17, eo17⟩ := Kd.R_slice HO337.out
    (first | subst eo17 | (injection eo17 with f1_ f2_ f3_; have f4_ := f1_.symm; have f5_ := f3_.symm; clear f1_ f2_ f3_; subst f4_; subst f5_))
    refine hK.out _ _ ⟨(blk_cell BK333.out 0).trans rfl, (blk_cell BK333.out 1).trans rfl, (blk_cell BK331.out 0).trans rfl, (blk_cell BK331.out 1).trans rfl⟩ (fun hHeld => ?_)
    clear hK K
    refine normW 20 ?_
    refine purW 7 21 9 255 HT_ ?_
    refine last_ (i := 8) (N := none) (bm 9 511) rfl rfl (one_of HT_.out (by kernel_rfl)) (by decide) (fun K hK => ?_)
    have hs18 : w16.cell? ⟨gb333, 1, none⟩ = some (u334001) := (blk_cell BK333.out 1).trans rfl
    have hfs18 := blk_frozen BK333.out 1
    refine skip_ (w1 := ?_) (by rfl) rfl ?_ ?_
    rotate_left
    ·go_simp
     rfl
    refine hK.out _ _ ?_
    clear hK K
    refine doneW HT_ ?_
    try go_wp2
    go_roundg k1
    case measure => have := HK1.out; omega
    case rel => exact ⟨(wrap64 (x11_1 + 1)), (y335), (.slice Ao17 y335.length co17), eqS, H', ⟨by have := HK1.out; omega⟩, ⟨Kd.R_g (Kd.R_mono (Kd.R_far (p := ⟨gb333, 1, none⟩) (Kd.R_types HO337.out BK333.out (by decide)) (fun _ hk => hk.2) (.slice Ao17 y335.length co17)) (fun _ hk => trivial))⟩, ⟨blkT BK331⟩, ⟨blkT BK332⟩, ⟨blkT BK333⟩, ⟨bel_g HB.out⟩⟩
   ·simp only [Option.some.injEq, Prod.mk.injEq] at H
    obtain ⟨rfl, rfl⟩ := H
    obtain ⟨_, _, _, _⟩ := blk2 BK333
    obtain ⟨_, _, _, _⟩ := blk2 BK332
    obtain ⟨Ao24, co24, eo24⟩ := Kd.R_slice HO_334001.out
    subst eo24
    go_wp2
    refine bodyPost_ret (results_cell_row rfl _ _ gb332 26 #[.int .i64 a0_0, .slice Ao24 x334001_1.length co24] (0, 0) _ rfl (blkT BK332) Tryd.underlying26 rfl (by kernel_rfl)) rfl ?_
    exact ⟨_, eqE, by (with_reducible repeat (first | apply Kd.R_alloc | apply Kd.R_drewN | apply Kd.R_drew)); exact Kd.R_mono (rF HO_334001 BK332) (fun _ _ => trivial), bel_g HB.out⟩
end Go.Proofs.YtgbdjchdfcodcaaDoor.Q
