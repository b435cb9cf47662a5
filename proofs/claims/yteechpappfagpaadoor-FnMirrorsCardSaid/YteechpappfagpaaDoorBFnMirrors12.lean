import Derived.Test.YteechpappfagpaaDoorBFnMirrors0
import Derived.Test.YteechpappfagpaaDoorBFnMirrors6
import Derived.Test.YteechpappfagpaaDoorBFnMirrors11
-- printed by this project's own program (wip/mp/mp.py) over the kit's print, for this seat; Lean checks it
namespace Go.Proofs.YteechpappfagpaaDoor.Q
open Go.RowKit Go.Proofs.YteechpappfagpaaDoorW.PrintWords Go.Proofs.YteechpappfagpaaDoorW.PrintLast Go.Proofs.YteechpappfagpaaDoorW.PrintMore
attribute [local go_sem] max2_int min2_int max_two min_two max_three min_three max_four min_four   -- for this text's walks alone
set_option linter.unusedVariables false
set_option maxHeartbeats 8000000
set_option maxRecDepth 100000
set_option linter.unusedSimpArgs false

/-! ### spec_orMirror: function 112 -/
def spec_orMirror.l0 : Nat → Int → Int → Int → List Int → Int → List Int → Option (Int × List Int)
 | 0, _, _, _, _, _, _ => none
 | k + 1, x10, x11, x853000, x853001, x855000, x855001 => if x11 < x10 then ((spec_orBelow.f k x853000 x853001 x11).bind fun t855 => (if x855001.length < 17592186044416 then (spec_orMirror.l0 k x10 (wrap64 (x11 + 1)) x853000 x853001 x855000 (x855001 ++ [t855])) else (none))) else (some (x855000, x855001))
def spec_orMirror.f (k : Nat) (a0_0 : Int) (l0_1 : List Int) : Option (Int × List Int) := spec_orMirror.l0 k (l0_1.length : Int) 0 a0_0 l0_1 a0_0 ([] : List Int)
theorem spec_orMirror.mono_l : ∀ k, (∀ y0 y1 y2 y3 y4 y5, LeO (spec_orMirror.l0 k y0 y1 y2 y3 y4 y5) (spec_orMirror.l0 (k + 1) y0 y1 y2 y3 y4 y5))
 | 0 => fun _ _ _ _ _ _ r h => by simp [spec_orMirror.l0] at h
 | k + 1 => by
  have ih0 := spec_orMirror.mono_l k
  ·intro y0 y1 y2 y3 y4 y5
   unfold spec_orMirror.l0
   repeat' (with_reducible first|exact ih0 _ _ _ _ _ _|exact spec_orBelow.mono _ _ _ _|exact LeO.refl _|exact LeO.none _|refine LeO.ite ?_ ?_|refine LeO.bind ?_ (fun _ => ?_))
theorem spec_orMirror.mono : ∀ a0 a1 k, LeO (spec_orMirror.f k a0 a1) (spec_orMirror.f (k + 1) a0 a1) := by
 intro a0 a1 k
 have ih0 := spec_orMirror.mono_l k
 unfold spec_orMirror.f
 repeat' (with_reducible first|exact ih0 _ _ _ _ _ _|exact spec_orBelow.mono _ _ _ _|exact LeO.refl _|exact LeO.none _|refine LeO.ite ?_ ?_|refine LeO.bind ?_ (fun _ => ?_))
def spec_orMirror.T5 : Bool × List (List Nat × List Nat) := (true, [([], []), ([0], [0]), ([], []), ([], []), ([2, 3], [2, 3]), ([4], [4]), ([1, 5, 4], [1, 5]), ([0, 1, 2, 3, 4, 5, 6], []), ([7, 6, 6, 0, 1, 2, 3, 4, 5, 6], [6, 7])])
def spec_orMirror.B5 : List Nat := [0, 1, 0, 0, 12, 28, 63, 127, 255]
theorem spec_orMirror.tab5 : rtab .any (opsOf Tryd.f112 5) = spec_orMirror.T5 := by kernel_rfl
theorem spec_orMirror.bits5 : waitsOk spec_orMirror.T5.2 spec_orMirror.B5 = true := by kernel_rfl
theorem spec_orMirror.calls (k : Nat) (a0_0 : Int) (A0_1 : Option Addr) (c0_1 : Nat) (l0_1 : List Int) (r1 : Int) (r2 : List Int) (w : World) (hr0_1 : Kd.C (Kd.int .i64) w A0_1 l0_1.length l0_1) (hc0_1 : l0_1.length ≤ c0_1) (h : spec_orMirror.f k a0_0 l0_1 = some (r1, r2)) :
  Calls Tryd.prog 112 #[.agg #[.int .i64 a0_0, .slice A0_1 l0_1.length c0_1]] w fun e w' => ∃ v1_ : Value, e = .returned (.agg #[.int .i64 r1, v1_]) ∧ Kd.R (Kd.int .i64) 3 w' w.heap.size (fun _ => True) v1_ r2 ∧ Below w.heap.size w w' := by
 have hu28 := Tryd.underlying28
 have HR0_1 := Aside0.mk hr0_1
 have HC0_1 := Aside0.mk hc0_1
 clear hr0_1 hc0_1
 have HB := Aside0.mk (Below.refl w.heap.size w)
 have H : (spec_orMirror.l0 k (l0_1.length : Int) 0 a0_0 l0_1 a0_0 ([] : List Int)) = some (r1, r2) := h
 clear h
 have H' := Aside0.mk H
 clear H
 go_enter Tryd.func112, Tryd.ntmps112
 go_wp2_with (first | ((with_reducible refine gate_dst (N := 1) rfl ?_); refine boxE (N := 1) (cs := #[.int .i64 a0_0, .slice A0_1 l0_1.length c0_1]) (t := 28) ?_; intro gb852 hg w2 hbox hb; have BK852 := Aside0.mk (hbox); have GE852 := geB HB hg; replace HB := bst HB hb; clear hb hbox hg) | ((with_reducible refine gate_dst (N := 2) rfl ?_); refine boxE (N := 2) (cs := #[.int .i64 0, .slice none 0 0]) (t := 28) ?_; intro gb853 hg w3 hbox hb; have BK853 := Aside0.mk (hbox); have GE853 := geB HB hg; have NB852_853 := neL BK852 hg; have NB853_852 := neR BK852 hg; replace BK852 := blkB BK852 hb; replace HB := bst HB hb; clear hb hbox hg; have hnb4 := NB852_853.out; have hnc4 := NB853_852.out; obtain ⟨hcz5_0, hcz5_1, hfz5_0, hfz5_1⟩ := blk2 BK852) | ((with_reducible refine gate_dst (N := 3) rfl ?_); refine boxE (N := 3) (cs := #[.int .i64 0, .slice none 0 0]) (t := 28) ?_; intro gb854 hg w6 hbox hb; have BK854 := Aside0.mk (hbox); have GE854 := geB HB hg; have NB852_854 := neL BK852 hg; have NB854_852 := neR BK852 hg; replace BK852 := blkB BK852 hb; have NB853_854 := neL BK853 hg; have NB854_853 := neR BK853 hg; replace BK853 := blkB BK853 hb; replace HB := bst HB hb; clear hb hbox hg; have hnb7 := NB854_852.out; have hnc7 := NB852_854.out; have hnb8 := NB854_853.out; have hnc8 := NB853_854.out; obtain ⟨hcz9_0, hcz9_1, hfz9_0, hfz9_1⟩ := blk2 BK854; obtain ⟨hcz10_0, hcz10_1, hfz10_0, hfz10_1⟩ := blk2 BK852))
 go_loopg [11] k (fun kq v11 w' => ∃ (x11_1 : Int) (x855001_1 : List Int) (u855001 : Value), v11 = .int .i64 x11_1 ∧ Aside0 (spec_orMirror.l0 kq (l0_1.length : Int) x11_1 a0_0 l0_1 a0_0 x855001_1 = some (r1, r2)) ∧ Aside0 (kq ≤ k) ∧ Aside0 (Kd.R (Kd.int .i64) 3 w' w.heap.size (fun _ => True) u855001 x855001_1) ∧ Aside0 (w'.heap[gb852]? = some (.cells #[.int .i64 a0_0, (.slice A0_1 l0_1.length c0_1)] 28 (0, 0))) ∧ Aside0 (w'.heap[gb853]? = some (.cells #[.int .i64 0, (.slice none 0 0)] 28 (0, 0))) ∧ Aside0 (w'.heap[gb854]? = some (.cells #[.int .i64 a0_0, u855001] 28 (0, 0))) ∧ Aside0 (Below w.heap.size w w'))
 case atStart => exact ⟨(0), (([] : List Int)), (.slice none 0 0), eqS, H', ⟨Nat.le_refl _⟩, ⟨by first | exact Kd.R_nil _ _ _ _ _ | exact Kd.N_nil _ _ _ _ _ | exact Kd.V_nil _ _ _ _ _ | exact Kd.Q_nil _ _ _ _ _ | exact Kd.S_nil _ _ _ _ _⟩, ⟨by (with_reducible repeat (first | refine blk_drewN ?_ _ | refine blk_drew ?_ | refine blk_alloc ?_ _)); refine blk_far ?_ NB852_854.out _; (with_reducible repeat (first | refine blk_drewN ?_ _ | refine blk_drew ?_ | refine blk_alloc ?_ _)); refine blk_far ?_ NB852_854.out _; (with_reducible repeat (first | refine blk_drewN ?_ _ | refine blk_drew ?_ | refine blk_alloc ?_ _)); exact BK852.out⟩, ⟨by (with_reducible repeat (first | refine blk_drewN ?_ _ | refine blk_drew ?_ | refine blk_alloc ?_ _)); refine blk_far ?_ NB853_854.out _; (with_reducible repeat (first | refine blk_drewN ?_ _ | refine blk_drew ?_ | refine blk_alloc ?_ _)); refine blk_far ?_ NB853_854.out _; (with_reducible repeat (first | refine blk_drewN ?_ _ | refine blk_drew ?_ | refine blk_alloc ?_ _)); exact BK853.out⟩, ⟨by (with_reducible repeat (first | refine blk_drewN ?_ _ | refine blk_drew ?_ | refine blk_alloc ?_ _)); refine blk_put (cs := #[.int .i64 a0_0, .slice none 0 0]) ?_ 1 _ rfl; (with_reducible repeat (first | refine blk_drewN ?_ _ | refine blk_drew ?_ | refine blk_alloc ?_ _)); refine blk_put (cs := #[.int .i64 0, .slice none 0 0]) ?_ 0 _ rfl; (with_reducible repeat (first | refine blk_drewN ?_ _ | refine blk_drew ?_ | refine blk_alloc ?_ _)); exact BK854.out⟩, ⟨bel_g HB.out⟩⟩
 case round =>
  clear H'
  try clear hcz10_0
  try clear hcz10_1
  try clear hcz5_0
  try clear hcz5_1
  try clear hcz9_0
  try clear hcz9_1
  try clear hfz10_0
  try clear hfz10_1
  try clear hfz5_0
  try clear hfz5_1
  try clear hfz9_0
  try clear hfz9_1
  obtain ⟨x11_1, x855001_1, u855001, rfl, HA, HK1, HO_855001, BK852, BK853, BK854, HB⟩ := hrel
  cases gk with
  | zero => exact absurd HA.out (by simp [spec_orMirror.l0])
  | succ k1 =>
   have H := HA.out
   clear HA
   simp only [spec_orMirror.l0] at H
   rcases iteE H with ⟨c11b0, H⟩ | ⟨c11b0, H⟩
   ·obtain ⟨t855, A12, H⟩ := obE H
    rcases iteP H with ⟨c13, H⟩ | ⟨c13, H⟩
    ·have LMc13 := Aside0.mk c13
     clear c13
     obtain ⟨y856, hy856⟩ : ∃ y_ : List Int, y_ = (x855001_1 ++ [t855]) := ⟨_, rfl⟩
     replace H : (spec_orMirror.l0 k1 (l0_1.length : Int) (wrap64 (x11_1 + 1)) a0_0 l0_1 a0_0 y856) = some (r1, r2) := by first | (rw [hy856]; with_reducible exact H) | (have H2_ := (Option.bind_some _ _).symm.trans H; rw [hy856]; with_reducible exact H2_) | (have H2_ := (Option.bind_some _ _).symm.trans H; with_reducible exact H2_) | with_reducible exact H | (rw [hy856]; exact H) | exact H
     have Ny856 := Aside0.mk hy856
     clear hy856
     have H' := Aside0.mk H
     clear H
     try go_wp2
     replace HO_855001 := Aside0.mk (Kd.R_drew HO_855001.out)
     replace BK852 := Aside0.mk (blk_drew BK852.out)
     replace BK853 := Aside0.mk (blk_drew BK853.out)
     replace BK854 := Aside0.mk (blk_drew BK854.out)
     replace HB := Aside0.mk (below_drew1 HB.out)
     refine start_ (n := 9) (S := fun w' => w'.cell? ⟨gb854, 0, none⟩ = some (.int .i64 a0_0) ∧ w'.cell? ⟨gb854, 1, none⟩ = some (u855001) ∧ w'.cell? ⟨gb852, 0, none⟩ = some (.int .i64 a0_0) ∧ w'.cell? ⟨gb852, 1, none⟩ = some (.slice A0_1 l0_1.length c0_1)) (ds := [8]) (bm 9 0) (by kernel_rfl) rfl rfl ⟨(blk_cell BK854.out 0).trans rfl, (blk_cell BK854.out 1).trans rfl, (blk_cell BK852.out 0).trans rfl, (blk_cell BK852.out 1).trans rfl⟩ (fun hHeld => ?_); refine with_tabW spec_orMirror.tab5 spec_orMirror.bits5 (fun HT_ HW_ => ?_)
     generalize wr.drew = w14 at HO_855001 BK852 BK853 BK854 HB hHeld ⊢
     refine pureW 0 (some 14) (bm 9 1) HT_ ?_
     refine pureW 3 (some 17) (bm 9 9) HT_ ?_
     refine takeW 1 (some 15) (bm 9 11) HT_ HW_ hHeld ?_
     refine takeW 2 (some 16) (bm 9 15) HT_ HW_ hHeld ?_
     refine oneW 4 (some 18) (bm 9 31) HT_ (fun K hK => ?_)
     refine goesR Tryd.func147 #[.agg #[.int .i64 a0_0, .slice A0_1 l0_1.length c0_1], .int .i64 x11_1] ?_
     with_reducible refine (spec_orBelow.calls k1 a0_0 _ _ l0_1 x11_1 t855 _ ?side1 ?side2 A12.out).mono ?_
     (case side1 => exact C_g HR0_1 HB)
     (case side2 => exact HC0_1.out)
     rintro e w15 ⟨rfl, hb⟩
     refine ⟨_, rfl, ?_⟩
     replace HO_855001 := Aside0.mk (Kd.R_below (Kd.R_g HO_855001.out) hb)
     replace BK852 := blkB BK852 hb
     replace BK853 := blkB BK853 hb
     replace BK854 := blkB BK854 hb
     replace HB := bst HB hb
     (try clear hb)
     (try clear hb2)
     (try clear hk)
     (try clear hi)
     refine hK.out _ _ ⟨(blk_cell BK854.out 0).trans rfl, (blk_cell BK854.out 1).trans rfl, (blk_cell BK852.out 0).trans rfl, (blk_cell BK852.out 1).trans rfl⟩ (fun hHeld => ?_)
     clear hK K
     refine normW 18 ?_
     refine oneW 5 (some 19) (bm 9 63) HT_ (fun K hK => ?_)
     refine value_ (w1 := ?_) (v := ?_) (by rfl) rfl ?_ ?_
     rotate_left 2
     ·go_simp
      constructor
      ·rfl
      ·rfl
     refine hK.out _ _ ⟨(blk_cell (blk_alloc BK854.out _) 0).trans rfl, (blk_cell (blk_alloc BK854.out _) 1).trans rfl, (blk_cell (blk_alloc BK852.out _) 0).trans rfl, (blk_cell (blk_alloc BK852.out _) 1).trans rfl⟩ (fun hHeld => ?_)
     clear hK K
     refine normW 19 ?_
     refine oneW 6 (some 20) (bm 9 127) HT_ (fun K hK => ?_)
     refine Kd.R_append_step (Kd.int .i64) (w0 := w) w.heap.size (by rfl) (.tmp 15) (.tmp 19) 22 3 (.int .i64 0) 8 rfl Tryd.underlying22 info3 rfl (by decide) (by omega) u855001 x855001_1 t855 [.int .i64 t855] (fun _ => True) (fun _ => False) rfl rfl ?aP (fun _ hk => hk.elim) ?aF ?aO ?aB ?aS ?aL ?_
     (case aP => exact rfl)
     (case aB => exact (bel_g HB.out))
     (case aF => exact (fun _ _ => trivial))
     (case aO => exact (Kd.R_g HO_855001.out))
     (case aS => exact (below_size (bel_g HB.out)))
     (case aL => have := LMc13.out; omega)
     intro v857 w16 ho hb hg hat
     rw [← Ny856.out] at ho
     replace BK852 := Aside0.mk (blk_grown (g := gb852) (o := .cells #[.int .i64 a0_0, .slice A0_1 l0_1.length c0_1] 28 (0, 0)) (blk_g BK852.out) hg (Kd.R_ne HO_855001.out BK852.out (by decide)))
     replace BK853 := Aside0.mk (blk_grown (g := gb853) (o := .cells #[.int .i64 0, .slice none 0 0] 28 (0, 0)) (blk_g BK853.out) hg (Kd.R_ne HO_855001.out BK853.out (by decide)))
     replace BK854 := Aside0.mk (blk_grown (g := gb854) (o := .cells #[.int .i64 a0_0, u855001] 28 (0, 0)) (blk_g BK854.out) hg (Kd.R_ne HO_855001.out BK854.out (by decide)))
     have HO858 := Aside0.mk (ho)
     replace HB := Aside0.mk (hb)
     clear HO_855001
     clear ho hb hg hat
     obtain ⟨Ao17, co17, eo17⟩ := Kd.R_slice HO858.out
     (first | subst eo17 | (injection eo17 with f1_ f2_ f3_; have f4_ := f1_.symm; have f5_ := f3_.symm; clear f1_ f2_ f3_; subst f4_; subst f5_))
     refine hK.out _ _ ⟨(blk_cell BK854.out 0).trans rfl, (blk_cell BK854.out 1).trans rfl, (blk_cell BK852.out 0).trans rfl, (blk_cell BK852.out 1).trans rfl⟩ (fun hHeld => ?_)
     clear hK K
     refine normW 20 ?_
     refine pureW 7 (some 21) (bm 9 255) HT_ ?_
     refine last_ (i := 8) (N := none) (bm 9 511) rfl rfl (one_of HT_.out (by kernel_rfl)) (by decide) (fun K hK => ?_)
     have hs18 : w16.cell? ⟨gb854, 1, none⟩ = some (u855001) := (blk_cell BK854.out 1).trans rfl
     have hfs18 := blk_frozen BK854.out 1
     have hns18_0 := NB852_854.out
     have hns18_1 := NB853_854.out
     have hms18_0 := NB854_852.out
     have hms18_1 := NB854_853.out
     refine skip_ (w1 := ?_) (by rfl) rfl ?_ ?_
     rotate_left
     ·go_simp
      rfl
     refine hK.out _ _ ?_
     clear hK K
     refine doneW HT_ ?_
     try go_wp2
     go_roundg k1
     case measure => have := HK1.out; omega
     case rel => exact ⟨(wrap64 (x11_1 + 1)), (y856), (.slice Ao17 y856.length co17), eqS, H', ⟨by have := HK1.out; omega⟩, ⟨Kd.R_g (Kd.R_mono (Kd.R_far (p := ⟨gb854, 1, none⟩) (Kd.R_types HO858.out BK854.out (by decide)) (fun _ hk => hk.2) (.slice Ao17 y856.length co17)) (fun _ hk => trivial))⟩, ⟨by (with_reducible repeat (first | refine blk_drewN ?_ _ | refine blk_drew ?_ | refine blk_alloc ?_ _)); refine blk_far ?_ NB852_854.out _; (with_reducible repeat (first | refine blk_drewN ?_ _ | refine blk_drew ?_ | refine blk_alloc ?_ _)); exact BK852.out⟩, ⟨by (with_reducible repeat (first | refine blk_drewN ?_ _ | refine blk_drew ?_ | refine blk_alloc ?_ _)); refine blk_far ?_ NB853_854.out _; (with_reducible repeat (first | refine blk_drewN ?_ _ | refine blk_drew ?_ | refine blk_alloc ?_ _)); exact BK853.out⟩, ⟨by (with_reducible repeat (first | refine blk_drewN ?_ _ | refine blk_drew ?_ | refine blk_alloc ?_ _)); refine blk_put (cs := #[.int .i64 a0_0, u855001]) ?_ 1 _ rfl; (with_reducible repeat (first | refine blk_drewN ?_ _ | refine blk_drew ?_ | refine blk_alloc ?_ _)); exact BK854.out⟩, ⟨bel_g HB.out⟩⟩
    ·exact absurd H (by simp)
   ·simp only [Option.some.injEq, Prod.mk.injEq] at H
    obtain ⟨rfl, rfl⟩ := H
    have hnb19 := NB854_852.out
    have hnc19 := NB852_854.out
    have hnb20 := NB854_853.out
    have hnc20 := NB853_854.out
    obtain ⟨hcz21_0, hcz21_1, hfz21_0, hfz21_1⟩ := blk2 BK854
    have hnb22 := NB853_852.out
    have hnc22 := NB852_853.out
    obtain ⟨hcz23_0, hcz23_1, hfz23_0, hfz23_1⟩ := blk2 BK853
    obtain ⟨Ao24, co24, eo24⟩ := Kd.R_slice HO_855001.out
    subst eo24
    go_wp2
    refine bodyPost_ret (results_cell_row rfl _ _ gb853 28 #[.int .i64 a0_0, .slice Ao24 x855001_1.length co24] (0, 0) _ rfl (by (with_reducible repeat (first | refine blk_drewN ?_ _ | refine blk_drew ?_ | refine blk_alloc ?_ _)); refine blk_put (cs := #[.int .i64 a0_0, .slice none 0 0]) ?_ 1 _ rfl; (with_reducible repeat (first | refine blk_drewN ?_ _ | refine blk_drew ?_ | refine blk_alloc ?_ _)); refine blk_put (cs := #[.int .i64 0, .slice none 0 0]) ?_ 0 _ rfl; (with_reducible repeat (first | refine blk_drewN ?_ _ | refine blk_drew ?_ | refine blk_alloc ?_ _)); exact BK853.out) Tryd.underlying28 rfl (by kernel_rfl)) rfl ?_
    exact ⟨_, eqE, by (with_reducible repeat (first | apply Kd.R_alloc | apply Kd.R_drewN | apply Kd.R_drew)); exact Kd.R_mono (Kd.R_far (p := ⟨gb853, 1, none⟩) (Kd.R_far (p := ⟨gb853, 0, none⟩) (Kd.R_types HO_855001.out BK853.out (by decide)) (fun _ hk => hk.2) (.int .i64 a0_0)) (fun _ hk => hk.2) (.slice Ao24 x855001_1.length co24)) (fun _ hk => trivial), bel_g HB.out⟩

end Go.Proofs.YteechpappfagpaaDoor.Q

-- printed by this project's own program (wip/mp/mp.py) over the kit's print, for this seat; Lean checks it
namespace Go.Proofs.YteechpappfagpaaDoor.Q
open Go.RowKit Go.Proofs.YteechpappfagpaaDoorW.PrintWords Go.Proofs.YteechpappfagpaaDoorW.PrintLast Go.Proofs.YteechpappfagpaaDoorW.PrintMore
attribute [local go_sem] max2_int min2_int max_two min_two max_three min_three max_four min_four   -- for this text's walks alone
set_option linter.unusedVariables false
set_option maxHeartbeats 8000000
set_option maxRecDepth 100000
set_option linter.unusedSimpArgs false

/-! ### spec_MirrorOf: function 43 -/
def spec_MirrorOf.f (k : Nat) (a0_0 : Int) (l0_1 : List Int) : Option (Int × List Int × Bool) := (spec_orRelation.f k a0_0 l0_1).bind fun t861 => (if t861 = true then ((spec_orMirror.f k a0_0 l0_1).bind fun bt862 => (some (bt862.1, bt862.2, true))) else (some (0, ([] : List Int), false)))
theorem spec_MirrorOf.mono : ∀ a0 a1 k, LeO (spec_MirrorOf.f k a0 a1) (spec_MirrorOf.f (k + 1) a0 a1) := by
 intro a0 a1 k
 unfold spec_MirrorOf.f
 repeat' (with_reducible first|exact spec_orMirror.mono _ _ _|exact spec_orRelation.mono _ _ _|exact LeO.refl _|exact LeO.none _|refine LeO.ite ?_ ?_|refine LeO.bind ?_ (fun _ => ?_))
theorem spec_MirrorOf.calls (k : Nat) (a0_0 : Int) (A0_1 : Option Addr) (c0_1 : Nat) (l0_1 : List Int) (r1 : Int) (r2 : List Int) (r3 : Bool) (w : World) (hr0_1 : Kd.C (Kd.int .i64) w A0_1 l0_1.length l0_1) (hc0_1 : l0_1.length ≤ c0_1) (h : spec_MirrorOf.f k a0_0 l0_1 = some (r1, r2, r3)) :
  Calls Tryd.prog 43 #[.agg #[.int .i64 a0_0, .slice A0_1 l0_1.length c0_1]] w fun e w' => ∃ v1_ : Value, e = .returned (.tuple #[.agg #[.int .i64 r1, v1_], .bool r3]) ∧ Kd.R (Kd.int .i64) 3 w' w.heap.size (fun _ => True) v1_ r2 ∧ Below w.heap.size w w' := by
 have hu28 := Tryd.underlying28
 have HR0_1 := Aside0.mk hr0_1
 have HC0_1 := Aside0.mk hc0_1
 clear hr0_1 hc0_1
 have HB := Aside0.mk (Below.refl w.heap.size w)
 have H : ((spec_orRelation.f k a0_0 l0_1).bind fun t861 => (if t861 = true then ((spec_orMirror.f k a0_0 l0_1).bind fun bt862 => (some (bt862.1, bt862.2, true))) else (some (0, ([] : List Int), false)))) = some (r1, r2, r3) := h
 clear h
 obtain ⟨t861, A2, H⟩ := obE H
 by_cases c3 : t861 = true
 ·subst c3
  replace H := ifT H
  obtain ⟨⟨t862, t863⟩, A4, H⟩ := obE H
  dsimp only at H
  simp only [Option.some.injEq, Prod.mk.injEq] at H
  obtain ⟨rfl, rfl, rfl⟩ := H
  go_enter Tryd.func43, Tryd.ntmps43
  go_wp2_with (first | ((with_reducible refine gate_dst (N := 1) rfl ?_); refine boxE (N := 1) (cs := #[.int .i64 a0_0, .slice A0_1 l0_1.length c0_1]) (t := 28) ?_; intro gb859 hg w5 hbox hb; have BK859 := Aside0.mk (hbox); have GE859 := geB HB hg; replace HB := bst HB hb; clear hb hbox hg) | ((with_reducible refine gate_dst (N := 2) rfl ?_); refine boxE (N := 2) (cs := #[.int .i64 0, .slice none 0 0]) (t := 28) ?_; intro gb860 hg w6 hbox hb; have BK860 := Aside0.mk (hbox); have GE860 := geB HB hg; have NB859_860 := neL BK859 hg; have NB860_859 := neR BK859 hg; replace BK859 := blkB BK859 hb; replace HB := bst HB hb; clear hb hbox hg; have hnb7 := NB859_860.out; have hnc7 := NB860_859.out; obtain ⟨hcz8_0, hcz8_1, hfz8_0, hfz8_1⟩ := blk2 BK859) | ((with_reducible refine gate_callee (f := 111) rfl ?_); refine goesQ (some 5) Tryd.func111 #[.agg #[.int .i64 a0_0, .slice A0_1 l0_1.length c0_1]] ?_; (with_reducible refine (spec_orRelation.calls k a0_0 _ _ l0_1 true _ ?side1 ?side2 A2.out).mono ?_); (case side1 => exact C_g HR0_1 HB); (case side2 => exact HC0_1.out); rintro e w9 ⟨rfl, hb⟩; refine ⟨_, rfl, ?_⟩; replace BK859 := blkB BK859 hb; replace BK860 := blkB BK860 hb; replace HB := bst HB hb; (try clear hb); (try clear hk); obtain ⟨hcz10_0, hcz10_1, hfz10_0, hfz10_1⟩ := blk2 BK859) | ((with_reducible refine gate_callee (f := 112) rfl ?_); refine goesQ (some 9) Tryd.func112 #[.agg #[.int .i64 a0_0, .slice A0_1 l0_1.length c0_1]] ?_; (with_reducible refine (spec_orMirror.calls k a0_0 _ _ l0_1 t862 t863 _ ?side1 ?side2 A4.out).mono ?_); (case side1 => exact C_g HR0_1 HB); (case side2 => exact HC0_1.out); rintro e w11 ⟨v864, rfl, ho0, hb⟩; refine ⟨_, rfl, ?_⟩; have HO865 := Aside0.mk (Kd.R_lower ho0 (below_size (bel_g HB.out))); replace BK859 := blkB BK859 hb; replace BK860 := blkB BK860 hb; replace HB := bst HB hb; (try clear hb); (try clear hk); (try clear ho0); obtain ⟨hcz12_0, hcz12_1, hfz12_0, hfz12_1⟩ := blk2 BK860; obtain ⟨Ao13, co13, eo13⟩ := Kd.R_slice HO865.out; subst eo13))
  refine bodyPost_ret (results_ct rfl _ _ gb860 28 #[.int .i64 t862, .slice Ao13 t863.length co13] (0, 0) _ rfl (by (with_reducible repeat (first | refine blk_drewN ?_ _ | refine blk_drew ?_ | refine blk_alloc ?_ _)); refine blk_put (cs := #[.int .i64 t862, .slice none 0 0]) ?_ 1 _ rfl; (with_reducible repeat (first | refine blk_drewN ?_ _ | refine blk_drew ?_ | refine blk_alloc ?_ _)); refine blk_put (cs := #[.int .i64 0, .slice none 0 0]) ?_ 0 _ rfl; (with_reducible repeat (first | refine blk_drewN ?_ _ | refine blk_drew ?_ | refine blk_alloc ?_ _)); exact BK860.out) Tryd.underlying28 rfl (by kernel_rfl)) rfl ?_
  exact ⟨_, eqE, by (with_reducible repeat (first | apply Kd.R_alloc | apply Kd.R_drewN | apply Kd.R_drew)); exact Kd.R_mono (Kd.R_far (p := ⟨gb860, 1, none⟩) (Kd.R_far (p := ⟨gb860, 0, none⟩) (Kd.R_types HO865.out BK860.out (by decide)) (fun _ hk => hk.2) (.int .i64 t862)) (fun _ hk => hk.2) (.slice Ao13 t863.length co13)) (fun _ hk => trivial), bel_g HB.out⟩
 ·replace c3 := Bool.eq_false_iff.mpr c3
  subst c3
  replace H := ifF H
  simp only [Option.some.injEq, Prod.mk.injEq] at H
  obtain ⟨rfl, rfl, rfl⟩ := H
  go_enter Tryd.func43, Tryd.ntmps43
  go_wp2_with (first | ((with_reducible refine gate_dst (N := 1) rfl ?_); refine boxE (N := 1) (cs := #[.int .i64 a0_0, .slice A0_1 l0_1.length c0_1]) (t := 28) ?_; intro gb859 hg w14 hbox hb; have BK859 := Aside0.mk (hbox); have GE859 := geB HB hg; replace HB := bst HB hb; clear hb hbox hg) | ((with_reducible refine gate_dst (N := 2) rfl ?_); refine boxE (N := 2) (cs := #[.int .i64 0, .slice none 0 0]) (t := 28) ?_; intro gb860 hg w15 hbox hb; have BK860 := Aside0.mk (hbox); have GE860 := geB HB hg; have NB859_860 := neL BK859 hg; have NB860_859 := neR BK859 hg; replace BK859 := blkB BK859 hb; replace HB := bst HB hb; clear hb hbox hg; have hnb16 := NB859_860.out; have hnc16 := NB860_859.out; obtain ⟨hcz17_0, hcz17_1, hfz17_0, hfz17_1⟩ := blk2 BK859) | ((with_reducible refine gate_callee (f := 111) rfl ?_); refine goesQ (some 5) Tryd.func111 #[.agg #[.int .i64 a0_0, .slice A0_1 l0_1.length c0_1]] ?_; (with_reducible refine (spec_orRelation.calls k a0_0 _ _ l0_1 false _ ?side1 ?side2 A2.out).mono ?_); (case side1 => exact C_g HR0_1 HB); (case side2 => exact HC0_1.out); rintro e w18 ⟨rfl, hb⟩; refine ⟨_, rfl, ?_⟩; replace BK859 := blkB BK859 hb; replace BK860 := blkB BK860 hb; replace HB := bst HB hb; (try clear hb); (try clear hk); obtain ⟨hcz19_0, hcz19_1, hfz19_0, hfz19_1⟩ := blk2 BK860))
  refine bodyPost_ret (results_ct rfl _ _ gb860 28 #[.int .i64 0, .slice none 0 0] (0, 0) _ rfl (by (with_reducible repeat (first | refine blk_drewN ?_ _ | refine blk_drew ?_ | refine blk_alloc ?_ _)); refine blk_put (cs := #[.int .i64 0, .slice none 0 0]) ?_ 1 _ rfl; (with_reducible repeat (first | refine blk_drewN ?_ _ | refine blk_drew ?_ | refine blk_alloc ?_ _)); refine blk_put (cs := #[.int .i64 0, .slice none 0 0]) ?_ 0 _ rfl; (with_reducible repeat (first | refine blk_drewN ?_ _ | refine blk_drew ?_ | refine blk_alloc ?_ _)); exact BK860.out) Tryd.underlying28 rfl (by kernel_rfl)) rfl ?_
  exact ⟨_, eqE, by first | exact Kd.R_nil _ _ _ _ _ | exact Kd.N_nil _ _ _ _ _ | exact Kd.V_nil _ _ _ _ _ | exact Kd.Q_nil _ _ _ _ _ | exact Kd.S_nil _ _ _ _ _, bel_g HB.out⟩

end Go.Proofs.YteechpappfagpaaDoor.Q
