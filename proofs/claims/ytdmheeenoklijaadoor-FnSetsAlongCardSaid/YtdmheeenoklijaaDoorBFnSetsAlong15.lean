import Derived.Test.YtdmheeenoklijaaDoorBFnSetsAlong13
import Derived.Test.YtdmheeenoklijaaDoorBFnSetsAlong14
namespace Go.Proofs.YtdmheeenoklijaaDoor.Q
open Go.RowKit Go.Proofs.YtdmheeenoklijaaDoorW.PrintWords Go.Proofs.YtdmheeenoklijaaDoorW.PrintLast Go.Proofs.YtdmheeenoklijaaDoorW.PrintMore
attribute [local go_sem] max2_int min2_int max_two min_two max_three min_three max_four min_four neB_f
set_option linter.unusedVariables false
set_option maxHeartbeats 8000000
set_option maxRecDepth 100000
set_option linter.unusedSimpArgs false
def spec_l1Cur_anyOrder.f (k : Nat) (s0_0 : List Int) (s0_1 : Int) (s0_2 : Int) (a1 : Int) : Option (Int × List Int × Int × Int) := (spec_l1Cur_order.f k s0_0 s0_1 s0_2 a1).bind fun bt244 => ((spec_l1Cur_pick.f s0_0 bt244.2.2.1 bt244.2.2.2 14).bind fun bt251 => (if bt251.1 = 0 then ((spec_l1Cur_relation.f k s0_0 bt251.2.1 bt251.2.2 a1).bind fun bt254 => (some (bt254.1, bt254.2.1, bt254.2.2.1, bt254.2.2.2))) else (if bt251.1 = 1 then ((spec_l1Cur_among.f s0_0 bt251.2.1 bt251.2.2 (([(-1), 0, 10, 11] : List Int))).bind fun bt263 => (some (bt263.1, bt244.2.1, bt263.2.1, bt263.2.2))) else (if bt251.1 = 2 then (if (bt244.2.1.length : Int) > 0 then ((spec_l1Cur_pick.f s0_0 bt251.2.1 bt251.2.2 (bt244.2.1.length : Int)).bind fun bt266 => (if 0 ≤ bt244.1 then ((spec_l1Cur_among.f s0_0 bt266.2.1 bt266.2.2 (([(-1), 0, 1, shl .i64 1 bt244.1] : List Int))).bind fun bt272 => (if 0 ≤ bt266.1 then (if bt266.1 < (bt244.2.1.length : Int) then (some (bt244.1, (bt244.2.1.set (bt266.1 : Int).toNat bt272.1), bt272.2.1, bt272.2.2)) else (none)) else (none))) else (none))) else (some (bt244.1, bt244.2.1, bt251.2.1, bt251.2.2))) else (if bt251.1 = 3 then ((spec_l1Cur_order.f k s0_0 bt251.2.1 bt251.2.2 10).bind fun bt276 => (some (bt276.1, bt276.2.1, bt276.2.2.1, bt276.2.2.2))) else (some (bt244.1, bt244.2.1, bt251.2.1, bt251.2.2)))))))
theorem spec_l1Cur_anyOrder.mono : ∀ a0 a1 a2 a3 k, LeO (spec_l1Cur_anyOrder.f k a0 a1 a2 a3) (spec_l1Cur_anyOrder.f (k + 1) a0 a1 a2 a3) := by
 intro a0 a1 a2 a3 k
 unfold spec_l1Cur_anyOrder.f
 repeat' (with_reducible first|apply spec_l1Cur_order.mono|apply spec_l1Cur_relation.mono|apply LeO.refl|apply LeO.none|apply LeO.ite|apply LeO.bind|intro)
def spec_l1Cur_anyOrder.T9 : Bool × List (List Nat × List Nat) := (true, [([], []), ([0], [0]), ([], []), ([], []), ([3], [3]), ([4], [4]), ([2, 5], [2, 5]), ([], []), ([], []), ([8], [8]), ([9], [9]), ([10], [10]), ([7, 11, 6], [7, 11]), ([1, 6, 0, 1, 2, 3, 4, 5, 6, 7, 8, 9, 10, 11, 12], [1, 6]), ([13, 12, 12, 0, 1, 2, 3, 4, 5, 6, 7, 8, 9, 10, 11, 12], [12, 13])])
def spec_l1Cur_anyOrder.B9 : List Nat := [0, 1, 0, 0, 8, 24, 60, 0, 0, 256, 768, 1792, 4092, 8191, 16383]
theorem spec_l1Cur_anyOrder.tab9 : rtab .any (opsOf Tryd.f55 9) = spec_l1Cur_anyOrder.T9 := by kernel_rfl
theorem spec_l1Cur_anyOrder.bits9 : waitsOk spec_l1Cur_anyOrder.T9.2 spec_l1Cur_anyOrder.B9 = true := by kernel_rfl
theorem spec_l1Cur_anyOrder.calls (k : Nat) (g : Nat) (s0_0 : List Int) (s0_1 : Int) (s0_2 : Int) (a1 : Int) (r1 : Int) (r2 : List Int) (r3 : Int) (r4 : Int) (w0 w : World) (hI : IsS55 w0 w g s0_0 s0_1 s0_2) (hB : Below w0.heap.size w0 w) (h : spec_l1Cur_anyOrder.f k s0_0 s0_1 s0_2 a1 = some (r1, r2, r3, r4)) :
  Calls Tryd.prog 55 #[.pointer (some ⟨g, 0, none⟩), .int .i64 a1] w fun e w' => ∃ v1_ : Value, e = .returned (.agg #[.int .i64 r1, v1_]) ∧ Kd.R (Kd.int .i64) 3 w' w.heap.size (fun _ => True) v1_ r2 ∧ IsS55 w0 w' g s0_0 r3 r4 ∧ Below w0.heap.size w0 w' ∧ KeepBut w w' g none := by
 have hu26 := Tryd.underlying26
 have HI0 := mkA hI
 have HK := mkA (KeepBut.refl w g none)
 have HL := mkA hB.size
 clear hI
 have HW0 := mkA hB.size
 have HB := mkA hB
 clear hB
 have H := h
 clear h
 unfold spec_l1Cur_anyOrder.f at H
 obtain ⟨⟨t244, t245, t248, t249⟩, A3, H⟩ := obE H
 dsimp only at H
 obtain ⟨⟨t251, t252, t253⟩, A4, H⟩ := obE H
 dsimp only at H
 rcases iteP H with ⟨c5, H⟩ | ⟨c5, H⟩
 ·have c5b0 := beq_iff_eq.mpr c5
  have c5b1 := bne_eq_false_iff_eq.mpr c5
  clear c5
  obtain ⟨⟨t254, t255, t258, t259⟩, A6, H⟩ := obE H
  dsimp only at H
  simp only [Option.some.injEq, Prod.mk.injEq] at H
  obtain ⟨rfl, rfl, rfl, rfl⟩ := H
  go_enter Tryd.func55, Tryd.ntmps55
  go_wp2_with (first | ((with_reducible refine gate_dst (N := 4) rfl ?_); refine boxE (N := 4) (cs := #[.int .i64 0, .slice none 0 0]) (t := 26) ?_; intro gb243 hg w7 hbox hb; have BK243 := mkA (hbox); have GW243 := mkA ((by rw [hg]; exact (keep_size (w := w) (g := g) (row := none) (by exact kb55_0 HK.out)) : w.heap.size ≤ gb243)); have GE243 := mkA (Nat.le_trans HW0.out GW243.out); replace HK := kU (g := g) (by exact kb55_0 HK.out) hb; have NB0_243 : NeB _ _ := ⟨(by rw [hg]; exact Nat.ne_of_lt (IsS55.lt (show IsS55 w0 _ g s0_0 s0_1 s0_2 from by exact st55_0 HI0.out)) : g ≠ gb243)⟩; have NB243_0 : NeB _ _ := ⟨(by rw [hg]; exact Nat.ne_of_gt (IsS55.lt (show IsS55 w0 _ g s0_0 s0_1 s0_2 from by exact st55_0 HI0.out)) : gb243 ≠ g)⟩; replace HB := mkA (below_step (by exact bl55_0 HB.out HI0.out) hb); replace HI0 := mkA (IsS55.below (by exact st55_0 HI0.out) hb); clear hb hbox hg) | ((with_reducible refine gate_callee (f := 75) rfl ?_); refine goesQ (some 8) Tryd.func75 #[.pointer (some ⟨g, 0, none⟩), .int .i64 a1] ?_; (with_reducible refine (spec_l1Cur_order.calls k g s0_0 s0_1 s0_2 a1 t244 t245 t248 t249 w0 _ ?_ ?_ A3.out).mono ?_); exact st55_1 HI0.out NB0_243.out; exact bl55_1 HB.out HI0.out GE243.out; rintro e w8 ⟨v246, rfl, ho0, hi, hb, hk⟩; refine ⟨_, rfl, ?_⟩; replace BK243 := kB hk BK243; have HO247 := mkA (Kd.R_lower ho0 (keep_size (w := w) (g := g) (row := none) (by exact kb55_1 HK.out GW243.out))); replace HK := kT (by exact kb55_1 HK.out GW243.out) hk; replace HI0 := mkA (hi); replace HB := mkA (hb); clear hb hk hi ho0) | ((with_reducible refine gate_dst (N := 5) rfl ?_); refine boxE (N := 5) (cs := #[.int .i64 0, .slice none 0 0]) (t := 26) ?_; intro gb250 hg w9 hbox hb; replace HO247 := rB HO247 hb; have BK250 := mkA (hbox); have GW250 := mkA ((by rw [hg]; exact (keep_size (w := w) (g := g) (row := none) (by exact kb55_1 HK.out GW243.out)) : w.heap.size ≤ gb250)); have GE250 := mkA (Nat.le_trans HW0.out GW250.out); replace HK := kU (g := g) (by exact kb55_1 HK.out GW243.out) hb; have NB243_250 := neL7 BK243 hg; have NB250_243 := neR7 BK243 hg; replace BK243 := blkB BK243 hb; have NB0_250 : NeB _ _ := ⟨(by rw [hg]; exact Nat.ne_of_lt (IsS55.lt (show IsS55 w0 _ g s0_0 t248 t249 from by exact st55_1 HI0.out NB0_243.out)) : g ≠ gb250)⟩; have NB250_0 : NeB _ _ := ⟨(by rw [hg]; exact Nat.ne_of_gt (IsS55.lt (show IsS55 w0 _ g s0_0 t248 t249 from by exact st55_1 HI0.out NB0_243.out)) : gb250 ≠ g)⟩; replace HB := mkA (below_step (by exact bl55_1 HB.out HI0.out GE243.out) hb); replace HI0 := mkA (IsS55.below (by exact st55_1 HI0.out NB0_243.out) hb); clear hb hbox hg; obtain ⟨_, _, _, _⟩ := blk2 BK250; obtain ⟨Ao13, co13, rfl⟩ := Kd.R_slice HO247.out) | ((with_reducible refine gate_callee (f := 69) rfl ?_); refine goesQ (some 10) Tryd.func69 #[.pointer (some ⟨g, 0, none⟩), .int .i64 14] ?_; (with_reducible refine (spec_l1Cur_pick.calls g s0_0 t248 t249 14 t251 t252 t253 w0 _ ?_ ?_ A4.out).mono ?_); exact st55_2 HI0.out NB0_243.out NB0_250.out; exact bl55_2 HB.out HI0.out GE243.out GE250.out; rintro e w14 ⟨rfl, hi, hb, hk⟩; refine ⟨_, rfl, ?_⟩; replace BK243 := kR hk BK243; replace HO247 := rK (IsS55.apart (show IsS55 w0 _ g s0_0 t248 t249 from by exact st55_2 HI0.out NB0_243.out NB0_250.out) (rFg HO247 BK250) (by decide)) hk; replace BK250 := kR hk BK250; replace HK := kT (by exact kb55_2 HK.out GW243.out GW250.out) hk; replace HI0 := mkA (hi); replace HB := mkA (hb); clear hb hk hi) | ((with_reducible refine gate_callee (f := 76) rfl ?_); refine goesQ (some 15) Tryd.func76 #[.pointer (some ⟨g, 0, none⟩), .int .i64 a1] ?_; (with_reducible refine (spec_l1Cur_relation.calls k g s0_0 t252 t253 a1 t254 t255 t258 t259 w0 _ ?_ ?_ A6.out).mono ?_); exact st55_2 HI0.out NB0_243.out NB0_250.out; exact bl55_2 HB.out HI0.out GE243.out GE250.out; rintro e w15 ⟨v256, rfl, ho0, hi, hb, hk⟩; refine ⟨_, rfl, ?_⟩; replace BK243 := kB hk BK243; replace BK250 := kB hk BK250; have HO257 := mkA (Kd.R_lower (rN ho0 HO247) (keep_size (w := w) (g := g) (row := none) (by exact kb55_2 HK.out GW243.out GW250.out))); replace HO247 := mkA (Kd.R_mono (Kd.R_told (Kd.R_oldK (IsS55.apart (show IsS55 w0 _ g s0_0 t252 t253 from by exact st55_2 HI0.out NB0_243.out NB0_250.out) (Kd.R_g HO247.out) (by decide)) hk) (Kd.R_base ho0)) (fun _ h_ => h_.1)); replace HK := kT (by exact kb55_2 HK.out GW243.out GW250.out) hk; replace HI0 := mkA (hi); replace HB := mkA (hb); clear hb hk hi ho0; obtain ⟨_, _, _, _⟩ := blk2 BK243; obtain ⟨Ao18, co18, rfl⟩ := Kd.R_slice HO257.out))
  refine bodyPost_ret (results_cell_row rfl _ _ gb243 26 #[.int .i64 t254, .slice Ao18 t255.length co18] (0, 0) _ rfl (blkT BK243) Tryd.underlying26 rfl (by kernel_rfl)) rfl ?_
  exact ⟨_, eqE, Kd.R_g (Kd.R_mono (rF HO257 BK243) (fun _ _ => trivial)), by exact st55_2 HI0.out NB0_243.out NB0_250.out, by exact bl55_2 HB.out HI0.out GE243.out GE250.out, by exact kb55_2 HK.out GW243.out GW250.out⟩
 ·have c5b0 := beq_eq_false_iff_ne.mpr c5
  have c5b1 := bne_iff_ne.mpr c5
  rcases iteP H with ⟨c19, H⟩ | ⟨c19, H⟩
  ·have c19b0 := beq_iff_eq.mpr c19
   have c19b1 := bne_eq_false_iff_eq.mpr c19
   clear c19
   obtain ⟨y260, hy260⟩ : ∃ y_ : List Int, y_ = (([(-1), 0, 10, 11] : List Int)) := ⟨_, rfl⟩
   rw [← hy260] at H
   have Ny260 := mkA hy260
   clear hy260
   obtain ⟨⟨t263, t264, t265⟩, A20, H⟩ := obE H
   dsimp only at H
   simp only [Option.some.injEq, Prod.mk.injEq] at H
   obtain ⟨rfl, rfl, rfl, rfl⟩ := H
   go_enter Tryd.func55, Tryd.ntmps55
   go_wp2_with (first | ((with_reducible refine gate_dst (N := 4) rfl ?_); refine boxE (N := 4) (cs := #[.int .i64 0, .slice none 0 0]) (t := 26) ?_; intro gb243 hg w21 hbox hb; have BK243 := mkA (hbox); have GW243 := mkA ((by rw [hg]; exact (keep_size (w := w) (g := g) (row := none) (by exact kb55_0 HK.out)) : w.heap.size ≤ gb243)); have GE243 := mkA (Nat.le_trans HW0.out GW243.out); replace HK := kU (g := g) (by exact kb55_0 HK.out) hb; have NB0_243 : NeB _ _ := ⟨(by rw [hg]; exact Nat.ne_of_lt (IsS55.lt (show IsS55 w0 _ g s0_0 s0_1 s0_2 from by exact st55_0 HI0.out)) : g ≠ gb243)⟩; have NB243_0 : NeB _ _ := ⟨(by rw [hg]; exact Nat.ne_of_gt (IsS55.lt (show IsS55 w0 _ g s0_0 s0_1 s0_2 from by exact st55_0 HI0.out)) : gb243 ≠ g)⟩; replace HB := mkA (below_step (by exact bl55_0 HB.out HI0.out) hb); replace HI0 := mkA (IsS55.below (by exact st55_0 HI0.out) hb); clear hb hbox hg) | ((with_reducible refine gate_callee (f := 75) rfl ?_); refine goesQ (some 8) Tryd.func75 #[.pointer (some ⟨g, 0, none⟩), .int .i64 a1] ?_; (with_reducible refine (spec_l1Cur_order.calls k g s0_0 s0_1 s0_2 a1 t244 t245 t248 t249 w0 _ ?_ ?_ A3.out).mono ?_); exact st55_1 HI0.out NB0_243.out; exact bl55_1 HB.out HI0.out GE243.out; rintro e w22 ⟨v246, rfl, ho0, hi, hb, hk⟩; refine ⟨_, rfl, ?_⟩; replace BK243 := kB hk BK243; have HO247 := mkA (Kd.R_lower ho0 (keep_size (w := w) (g := g) (row := none) (by exact kb55_1 HK.out GW243.out))); replace HK := kT (by exact kb55_1 HK.out GW243.out) hk; replace HI0 := mkA (hi); replace HB := mkA (hb); clear hb hk hi ho0) | ((with_reducible refine gate_dst (N := 5) rfl ?_); refine boxE (N := 5) (cs := #[.int .i64 0, .slice none 0 0]) (t := 26) ?_; intro gb250 hg w23 hbox hb; replace HO247 := rB HO247 hb; have BK250 := mkA (hbox); have GW250 := mkA ((by rw [hg]; exact (keep_size (w := w) (g := g) (row := none) (by exact kb55_1 HK.out GW243.out)) : w.heap.size ≤ gb250)); have GE250 := mkA (Nat.le_trans HW0.out GW250.out); replace HK := kU (g := g) (by exact kb55_1 HK.out GW243.out) hb; have NB243_250 := neL7 BK243 hg; have NB250_243 := neR7 BK243 hg; replace BK243 := blkB BK243 hb; have NB0_250 : NeB _ _ := ⟨(by rw [hg]; exact Nat.ne_of_lt (IsS55.lt (show IsS55 w0 _ g s0_0 t248 t249 from by exact st55_1 HI0.out NB0_243.out)) : g ≠ gb250)⟩; have NB250_0 : NeB _ _ := ⟨(by rw [hg]; exact Nat.ne_of_gt (IsS55.lt (show IsS55 w0 _ g s0_0 t248 t249 from by exact st55_1 HI0.out NB0_243.out)) : gb250 ≠ g)⟩; replace HB := mkA (below_step (by exact bl55_1 HB.out HI0.out GE243.out) hb); replace HI0 := mkA (IsS55.below (by exact st55_1 HI0.out NB0_243.out) hb); clear hb hbox hg; obtain ⟨_, _, _, _⟩ := blk2 BK250; obtain ⟨Ao27, co27, rfl⟩ := Kd.R_slice HO247.out) | ((with_reducible refine gate_callee (f := 69) rfl ?_); refine goesQ (some 10) Tryd.func69 #[.pointer (some ⟨g, 0, none⟩), .int .i64 14] ?_; (with_reducible refine (spec_l1Cur_pick.calls g s0_0 t248 t249 14 t251 t252 t253 w0 _ ?_ ?_ A4.out).mono ?_); exact st55_2 HI0.out NB0_243.out NB0_250.out; exact bl55_2 HB.out HI0.out GE243.out GE250.out; rintro e w28 ⟨rfl, hi, hb, hk⟩; refine ⟨_, rfl, ?_⟩; replace BK243 := kR hk BK243; replace HO247 := rK (IsS55.apart (show IsS55 w0 _ g s0_0 t248 t249 from by exact st55_2 HI0.out NB0_243.out NB0_250.out) (rFg HO247 BK250) (by decide)) hk; replace BK250 := kR hk BK250; replace HK := kT (by exact kb55_2 HK.out GW243.out GW250.out) hk; replace HI0 := mkA (hi); replace HB := mkA (hb); clear hb hk hi) | ((with_reducible refine gate_dst (N := 19) rfl ?_); refine litE (Kd.int .i64) 3 ([(-1), 0, 10, 11] : List Int) [.int .i64 (-1), .int .i64 0, .int .i64 10, .int .i64 11] ?hp ?_; (case hp => exact (Reps.one (show Kd.M (Kd.int .i64) _ _ _ (-1) [.int .i64 (-1)] from rfl) (Reps.one (show Kd.M (Kd.int .i64) _ _ _ 0 [.int .i64 0] from rfl) (Reps.one (show Kd.M (Kd.int .i64) _ _ _ 10 [.int .i64 10] from rfl) (Reps.one (show Kd.M (Kd.int .i64) _ _ _ 11 [.int .i64 11] from rfl) (Reps.none _ _)))))); intro v261 w29 ho30 hb hg_ hnew_; clear hg_ hnew_; (first | rw [← Ny260.out] at ho30 | (simp only [Int.reduceToNat] at ho30; rw [← Ny260.out] at ho30)); have HO262 := mkA (Kd.R_lower (rN ho30 HO247) (keep_size (w := w) (g := g) (row := none) (by exact kb55_2 HK.out GW243.out GW250.out))); replace HO247 := rE HO247 ho30 hb; replace BK243 := blkB BK243 hb; replace BK250 := blkB BK250 hb; replace HK := kU (g := g) (by exact kb55_2 HK.out GW243.out GW250.out) hb; replace HB := mkA (below_step (by exact bl55_2 HB.out HI0.out GE243.out GE250.out) hb); replace HI0 := mkA (IsS55.below (by exact st55_2 HI0.out NB0_243.out NB0_250.out) hb); clear hb ho30; obtain ⟨Ao31, co31, rfl⟩ := Kd.R_slice HO262.out) | ((with_reducible refine gate_callee (f := 70) rfl ?_); refine goesQ (some 20) Tryd.func70 #[.pointer (some ⟨g, 0, none⟩), .slice Ao31 y260.length co31] ?_; (with_reducible refine (spec_l1Cur_among.calls g s0_0 t252 t253 _ _ y260 t263 t264 t265 w0 _ ?_ ?_ ?_ ?_ ?_ A20.out).mono ?_); exact st55_2 HI0.out NB0_243.out NB0_250.out; exact bl55_2 HB.out HI0.out GE243.out GE250.out; exact rC HO262; exact rL HO262; exact far_slice (IsS55.own_ne HI0.out HO262.out (by decide)); rintro e w32 ⟨rfl, hi, hb, hk⟩; refine ⟨_, rfl, ?_⟩; replace BK243 := kB hk BK243; replace HO247 := rK (IsS55.apart (show IsS55 w0 _ g s0_0 t252 t253 from by exact st55_2 HI0.out NB0_243.out NB0_250.out) (Kd.R_g HO247.out) (by decide)) hk; replace BK250 := kB hk BK250; replace HO262 := rK (IsS55.apart (show IsS55 w0 _ g s0_0 t252 t253 from by exact st55_2 HI0.out NB0_243.out NB0_250.out) (Kd.R_g HO262.out) (by decide)) hk; replace HK := kT (by exact kb55_2 HK.out GW243.out GW250.out) hk; replace HI0 := mkA (hi); replace HB := mkA (hb); clear hb hk hi; obtain ⟨_, _, _, _⟩ := blk2 BK250; obtain ⟨_, _, _, _⟩ := blk2 BK243))
   refine bodyPost_ret (results_cell_row rfl _ _ gb243 26 #[.int .i64 t263, .slice Ao27 t245.length co27] (0, 0) _ rfl (blkT BK243) Tryd.underlying26 rfl (by kernel_rfl)) rfl ?_
   exact ⟨_, eqE, Kd.R_g (Kd.R_mono (Kd.R_far (p := ⟨gb243, 1, none⟩) (Kd.R_far (p := ⟨gb243, 0, none⟩) (Kd.R_far (p := ⟨gb250, 0, none⟩) (Kd.R_types (Kd.R_types HO247.out BK250.out (by decide)) BK243.out (by decide)) (fun _ hk => hk.1.2) (.int .i64 t263)) (fun _ hk => hk.2) (.int .i64 t263)) (fun _ hk => hk.2) (.slice Ao27 t245.length co27)) (fun _ hk => trivial)), by exact st55_2 HI0.out NB0_243.out NB0_250.out, by exact bl55_2 HB.out HI0.out GE243.out GE250.out, by exact kb55_2 HK.out GW243.out GW250.out⟩
  ·have c19b0 := beq_eq_false_iff_ne.mpr c19
   have c19b1 := bne_iff_ne.mpr c19
   rcases iteP H with ⟨c36, H⟩ | ⟨c36, H⟩
   ·have c36b0 := beq_iff_eq.mpr c36
    have c36b1 := bne_eq_false_iff_eq.mpr c36
    clear c36
    rcases iteP H with ⟨c37, H⟩ | ⟨c37, H⟩
    ·have c37b0 := decide_eq_true c37
     have c37b1 : decide (0 < t245.length) = true := decide_eq_true (by omega)
     clear c37
     obtain ⟨⟨t266, t267, t268⟩, A38, H⟩ := obE H
     dsimp only at H
     obtain ⟨c39b0, c39b1, H⟩ := itNQ H
     obtain ⟨ji40, hji40⟩ : ∃ j_ : Int, (shl .i64 1 t244) = j_ := ⟨_, rfl⟩
     first | rw [hji40] at H | simp only [hji40] at H
     (try rw [hji40] at A3)
     (try rw [hji40] at A4)
     (try rw [hji40] at A38)
     have hji40_ : (IntKind.i64.wrap (1 * 2 ^ min t244.toNat 64)) = ji40 := hji40
     have hji40z : t244 ≤ 64 → (IntKind.i64.wrap (1 * 2 ^ t244.toNat)) = ji40 := shl_small hji40
     have hji40u : (IntKind.i64.wrap (2 ^ min t244.toNat 64)) = ji40 := by have h_ := hji40_; rw [Int.one_mul] at h_; exact h_
     have hji40v : t244 ≤ 64 → (IntKind.i64.wrap (2 ^ t244.toNat)) = ji40 := fun hle_ => by have h_ := hji40z hle_; rw [Int.one_mul] at h_; exact h_
     have hji40y : (wrap64 (1 * 2 ^ min t244.toNat 64)) = ji40 := (i64_w _).symm.trans hji40_
     have hji40x : t244 ≤ 64 → (wrap64 (1 * 2 ^ t244.toNat)) = ji40 := fun h_ => (i64_w _).symm.trans (hji40z h_)
     obtain ⟨y269, hy269⟩ : ∃ y_ : List Int, y_ = (([(-1), 0, 1, ji40] : List Int)) := ⟨_, rfl⟩
     rw [← hy269] at H
     have Ny269 := mkA hy269
     clear hy269
     obtain ⟨⟨t272, t273, t274⟩, A41, H⟩ := obE H
     dsimp only at H
     obtain ⟨c42b0, H⟩ := itND H
     obtain ⟨c43b0, H⟩ := itND H
     obtain ⟨y275, hy275⟩ : ∃ y_ : List Int, y_ = (t245.set (t266 : Int).toNat t272) := ⟨_, rfl⟩
     rw [← hy275] at H
     have Ny275 := mkA hy275
     clear hy275
     simp only [Option.some.injEq, Prod.mk.injEq] at H
     obtain ⟨rfl, rfl, rfl, rfl⟩ := H
     go_enter Tryd.func55, Tryd.ntmps55
     try go_wp2_with (first | ((with_reducible refine gate_dst (N := 4) rfl ?_); refine boxE (N := 4) (cs := #[.int .i64 0, .slice none 0 0]) (t := 26) ?_; intro gb243 hg w45 hbox hb; have BK243 := mkA (hbox); have GW243 := mkA ((by rw [hg]; exact (keep_size (w := w) (g := g) (row := none) (by exact kb55_0 HK.out)) : w.heap.size ≤ gb243)); have GE243 := mkA (Nat.le_trans HW0.out GW243.out); replace HK := kU (g := g) (by exact kb55_0 HK.out) hb; have NB0_243 : NeB _ _ := ⟨(by rw [hg]; exact Nat.ne_of_lt (IsS55.lt (show IsS55 w0 _ g s0_0 s0_1 s0_2 from by exact st55_0 HI0.out)) : g ≠ gb243)⟩; have NB243_0 : NeB _ _ := ⟨(by rw [hg]; exact Nat.ne_of_gt (IsS55.lt (show IsS55 w0 _ g s0_0 s0_1 s0_2 from by exact st55_0 HI0.out)) : gb243 ≠ g)⟩; replace HB := mkA (below_step (by exact bl55_0 HB.out HI0.out) hb); replace HI0 := mkA (IsS55.below (by exact st55_0 HI0.out) hb); clear hb hbox hg) | ((with_reducible refine gate_callee (f := 75) rfl ?_); refine goesQ (some 8) Tryd.func75 #[.pointer (some ⟨g, 0, none⟩), .int .i64 a1] ?_; (with_reducible refine (spec_l1Cur_order.calls k g s0_0 s0_1 s0_2 a1 t244 t245 t248 t249 w0 _ ?_ ?_ A3.out).mono ?_); exact st55_1 HI0.out NB0_243.out; exact bl55_1 HB.out HI0.out GE243.out; rintro e w46 ⟨v246, rfl, ho0, hi, hb, hk⟩; refine ⟨_, rfl, ?_⟩; replace BK243 := kB hk BK243; have HO247 := mkA (Kd.R_lower ho0 (keep_size (w := w) (g := g) (row := none) (by exact kb55_1 HK.out GW243.out))); replace HK := kT (by exact kb55_1 HK.out GW243.out) hk; replace HI0 := mkA (hi); replace HB := mkA (hb); clear hb hk hi ho0) | ((with_reducible refine gate_dst (N := 5) rfl ?_); refine boxE (N := 5) (cs := #[.int .i64 0, .slice none 0 0]) (t := 26) ?_; intro gb250 hg w47 hbox hb; replace HO247 := rB HO247 hb; have BK250 := mkA (hbox); have GW250 := mkA ((by rw [hg]; exact (keep_size (w := w) (g := g) (row := none) (by exact kb55_1 HK.out GW243.out)) : w.heap.size ≤ gb250)); have GE250 := mkA (Nat.le_trans HW0.out GW250.out); replace HK := kU (g := g) (by exact kb55_1 HK.out GW243.out) hb; have NB243_250 := neL7 BK243 hg; have NB250_243 := neR7 BK243 hg; replace BK243 := blkB BK243 hb; have NB0_250 : NeB _ _ := ⟨(by rw [hg]; exact Nat.ne_of_lt (IsS55.lt (show IsS55 w0 _ g s0_0 t248 t249 from by exact st55_1 HI0.out NB0_243.out)) : g ≠ gb250)⟩; have NB250_0 : NeB _ _ := ⟨(by rw [hg]; exact Nat.ne_of_gt (IsS55.lt (show IsS55 w0 _ g s0_0 t248 t249 from by exact st55_1 HI0.out NB0_243.out)) : gb250 ≠ g)⟩; replace HB := mkA (below_step (by exact bl55_1 HB.out HI0.out GE243.out) hb); replace HI0 := mkA (IsS55.below (by exact st55_1 HI0.out NB0_243.out) hb); clear hb hbox hg; obtain ⟨_, _, _, _⟩ := blk2 BK250; obtain ⟨Ao51, co51, rfl⟩ := Kd.R_slice HO247.out) | ((with_reducible refine gate_callee (f := 69) rfl ?_); refine goesQ (some 10) Tryd.func69 #[.pointer (some ⟨g, 0, none⟩), .int .i64 14] ?_; (with_reducible refine (spec_l1Cur_pick.calls g s0_0 t248 t249 14 t251 t252 t253 w0 _ ?_ ?_ A4.out).mono ?_); exact st55_2 HI0.out NB0_243.out NB0_250.out; exact bl55_2 HB.out HI0.out GE243.out GE250.out; rintro e w52 ⟨rfl, hi, hb, hk⟩; refine ⟨_, rfl, ?_⟩; replace BK243 := kR hk BK243; replace HO247 := rK (IsS55.apart (show IsS55 w0 _ g s0_0 t248 t249 from by exact st55_2 HI0.out NB0_243.out NB0_250.out) (rFg HO247 BK250) (by decide)) hk; replace BK250 := kR hk BK250; replace HK := kT (by exact kb55_2 HK.out GW243.out GW250.out) hk; replace HI0 := mkA (hi); replace HB := mkA (hb); clear hb hk hi; obtain ⟨_, _, _, _⟩ := blk2 BK250))
     replace HO247 := mkA (Kd.R_drew HO247.out)
     replace BK243 := mkA (blk_drew BK243.out)
     replace BK250 := mkA (blk_drew BK250.out)
     replace HI0 := mkA (IsS55.drew HI0.out)
     replace HK := mkA (keep_drew HK.out)
     replace HB := mkA (below_drew1 HB.out)
     refine start_ (n := 15) (S := fun w' => w'.cell? ⟨gb250, 0, none⟩ = some (.int .i64 t244) ∧ w'.cell? ⟨gb250, 1, none⟩ = some (.slice Ao51 t245.length co51)) (ds := [14]) (bm 15 0) (by kernel_rfl) rfl rfl ⟨(blk_cell BK250.out 0).trans rfl, (blk_cell BK250.out 1).trans rfl⟩ (fun hHeld => ?_); refine with_tabW spec_l1Cur_anyOrder.tab9 spec_l1Cur_anyOrder.bits9 (fun HT_ HW_ => ?_)
     generalize w52.drew = w54 at HO247 BK243 BK250 HI0 HK HB hHeld ⊢
     refine purW 0 28 15 1 HT_ ?_
     refine purW 2 30 15 5 HT_ ?_
     refine purW 3 31 15 13 HT_ ?_
     refine purW 7 35 15 141 HT_ ?_
     refine purW 8 36 15 397 HT_ ?_
     refine takeW 1 (some 29) (bm 15 399) HT_ HW_ hHeld ?_
     refine takeW 4 (some 32) (bm 15 415) HT_ HW_ hHeld ?_
     refine purW 5 33 15 447 HT_ ?_
     refine takeW 9 (some 37) (bm 15 959) HT_ HW_ hHeld ?_
     refine purW 10 38 15 1983 HT_ ?_
     refine join_ (σ := Value) 3 (bm 15 4095) (fun s_ => [(34, .int .i64 t266), (39, s_)]) (fun s_ w' => (w'.cell? ⟨gb250, 0, none⟩ = some (.int .i64 t244) ∧ w'.cell? ⟨gb250, 1, none⟩ = some (.slice Ao51 t245.length co51)) ∧ (Kd.R (Kd.int .i64) 3 w' w.heap.size (fun k_ => some k_ ≠ (s_ : Value).ownBlock) (.slice Ao51 t245.length co51) t245) ∧ (Kd.R (Kd.int .i64) 3 w' w.heap.size (fun k_ => some k_ ≠ (.slice Ao51 t245.length co51 : Value).ownBlock) s_ y269) ∧ (w'.heap[gb243]? = some (.cells #[.int .i64 0, .slice none 0 0] 26 (0, 0))) ∧ (w'.heap[gb250]? = some (.cells #[.int .i64 t244, .slice Ao51 t245.length co51] 26 (0, 0))) ∧ (IsS55 w0 w' g s0_0 t267 t268) ∧ (KeepBut w w' g none) ∧ (Below w0.heap.size w0 w')) ?_ ?_
     rotate_left
     ·intro hCont
      refine two_ (i := 6) (j := 11) (Ni := some 34) (Nj := some 39) (bm 15 2047) (bm 15 4031) rfl rfl rfl rfl (two_of HT_.out (by kernel_rfl)) (by decide) (by decide) (fun K hK => ?_) (fun K hK => ?_)
      ·skip
       refine goesR Tryd.func69 #[.pointer (some ⟨g, 0, none⟩), .int .i64 (t245.length : Int)] ?_
       with_reducible refine (spec_l1Cur_pick.calls g s0_0 t252 t253 (t245.length : Int) t266 t267 t268 w0 _ ?s1 ?s2 A38.out).mono ?_
       (case s1 => exact st55_2 HI0.out NB0_243.out NB0_250.out)
       (case s2 => exact bl55_2 HB.out HI0.out GE243.out GE250.out)
       rintro e w55 ⟨rfl, hi, hb, hk⟩
       refine ⟨_, rfl, ?_⟩
       replace BK243 := kB hk BK243
       replace HO247 := rK (IsS55.apart (show IsS55 w0 _ g s0_0 t252 t253 from by exact st55_2 HI0.out NB0_243.out NB0_250.out) (Kd.R_g HO247.out) (by decide)) hk
       replace BK250 := kB hk BK250
       replace HK := kT (by exact kb55_2 HK.out GW243.out GW250.out) hk
       replace HI0 := mkA (hi)
       replace HB := mkA (hb)
       (try clear hb)
       (try clear hb2)
       (try clear hk)
       (try clear hi)
       refine hK.out _ _ ⟨(blk_cell BK250.out 0).trans rfl, (blk_cell BK250.out 1).trans rfl⟩ (fun hHeld => ?_)
       clear hK K
       refine normW 34 ?_
       refine oneW 11 (some 39) (bm 15 4095) HT_ (fun K hK => ?_)
       refine Kd.R_lit_step (Kd.int .i64) _ 3 ?hg (N := 39) ?hd (xs := ([(-1), 0, 1, ji40] : List Int)) (inner := [.int .i64 (-1), .int .i64 0, .int .i64 1, .int .i64 ji40]) (ok := fun _ => True) (okp := fun _ => True) ?hr ?hp (fun _ hk => hk) trivial (Below.refl _ _) (Nat.le_refl _) (by simp) ?_; (case hd => rfl); (case hg => rfl); (case hr => first | (go_simp; done) | (go_simp; rfl)); (case hp => exact (Reps.one (show Kd.M (Kd.int .i64) _ _ _ (-1) [.int .i64 (-1)] from rfl) (Reps.one (show Kd.M (Kd.int .i64) _ _ _ 0 [.int .i64 0] from rfl) (Reps.one (show Kd.M (Kd.int .i64) _ _ _ 1 [.int .i64 1] from rfl) (Reps.one (show Kd.M (Kd.int .i64) _ _ _ ji40 [.int .i64 ji40] from rfl) (Reps.none _ _))))))
       intro v270 w56 ho57 hb hg_ hnew_
       clear hg_ hnew_
       (first | rw [← Ny269.out] at ho57 | (simp only [Int.reduceToNat] at ho57; rw [← Ny269.out] at ho57))
       have HO271 := mkA (Kd.R_lower (rN ho57 HO247) (keep_size (w := w) (g := g) (row := none) (by exact kb55_2 HK.out GW243.out GW250.out)))
       replace HO247 := rE HO247 ho57 hb
       replace BK243 := blkB BK243 hb
       replace BK250 := blkB BK250 hb
       replace HK := kU (g := g) (by exact kb55_2 HK.out GW243.out GW250.out) hb
       replace HB := mkA (below_step (by exact bl55_2 HB.out HI0.out GE243.out GE250.out) hb)
       replace HI0 := mkA (IsS55.below (by exact st55_2 HI0.out NB0_243.out NB0_250.out) hb)
       clear hb ho57
       refine hK.out _ _ ⟨(blk_cell BK250.out 0).trans rfl, (blk_cell BK250.out 1).trans rfl⟩ (fun hHeld => ?_)
       clear hK K
       refine normW 39 ?_
       exact norm_ (by simp only [putAll, Act.put, List.setIfInBounds_toArray, List.set_cons_zero, List.set_cons_succ]) (hCont (v270) _ ⟨hHeld, (Kd.R_g (Kd.R_mono HO247.out (fun _ hk => hk.2))), (Kd.R_g (Kd.R_mono HO271.out (fun _ hk => hk.2))), (blk_g BK243.out), (blk_g BK250.out), (by exact st55_2 HI0.out NB0_243.out NB0_250.out), (by exact kb55_2 HK.out GW243.out GW250.out), (by exact bl55_2 HB.out HI0.out GE243.out GE250.out)⟩)
      ·skip
       refine Kd.R_lit_step (Kd.int .i64) _ 3 ?hg (N := 39) ?hd (xs := ([(-1), 0, 1, ji40] : List Int)) (inner := [.int .i64 (-1), .int .i64 0, .int .i64 1, .int .i64 ji40]) (ok := fun _ => True) (okp := fun _ => True) ?hr ?hp (fun _ hk => hk) trivial (Below.refl _ _) (Nat.le_refl _) (by simp) ?_; (case hd => rfl); (case hg => rfl); (case hr => first | (go_simp; done) | (go_simp; rfl)); (case hp => exact (Reps.one (show Kd.M (Kd.int .i64) _ _ _ (-1) [.int .i64 (-1)] from rfl) (Reps.one (show Kd.M (Kd.int .i64) _ _ _ 0 [.int .i64 0] from rfl) (Reps.one (show Kd.M (Kd.int .i64) _ _ _ 1 [.int .i64 1] from rfl) (Reps.one (show Kd.M (Kd.int .i64) _ _ _ ji40 [.int .i64 ji40] from rfl) (Reps.none _ _))))))
       intro v270 w55 ho56 hb hg_ hnew_
       clear hg_ hnew_
       (first | rw [← Ny269.out] at ho56 | (simp only [Int.reduceToNat] at ho56; rw [← Ny269.out] at ho56))
       have HO271 := mkA (Kd.R_lower (rN ho56 HO247) (keep_size (w := w) (g := g) (row := none) (by exact kb55_2 HK.out GW243.out GW250.out)))
       replace HO247 := rE HO247 ho56 hb
       replace BK243 := blkB BK243 hb
       replace BK250 := blkB BK250 hb
       replace HK := kU (g := g) (by exact kb55_2 HK.out GW243.out GW250.out) hb
       replace HB := mkA (below_step (by exact bl55_2 HB.out HI0.out GE243.out GE250.out) hb)
       replace HI0 := mkA (IsS55.below (by exact st55_2 HI0.out NB0_243.out NB0_250.out) hb)
       clear hb ho56
       refine hK.out _ _ ⟨(blk_cell BK250.out 0).trans rfl, (blk_cell BK250.out 1).trans rfl⟩ (fun hHeld => ?_)
       clear hK K
       refine normW 39 ?_
       refine oneW 6 (some 34) (bm 15 4095) HT_ (fun K hK => ?_)
       refine goesR Tryd.func69 #[.pointer (some ⟨g, 0, none⟩), .int .i64 (t245.length : Int)] ?_
       with_reducible refine (spec_l1Cur_pick.calls g s0_0 t252 t253 (t245.length : Int) t266 t267 t268 w0 _ ?s1 ?s2 A38.out).mono ?_
       (case s1 => exact st55_2 HI0.out NB0_243.out NB0_250.out)
       (case s2 => exact bl55_2 HB.out HI0.out GE243.out GE250.out)
       rintro e w57 ⟨rfl, hi, hb, hk⟩
       refine ⟨_, rfl, ?_⟩
       replace BK243 := kB hk BK243
       replace HO247 := rK (IsS55.apart (show IsS55 w0 _ g s0_0 t252 t253 from by exact st55_2 HI0.out NB0_243.out NB0_250.out) (Kd.R_g HO247.out) (by decide)) hk
       replace BK250 := kB hk BK250
       replace HO271 := rK (IsS55.apart (show IsS55 w0 _ g s0_0 t252 t253 from by exact st55_2 HI0.out NB0_243.out NB0_250.out) (Kd.R_g HO271.out) (by decide)) hk
       replace HK := kT (by exact kb55_2 HK.out GW243.out GW250.out) hk
       replace HI0 := mkA (hi)
       replace HB := mkA (hb)
       (try clear hb)
       (try clear hb2)
       (try clear hk)
       (try clear hi)
       refine hK.out _ _ ⟨(blk_cell BK250.out 0).trans rfl, (blk_cell BK250.out 1).trans rfl⟩ (fun hHeld => ?_)
       clear hK K
       refine normW 34 ?_
       exact norm_ (by simp only [putAll, Act.put, List.setIfInBounds_toArray, List.set_cons_zero, List.set_cons_succ]) (hCont (v270) _ ⟨hHeld, (Kd.R_g (Kd.R_mono HO247.out (fun _ hk => hk.2))), (Kd.R_g (Kd.R_mono HO271.out (fun _ hk => hk.2))), (blk_g BK243.out), (blk_g BK250.out), (by exact st55_2 HI0.out NB0_243.out NB0_250.out), (by exact kb55_2 HK.out GW243.out GW250.out), (by exact bl55_2 HB.out HI0.out GE243.out GE250.out)⟩)
     rintro v270 w58 ⟨hS_, h0_, h1_, h2_, h3_, h4_, h5_, h6_⟩
     have n0_ : Fc (Kd.R (Kd.int .i64) 3 w58 w.heap.size (fun k_ => some k_ ≠ (v270 : Value).ownBlock) (.slice Ao51 t245.length co51) t245) := ⟨h0_⟩
     have n1_ : Fc (Kd.R (Kd.int .i64) 3 w58 w.heap.size (fun k_ => some k_ ≠ (.slice Ao51 t245.length co51 : Value).ownBlock) v270 y269) := ⟨h1_⟩
     have n2_ : Fc (w58.heap[gb243]? = some (.cells #[.int .i64 0, .slice none 0 0] 26 (0, 0))) := ⟨h2_⟩
     have n3_ : Fc (w58.heap[gb250]? = some (.cells #[.int .i64 t244, .slice Ao51 t245.length co51] 26 (0, 0))) := ⟨h3_⟩
     have n4_ : Fc (IsS55 w0 w58 g s0_0 t267 t268) := ⟨h4_⟩
     have n5_ : Fc (KeepBut w w58 g none) := ⟨h5_⟩
     have n6_ : Fc (Below w0.heap.size w0 w58) := ⟨h6_⟩
     clear HO247
     clear BK243
     clear BK250
     clear HI0
     clear HK
     clear HB
     clear h0_ h1_ h2_ h3_ h4_ h5_ h6_
     have HO247 := n0_
     have HO271 := n1_
     have BK243 := n2_
     have BK250 := n3_
     have HI0 := n4_
     have HK := n5_
     have HB := n6_
     clear n0_ n1_ n2_ n3_ n4_ n5_ n6_
     have hHeld : w58.cell? ⟨gb250, 0, none⟩ = some (.int .i64 t244) ∧ w58.cell? ⟨gb250, 1, none⟩ = some (.slice Ao51 t245.length co51) := hS_
     obtain ⟨Ao59, co59, eo59⟩ := Kd.R_slice HO271.out
     (first | subst eo59 | (injection eo59 with f1_ f2_ f3_; have f4_ := f1_.symm; have f5_ := f3_.symm; clear f1_ f2_ f3_; subst f4_; subst f5_))
     refine norm_ (a' := ?_) ?_ ?_
     rotate_left
     ·simp only [putAll, Act.put, List.setIfInBounds_toArray, List.set_cons_zero, List.set_cons_succ]
      rfl
     refine oneW 12 (some 40) (bm 15 8191) HT_ (fun K hK => ?_)
     refine goesR Tryd.func70 #[.pointer (some ⟨g, 0, none⟩), .slice Ao59 y269.length co59] ?_
     with_reducible refine (spec_l1Cur_among.calls g s0_0 t267 t268 _ _ y269 t272 t273 t274 w0 _ ?s1 ?s2 ?s3 ?s4 ?s5 A41.out).mono ?_
     (case s1 => exact st55_2 HI0.out NB0_243.out NB0_250.out)
     (case s2 => exact bl55_2 HB.out HI0.out GE243.out GE250.out)
     (case s3 => exact rC HO271)
     (case s4 => exact rL HO271)
     (case s5 => exact far_slice (IsS55.own_ne HI0.out HO271.out (by decide)))
     rintro e w60 ⟨rfl, hi, hb, hk⟩
     refine ⟨_, rfl, ?_⟩
     replace BK243 := kB hk BK243
     replace HO247 := rK (IsS55.apart (show IsS55 w0 _ g s0_0 t267 t268 from by exact st55_2 HI0.out NB0_243.out NB0_250.out) (Kd.R_g HO247.out) (by decide)) hk
     replace BK250 := kB hk BK250
     replace HO271 := rK (IsS55.apart (show IsS55 w0 _ g s0_0 t267 t268 from by exact st55_2 HI0.out NB0_243.out NB0_250.out) (Kd.R_g HO271.out) (by decide)) hk
     replace HK := kT (by exact kb55_2 HK.out GW243.out GW250.out) hk
     replace HI0 := mkA (hi)
     replace HB := mkA (hb)
     (try clear hb)
     (try clear hb2)
     (try clear hk)
     (try clear hi)
     have p44 : 0 ≤ (t266 : Int) := ofd
     have q44 : (t266 : Int) < ((t245.length : Int) : Int) := ofd
     obtain ⟨go44, co44, eo44, gb44, gl44, cl44, HG44⟩ := Kd.R_form HO247.out (by omega)
     (first | cases eo44 | (injection eo44 with ea_ en_ ec_; (first | subst ea_ | (injection ea_ with ea_; subst ea_)); subst ec_; clear en_))
     have GB44 : Ge _ _ := ⟨gb44⟩
     have GG44 := mkA HG44
     clear gb44 gl44 HG44
     obtain ⟨hx44_0, hf44_0⟩ := Kd.R_celln 0 HO247.out (t266 : Int) p44 q44
     replace p44 := eq_true p44
     replace q44 := eq_true q44
     have HN0_go44 := mkA (show g ≠ go44 from by have h_ := IsS55.own_ne HI0.out HO247.out (by decide); intro e_; exact h_ (by rw [e_]; rfl))
     have HP61 := Kd.R_putn HO247.out (t266 : Int) t272
     rw [← Ny275.out] at HP61
     have HQ61 := mkA HP61
     clear HP61
     refine hK.out _ _ ⟨(blk_cell BK250.out 0).trans rfl, (blk_cell BK250.out 1).trans rfl⟩ (fun hHeld => ?_)
     clear hK K
     refine normW 40 ?_
     refine purW 13 41 15 16383 HT_ ?_
     refine last_ (i := 14) (N := none) (bm 15 32767) rfl rfl (one_of HT_.out (by kernel_rfl)) (by decide) (fun K hK => ?_)
     refine skip_ (w1 := ?_) (by rfl) rfl ?_ ?_
     rotate_left
     ·go_simp
      rfl
     refine hK.out _ _ ?_
     clear hK K
     refine doneW HT_ ?_
     have n0_ : Fc (Kd.R (Kd.int .i64) 3 (w60.setCell ⟨go44, (t266 : Int).toNat, none⟩ (.int .i64 t272)) w.heap.size (fun k_ => some k_ ≠ (.slice Ao59 y269.length co59 : Value).ownBlock) (.slice (some ⟨go44, 0, none⟩) t245.length co51) y275) := ⟨Kd.R_g HQ61.out⟩
     have n1_ : Fc (Kd.R (Kd.int .i64) 3 (w60.setCell ⟨go44, (t266 : Int).toNat, none⟩ (.int .i64 t272)) w.heap.size (fun k_ => some k_ ≠ (.slice (some ⟨go44, 0, none⟩) t245.length co51 : Value).ownBlock) (.slice Ao59 y269.length co59) y269) := ⟨Kd.R_g (Kd.R_mono (Kd.R_far (p := ⟨go44, (t266 : Int).toNat, none⟩) (Kd.R_mono HO271.out (fun k_ hk => (⟨hk, fun e_ => hk (by rw [e_]; rfl)⟩ : _ ∧ k_ ≠ go44))) (fun _ hk => hk.2) (.int .i64 t272)) (fun _ hk => hk.1))⟩
     have n2_ : Fc ((w60.setCell ⟨go44, (t266 : Int).toNat, none⟩ (.int .i64 t272)).heap[gb243]? = some (.cells #[.int .i64 0, .slice none 0 0] 26 (0, 0))) := ⟨by (with_reducible repeat (first | refine blk_drewN ?_ _ | refine blk_drew ?_ | refine blk_alloc ?_ _)); refine blk_far ?_ (by have h_ := Kd.R_ne HO247.out BK243.out (by decide); intro e_; exact h_ (by rw [e_]; rfl)) _; (with_reducible repeat (first | refine blk_drewN ?_ _ | refine blk_drew ?_ | refine blk_alloc ?_ _)); exact BK243.out⟩
     have n3_ : Fc ((w60.setCell ⟨go44, (t266 : Int).toNat, none⟩ (.int .i64 t272)).heap[gb250]? = some (.cells #[.int .i64 t244, .slice (some ⟨go44, 0, none⟩) t245.length co51] 26 (0, 0))) := ⟨by (with_reducible repeat (first | refine blk_drewN ?_ _ | refine blk_drew ?_ | refine blk_alloc ?_ _)); refine blk_far ?_ (by have h_ := Kd.R_ne HO247.out BK250.out (by decide); intro e_; exact h_ (by rw [e_]; rfl)) _; (with_reducible repeat (first | refine blk_drewN ?_ _ | refine blk_drew ?_ | refine blk_alloc ?_ _)); exact BK250.out⟩
     have n4_ : Fc (IsS55 w0 (w60.setCell ⟨go44, (t266 : Int).toNat, none⟩ (.int .i64 t272)) g s0_0 t273 t274) := ⟨by exact st55_3 HI0.out HN0_go44.out NB0_243.out NB0_250.out⟩
     have n5_ : Fc (KeepBut w (w60.setCell ⟨go44, (t266 : Int).toNat, none⟩ (.int .i64 t272)) g none) := ⟨by exact kb55_3 HK.out GB44.out GW243.out GW250.out⟩
     have n6_ : Fc (Below w0.heap.size w0 (w60.setCell ⟨go44, (t266 : Int).toNat, none⟩ (.int .i64 t272))) := ⟨by repeat (first | (with_reducible first | exact HB.out | apply below_alloc | apply pw_below_drewN | apply below_drew1 | refine below_set ?_ (Nat.le_trans HL.out GB44.out) | refine below_set ?_ (IsS55.ge HI0.out) | refine below_set ?_ GE243.out | refine below_set ?_ GE250.out) | exact HB.out)⟩
     (try clear HO247)
     (try clear HO271)
     (try clear BK243)
     (try clear BK250)
     (try clear HI0)
     (try clear HK)
     (try clear HB)
     generalize (w60.setCell ⟨go44, (t266 : Int).toNat, none⟩ (.int .i64 t272)) = w62 at n0_ n1_ n2_ n3_ n4_ n5_ n6_ ⊢
     have HO247 := n0_
     have HO271 := n1_
     have BK243 := n2_
     have BK250 := n3_
     have HI0 := n4_
     have HK := n5_
     have HB := n6_
     clear n0_ n1_ n2_ n3_ n4_ n5_ n6_
     obtain ⟨_, _, _, _⟩ := blk2 BK250
     obtain ⟨_, _, _, _⟩ := blk2 BK243
     try go_wp2
     refine bodyPost_ret (results_cell_row rfl _ _ gb243 26 #[.int .i64 t244, .slice (some ⟨go44, 0, none⟩) t245.length co51] (0, 0) _ rfl (blkT BK243) Tryd.underlying26 rfl (by kernel_rfl)) rfl ?_
     exact ⟨_, by first | rfl | (simp [errW_none, errW_some] <;> rfl) | (simp only [← hji40]; first | rfl | (simp [errW_none, errW_some] <;> rfl)) | (simp [*, errW_none, errW_some] <;> rfl), Kd.R_g (Kd.R_mono (rF HO247 BK243) (fun _ _ => trivial)), by exact st55_2 HI0.out NB0_243.out NB0_250.out, by exact bl55_2 HB.out HI0.out GE243.out GE250.out, by exact kb55_2 HK.out GW243.out GW250.out⟩
    ·have c37b0 := decide_eq_false c37
     have c37b1 : decide (0 < t245.length) = false := decide_eq_false (by omega)
     clear c37
     simp only [Option.some.injEq, Prod.mk.injEq] at H
     obtain ⟨rfl, rfl, rfl, rfl⟩ := H
     go_enter Tryd.func55, Tryd.ntmps55
     go_wp2_with (first | ((with_reducible refine gate_dst (N := 4) rfl ?_); refine boxE (N := 4) (cs := #[.int .i64 0, .slice none 0 0]) (t := 26) ?_; intro gb243 hg w66 hbox hb; have BK243 := mkA (hbox); have GW243 := mkA ((by rw [hg]; exact (keep_size (w := w) (g := g) (row := none) (by exact kb55_0 HK.out)) : w.heap.size ≤ gb243)); have GE243 := mkA (Nat.le_trans HW0.out GW243.out); replace HK := kU (g := g) (by exact kb55_0 HK.out) hb; have NB0_243 : NeB _ _ := ⟨(by rw [hg]; exact Nat.ne_of_lt (IsS55.lt (show IsS55 w0 _ g s0_0 s0_1 s0_2 from by exact st55_0 HI0.out)) : g ≠ gb243)⟩; have NB243_0 : NeB _ _ := ⟨(by rw [hg]; exact Nat.ne_of_gt (IsS55.lt (show IsS55 w0 _ g s0_0 s0_1 s0_2 from by exact st55_0 HI0.out)) : gb243 ≠ g)⟩; replace HB := mkA (below_step (by exact bl55_0 HB.out HI0.out) hb); replace HI0 := mkA (IsS55.below (by exact st55_0 HI0.out) hb); clear hb hbox hg) | ((with_reducible refine gate_callee (f := 75) rfl ?_); refine goesQ (some 8) Tryd.func75 #[.pointer (some ⟨g, 0, none⟩), .int .i64 a1] ?_; (with_reducible refine (spec_l1Cur_order.calls k g s0_0 s0_1 s0_2 a1 t244 t245 t248 t249 w0 _ ?_ ?_ A3.out).mono ?_); exact st55_1 HI0.out NB0_243.out; exact bl55_1 HB.out HI0.out GE243.out; rintro e w67 ⟨v246, rfl, ho0, hi, hb, hk⟩; refine ⟨_, rfl, ?_⟩; replace BK243 := kB hk BK243; have HO247 := mkA (Kd.R_lower ho0 (keep_size (w := w) (g := g) (row := none) (by exact kb55_1 HK.out GW243.out))); replace HK := kT (by exact kb55_1 HK.out GW243.out) hk; replace HI0 := mkA (hi); replace HB := mkA (hb); clear hb hk hi ho0) | ((with_reducible refine gate_dst (N := 5) rfl ?_); refine boxE (N := 5) (cs := #[.int .i64 0, .slice none 0 0]) (t := 26) ?_; intro gb250 hg w68 hbox hb; replace HO247 := rB HO247 hb; have BK250 := mkA (hbox); have GW250 := mkA ((by rw [hg]; exact (keep_size (w := w) (g := g) (row := none) (by exact kb55_1 HK.out GW243.out)) : w.heap.size ≤ gb250)); have GE250 := mkA (Nat.le_trans HW0.out GW250.out); replace HK := kU (g := g) (by exact kb55_1 HK.out GW243.out) hb; have NB243_250 := neL7 BK243 hg; have NB250_243 := neR7 BK243 hg; replace BK243 := blkB BK243 hb; have NB0_250 : NeB _ _ := ⟨(by rw [hg]; exact Nat.ne_of_lt (IsS55.lt (show IsS55 w0 _ g s0_0 t248 t249 from by exact st55_1 HI0.out NB0_243.out)) : g ≠ gb250)⟩; have NB250_0 : NeB _ _ := ⟨(by rw [hg]; exact Nat.ne_of_gt (IsS55.lt (show IsS55 w0 _ g s0_0 t248 t249 from by exact st55_1 HI0.out NB0_243.out)) : gb250 ≠ g)⟩; replace HB := mkA (below_step (by exact bl55_1 HB.out HI0.out GE243.out) hb); replace HI0 := mkA (IsS55.below (by exact st55_1 HI0.out NB0_243.out) hb); clear hb hbox hg; obtain ⟨_, _, _, _⟩ := blk2 BK250; obtain ⟨Ao72, co72, rfl⟩ := Kd.R_slice HO247.out) | ((with_reducible refine gate_callee (f := 69) rfl ?_); refine goesQ (some 10) Tryd.func69 #[.pointer (some ⟨g, 0, none⟩), .int .i64 14] ?_; (with_reducible refine (spec_l1Cur_pick.calls g s0_0 t248 t249 14 t251 t252 t253 w0 _ ?_ ?_ A4.out).mono ?_); exact st55_2 HI0.out NB0_243.out NB0_250.out; exact bl55_2 HB.out HI0.out GE243.out GE250.out; rintro e w73 ⟨rfl, hi, hb, hk⟩; refine ⟨_, rfl, ?_⟩; replace BK243 := kR hk BK243; replace HO247 := rK (IsS55.apart (show IsS55 w0 _ g s0_0 t248 t249 from by exact st55_2 HI0.out NB0_243.out NB0_250.out) (rFg HO247 BK250) (by decide)) hk; replace BK250 := kR hk BK250; replace HK := kT (by exact kb55_2 HK.out GW243.out GW250.out) hk; replace HI0 := mkA (hi); replace HB := mkA (hb); clear hb hk hi; obtain ⟨_, _, _, _⟩ := blk2 BK250; obtain ⟨_, _, _, _⟩ := blk2 BK243))
     refine bodyPost_ret (results_cell_row rfl _ _ gb243 26 #[.int .i64 t244, .slice Ao72 t245.length co72] (0, 0) _ rfl (blkT BK243) Tryd.underlying26 rfl (by kernel_rfl)) rfl ?_
     exact ⟨_, eqE, Kd.R_g (Kd.R_mono (rF HO247 BK243) (fun _ _ => trivial)), by exact st55_2 HI0.out NB0_243.out NB0_250.out, by exact bl55_2 HB.out HI0.out GE243.out GE250.out, by exact kb55_2 HK.out GW243.out GW250.out⟩
   ·have c36b0 := beq_eq_false_iff_ne.mpr c36
    have c36b1 := bne_iff_ne.mpr c36
    rcases iteP H with ⟨c77, H⟩ | ⟨c77, H⟩
    ·have c77b0 := beq_iff_eq.mpr c77
     have c77b1 := bne_eq_false_iff_eq.mpr c77
     clear c77
     obtain ⟨⟨t276, t277, t280, t281⟩, A78, H⟩ := obE H
     dsimp only at H
     simp only [Option.some.injEq, Prod.mk.injEq] at H
     obtain ⟨rfl, rfl, rfl, rfl⟩ := H
     go_enter Tryd.func55, Tryd.ntmps55
     go_wp2_with (first | ((with_reducible refine gate_dst (N := 4) rfl ?_); refine boxE (N := 4) (cs := #[.int .i64 0, .slice none 0 0]) (t := 26) ?_; intro gb243 hg w79 hbox hb; have BK243 := mkA (hbox); have GW243 := mkA ((by rw [hg]; exact (keep_size (w := w) (g := g) (row := none) (by exact kb55_0 HK.out)) : w.heap.size ≤ gb243)); have GE243 := mkA (Nat.le_trans HW0.out GW243.out); replace HK := kU (g := g) (by exact kb55_0 HK.out) hb; have NB0_243 : NeB _ _ := ⟨(by rw [hg]; exact Nat.ne_of_lt (IsS55.lt (show IsS55 w0 _ g s0_0 s0_1 s0_2 from by exact st55_0 HI0.out)) : g ≠ gb243)⟩; have NB243_0 : NeB _ _ := ⟨(by rw [hg]; exact Nat.ne_of_gt (IsS55.lt (show IsS55 w0 _ g s0_0 s0_1 s0_2 from by exact st55_0 HI0.out)) : gb243 ≠ g)⟩; replace HB := mkA (below_step (by exact bl55_0 HB.out HI0.out) hb); replace HI0 := mkA (IsS55.below (by exact st55_0 HI0.out) hb); clear hb hbox hg) | ((with_reducible refine gate_callee (f := 75) rfl ?_); refine goesQ (some 8) Tryd.func75 #[.pointer (some ⟨g, 0, none⟩), .int .i64 a1] ?_; (with_reducible refine (spec_l1Cur_order.calls k g s0_0 s0_1 s0_2 a1 t244 t245 t248 t249 w0 _ ?_ ?_ A3.out).mono ?_); exact st55_1 HI0.out NB0_243.out; exact bl55_1 HB.out HI0.out GE243.out; rintro e w80 ⟨v246, rfl, ho0, hi, hb, hk⟩; refine ⟨_, rfl, ?_⟩; replace BK243 := kB hk BK243; have HO247 := mkA (Kd.R_lower ho0 (keep_size (w := w) (g := g) (row := none) (by exact kb55_1 HK.out GW243.out))); replace HK := kT (by exact kb55_1 HK.out GW243.out) hk; replace HI0 := mkA (hi); replace HB := mkA (hb); clear hb hk hi ho0) | ((with_reducible refine gate_dst (N := 5) rfl ?_); refine boxE (N := 5) (cs := #[.int .i64 0, .slice none 0 0]) (t := 26) ?_; intro gb250 hg w81 hbox hb; replace HO247 := rB HO247 hb; have BK250 := mkA (hbox); have GW250 := mkA ((by rw [hg]; exact (keep_size (w := w) (g := g) (row := none) (by exact kb55_1 HK.out GW243.out)) : w.heap.size ≤ gb250)); have GE250 := mkA (Nat.le_trans HW0.out GW250.out); replace HK := kU (g := g) (by exact kb55_1 HK.out GW243.out) hb; have NB243_250 := neL7 BK243 hg; have NB250_243 := neR7 BK243 hg; replace BK243 := blkB BK243 hb; have NB0_250 : NeB _ _ := ⟨(by rw [hg]; exact Nat.ne_of_lt (IsS55.lt (show IsS55 w0 _ g s0_0 t248 t249 from by exact st55_1 HI0.out NB0_243.out)) : g ≠ gb250)⟩; have NB250_0 : NeB _ _ := ⟨(by rw [hg]; exact Nat.ne_of_gt (IsS55.lt (show IsS55 w0 _ g s0_0 t248 t249 from by exact st55_1 HI0.out NB0_243.out)) : gb250 ≠ g)⟩; replace HB := mkA (below_step (by exact bl55_1 HB.out HI0.out GE243.out) hb); replace HI0 := mkA (IsS55.below (by exact st55_1 HI0.out NB0_243.out) hb); clear hb hbox hg; obtain ⟨_, _, _, _⟩ := blk2 BK250; obtain ⟨Ao85, co85, rfl⟩ := Kd.R_slice HO247.out) | ((with_reducible refine gate_callee (f := 69) rfl ?_); refine goesQ (some 10) Tryd.func69 #[.pointer (some ⟨g, 0, none⟩), .int .i64 14] ?_; (with_reducible refine (spec_l1Cur_pick.calls g s0_0 t248 t249 14 t251 t252 t253 w0 _ ?_ ?_ A4.out).mono ?_); exact st55_2 HI0.out NB0_243.out NB0_250.out; exact bl55_2 HB.out HI0.out GE243.out GE250.out; rintro e w86 ⟨rfl, hi, hb, hk⟩; refine ⟨_, rfl, ?_⟩; replace BK243 := kR hk BK243; replace HO247 := rK (IsS55.apart (show IsS55 w0 _ g s0_0 t248 t249 from by exact st55_2 HI0.out NB0_243.out NB0_250.out) (rFg HO247 BK250) (by decide)) hk; replace BK250 := kR hk BK250; replace HK := kT (by exact kb55_2 HK.out GW243.out GW250.out) hk; replace HI0 := mkA (hi); replace HB := mkA (hb); clear hb hk hi) | ((with_reducible refine gate_callee (f := 75) rfl ?_); refine goesQ (some 45) Tryd.func75 #[.pointer (some ⟨g, 0, none⟩), .int .i64 10] ?_; (with_reducible refine (spec_l1Cur_order.calls k g s0_0 t252 t253 10 t276 t277 t280 t281 w0 _ ?_ ?_ A78.out).mono ?_); exact st55_2 HI0.out NB0_243.out NB0_250.out; exact bl55_2 HB.out HI0.out GE243.out GE250.out; rintro e w87 ⟨v278, rfl, ho0, hi, hb, hk⟩; refine ⟨_, rfl, ?_⟩; replace BK243 := kB hk BK243; replace BK250 := kB hk BK250; have HO279 := mkA (Kd.R_lower (rN ho0 HO247) (keep_size (w := w) (g := g) (row := none) (by exact kb55_2 HK.out GW243.out GW250.out))); replace HO247 := mkA (Kd.R_mono (Kd.R_told (Kd.R_oldK (IsS55.apart (show IsS55 w0 _ g s0_0 t252 t253 from by exact st55_2 HI0.out NB0_243.out NB0_250.out) (Kd.R_g HO247.out) (by decide)) hk) (Kd.R_base ho0)) (fun _ h_ => h_.1)); replace HK := kT (by exact kb55_2 HK.out GW243.out GW250.out) hk; replace HI0 := mkA (hi); replace HB := mkA (hb); clear hb hk hi ho0; obtain ⟨_, _, _, _⟩ := blk2 BK243; obtain ⟨Ao90, co90, rfl⟩ := Kd.R_slice HO279.out))
     refine bodyPost_ret (results_cell_row rfl _ _ gb243 26 #[.int .i64 t276, .slice Ao90 t277.length co90] (0, 0) _ rfl (blkT BK243) Tryd.underlying26 rfl (by kernel_rfl)) rfl ?_
     exact ⟨_, eqE, Kd.R_g (Kd.R_mono (rF HO279 BK243) (fun _ _ => trivial)), by exact st55_2 HI0.out NB0_243.out NB0_250.out, by exact bl55_2 HB.out HI0.out GE243.out GE250.out, by exact kb55_2 HK.out GW243.out GW250.out⟩
    ·have c77b0 := beq_eq_false_iff_ne.mpr c77
     have c77b1 := bne_iff_ne.mpr c77
     simp only [Option.some.injEq, Prod.mk.injEq] at H
     obtain ⟨rfl, rfl, rfl, rfl⟩ := H
     go_enter Tryd.func55, Tryd.ntmps55
     go_wp2_with (first | ((with_reducible refine gate_dst (N := 4) rfl ?_); refine boxE (N := 4) (cs := #[.int .i64 0, .slice none 0 0]) (t := 26) ?_; intro gb243 hg w91 hbox hb; have BK243 := mkA (hbox); have GW243 := mkA ((by rw [hg]; exact (keep_size (w := w) (g := g) (row := none) (by exact kb55_0 HK.out)) : w.heap.size ≤ gb243)); have GE243 := mkA (Nat.le_trans HW0.out GW243.out); replace HK := kU (g := g) (by exact kb55_0 HK.out) hb; have NB0_243 : NeB _ _ := ⟨(by rw [hg]; exact Nat.ne_of_lt (IsS55.lt (show IsS55 w0 _ g s0_0 s0_1 s0_2 from by exact st55_0 HI0.out)) : g ≠ gb243)⟩; have NB243_0 : NeB _ _ := ⟨(by rw [hg]; exact Nat.ne_of_gt (IsS55.lt (show IsS55 w0 _ g s0_0 s0_1 s0_2 from by exact st55_0 HI0.out)) : gb243 ≠ g)⟩; replace HB := mkA (below_step (by exact bl55_0 HB.out HI0.out) hb); replace HI0 := mkA (IsS55.below (by exact st55_0 HI0.out) hb); clear hb hbox hg) | ((with_reducible refine gate_callee (f := 75) rfl ?_); refine goesQ (some 8) Tryd.func75 #[.pointer (some ⟨g, 0, none⟩), .int .i64 a1] ?_; (with_reducible refine (spec_l1Cur_order.calls k g s0_0 s0_1 s0_2 a1 t244 t245 t248 t249 w0 _ ?_ ?_ A3.out).mono ?_); exact st55_1 HI0.out NB0_243.out; exact bl55_1 HB.out HI0.out GE243.out; rintro e w92 ⟨v246, rfl, ho0, hi, hb, hk⟩; refine ⟨_, rfl, ?_⟩; replace BK243 := kB hk BK243; have HO247 := mkA (Kd.R_lower ho0 (keep_size (w := w) (g := g) (row := none) (by exact kb55_1 HK.out GW243.out))); replace HK := kT (by exact kb55_1 HK.out GW243.out) hk; replace HI0 := mkA (hi); replace HB := mkA (hb); clear hb hk hi ho0) | ((with_reducible refine gate_dst (N := 5) rfl ?_); refine boxE (N := 5) (cs := #[.int .i64 0, .slice none 0 0]) (t := 26) ?_; intro gb250 hg w93 hbox hb; replace HO247 := rB HO247 hb; have BK250 := mkA (hbox); have GW250 := mkA ((by rw [hg]; exact (keep_size (w := w) (g := g) (row := none) (by exact kb55_1 HK.out GW243.out)) : w.heap.size ≤ gb250)); have GE250 := mkA (Nat.le_trans HW0.out GW250.out); replace HK := kU (g := g) (by exact kb55_1 HK.out GW243.out) hb; have NB243_250 := neL7 BK243 hg; have NB250_243 := neR7 BK243 hg; replace BK243 := blkB BK243 hb; have NB0_250 : NeB _ _ := ⟨(by rw [hg]; exact Nat.ne_of_lt (IsS55.lt (show IsS55 w0 _ g s0_0 t248 t249 from by exact st55_1 HI0.out NB0_243.out)) : g ≠ gb250)⟩; have NB250_0 : NeB _ _ := ⟨(by rw [hg]; exact Nat.ne_of_gt (IsS55.lt (show IsS55 w0 _ g s0_0 t248 t249 from by exact st55_1 HI0.out NB0_243.out)) : gb250 ≠ g)⟩; replace HB := mkA (below_step (by exact bl55_1 HB.out HI0.out GE243.out) hb); replace HI0 := mkA (IsS55.below (by exact st55_1 HI0.out NB0_243.out) hb); clear hb hbox hg; obtain ⟨_, _, _, _⟩ := blk2 BK250; obtain ⟨Ao97, co97, rfl⟩ := Kd.R_slice HO247.out) | ((with_reducible refine gate_callee (f := 69) rfl ?_); refine goesQ (some 10) Tryd.func69 #[.pointer (some ⟨g, 0, none⟩), .int .i64 14] ?_; (with_reducible refine (spec_l1Cur_pick.calls g s0_0 t248 t249 14 t251 t252 t253 w0 _ ?_ ?_ A4.out).mono ?_); exact st55_2 HI0.out NB0_243.out NB0_250.out; exact bl55_2 HB.out HI0.out GE243.out GE250.out; rintro e w98 ⟨rfl, hi, hb, hk⟩; refine ⟨_, rfl, ?_⟩; replace BK243 := kR hk BK243; replace HO247 := rK (IsS55.apart (show IsS55 w0 _ g s0_0 t248 t249 from by exact st55_2 HI0.out NB0_243.out NB0_250.out) (rFg HO247 BK250) (by decide)) hk; replace BK250 := kR hk BK250; replace HK := kT (by exact kb55_2 HK.out GW243.out GW250.out) hk; replace HI0 := mkA (hi); replace HB := mkA (hb); clear hb hk hi; obtain ⟨_, _, _, _⟩ := blk2 BK250; obtain ⟨_, _, _, _⟩ := blk2 BK243))
     refine bodyPost_ret (results_cell_row rfl _ _ gb243 26 #[.int .i64 t244, .slice Ao97 t245.length co97] (0, 0) _ rfl (blkT BK243) Tryd.underlying26 rfl (by kernel_rfl)) rfl ?_
     exact ⟨_, eqE, Kd.R_g (Kd.R_mono (rF HO247 BK243) (fun _ _ => trivial)), by exact st55_2 HI0.out NB0_243.out NB0_250.out, by exact bl55_2 HB.out HI0.out GE243.out GE250.out, by exact kb55_2 HK.out GW243.out GW250.out⟩
end Go.Proofs.YtdmheeenoklijaaDoor.Q
