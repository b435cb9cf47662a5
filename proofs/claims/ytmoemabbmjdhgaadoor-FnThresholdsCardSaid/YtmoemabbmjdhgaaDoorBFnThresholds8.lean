import Derived.Test.YtmoemabbmjdhgaaDoorBFnThresholds6
import Derived.Test.YtmoemabbmjdhgaaDoorBFnThresholds7
namespace Go.Proofs.YtmoemabbmjdhgaaDoor.Q
open Go.RowKit Go.Proofs.YtmoemabbmjdhgaaDoorW.PrintWords Go.Proofs.YtmoemabbmjdhgaaDoorW.PrintLast Go.Proofs.YtmoemabbmjdhgaaDoorW.PrintMore
attribute [local go_sem] max2_int min2_int max_two min_two max_three min_three max_four min_four neB_f
set_option linter.unusedVariables false
set_option maxHeartbeats 8000000
set_option maxRecDepth 100000
set_option linter.unusedSimpArgs false
def spec_l1Cur_semi.l0 : Nat → List Int → Int → List Int → Int → Int → Option (Int × List Int × Int × Int)
 | 0, _, _, _, _, _ => none
 | k + 1, x5, x6, x1000, x1001, x1002 => if x6 > 0 then ((spec_l1Cur_pick.f x1000 x1001 x1002 12).bind fun bt257 => (if x5.length < 17592186044416 then (spec_l1Cur_semi.l0 k (x5 ++ [bt257.1]) (wrap64 (x6 - 1)) x1000 bt257.2.1 bt257.2.2) else (none))) else ((spec_l1Cur_pick.f x1000 x1001 x1002 4).bind fun bt263 => ((spec_OrderOfPlaces.f k (wrap64 (1 + bt263.1)) x5).bind fun bt266 => (some (bt266.1, bt266.2.1, bt263.2.1, bt263.2.2))))
def spec_l1Cur_semi.f (k : Nat) (s0_0 : List Int) (s0_1 : Int) (s0_2 : Int) (a1 : Int) : Option (Int × List Int × Int × Int) := (spec_l1Cur_one.f s0_0 s0_1 s0_2 3).bind fun bt245 => (if bt245.1 = true then ((spec_l1Cur_anyOrder.f k s0_0 bt245.2.1 bt245.2.2 a1).bind fun bt248 => (some (bt248.1, bt248.2.1, bt248.2.2.1, bt248.2.2.2))) else ((spec_l1Cur_pick.f s0_0 bt245.2.1 bt245.2.2 (wrap64 (a1 + 1))).bind fun bt254 => (spec_l1Cur_semi.l0 k ([] : List Int) bt254.1 s0_0 bt254.2.1 bt254.2.2)))
theorem spec_l1Cur_semi.mono_l : ∀ k, (∀ y0 y1 y2 y3 y4, LeO (spec_l1Cur_semi.l0 k y0 y1 y2 y3 y4) (spec_l1Cur_semi.l0 (k + 1) y0 y1 y2 y3 y4))
 | 0 => fun _ _ _ _ _ r h => by simp [spec_l1Cur_semi.l0] at h
 | k + 1 => by
  have ih0 := spec_l1Cur_semi.mono_l k
  ·intro y0 y1 y2 y3 y4
   unfold spec_l1Cur_semi.l0
   repeat' (with_reducible first|apply ih0|apply spec_OrderOfPlaces.mono|apply spec_l1Cur_anyOrder.mono|apply LeO.refl|apply LeO.none|apply LeO.ite|apply LeO.bind|intro)
theorem spec_l1Cur_semi.mono : ∀ a0 a1 a2 a3 k, LeO (spec_l1Cur_semi.f k a0 a1 a2 a3) (spec_l1Cur_semi.f (k + 1) a0 a1 a2 a3) := by
 intro a0 a1 a2 a3 k
 have ih0 := spec_l1Cur_semi.mono_l k
 unfold spec_l1Cur_semi.f
 repeat' (with_reducible first|apply ih0|apply spec_OrderOfPlaces.mono|apply spec_l1Cur_anyOrder.mono|apply LeO.refl|apply LeO.none|apply LeO.ite|apply LeO.bind|intro)
theorem spec_l1Cur_semi.calls (k : Nat) (g : Nat) (s0_0 : List Int) (s0_1 : Int) (s0_2 : Int) (a1 : Int) (r1 : Int) (r2 : List Int) (r3 : Int) (r4 : Int) (w0 w : World) (hI : IsS53 w0 w g s0_0 s0_1 s0_2) (hB : Below w0.heap.size w0 w) (h : spec_l1Cur_semi.f k s0_0 s0_1 s0_2 a1 = some (r1, r2, r3, r4)) :
  Calls Tryd.prog 34 #[.pointer (some ⟨g, 0, none⟩), .int .i64 a1] w fun e w' => ∃ v1_ : Value, e = .returned (.agg #[.int .i64 r1, v1_]) ∧ Kd.R (Kd.int .i64) 3 w' w.heap.size (fun _ => True) v1_ r2 ∧ IsS53 w0 w' g s0_0 r3 r4 ∧ Below w0.heap.size w0 w' ∧ KeepBut w w' g none := by
 have hu26 := Tryd.underlying26
 have HI0 := mkA hI
 have HK := mkA (KeepBut.refl w g none)
 have HL := mkA hB.size
 clear hI
 have HW0 := mkA hB.size
 have HB := mkA hB
 clear hB
 have H := h
 clear h
 unfold spec_l1Cur_semi.f at H
 obtain ⟨⟨t245, t246, t247⟩, A3, H⟩ := obE H
 dsimp only at H
 by_cases c4 : t245 = true
 ·subst c4
  replace H := ifT H
  obtain ⟨⟨t248, t249, t252, t253⟩, A5, H⟩ := obE H
  dsimp only at H
  simp only [Option.some.injEq, Prod.mk.injEq] at H
  obtain ⟨rfl, rfl, rfl, rfl⟩ := H
  go_enter Tryd.func34, Tryd.ntmps34
  go_wp2_with (first | ((with_reducible refine gate_dst (N := 4) rfl ?_); refine boxE (N := 4) (cs := #[.int .i64 0, .slice none 0 0]) (t := 26) ?_; intro gb244 hg w6 hbox hb; have BK244 := mkA (hbox); have GW244 := mkA ((by rw [hg]; exact (keep_size (w := w) (g := g) (row := none) (by exact kb53_0 HK.out)) : w.heap.size ≤ gb244)); have GE244 := mkA (Nat.le_trans HW0.out GW244.out); replace HK := kU (g := g) (by exact kb53_0 HK.out) hb; have NB0_244 : NeB _ _ := ⟨(by rw [hg]; exact Nat.ne_of_lt (IsS53.lt (show IsS53 w0 _ g s0_0 s0_1 s0_2 from by exact st53_0 HI0.out)) : g ≠ gb244)⟩; have NB244_0 : NeB _ _ := ⟨(by rw [hg]; exact Nat.ne_of_gt (IsS53.lt (show IsS53 w0 _ g s0_0 s0_1 s0_2 from by exact st53_0 HI0.out)) : gb244 ≠ g)⟩; replace HB := mkA (below_step (by exact bl53_0 HB.out HI0.out) hb); replace HI0 := mkA (IsS53.below (by exact st53_0 HI0.out) hb); clear hb hbox hg) | ((with_reducible refine gate_callee (f := 49) rfl ?_); refine goesQ (some 10) Tryd.func49 #[.pointer (some ⟨g, 0, none⟩), .int .i64 3] ?_; (with_reducible refine (spec_l1Cur_one.calls g s0_0 s0_1 s0_2 3 true t246 t247 w0 _ ?_ ?_ A3.out).mono ?_); exact st53_1 HI0.out NB0_244.out; exact bl53_1 HB.out HI0.out GE244.out; rintro e w7 ⟨rfl, hi, hb, hk⟩; refine ⟨_, rfl, ?_⟩; replace BK244 := kB hk BK244; replace HK := kT (by exact kb53_1 HK.out GW244.out) hk; replace HI0 := mkA (hi); replace HB := mkA (hb); clear hb hk hi) | ((with_reducible refine gate_callee (f := 50) rfl ?_); refine goesQ (some 13) Tryd.func50 #[.pointer (some ⟨g, 0, none⟩), .int .i64 a1] ?_; (with_reducible refine (spec_l1Cur_anyOrder.calls k g s0_0 t246 t247 a1 t248 t249 t252 t253 w0 _ ?_ ?_ A5.out).mono ?_); exact st53_1 HI0.out NB0_244.out; exact bl53_1 HB.out HI0.out GE244.out; rintro e w8 ⟨v250, rfl, ho0, hi, hb, hk⟩; refine ⟨_, rfl, ?_⟩; replace BK244 := kB hk BK244; have HO251 := mkA (Kd.R_lower ho0 (keep_size (w := w) (g := g) (row := none) (by exact kb53_1 HK.out GW244.out))); replace HK := kT (by exact kb53_1 HK.out GW244.out) hk; replace HI0 := mkA (hi); replace HB := mkA (hb); clear hb hk hi ho0; obtain ⟨_, _, _, _⟩ := blk2 BK244; obtain ⟨Ao11, co11, rfl⟩ := Kd.R_slice HO251.out))
  refine bodyPost_ret (results_cell_row rfl _ _ gb244 26 #[.int .i64 t248, .slice Ao11 t249.length co11] (0, 0) _ rfl (blkT BK244) Tryd.underlying26 rfl (by kernel_rfl)) rfl ?_
  exact ⟨_, eqE, Kd.R_g (Kd.R_mono (rF HO251 BK244) (fun _ _ => trivial)), by exact st53_1 HI0.out NB0_244.out, by exact bl53_1 HB.out HI0.out GE244.out, by exact kb53_1 HK.out GW244.out⟩
 ·replace c4 := Bool.eq_false_iff.mpr c4
  subst c4
  replace H := ifF H
  obtain ⟨⟨t254, t255, t256⟩, A12, H⟩ := obE H
  dsimp only at H
  have H' := mkA H
  clear H
  go_enter Tryd.func34, Tryd.ntmps34
  go_wp2_with (first | ((with_reducible refine gate_dst (N := 4) rfl ?_); refine boxE (N := 4) (cs := #[.int .i64 0, .slice none 0 0]) (t := 26) ?_; intro gb244 hg w13 hbox hb; have BK244 := mkA (hbox); have GW244 := mkA ((by rw [hg]; exact (keep_size (w := w) (g := g) (row := none) (by exact kb53_0 HK.out)) : w.heap.size ≤ gb244)); have GE244 := mkA (Nat.le_trans HW0.out GW244.out); replace HK := kU (g := g) (by exact kb53_0 HK.out) hb; have NB0_244 : NeB _ _ := ⟨(by rw [hg]; exact Nat.ne_of_lt (IsS53.lt (show IsS53 w0 _ g s0_0 s0_1 s0_2 from by exact st53_0 HI0.out)) : g ≠ gb244)⟩; have NB244_0 : NeB _ _ := ⟨(by rw [hg]; exact Nat.ne_of_gt (IsS53.lt (show IsS53 w0 _ g s0_0 s0_1 s0_2 from by exact st53_0 HI0.out)) : gb244 ≠ g)⟩; replace HB := mkA (below_step (by exact bl53_0 HB.out HI0.out) hb); replace HI0 := mkA (IsS53.below (by exact st53_0 HI0.out) hb); clear hb hbox hg) | ((with_reducible refine gate_callee (f := 49) rfl ?_); refine goesQ (some 10) Tryd.func49 #[.pointer (some ⟨g, 0, none⟩), .int .i64 3] ?_; (with_reducible refine (spec_l1Cur_one.calls g s0_0 s0_1 s0_2 3 false t246 t247 w0 _ ?_ ?_ A3.out).mono ?_); exact st53_1 HI0.out NB0_244.out; exact bl53_1 HB.out HI0.out GE244.out; rintro e w14 ⟨rfl, hi, hb, hk⟩; refine ⟨_, rfl, ?_⟩; replace BK244 := kB hk BK244; replace HK := kT (by exact kb53_1 HK.out GW244.out) hk; replace HI0 := mkA (hi); replace HB := mkA (hb); clear hb hk hi) | ((with_reducible refine gate_callee (f := 51) rfl ?_); refine goesQ (some 17) Tryd.func51 #[.pointer (some ⟨g, 0, none⟩), .int .i64 (wrap64 (a1 + 1))] ?_; (with_reducible refine (spec_l1Cur_pick.calls g s0_0 t246 t247 (wrap64 (a1 + 1)) t254 t255 t256 w0 _ ?_ ?_ A12.out).mono ?_); exact st53_1 HI0.out NB0_244.out; exact bl53_1 HB.out HI0.out GE244.out; rintro e w15 ⟨rfl, hi, hb, hk⟩; refine ⟨_, rfl, ?_⟩; replace BK244 := kB hk BK244; replace HK := kT (by exact kb53_1 HK.out GW244.out) hk; replace HI0 := mkA (hi); replace HB := mkA (hb); clear hb hk hi))
  go_loopg [5, 6] k (fun kq v5 v6 w' => ∃ (x5_1 : List Int) (x6_1 : Int) (x1001_1 : Int) (x1002_1 : Int), v6 = .int .i64 x6_1 ∧ Fc (spec_l1Cur_semi.l0 kq x5_1 x6_1 s0_0 x1001_1 x1002_1 = some (r1, r2, r3, r4)) ∧ Fc (kq ≤ k) ∧ Fc (Kd.R (Kd.int .i64) 3 w' w.heap.size (fun _ => True) v5 x5_1) ∧ Fc (w'.heap[gb244]? = some (.cells #[.int .i64 0, (.slice none 0 0)] 26 (0, 0))) ∧ Fc (IsS53 w0 w' g s0_0 x1001_1 x1002_1) ∧ Fc (KeepBut w w' g none) ∧ Fc (Below w0.heap.size w0 w'))
  case atStart => exact ⟨(([] : List Int)), (t254), (t255), (t256), eqS, H', ⟨Nat.le_refl _⟩, ⟨nilE⟩, bg BK244, ⟨by exact st53_1 HI0.out NB0_244.out⟩, ⟨by exact kb53_1 HK.out GW244.out⟩, ⟨by exact bl53_1 HB.out HI0.out GE244.out⟩⟩
  case round =>
   clear H'
   try clear c4
   obtain ⟨x5_1, x6_1, x1001_1, x1002_1, rfl, HA, HK1, HO_5, BK244, HI0, HK, HB⟩ := hrel
   cases gk with
   | zero => exact absurd HA.out (by simp [spec_l1Cur_semi.l0])
   | succ k1 =>
    have H := HA.out
    clear HA
    simp only [spec_l1Cur_semi.l0] at H
    rcases iteP H with ⟨c16, H⟩ | ⟨c16, H⟩
    ·have c16b0 := decide_eq_true c16
     clear c16
     obtain ⟨⟨t257, t258, t259⟩, A17, H⟩ := obE H
     dsimp only at H
     obtain ⟨c18, H⟩ := itNP H
     have LMc18 := mkA c18
     clear c18
     obtain ⟨y260, hy260⟩ : ∃ y_ : List Int, y_ = (x5_1 ++ [t257]) := ⟨_, rfl⟩
     rw [← hy260] at H
     have Ny260 := mkA hy260
     clear hy260
     have H' := mkA H
     clear H
     go_wp2_with (first | ((with_reducible refine gate_callee (f := 51) rfl ?_); refine goesQ (some 24) Tryd.func51 #[.pointer (some ⟨g, 0, none⟩), .int .i64 12] ?_; (with_reducible refine (spec_l1Cur_pick.calls g s0_0 x1001_1 x1002_1 12 t257 t258 t259 w0 _ ?_ ?_ A17.out).mono ?_); exact st53_1 HI0.out NB0_244.out; exact bl53_1 HB.out HI0.out GE244.out; rintro e w19 ⟨rfl, hi, hb, hk⟩; refine ⟨_, rfl, ?_⟩; replace HO_5 := rK (IsS53.apart (show IsS53 w0 _ g s0_0 x1001_1 x1002_1 from by exact st53_1 HI0.out NB0_244.out) (Kd.R_g HO_5.out) (by decide)) hk; replace BK244 := kB hk BK244; replace HK := kT (by exact kb53_1 HK.out GW244.out) hk; replace HI0 := mkA (hi); replace HB := mkA (hb); clear hb hk hi) | ((with_reducible refine gate_builtin (b := .append) (xs := #[.tmp 22, .tmp 25]) rfl ?_); at_builtin; refine Kd.R_append (Kd.int .i64) w.heap.size rfl (.tmp 22) (.tmp 25) 24 3 (.int .i64 0) 8 rfl Tryd.underlying24 info3 rfl (by decide) (by omega) u5 x5_1 t257 [.int .i64 t257] (fun _ => True) (fun _ => False) rfl rfl ?aP (fun _ hk => hk.elim) ?aF ?aO (Below.refl _ _) ?aS ?aL ?_; (case aP => exact rfl); (case aF => exact (fun _ _ => trivial)); (case aO => exact (Kd.R_g HO_5.out)); (case aS => exact (keep_size (w := w) (g := g) (row := none) (by exact kb53_1 HK.out GW244.out))); (case aL => have := LMc18.out; omega); intro v261 w20 ho hb hg hat; rw [← Ny260.out] at ho; replace BK244 := mkA (blk_grown (g := gb244) (o := .cells #[.int .i64 0, .slice none 0 0] 26 (0, 0)) (blk_g BK244.out) hg (Kd.R_ne HO_5.out BK244.out (by decide))); replace HK := mkA (KeepBut.trans (by exact kb53_1 HK.out GW244.out) (KeepBut.of_grown hg g) (Kd.R_base2 HO_5.out)); have HO262 := mkA (ho); replace HB := mkA (below_weaken (by exact bl53_1 HB.out HI0.out GE244.out) HL.out hb); replace HI0 := mkA (IsS53.grown (by exact st53_1 HI0.out NB0_244.out) hg (IsS53.own_ne HI0.out HO_5.out (by decide))); clear HO_5; clear ho hb hg hat))
     go_roundg k1
     case measure => have := HK1.out; omega
     case rel => exact ⟨(y260), (wrap64 (x6_1 - 1)), (t258), (t259), eqS, H', ⟨by have := HK1.out; omega⟩, rg HO262, bg BK244, ⟨by exact st53_1 HI0.out NB0_244.out⟩, ⟨by exact kb53_1 HK.out GW244.out⟩, ⟨by exact bl53_1 HB.out HI0.out GE244.out⟩⟩
    ·have c16b0 := decide_eq_false c16
     clear c16
     obtain ⟨⟨t263, t264, t265⟩, A21, H⟩ := obE H
     dsimp only at H
     obtain ⟨⟨t266, t267, t270⟩, A22, H⟩ := obE H
     dsimp only at H
     simp only [Option.some.injEq, Prod.mk.injEq] at H
     obtain ⟨rfl, rfl, rfl, rfl⟩ := H
     go_wp2_with (first | ((with_reducible refine gate_callee (f := 51) rfl ?_); refine goesQ (some 29) Tryd.func51 #[.pointer (some ⟨g, 0, none⟩), .int .i64 4] ?_; (with_reducible refine (spec_l1Cur_pick.calls g s0_0 x1001_1 x1002_1 4 t263 t264 t265 w0 _ ?_ ?_ A21.out).mono ?_); exact st53_1 HI0.out NB0_244.out; exact bl53_1 HB.out HI0.out GE244.out; rintro e w23 ⟨rfl, hi, hb, hk⟩; refine ⟨_, rfl, ?_⟩; replace HO_5 := rK (IsS53.apart (show IsS53 w0 _ g s0_0 x1001_1 x1002_1 from by exact st53_1 HI0.out NB0_244.out) (Kd.R_g HO_5.out) (by decide)) hk; replace BK244 := kB hk BK244; replace HK := kT (by exact kb53_1 HK.out GW244.out) hk; replace HI0 := mkA (hi); replace HB := mkA (hb); clear hb hk hi; obtain ⟨Ao24, co24, rfl⟩ := Kd.R_slice HO_5.out) | ((with_reducible refine gate_callee (f := 52) rfl ?_); refine goesQ (some 32) Tryd.func52 #[.int .i64 (wrap64 (1 + t263)), .slice Ao24 x5_1.length co24] ?_; (with_reducible refine (spec_OrderOfPlaces.calls k1 (wrap64 (1 + t263)) _ _ x5_1 t266 t267 t270 _ ?_ ?_ A22.out).mono ?_); exact rC HO_5; exact rL HO_5; rintro e w25 ⟨v268, rfl, ho0, hb⟩; refine ⟨_, rfl, ?_⟩; have HO269 := mkA (Kd.R_lower (rN ho0 HO_5) (keep_size (w := w) (g := g) (row := none) (by exact kb53_1 HK.out GW244.out))); replace HO_5 := rE HO_5 ho0 hb; replace BK244 := blkB BK244 hb; replace HK := kU (g := g) (by exact kb53_1 HK.out GW244.out) hb; replace HB := mkA (below_step (by exact bl53_1 HB.out HI0.out GE244.out) hb); replace HI0 := mkA (IsS53.below (by exact st53_1 HI0.out NB0_244.out) hb); clear hb ho0) | ((with_reducible refine gate_dst (N := 7) rfl ?_); refine boxE (N := 7) (cs := #[.int .i64 0, .slice none 0 0]) (t := 26) ?_; intro gb271 hg w26 hbox hb; replace HO_5 := rB HO_5 hb; replace HO269 := rB HO269 hb; have BK271 := mkA (hbox); have GW271 := mkA ((by rw [hg]; exact (keep_size (w := w) (g := g) (row := none) (by exact kb53_1 HK.out GW244.out)) : w.heap.size ≤ gb271)); have GE271 := mkA (Nat.le_trans HW0.out GW271.out); replace HK := kU (g := g) (by exact kb53_1 HK.out GW244.out) hb; have NB244_271 := neL7 BK244 hg; have NB271_244 := neR7 BK244 hg; replace BK244 := blkB BK244 hb; have NB0_271 : NeB _ _ := ⟨(by rw [hg]; exact Nat.ne_of_lt (IsS53.lt (show IsS53 w0 _ g s0_0 t264 t265 from by exact st53_1 HI0.out NB0_244.out)) : g ≠ gb271)⟩; have NB271_0 : NeB _ _ := ⟨(by rw [hg]; exact Nat.ne_of_gt (IsS53.lt (show IsS53 w0 _ g s0_0 t264 t265 from by exact st53_1 HI0.out NB0_244.out)) : gb271 ≠ g)⟩; replace HB := mkA (below_step (by exact bl53_1 HB.out HI0.out GE244.out) hb); replace HI0 := mkA (IsS53.below (by exact st53_1 HI0.out NB0_244.out) hb); clear hb hbox hg; obtain ⟨_, _, _, _⟩ := blk2 BK271; obtain ⟨Ao30, co30, rfl⟩ := Kd.R_slice HO269.out; obtain ⟨_, _, _, _⟩ := blk2 BK244))
     refine bodyPost_ret (results_cell_row rfl _ _ gb244 26 #[.int .i64 t266, .slice Ao30 t267.length co30] (0, 0) _ rfl (blkT BK244) Tryd.underlying26 rfl (by kernel_rfl)) rfl ?_
     exact ⟨_, eqE, Kd.R_g (Kd.R_mono (Kd.R_far (p := ⟨gb244, 1, none⟩) (Kd.R_far (p := ⟨gb244, 0, none⟩) (Kd.R_far (p := ⟨gb271, 1, none⟩) (Kd.R_far (p := ⟨gb271, 0, none⟩) (Kd.R_types (Kd.R_types HO269.out BK271.out (by decide)) BK244.out (by decide)) (fun _ hk => hk.1.2) (.int .i64 t266)) (fun _ hk => hk.1.2) (.slice Ao30 t267.length co30)) (fun _ hk => hk.2) (.int .i64 t266)) (fun _ hk => hk.2) (.slice Ao30 t267.length co30)) (fun _ hk => trivial)), by exact st53_2 HI0.out NB0_244.out NB0_271.out, by exact bl53_2 HB.out HI0.out GE244.out GE271.out, by exact kb53_2 HK.out GW244.out GW271.out⟩
def spec_DrawIsSemiorder.f (k : Nat) (l0 : List Int) : Option (Int × List Int) := (spec_l1Cur_semi.f k l0 0 0 7).bind fun bt274 => (some (bt274.1, bt274.2.1))
theorem spec_DrawIsSemiorder.mono : ∀ a0 k, LeO (spec_DrawIsSemiorder.f k a0) (spec_DrawIsSemiorder.f (k + 1) a0) := by
 intro a0 k
 unfold spec_DrawIsSemiorder.f
 repeat' (with_reducible first|apply spec_l1Cur_semi.mono|apply LeO.refl|apply LeO.none|apply LeO.ite|apply LeO.bind|intro)
theorem spec_DrawIsSemiorder.calls (k : Nat) (A0 : Option Addr) (c0 : Nat) (l0 : List Int) (r1 : Int) (r2 : List Int) (w : World) (hr0 : Kd.C (Kd.int .u8) w A0 l0.length l0) (hc0 : l0.length ≤ c0) (h : spec_DrawIsSemiorder.f k l0 = some (r1, r2)) :
  Calls Tryd.prog 18 #[.slice A0 l0.length c0] w fun e w' => ∃ v1_ : Value, e = .returned (.agg #[.int .i64 r1, v1_]) ∧ Kd.R (Kd.int .i64) 3 w' w.heap.size (fun _ => True) v1_ r2 ∧ Below w.heap.size w w' := by
 have hu26 := Tryd.underlying26
 have hu53 := Tryd.underlying53
 have HR0 := mkA hr0
 have HC0 := mkA hc0
 clear hr0 hc0
 have HB := mkA (Below.refl w.heap.size w)
 have H := h
 clear h
 unfold spec_DrawIsSemiorder.f at H
 obtain ⟨⟨t274, t275, t278, t279⟩, A2, H⟩ := obE H
 dsimp only at H
 simp only [Option.some.injEq, Prod.mk.injEq] at H
 obtain ⟨rfl, rfl⟩ := H
 go_enter Tryd.func18, Tryd.ntmps18
 go_wp2_with (first | ((with_reducible refine gate_dst (N := 2) rfl ?_); refine boxG HB #[.int .i64 0, .slice none 0 0] 26 ?_; intro gb272 hg w3 BK272 GE272 hb; replace HB := bst HB hb; clear hb hg) | ((with_reducible refine gate_dst (N := 6) rfl ?_); refine boxE (N := 6) (cs := #[.slice A0 l0.length c0, .int .i64 0, .int .u64 0]) (t := 53) ?_; intro gb273 hg w4 hbox hb; have HI273 := mkA ((⟨_, _, hbox, (by rw [hg]; exact (below_size (bel_g HB.out))), HR0.out⟩ : IsS53 w w4 gb273 l0 0 0)); have GE273 := geB HB hg; have NB272_273 := neL7 BK272 hg; have NB273_272 := neR7 BK272 hg; replace BK272 := blkB BK272 hb; replace HB := bst HB hb; clear hb hbox hg) | ((with_reducible refine gate_callee (f := 34) rfl ?_); refine goesQ (some 8) Tryd.func34 #[.pointer (some ⟨gb273, 0, none⟩), .int .i64 7] ?_; (with_reducible refine (spec_l1Cur_semi.calls k gb273 l0 0 0 7 t274 t275 t278 t279 w _ ?_ ?_ A2.out).mono ?_); exact st53_1 HI273.out NB273_272.out; exact bl53_1 HB.out HI273.out GE272.out; rintro e w5 ⟨v276, rfl, ho0, hi, hb, hk⟩; refine ⟨_, rfl, ?_⟩; replace BK272 := kB hk BK272; have HO277 := mkA (Kd.R_lower ho0 (below_size (by exact bl53_1 HB.out HI273.out GE272.out))); replace HI273 := mkA (hi); replace HB := mkA (hb); clear hb hk hi ho0; obtain ⟨_, _, _, _⟩ := blk2 BK272; obtain ⟨Ao8, co8, rfl⟩ := Kd.R_slice HO277.out))
 refine bodyPost_ret (results_cell_row rfl _ _ gb272 26 #[.int .i64 t274, .slice Ao8 t275.length co8] (0, 0) _ rfl (blkT BK272) Tryd.underlying26 rfl (by kernel_rfl)) rfl ?_
 exact ⟨_, eqE, Kd.R_g (Kd.R_mono (rF HO277 BK272) (fun _ _ => trivial)), by exact bl53_1 HB.out HI273.out GE272.out⟩
def spec_DrawLeastThreshold.f (k : Nat) (l0 : List Int) : Option (Int × List Int) := (spec_DrawIsSemiorder.f k l0).bind fun bt281 => (some (bt281.1, bt281.2))
theorem spec_DrawLeastThreshold.mono : ∀ a0 k, LeO (spec_DrawLeastThreshold.f k a0) (spec_DrawLeastThreshold.f (k + 1) a0) := by
 intro a0 k
 unfold spec_DrawLeastThreshold.f
 repeat' (with_reducible first|apply spec_DrawIsSemiorder.mono|apply LeO.refl|apply LeO.none|apply LeO.ite|apply LeO.bind|intro)
theorem spec_DrawLeastThreshold.calls (k : Nat) (A0 : Option Addr) (c0 : Nat) (l0 : List Int) (r1 : Int) (r2 : List Int) (w : World) (hr0 : Kd.C (Kd.int .u8) w A0 l0.length l0) (hc0 : l0.length ≤ c0) (h : spec_DrawLeastThreshold.f k l0 = some (r1, r2)) :
  Calls Tryd.prog 5 #[.slice A0 l0.length c0] w fun e w' => ∃ v1_ : Value, e = .returned (.agg #[.int .i64 r1, v1_]) ∧ Kd.R (Kd.int .i64) 3 w' w.heap.size (fun _ => True) v1_ r2 ∧ Below w.heap.size w w' := by
 have hu26 := Tryd.underlying26
 have HR0 := mkA hr0
 have HC0 := mkA hc0
 clear hr0 hc0
 have HB := mkA (Below.refl w.heap.size w)
 have H := h
 clear h
 unfold spec_DrawLeastThreshold.f at H
 obtain ⟨⟨t281, t282⟩, A2, H⟩ := obE H
 dsimp only at H
 simp only [Option.some.injEq, Prod.mk.injEq] at H
 obtain ⟨rfl, rfl⟩ := H
 go_enter Tryd.func5, Tryd.ntmps5
 go_wp2_with (first | ((with_reducible refine gate_dst (N := 2) rfl ?_); refine boxG HB #[.int .i64 0, .slice none 0 0] 26 ?_; intro gb280 hg w3 BK280 GE280 hb; replace HB := bst HB hb; clear hb hg) | ((with_reducible refine gate_callee (f := 18) rfl ?_); refine goesQ (some 4) Tryd.func18 #[.slice A0 l0.length c0] ?_; (with_reducible refine (spec_DrawIsSemiorder.calls k _ _ l0 t281 t282 _ ?_ ?_ A2.out).mono ?_); exact C_g HR0 HB; exact HC0.out; rintro e w4 ⟨v283, rfl, ho0, hb⟩; refine ⟨_, rfl, ?_⟩; have HO284 := rLo ho0 HB; replace BK280 := blkB BK280 hb; replace HB := bst HB hb; clear hb ho0; obtain ⟨_, _, _, _⟩ := blk2 BK280; obtain ⟨Ao6, co6, rfl⟩ := Kd.R_slice HO284.out))
 refine bodyPost_ret (results_cell_row rfl _ _ gb280 26 #[.int .i64 t281, .slice Ao6 t282.length co6] (0, 0) _ rfl (blkT BK280) Tryd.underlying26 rfl (by kernel_rfl)) rfl ?_
 exact ⟨_, eqE, Kd.R_g (Kd.R_mono (rF HO284 BK280) (fun _ _ => trivial)), bel_g HB.out⟩
def impl_within.f (a0 : Int) (a1 : Int) (a2 : Int) : Option (Bool) := if a0 ≥ a1 then (some (decide (a0 ≤ a2))) else (some false)
theorem impl_within.calls (a0 : Int) (a1 : Int) (a2 : Int) (r : Bool) (w : World) (h : impl_within.f a0 a1 a2 = some r) :
  Calls Tryd.prog 41 #[.int .i64 a0, .int .i64 a1, .int .i64 a2] w fun e w' => e = .returned (.bool r) ∧ Drawn0 w w' := by
 have H := h
 clear h
 unfold impl_within.f at H
 rcases iteP H with ⟨c4, H⟩ | ⟨c4, H⟩
 ·have c4b0 := decide_eq_true c4
  clear c4
  obtain rfl := Option.some.inj H
  go_enter Tryd.func41, Tryd.ntmps41
  go_wp2
  go_ret
  exact ⟨eqS, drE⟩
 ·have c4b0 := decide_eq_false c4
  clear c4
  obtain rfl := Option.some.inj H
  go_enter Tryd.func41, Tryd.ntmps41
  go_wp2
  go_ret
  exact ⟨eqS, drE⟩
def impl_allWithin.l0 : Nat → Int → Int → List Int → Int → Int → Option (Bool)
 | 0, _, _, _, _, _ => none
 | k + 1, x1, x2, x9, x10, x11 => if x11 < x10 then (if 0 ≤ x11 then (if x11 < (x9.length : Int) then ((impl_within.f (rd x9 x11) x1 x2).bind fun t286 => (if t286 = true then (impl_allWithin.l0 k x1 x2 x9 x10 (wrap64 (x11 + 1))) else (some false))) else (none)) else (none)) else (some true)
def impl_allWithin.f (k : Nat) (l0 : List Int) (a1 : Int) (a2 : Int) : Option (Bool) := impl_allWithin.l0 k a1 a2 l0 (l0.length : Int) 0
theorem impl_allWithin.mono_l : ∀ k, (∀ y0 y1 y2 y3 y4, LeO (impl_allWithin.l0 k y0 y1 y2 y3 y4) (impl_allWithin.l0 (k + 1) y0 y1 y2 y3 y4))
 | 0 => fun _ _ _ _ _ r h => by simp [impl_allWithin.l0] at h
 | k + 1 => by
  have ih0 := impl_allWithin.mono_l k
  ·intro y0 y1 y2 y3 y4
   unfold impl_allWithin.l0
   repeat' (with_reducible first|apply ih0|apply LeO.refl|apply LeO.none|apply LeO.ite|apply LeO.bind|intro)
theorem impl_allWithin.mono : ∀ a0 a1 a2 k, LeO (impl_allWithin.f k a0 a1 a2) (impl_allWithin.f (k + 1) a0 a1 a2) := by
 intro a0 a1 a2 k
 have ih0 := impl_allWithin.mono_l k
 unfold impl_allWithin.f
 repeat' (with_reducible first|apply ih0|apply LeO.refl|apply LeO.none|apply LeO.ite|apply LeO.bind|intro)
theorem impl_allWithin.calls (k : Nat) (A0 : Option Addr) (c0 : Nat) (l0 : List Int) (a1 : Int) (a2 : Int) (r : Bool) (w : World) (hr0 : Kd.C (Kd.int .i64) w A0 l0.length l0) (hc0 : l0.length ≤ c0) (h : impl_allWithin.f k l0 a1 a2 = some r) :
  Calls Tryd.prog 42 #[.slice A0 l0.length c0, .int .i64 a1, .int .i64 a2] w fun e w' => e = .returned (.bool r) ∧ Drawn0 w w' := by
 have HR0 := mkA hr0
 have HC0 := mkA hc0
 clear hr0 hc0
 have H := h
 clear h
 unfold impl_allWithin.f at H
 have H' := mkA H
 clear H
 go_enter Tryd.func42, Tryd.ntmps42
 go_wp2
 go_loopg [11] k (fun kq v11 w' => ∃ (x11_1 : Int), v11 = .int .i64 x11_1 ∧ Fc (impl_allWithin.l0 kq a1 a2 l0 (l0.length : Int) x11_1 = some r) ∧ Fc (kq ≤ k) ∧ Drawn0 w w')
 case atStart => exact ⟨(0), eqS, H', ⟨Nat.le_refl _⟩, by repeat (first | exact Drawn0.refl _ | apply Drawn0.step)⟩
 case round =>
  clear H'
  obtain ⟨x11_1, rfl, HA, HK1, ⟨m1, rfl⟩⟩ := hrel
  cases gk with
  | zero => exact absurd HA.out (by simp [impl_allWithin.l0])
  | succ k1 =>
   have H := HA.out
   clear HA
   simp only [impl_allWithin.l0] at H
   rcases iteE H with ⟨c4b0, H⟩ | ⟨c4b0, H⟩
   ·obtain ⟨c5b0, H⟩ := itND H
    obtain ⟨c6b0, H⟩ := itND H
    obtain ⟨t286, A7, H⟩ := obE H
    by_cases c8 : t286 = true
    ·subst c8
     replace H := ifT H
     have H' := mkA H
     clear H
     obtain ⟨p285, q285, ad285, e285, hx285_0⟩ := atI HR0.out x11_1
     cases e285
     go_wp2_with (first | ((with_reducible refine gate_callee (f := 41) rfl ?_); refine goesQ (some 18) Tryd.func41 #[.int .i64 (rd l0 x11_1), .int .i64 a1, .int .i64 a2] ?_; (with_reducible refine (impl_within.calls (rd l0 x11_1) a1 a2 true _ A7.out).mono ?_); rintro e w' ⟨rfl, ⟨nd, rfl⟩⟩; refine ⟨_, rfl, ?_⟩))
     go_roundg k1
     case measure => have := HK1.out; omega
     case rel => exact ⟨(wrap64 (x11_1 + 1)), eqS, H', ⟨by have := HK1.out; omega⟩, by repeat (first | exact Drawn0.refl _ | apply Drawn0.step)⟩
    ·replace c8 := Bool.eq_false_iff.mpr c8
     subst c8
     replace H := ifF H
     obtain rfl := Option.some.inj H
     obtain ⟨p285, q285, ad285, e285, hx285_0⟩ := atI HR0.out x11_1
     cases e285
     go_wp2_with (first | ((with_reducible refine gate_callee (f := 41) rfl ?_); refine goesQ (some 18) Tryd.func41 #[.int .i64 (rd l0 x11_1), .int .i64 a1, .int .i64 a2] ?_; (with_reducible refine (impl_within.calls (rd l0 x11_1) a1 a2 false _ A7.out).mono ?_); rintro e w' ⟨rfl, ⟨nd, rfl⟩⟩; refine ⟨_, rfl, ?_⟩))
     go_ret
     exact ⟨eqS, drE⟩
   ·obtain rfl := Option.some.inj H
    go_wp2
    go_ret
    exact ⟨eqS, drE⟩
end Go.Proofs.YtmoemabbmjdhgaaDoor.Q
