import Derived.Test.YtdpmoehmbjmkpaaDoorBFnPatterns6
import Derived.Test.YtdpmoehmbjmkpaaDoorBFnPatterns8
import Derived.Test.YtdpmoehmbjmkpaaDoorBFnPatterns9
namespace Go.Proofs.YtdpmoehmbjmkpaaDoor.Q
open Go.RowKit Go.Proofs.YtdpmoehmbjmkpaaDoorW.PrintWords Go.Proofs.YtdpmoehmbjmkpaaDoorW.PrintLast Go.Proofs.YtdpmoehmbjmkpaaDoorW.PrintMore
attribute [local go_sem] max2_int min2_int max_two min_two max_three min_three max_four min_four neB_f
set_option linter.unusedVariables false
set_option maxHeartbeats 8000000
set_option maxRecDepth 100000
set_option linter.unusedSimpArgs false
def spec_DrawFindPattern.j0 : Nat → Bool → List Int → Int → Int → Int → List Int → Option (Int × List Int × Int × List Int)
 | 0, _, _, _, _, _, _ => none
 | k + 1, x22, x273000, x273001, x273002, x280000, x280001 => if x22 = true then ((spec_l1Cur_names.f k x273000 x273001 x273002 x280000).bind fun bt284 => ((spec_orNames.f k x280000 bt284.1).bind fun t289 => (if t289 = true then ((spec_l1Cur_pick.f x273000 bt284.2.1 bt284.2.2 5).bind fun bt290 => ((spec_l1Least.f bt290.1 x280000).bind fun t293 => (if 0 ≤ t293 then (if t293 ≤ (bt284.1.length : Int) then ((spec_orPart.f k x280000 x280001 (bt284.1.take (t293 : Int).toNat)).bind fun bt298 => (some (x280000, x280001, bt298.1, bt298.2))) else (none)) else (none)))) else ((spec_l1Cur_anyOrder.f k x273000 bt284.2.1 bt284.2.2 5).bind fun bt302 => (some (x280000, x280001, bt302.1, bt302.2.1)))))) else ((spec_l1Cur_anyOrder.f k x273000 x273001 x273002 5).bind fun bt308 => (some (x280000, x280001, bt308.1, bt308.2.1)))
def spec_DrawFindPattern.f (k : Nat) (l0 : List Int) : Option (Int × List Int × Int × List Int) := (spec_l1Cur_anyOrder.f k l0 0 0 7).bind fun bt273 => ((spec_orRelation.f k bt273.1 bt273.2.1).bind fun t280 => (if t280 = true then (if bt273.1 > 0 then ((spec_l1Cur_one.f l0 bt273.2.2.1 bt273.2.2.2 2).bind fun bt281 => (spec_DrawFindPattern.j0 k bt281.1 l0 bt281.2.1 bt281.2.2 bt273.1 bt273.2.1)) else (spec_DrawFindPattern.j0 k false l0 bt273.2.2.1 bt273.2.2.2 bt273.1 bt273.2.1)) else (spec_DrawFindPattern.j0 k false l0 bt273.2.2.1 bt273.2.2.2 bt273.1 bt273.2.1)))
theorem spec_DrawFindPattern.mono_l : ∀ k, (∀ y0 y1 y2 y3 y4 y5, LeO (spec_DrawFindPattern.j0 k y0 y1 y2 y3 y4 y5) (spec_DrawFindPattern.j0 (k + 1) y0 y1 y2 y3 y4 y5))
 | 0 => fun _ _ _ _ _ _ r h => by simp [spec_DrawFindPattern.j0] at h
 | k + 1 => by
  have ih0 := spec_DrawFindPattern.mono_l k
  ·intro y0 y1 y2 y3 y4 y5
   unfold spec_DrawFindPattern.j0
   repeat' (with_reducible first|apply ih0|apply spec_l1Cur_anyOrder.mono|apply spec_l1Cur_names.mono|apply spec_orNames.mono|apply spec_orPart.mono|apply spec_orRelation.mono|apply LeO.refl|apply LeO.none|apply LeO.ite|apply LeO.bind|intro)
theorem spec_DrawFindPattern.mono : ∀ a0 k, LeO (spec_DrawFindPattern.f k a0) (spec_DrawFindPattern.f (k + 1) a0) := by
 intro a0 k
 have ih0 := spec_DrawFindPattern.mono_l k
 unfold spec_DrawFindPattern.f
 repeat' (with_reducible first|apply ih0|apply spec_l1Cur_anyOrder.mono|apply spec_l1Cur_names.mono|apply spec_orNames.mono|apply spec_orPart.mono|apply spec_orRelation.mono|apply LeO.refl|apply LeO.none|apply LeO.ite|apply LeO.bind|intro)
def spec_DrawFindPattern.T6 : Bool × List (List Nat × List Nat) := (true, [([], []), ([], []), ([], []), ([], []), ([3], [3]), ([], []), ([5], [5]), ([4, 6, 4], [4, 6]), ([2, 7], [2, 7]), ([1, 8, 7], [1, 8]), ([0, 9, 0], [0]), ([9, 10, 0, 1, 2, 3, 4, 5, 6, 7, 8, 9, 10], [9])])
def spec_DrawFindPattern.B6 : List Nat := [0, 0, 0, 0, 8, 0, 32, 120, 252, 510, 1023, 2047]
theorem spec_DrawFindPattern.tab6 : rtab .any (opsOf Tryd.f5 6) = spec_DrawFindPattern.T6 := by kernel_rfl
theorem spec_DrawFindPattern.bits6 : waitsOk spec_DrawFindPattern.T6.2 spec_DrawFindPattern.B6 = true := by kernel_rfl
theorem spec_DrawFindPattern.calls (k : Nat) (A0 : Option Addr) (c0 : Nat) (l0 : List Int) (r1 : Int) (r2 : List Int) (r3 : Int) (r4 : List Int) (w : World) (hr0 : Kd.C (Kd.int .u8) w A0 l0.length l0) (hc0 : l0.length ≤ c0) (h : spec_DrawFindPattern.f k l0 = some (r1, r2, r3, r4)) :
  Calls Tryd.prog 5 #[.slice A0 l0.length c0] w fun e w' => ∃ v1_ v3_ : Value, e = .returned (.tuple #[.agg #[.int .i64 r1, v1_], .agg #[.int .i64 r3, v3_]]) ∧ Kd.R (Kd.int .i64) 3 w' w.heap.size (fun k_ => some k_ ≠ (v3_ : Value).ownBlock) v1_ r2 ∧ Kd.R (Kd.int .i64) 3 w' w.heap.size (fun k_ => some k_ ≠ (v1_ : Value).ownBlock) v3_ r4 ∧ Below w.heap.size w w' := by
 have hu26 := Tryd.underlying26
 have hu43 := Tryd.underlying43
 have HR0 := mkA hr0
 have HC0 := mkA hc0
 clear hr0 hc0
 have HB := mkA (Below.refl w.heap.size w)
 have H := h
 clear h
 unfold spec_DrawFindPattern.f at H
 obtain ⟨⟨t273, t274, t277, t278⟩, A2, H⟩ := obE H
 dsimp only at H
 have HC3 := mkA H
 clear H
 go_enter Tryd.func5, Tryd.ntmps5
 go_upto_region 3 with (first | ((with_reducible refine gate_dst (N := 2) rfl ?_); refine boxG HB #[.int .i64 0, .slice none 0 0] 26 ?_; intro gb270 hg w4 BK270 GE270 hb; replace HB := bst HB hb; clear hb hg) | ((with_reducible refine gate_dst (N := 3) rfl ?_); refine boxG HB #[.int .i64 0, .slice none 0 0] 26 ?_; intro gb271 hg w5 BK271 GE271 hb; have NB270_271 := neL7 BK270 hg; have NB271_270 := neR7 BK270 hg; replace BK270 := blkB BK270 hb; replace HB := bst HB hb; clear hb hg) | ((with_reducible refine gate_dst (N := 9) rfl ?_); refine boxE (N := 9) (cs := #[.slice A0 l0.length c0, .int .i64 0, .int .u64 0]) (t := 43) ?_; intro gb272 hg w6 hbox hb; have HI272 := mkA ((⟨_, _, hbox, (by rw [hg]; exact (below_size (bel_g HB.out))), HR0.out⟩ : IsS43 w w6 gb272 l0 0 0)); have GE272 := geB HB hg; have NB270_272 := neL7 BK270 hg; have NB272_270 := neR7 BK270 hg; replace BK270 := blkB BK270 hb; have NB271_272 := neL7 BK271 hg; have NB272_271 := neR7 BK271 hg; replace BK271 := blkB BK271 hb; replace HB := bst HB hb; clear hb hbox hg) | ((with_reducible refine gate_callee (f := 15) rfl ?_); refine goesQ (some 11) Tryd.func15 #[.pointer (some ⟨gb272, 0, none⟩), .int .i64 7] ?_; (with_reducible refine (spec_l1Cur_anyOrder.calls k gb272 l0 0 0 7 t273 t274 t277 t278 w _ ?_ ?_ A2.out).mono ?_); exact st43_2 HI272.out NB272_270.out NB272_271.out; exact bl43_2 HB.out HI272.out GE270.out GE271.out; rintro e w7 ⟨v275, rfl, ho0, hi, hb, hk⟩; refine ⟨_, rfl, ?_⟩; replace BK270 := kB hk BK270; replace BK271 := kB hk BK271; have HO276 := mkA (Kd.R_lower ho0 (below_size (by exact bl43_2 HB.out HI272.out GE270.out GE271.out))); replace HI272 := mkA (hi); replace HB := mkA (hb); clear hb hk hi ho0) | ((with_reducible refine gate_dst (N := 5) rfl ?_); refine boxE (N := 5) (cs := #[.int .i64 0, .slice none 0 0]) (t := 26) ?_; intro gb279 hg w8 hbox hb; replace HO276 := rB HO276 hb; have BK279 := mkA (hbox); have GW279 := mkA ((by rw [hg]; exact (below_size (by exact bl43_2 HB.out HI272.out GE270.out GE271.out)) : w.heap.size ≤ gb279)); have GE279 := mkA ((by rw [hg]; exact (below_size (by exact bl43_2 HB.out HI272.out GE270.out GE271.out)) : w.heap.size ≤ gb279)); have NB270_279 := neL7 BK270 hg; have NB279_270 := neR7 BK270 hg; replace BK270 := blkB BK270 hb; have NB271_279 := neL7 BK271 hg; have NB279_271 := neR7 BK271 hg; replace BK271 := blkB BK271 hb; have NB272_279 : NeB _ _ := ⟨(by rw [hg]; exact Nat.ne_of_lt (IsS43.lt (show IsS43 w _ gb272 l0 t277 t278 from by exact st43_2 HI272.out NB272_270.out NB272_271.out)) : gb272 ≠ gb279)⟩; have NB279_272 : NeB _ _ := ⟨(by rw [hg]; exact Nat.ne_of_gt (IsS43.lt (show IsS43 w _ gb272 l0 t277 t278 from by exact st43_2 HI272.out NB272_270.out NB272_271.out)) : gb279 ≠ gb272)⟩; replace HB := mkA (below_step (by exact bl43_2 HB.out HI272.out GE270.out GE271.out) hb); replace HI272 := mkA (IsS43.below (by exact st43_2 HI272.out NB272_270.out NB272_271.out) hb); clear hb hbox hg; obtain ⟨_, _, _, _⟩ := blk2 BK279; obtain ⟨Ao13, co13, rfl⟩ := Kd.R_slice HO276.out))
 (try simp only [Act.put, List.setIfInBounds_toArray, List.set_cons_zero, List.set_cons_succ])
 go_cut [22] (fun v22 wc => ∃ (kq : Nat) (x22_2 : Bool) (x273001_2 : Int) (x273002_2 : Int), v22 = .bool x22_2 ∧ Fc (spec_DrawFindPattern.j0 kq x22_2 l0 x273001_2 x273002_2 t273 t274 = some (r1, r2, r3, r4)) ∧ Fc (kq ≤ k) ∧ Fc (Kd.R (Kd.int .i64) 3 wc w.heap.size (fun _ => True) (.slice Ao13 t274.length co13) t274) ∧ Fc (wc.heap[gb270]? = some (.cells #[.int .i64 0, (.slice none 0 0)] 26 (0, 0))) ∧ Fc (wc.heap[gb271]? = some (.cells #[.int .i64 0, (.slice none 0 0)] 26 (0, 0))) ∧ Fc (wc.heap[gb279]? = some (.cells #[.int .i64 t273, (.slice Ao13 t274.length co13)] 26 (0, 0))) ∧ Fc (IsS43 w wc gb272 l0 x273001_2 x273002_2) ∧ Fc (Below w.heap.size w wc))
 case first =>
  have H := HC3.out
  clear HC3
  obtain ⟨t280, A14, H⟩ := obE H
  by_cases c15 : t280 = true
  ·subst c15
   replace H := ifT H
   rcases iteP H with ⟨c16, H⟩ | ⟨c16, H⟩
   ·have c16b0 := decide_eq_true c16
    clear c16
    (first | rw [c16b0] | (simp only [i64_w, i32_w]; rw [c16b0]) | skip)
    obtain ⟨⟨t281, t282, t283⟩, A17, H⟩ := obE H
    dsimp only at H
    have H' := mkA H
    clear H
    obtain ⟨_, _, _, _⟩ := blk2 BK279
    go_wp2_with (first | ((with_reducible refine gate_callee (f := 16) rfl ?_); refine goesQ (some 13) Tryd.func16 #[.agg #[.int .i64 t273, .slice Ao13 t274.length co13]] ?_; (with_reducible refine (spec_orRelation.calls k t273 _ _ t274 true _ ?_ ?_ A14.out).mono ?_); exact rCF HO276 BK279; exact rL HO276; rintro e w22 ⟨rfl, hb⟩; refine ⟨_, rfl, ?_⟩; replace HO276 := mkA (Kd.R_below (rFg HO276 BK279) hb); replace BK270 := blkS BK270 hb; replace BK271 := blkS BK271 hb; replace BK279 := blkS BK279 hb; replace HB := mkA (below_step (by exact bl43_3 HB.out HI272.out GE270.out GE271.out GE279.out) hb); replace HI272 := mkA (IsS43.below (show IsS43 w ((w8.setCell ⟨gb279, 0, none⟩ (.int .i64 t273)).setCell ⟨gb279, 1, none⟩ (.slice Ao13 t274.length co13)) gb272 l0 t277 t278 from by exact st43_3 HI272.out NB272_270.out NB272_271.out NB272_279.out) hb); clear hb; obtain ⟨_, _, _, _⟩ := blk2 BK279) | (go_at_call 17; (with_reducible refine (spec_l1Cur_one.calls gb272 l0 t277 t278 2 t281 t282 t283 w _ ?_ ?_ A17.out).mono ?_); exact st43_3 HI272.out NB272_270.out NB272_271.out NB272_279.out; exact bl43_3 HB.out HI272.out GE270.out GE271.out GE279.out; rintro e w24 ⟨rfl, hi, hb, hk⟩; replace BK270 := kB hk BK270; replace BK271 := kB hk BK271; replace HO276 := rK (IsS43.apart (show IsS43 w _ gb272 l0 t277 t278 from by exact st43_3 HI272.out NB272_270.out NB272_271.out NB272_279.out) (Kd.R_g HO276.out) (by decide)) hk; replace BK279 := kB hk BK279; replace HI272 := mkA (hi); replace HB := mkA (hb); clear hb hk hi))
    go_meet
    case rel => exact ⟨_, (t281), (t282), (t283), eqS, H', ⟨by first | omega | exact Nat.le_refl _⟩, rg HO276, bg BK270, bg BK271, bg BK279, ⟨by exact st43_3 HI272.out NB272_270.out NB272_271.out NB272_279.out⟩, ⟨by exact bl43_3 HB.out HI272.out GE270.out GE271.out GE279.out⟩⟩
   ·have c16b0 := decide_eq_false c16
    clear c16
    (first | rw [c16b0] | (simp only [i64_w, i32_w]; rw [c16b0]) | skip)
    have H' := mkA H
    clear H
    obtain ⟨_, _, _, _⟩ := blk2 BK279
    go_wp2_with (first | ((with_reducible refine gate_callee (f := 16) rfl ?_); refine goesQ (some 13) Tryd.func16 #[.agg #[.int .i64 t273, .slice Ao13 t274.length co13]] ?_; (with_reducible refine (spec_orRelation.calls k t273 _ _ t274 true _ ?_ ?_ A14.out).mono ?_); exact rCF HO276 BK279; exact rL HO276; rintro e w29 ⟨rfl, hb⟩; refine ⟨_, rfl, ?_⟩; replace HO276 := mkA (Kd.R_below (rFg HO276 BK279) hb); replace BK270 := blkS BK270 hb; replace BK271 := blkS BK271 hb; replace BK279 := blkS BK279 hb; replace HB := mkA (below_step (by exact bl43_3 HB.out HI272.out GE270.out GE271.out GE279.out) hb); replace HI272 := mkA (IsS43.below (show IsS43 w ((w8.setCell ⟨gb279, 0, none⟩ (.int .i64 t273)).setCell ⟨gb279, 1, none⟩ (.slice Ao13 t274.length co13)) gb272 l0 t277 t278 from by exact st43_3 HI272.out NB272_270.out NB272_271.out NB272_279.out) hb); clear hb; obtain ⟨_, _, _, _⟩ := blk2 BK279))
    go_meet
    case rel => exact ⟨_, (false), (t277), (t278), eqS, H', ⟨by first | omega | exact Nat.le_refl _⟩, rg HO276, bg BK270, bg BK271, bg BK279, ⟨by exact st43_3 HI272.out NB272_270.out NB272_271.out NB272_279.out⟩, ⟨by exact bl43_3 HB.out HI272.out GE270.out GE271.out GE279.out⟩⟩
  ·replace c15 := Bool.eq_false_iff.mpr c15
   subst c15
   replace H := ifF H
   have H' := mkA H
   clear H
   obtain ⟨_, _, _, _⟩ := blk2 BK279
   go_wp2_with (first | ((with_reducible refine gate_callee (f := 16) rfl ?_); refine goesQ (some 13) Tryd.func16 #[.agg #[.int .i64 t273, .slice Ao13 t274.length co13]] ?_; (with_reducible refine (spec_orRelation.calls k t273 _ _ t274 false _ ?_ ?_ A14.out).mono ?_); exact rCF HO276 BK279; exact rL HO276; rintro e w35 ⟨rfl, hb⟩; refine ⟨_, rfl, ?_⟩; replace HO276 := mkA (Kd.R_below (rFg HO276 BK279) hb); replace BK270 := blkS BK270 hb; replace BK271 := blkS BK271 hb; replace BK279 := blkS BK279 hb; replace HB := mkA (below_step (by exact bl43_3 HB.out HI272.out GE270.out GE271.out GE279.out) hb); replace HI272 := mkA (IsS43.below (show IsS43 w ((w8.setCell ⟨gb279, 0, none⟩ (.int .i64 t273)).setCell ⟨gb279, 1, none⟩ (.slice Ao13 t274.length co13)) gb272 l0 t277 t278 from by exact st43_3 HI272.out NB272_270.out NB272_271.out NB272_279.out) hb); clear hb))
   go_meet
   case rel => exact ⟨_, (false), (t277), (t278), eqS, H', ⟨by first | omega | exact Nat.le_refl _⟩, rg HO276, bg BK270, bg BK271, bg BK279, ⟨by exact st43_3 HI272.out NB272_270.out NB272_271.out NB272_279.out⟩, ⟨by exact bl43_3 HB.out HI272.out GE270.out GE271.out GE279.out⟩⟩
 case rest =>
  clear HC3
  try clear c15
  try clear c16
  try clear c16b0
  obtain ⟨kq, x22_2, x273001_2, x273002_2, rfl, HA, HJ2, HO_280001, BK270, BK271, BK279, HI272, HB⟩ := hcut
  cases kq with
  | zero => exact absurd HA.out (by simp [spec_DrawFindPattern.j0])
  | succ kj2 =>
   have H := HA.out
   clear HA
   simp only [spec_DrawFindPattern.j0] at H
   by_cases c36 : x22_2 = true
   ·subst c36
    replace H := ifT H
    obtain ⟨⟨t284, t287, t288⟩, A37, H⟩ := obE H
    dsimp only at H
    obtain ⟨t289, A38, H⟩ := obE H
    by_cases c39 : t289 = true
    ·subst c39
     replace H := ifT H
     obtain ⟨⟨t290, t291, t292⟩, A40, H⟩ := obE H
     dsimp only at H
     obtain ⟨t293, A41, H⟩ := obE H
     obtain ⟨c42b0, c42b1, H⟩ := itNQ H
     obtain ⟨c43b0, c43b1, H⟩ := itNQ H
     obtain ⟨y294, hy294⟩ : ∃ y_ : List Int, y_ = (t284.take (t293 : Int).toNat) := ⟨_, rfl⟩
     rw [← hy294] at H
     have Ny294 := mkA hy294
     clear hy294
     obtain ⟨⟨t298, t299⟩, A44, H⟩ := obE H
     dsimp only at H
     simp only [Option.some.injEq, Prod.mk.injEq] at H
     obtain ⟨rfl, rfl, rfl, rfl⟩ := H
     obtain ⟨_, _, _, _⟩ := blk2 BK279
     try go_wp2_with (first | ((with_reducible refine gate_callee (f := 18) rfl ?_); refine goesQ (some 26) Tryd.func18 #[.pointer (some ⟨gb272, 0, none⟩), .int .i64 t273] ?_; (with_reducible refine (spec_l1Cur_names.calls kj2 gb272 l0 x273001_2 x273002_2 t273 t284 t287 t288 w _ ?_ ?_ A37.out).mono ?_); exact st43_3 HI272.out NB272_270.out NB272_271.out NB272_279.out; exact bl43_3 HB.out HI272.out GE270.out GE271.out GE279.out; rintro e w49 ⟨v285, rfl, ho0, hi, hb, hk⟩; refine ⟨_, rfl, ?_⟩; replace BK270 := kB hk BK270; replace BK271 := kB hk BK271; replace BK279 := kB hk BK279; have HO286 := mkA (Kd.R_lower (rN ho0 HO_280001) (below_size (by exact bl43_3 HB.out HI272.out GE270.out GE271.out GE279.out))); replace HO_280001 := mkA (Kd.R_mono (Kd.R_told (Kd.R_oldK (IsS43.apart (show IsS43 w _ gb272 l0 x273001_2 x273002_2 from by exact st43_3 HI272.out NB272_270.out NB272_271.out NB272_279.out) (Kd.R_g HO_280001.out) (by decide)) hk) (Kd.R_base ho0)) (fun _ h_ => h_.1)); replace HI272 := mkA (hi); replace HB := mkA (hb); clear hb hk hi ho0; obtain ⟨_, _, _, _⟩ := blk2 BK279; obtain ⟨Ao51, co51, rfl⟩ := Kd.R_slice HO286.out) | ((with_reducible refine gate_callee (f := 19) rfl ?_); refine goesQ (some 30) Tryd.func19 #[.int .i64 t273, .slice Ao51 t284.length co51] ?_; (with_reducible refine (spec_orNames.calls kj2 t273 _ _ t284 true _ ?_ ?_ A38.out).mono ?_); exact rC HO286; exact rL HO286; rintro e w' ⟨rfl, ⟨nd, rfl⟩⟩; refine ⟨_, rfl, ?_⟩; (try (rw [drewN_self w49]; generalize hq_ : World.drewN w49 _ = w49; have n0_ : Fc (Kd.R (Kd.int .i64) 3 w49 w.heap.size (fun k_ => some k_ ≠ (.slice Ao13 t274.length co13 : Value).ownBlock) (.slice Ao51 t284.length co51) t284) := ⟨by rw [← hq_]; exact (Kd.R_g (Kd.R_mono HO286.out (fun _ hk => hk.2)))⟩; have n1_ : Fc (Kd.R (Kd.int .i64) 3 w49 w.heap.size (fun k_ => some k_ ≠ (.slice Ao51 t284.length co51 : Value).ownBlock) (.slice Ao13 t274.length co13) t274) := ⟨by rw [← hq_]; exact (Kd.R_g (Kd.R_mono HO_280001.out (fun _ hk => hk.2)))⟩; have n2_ : Fc (w49.heap[gb270]? = some (.cells #[.int .i64 0, .slice none 0 0] 26 (0, 0))) := ⟨by rw [← hq_]; exact (blk_g BK270.out)⟩; have n3_ : Fc (w49.heap[gb271]? = some (.cells #[.int .i64 0, .slice none 0 0] 26 (0, 0))) := ⟨by rw [← hq_]; exact (blk_g BK271.out)⟩; have n4_ : Fc (w49.heap[gb279]? = some (.cells #[.int .i64 t273, .slice Ao13 t274.length co13] 26 (0, 0))) := ⟨by rw [← hq_]; exact (blk_g BK279.out)⟩; have n5_ : Fc (IsS43 w w49 gb272 l0 t287 t288) := ⟨by rw [← hq_]; exact (by exact st43_3 HI272.out NB272_270.out NB272_271.out NB272_279.out)⟩; have n6_ : Fc (Below w.heap.size w w49) := ⟨by rw [← hq_]; exact (by exact bl43_3 HB.out HI272.out GE270.out GE271.out GE279.out)⟩; clear HO286 HO_280001 BK270 BK271 BK279 HI272 HB hq_; have HO286 := n0_; have HO_280001 := n1_; have BK270 := n2_; have BK271 := n3_; have BK279 := n4_; have HI272 := n5_; have HB := n6_; clear n0_ n1_ n2_ n3_ n4_ n5_ n6_)); (try obtain ⟨_, _, _, _⟩ := blk2 BK270); (try obtain ⟨_, _, _, _⟩ := blk2 BK271); (try obtain ⟨_, _, _, _⟩ := blk2 BK279)))
     replace HO_280001 := mkA (Kd.R_drew HO_280001.out)
     replace HO286 := mkA (Kd.R_drew HO286.out)
     replace BK270 := mkA (blk_drew BK270.out)
     replace BK271 := mkA (blk_drew BK271.out)
     replace BK279 := mkA (blk_drew BK279.out)
     replace HI272 := mkA (IsS43.drew HI272.out)
     replace HB := mkA (below_drew1 HB.out)
     refine start_ (n := 12) (S := fun w' => w'.cell? ⟨gb279, 0, none⟩ = some (.int .i64 t273) ∧ w'.cell? ⟨gb279, 1, none⟩ = some (.slice Ao13 t274.length co13)) (ds := []) (bm 12 0) (by kernel_rfl) rfl (by kernel_rfl) ⟨(blk_cell BK279.out 0).trans rfl, (blk_cell BK279.out 1).trans rfl⟩ (fun hHeld => ?_); refine with_tabW spec_DrawFindPattern.tab6 spec_DrawFindPattern.bits6 (fun HT_ HW_ => ?_)
     generalize w49.drew = w52 at HO_280001 HO286 BK270 BK271 BK279 HI272 HB hHeld ⊢
     refine purW 2 33 12 4 HT_ ?_
     refine purW 3 34 12 12 HT_ ?_
     refine purW 5 36 12 44 HT_ ?_
     refine takeW 0 (some 31) (bm 12 45) HT_ HW_ hHeld ?_
     refine takeW 1 (some 32) (bm 12 47) HT_ HW_ hHeld ?_
     refine takeW 6 (some 37) (bm 12 111) HT_ HW_ hHeld ?_
     refine oneW 4 (some 35) (bm 12 127) HT_ (fun K hK => ?_)
     refine goesR Tryd.func22 #[.pointer (some ⟨gb272, 0, none⟩), .int .i64 5] ?_
     with_reducible refine (spec_l1Cur_pick.calls gb272 l0 t287 t288 5 t290 t291 t292 w _ ?s1 ?s2 A40.out).mono ?_
     (case s1 => exact st43_3 HI272.out NB272_270.out NB272_271.out NB272_279.out)
     (case s2 => exact bl43_3 HB.out HI272.out GE270.out GE271.out GE279.out)
     rintro e w53 ⟨rfl, hi, hb, hk⟩
     refine ⟨_, rfl, ?_⟩
     replace HO_280001 := rK (IsS43.apart (show IsS43 w _ gb272 l0 t287 t288 from by exact st43_3 HI272.out NB272_270.out NB272_271.out NB272_279.out) (Kd.R_g HO_280001.out) (by decide)) hk
     replace BK270 := kB hk BK270
     replace BK271 := kB hk BK271
     replace BK279 := kB hk BK279
     replace HO286 := rK (IsS43.apart (show IsS43 w _ gb272 l0 t287 t288 from by exact st43_3 HI272.out NB272_270.out NB272_271.out NB272_279.out) (Kd.R_g HO286.out) (by decide)) hk
     replace HI272 := mkA (hi)
     replace HB := mkA (hb)
     (try clear hb)
     (try clear hb2)
     (try clear hk)
     (try clear hi)
     refine hK.out _ _ ⟨(blk_cell BK279.out 0).trans rfl, (blk_cell BK279.out 1).trans rfl⟩ (fun hHeld => ?_)
     clear hK K
     refine normW 35 ?_
     refine oneW 7 (some 38) (bm 12 255) HT_ (fun K hK => ?_)
     refine goesR Tryd.func21 #[.int .i64 t290, .int .i64 t273] ?_
     with_reducible refine (spec_l1Least.calls t290 t273 t293 _ A41.out).mono ?_
     rintro e w' ⟨rfl, ⟨nd, rfl⟩⟩
     refine ⟨_, rfl, ?_⟩
     have q54 : (t293 : Int) ≤ ((t284.length : Int) : Int) := ofd
     obtain ⟨i054, hi054, _, hsz54, _⟩ := info_parts info3
     have hroom54 : t284.length ≤ co51 := (Kd.R_reads' HO286.out).2.1
     have hC54 : Kd.C (Kd.int .i64) _ Ao51 t284.length t284 := (Kd.R_reads' HO286.out).2.2
     have hcut54 := cut_to (P := Tryd.prog) 24 3 .i64 Tryd.underlying24 hi054 Ao51 t284.length co51 t293 (ofd) q54 hroom54
     have hr54 := Kd.C_take (m := (t293 : Int).toNat) hC54 (by omega)
     have hy54 : y294.length = (t293 : Int).toNat := (by rw [Ny294.out, List.length_take]; omega)
     rw [← Ny294.out] at hr54
     rw [← hy54] at hcut54
     have HR297 := mkA hr54
     have HC297 := mkA (show y294.length ≤ co51 from by omega)
     clear hr54 hC54 hroom54 hi054 hsz54
     have KY54 := mkA hy54
     clear hy54
     have KL54 := mkA (show (t293 : Int).toNat ≤ t284.length from by omega)
     replace q54 := eq_true q54
     refine hK.out _ _ ⟨(blk_cell BK279.out 0).trans rfl, (blk_cell BK279.out 1).trans rfl⟩ (fun hHeld => ?_)
     clear hK K
     refine normW 38 ?_
     refine purW 8 39 12 511 HT_ ?_
     refine oneW 9 (some 40) (bm 12 1023) HT_ (fun K hK => ?_)
     refine goesR Tryd.func20 #[.agg #[.int .i64 t273, .slice Ao13 t274.length co13], .slice Ao51 y294.length co51] ?_
     with_reducible refine (spec_orPart.calls kj2 t273 _ _ t274 _ _ y294 t298 t299 _ ?s1 ?s2 ?s3 ?s4 A44.out).mono ?_
     (case s1 => exact rC HO_280001)
     (case s2 => exact rL HO_280001)
     (case s3 => exact C_h HR297)
     (case s4 => exact HC297.out)
     rintro e w55 ⟨v300, rfl, ho0, hb⟩
     refine ⟨_, rfl, ?_⟩
     have HO301 := mkA (Kd.R_lower (rN (rN ho0 HO_280001) HO286) (below_size (by exact bl43_3 HB.out HI272.out GE270.out GE271.out GE279.out)))
     replace HO_280001 := rE HO_280001 ho0 hb
     replace HO286 := rE HO286 ho0 hb
     replace BK270 := blkB BK270 hb
     replace BK271 := blkB BK271 hb
     replace BK279 := blkB BK279 hb
     replace HR297 := mkA (Kd.C_below (C_h HR297) hb)
     replace HB := mkA (below_step (by exact bl43_3 HB.out HI272.out GE270.out GE271.out GE279.out) hb)
     replace HI272 := mkA (IsS43.below (by exact st43_3 HI272.out NB272_270.out NB272_271.out NB272_279.out) hb)
     (try clear hb)
     (try clear hb2)
     (try clear hk)
     (try clear hi)
     (try clear ho0)
     obtain ⟨Ao59, co59, eo59⟩ := Kd.R_slice HO301.out
     (first | subst eo59 | (injection eo59 with f1_ f2_ f3_; have f4_ := f1_.symm; have f5_ := f3_.symm; clear f1_ f2_ f3_; subst f4_; subst f5_))
     refine hK.out _ _ ⟨(blk_cell BK279.out 0).trans rfl, (blk_cell BK279.out 1).trans rfl⟩ (fun hHeld => ?_)
     clear hK K
     refine normW 40 ?_
     refine oneW 10 (none) (bm 12 2047) HT_ (fun K hK => ?_)
     obtain ⟨_, _, _, _⟩ := blk2 BK270
     refine skip_ (w1 := ?_) (by rfl) rfl ?_ ?_
     rotate_left
     ·go_simp
      rfl
     refine hK.out _ _ ⟨(cF (cF hHeld.1)), (cF (cF hHeld.2))⟩ (fun hHeld => ?_)
     clear hK K
     refine oneW 11 (none) (bm 12 4095) HT_ (fun K hK => ?_)
     obtain ⟨_, _, _, _⟩ := blk2 BK271
     refine skip_ (w1 := ?_) (by rfl) rfl ?_ ?_
     rotate_left
     ·go_simp
      rfl
     refine hK.out _ _ ⟨(cF (cF hHeld.1)), (cF (cF hHeld.2))⟩ (fun hHeld => ?_)
     clear hK K
     refine doneW HT_ ?_
     try go_wp2
     refine bodyPost_ret (results_cc rfl _ _ gb270 gb271 26 26 #[.int .i64 t273, .slice Ao13 t274.length co13] #[.int .i64 t298, .slice Ao59 t299.length co59] (0, 0) (0, 0) _ _ rfl (blkT BK270) Tryd.underlying26 rfl (by kernel_rfl) rfl (blkT BK271) Tryd.underlying26 rfl (by kernel_rfl)) rfl ?_
     exact ⟨_, _, eqE, Kd.R_g (Kd.R_mono (Kd.R_far (p := ⟨gb271, 1, none⟩) (Kd.R_far (p := ⟨gb271, 0, none⟩) (Kd.R_far (p := ⟨gb270, 1, none⟩) (Kd.R_far (p := ⟨gb270, 0, none⟩) (Kd.R_types (Kd.R_types HO_280001.out BK270.out (by decide)) BK271.out (by decide)) (fun _ hk => hk.1.2) (.int .i64 t273)) (fun _ hk => hk.1.2) (.slice Ao13 t274.length co13)) (fun _ hk => hk.2) (.int .i64 t298)) (fun _ hk => hk.2) (.slice Ao59 t299.length co59)) (fun _ hk => hk.1.1.2)), Kd.R_g (Kd.R_mono (Kd.R_far (p := ⟨gb271, 1, none⟩) (Kd.R_far (p := ⟨gb271, 0, none⟩) (Kd.R_far (p := ⟨gb270, 1, none⟩) (Kd.R_far (p := ⟨gb270, 0, none⟩) (Kd.R_types (Kd.R_types HO301.out BK270.out (by decide)) BK271.out (by decide)) (fun _ hk => hk.1.2) (.int .i64 t273)) (fun _ hk => hk.1.2) (.slice Ao13 t274.length co13)) (fun _ hk => hk.2) (.int .i64 t298)) (fun _ hk => hk.2) (.slice Ao59 t299.length co59)) (fun _ hk => hk.1.1.1.2)), by exact bl43_3 HB.out HI272.out GE270.out GE271.out GE279.out⟩
    ·replace c39 := Bool.eq_false_iff.mpr c39
     subst c39
     replace H := ifF H
     obtain ⟨⟨t302, t303, t306, t307⟩, A61, H⟩ := obE H
     dsimp only at H
     simp only [Option.some.injEq, Prod.mk.injEq] at H
     obtain ⟨rfl, rfl, rfl, rfl⟩ := H
     obtain ⟨_, _, _, _⟩ := blk2 BK279
     try go_wp2_with (first | ((with_reducible refine gate_callee (f := 18) rfl ?_); refine goesQ (some 26) Tryd.func18 #[.pointer (some ⟨gb272, 0, none⟩), .int .i64 t273] ?_; (with_reducible refine (spec_l1Cur_names.calls kj2 gb272 l0 x273001_2 x273002_2 t273 t284 t287 t288 w _ ?_ ?_ A37.out).mono ?_); exact st43_3 HI272.out NB272_270.out NB272_271.out NB272_279.out; exact bl43_3 HB.out HI272.out GE270.out GE271.out GE279.out; rintro e w66 ⟨v285, rfl, ho0, hi, hb, hk⟩; refine ⟨_, rfl, ?_⟩; replace BK270 := kB hk BK270; replace BK271 := kB hk BK271; replace BK279 := kB hk BK279; have HO286 := mkA (Kd.R_lower (rN ho0 HO_280001) (below_size (by exact bl43_3 HB.out HI272.out GE270.out GE271.out GE279.out))); replace HO_280001 := mkA (Kd.R_mono (Kd.R_told (Kd.R_oldK (IsS43.apart (show IsS43 w _ gb272 l0 x273001_2 x273002_2 from by exact st43_3 HI272.out NB272_270.out NB272_271.out NB272_279.out) (Kd.R_g HO_280001.out) (by decide)) hk) (Kd.R_base ho0)) (fun _ h_ => h_.1)); replace HI272 := mkA (hi); replace HB := mkA (hb); clear hb hk hi ho0; obtain ⟨_, _, _, _⟩ := blk2 BK279; obtain ⟨Ao68, co68, rfl⟩ := Kd.R_slice HO286.out) | ((with_reducible refine gate_callee (f := 19) rfl ?_); refine goesQ (some 30) Tryd.func19 #[.int .i64 t273, .slice Ao68 t284.length co68] ?_; (with_reducible refine (spec_orNames.calls kj2 t273 _ _ t284 false _ ?_ ?_ A38.out).mono ?_); exact rC HO286; exact rL HO286; rintro e w' ⟨rfl, ⟨nd, rfl⟩⟩; refine ⟨_, rfl, ?_⟩; (try (rw [drewN_self w66]; generalize hq_ : World.drewN w66 _ = w66; have n0_ : Fc (Kd.R (Kd.int .i64) 3 w66 w.heap.size (fun k_ => some k_ ≠ (.slice Ao13 t274.length co13 : Value).ownBlock) (.slice Ao68 t284.length co68) t284) := ⟨by rw [← hq_]; exact (Kd.R_g (Kd.R_mono HO286.out (fun _ hk => hk.2)))⟩; have n1_ : Fc (Kd.R (Kd.int .i64) 3 w66 w.heap.size (fun k_ => some k_ ≠ (.slice Ao68 t284.length co68 : Value).ownBlock) (.slice Ao13 t274.length co13) t274) := ⟨by rw [← hq_]; exact (Kd.R_g (Kd.R_mono HO_280001.out (fun _ hk => hk.2)))⟩; have n2_ : Fc (w66.heap[gb270]? = some (.cells #[.int .i64 0, .slice none 0 0] 26 (0, 0))) := ⟨by rw [← hq_]; exact (blk_g BK270.out)⟩; have n3_ : Fc (w66.heap[gb271]? = some (.cells #[.int .i64 0, .slice none 0 0] 26 (0, 0))) := ⟨by rw [← hq_]; exact (blk_g BK271.out)⟩; have n4_ : Fc (w66.heap[gb279]? = some (.cells #[.int .i64 t273, .slice Ao13 t274.length co13] 26 (0, 0))) := ⟨by rw [← hq_]; exact (blk_g BK279.out)⟩; have n5_ : Fc (IsS43 w w66 gb272 l0 t287 t288) := ⟨by rw [← hq_]; exact (by exact st43_3 HI272.out NB272_270.out NB272_271.out NB272_279.out)⟩; have n6_ : Fc (Below w.heap.size w w66) := ⟨by rw [← hq_]; exact (by exact bl43_3 HB.out HI272.out GE270.out GE271.out GE279.out)⟩; clear HO286 HO_280001 BK270 BK271 BK279 HI272 HB hq_; have HO286 := n0_; have HO_280001 := n1_; have BK270 := n2_; have BK271 := n3_; have BK279 := n4_; have HI272 := n5_; have HB := n6_; clear n0_ n1_ n2_ n3_ n4_ n5_ n6_)); (try obtain ⟨_, _, _, _⟩ := blk2 BK270); (try obtain ⟨_, _, _, _⟩ := blk2 BK271); (try obtain ⟨_, _, _, _⟩ := blk2 BK279)))
     replace HO_280001 := mkA (Kd.R_drew HO_280001.out)
     replace HO286 := mkA (Kd.R_drew HO286.out)
     replace BK270 := mkA (blk_drew BK270.out)
     replace BK271 := mkA (blk_drew BK271.out)
     replace BK279 := mkA (blk_drew BK279.out)
     replace HI272 := mkA (IsS43.drew HI272.out)
     replace HB := mkA (below_drew1 HB.out)
     refine start_ (n := 5) (S := fun w' => w'.cell? ⟨gb279, 0, none⟩ = some (.int .i64 t273) ∧ w'.cell? ⟨gb279, 1, none⟩ = some (.slice Ao13 t274.length co13)) (ds := []) (bm 5 0) (by kernel_rfl) rfl (by kernel_rfl) ⟨(blk_cell BK279.out 0).trans rfl, (blk_cell BK279.out 1).trans rfl⟩ (fun hHeld => ?_)
     generalize w66.drew = w69 at HO_280001 HO286 BK270 BK271 BK279 HI272 HB hHeld ⊢
     refine pure_ (i := 1) (N := some 42) (v := ?_) (a' := ?_) (bm 5 2) rfl rfl (by kernel_rfl) (fun _ _ _ h => h) (Or.inl ⟨by rfl, ?_⟩) ?_ ?_
     rotate_left
     ·intro w'
      go_simp
      with_reducible rfl
     rotate_left
     ·simp only [Act.put, List.setIfInBounds_toArray, List.set_cons_zero, List.set_cons_succ, i64_w, i32_w]
      rfl
     refine take_ (i := 0) (N := some 41) (v := ?_) (a' := ?_) (bm 5 3) rfl rfl (by kernel_rfl) (fun _ _ _ h => h) (Or.inl ⟨by rfl, ?_⟩) hHeld ?_ ?_
     rotate_left
     ·rintro w' ⟨s0, s1⟩
      go_simp
      with_reducible rfl
     rotate_left
     ·simp only [Act.put, List.setIfInBounds_toArray, List.set_cons_zero, List.set_cons_succ, i64_w, i32_w]
      rfl
     refine one_ (i := 2) (N := some 43) (bm 5 7) rfl rfl (by kernel_rfl) (by decide) (fun K hK => ?_)
     refine goesR Tryd.func15 #[.pointer (some ⟨gb272, 0, none⟩), .int .i64 5] ?_
     with_reducible refine (spec_l1Cur_anyOrder.calls kj2 gb272 l0 t287 t288 5 t302 t303 t306 t307 w _ ?s1 ?s2 A61.out).mono ?_
     (case s1 => exact st43_3 HI272.out NB272_270.out NB272_271.out NB272_279.out)
     (case s2 => exact bl43_3 HB.out HI272.out GE270.out GE271.out GE279.out)
     rintro e w70 ⟨v304, rfl, ho0, hi, hb, hk⟩
     refine ⟨_, rfl, ?_⟩
     replace BK270 := kB hk BK270
     replace BK271 := kB hk BK271
     replace BK279 := kB hk BK279
     have HO305 := mkA (Kd.R_lower (rN (rN ho0 HO_280001) HO286) (below_size (by exact bl43_3 HB.out HI272.out GE270.out GE271.out GE279.out)))
     replace HO_280001 := mkA (Kd.R_mono (Kd.R_told (Kd.R_oldK (IsS43.apart (show IsS43 w _ gb272 l0 t287 t288 from by exact st43_3 HI272.out NB272_270.out NB272_271.out NB272_279.out) (Kd.R_g HO_280001.out) (by decide)) hk) (Kd.R_base ho0)) (fun _ h_ => h_.1))
     replace HO286 := mkA (Kd.R_mono (Kd.R_told (Kd.R_oldK (IsS43.apart (show IsS43 w _ gb272 l0 t287 t288 from by exact st43_3 HI272.out NB272_270.out NB272_271.out NB272_279.out) (Kd.R_g HO286.out) (by decide)) hk) (Kd.R_base ho0)) (fun _ h_ => h_.1))
     replace HI272 := mkA (hi)
     replace HB := mkA (hb)
     (try clear hb)
     (try clear hb2)
     (try clear hk)
     (try clear hi)
     (try clear ho0)
     obtain ⟨Ao74, co74, eo74⟩ := Kd.R_slice HO305.out
     (first | subst eo74 | (injection eo74 with f1_ f2_ f3_; have f4_ := f1_.symm; have f5_ := f3_.symm; clear f1_ f2_ f3_; subst f4_; subst f5_))
     refine hK.out _ _ ⟨(blk_cell BK279.out 0).trans rfl, (blk_cell BK279.out 1).trans rfl⟩ (fun hHeld => ?_)
     clear hK K
     refine normW 43 ?_
     refine one_ (i := 3) (N := none) (bm 5 15) rfl rfl (by kernel_rfl) (by decide) (fun K hK => ?_)
     obtain ⟨_, _, _, _⟩ := blk2 BK270
     refine skip_ (w1 := ?_) (by rfl) rfl ?_ ?_
     rotate_left
     ·go_simp
      rfl
     refine hK.out _ _ ⟨(cF (cF hHeld.1)), (cF (cF hHeld.2))⟩ (fun hHeld => ?_)
     clear hK K
     refine one_ (i := 4) (N := none) (bm 5 31) rfl rfl (by kernel_rfl) (by decide) (fun K hK => ?_)
     obtain ⟨_, _, _, _⟩ := blk2 BK271
     refine skip_ (w1 := ?_) (by rfl) rfl ?_ ?_
     rotate_left
     ·go_simp
      rfl
     refine hK.out _ _ ⟨(cF (cF hHeld.1)), (cF (cF hHeld.2))⟩ (fun hHeld => ?_)
     clear hK K
     refine done_ (by kernel_rfl) ?_
     try go_wp2
     refine bodyPost_ret (results_cc rfl _ _ gb270 gb271 26 26 #[.int .i64 t273, .slice Ao13 t274.length co13] #[.int .i64 t302, .slice Ao74 t303.length co74] (0, 0) (0, 0) _ _ rfl (blkT BK270) Tryd.underlying26 rfl (by kernel_rfl) rfl (blkT BK271) Tryd.underlying26 rfl (by kernel_rfl)) rfl ?_
     exact ⟨_, _, eqE, Kd.R_g (Kd.R_mono (Kd.R_far (p := ⟨gb271, 1, none⟩) (Kd.R_far (p := ⟨gb271, 0, none⟩) (Kd.R_far (p := ⟨gb270, 1, none⟩) (Kd.R_far (p := ⟨gb270, 0, none⟩) (Kd.R_types (Kd.R_types HO_280001.out BK270.out (by decide)) BK271.out (by decide)) (fun _ hk => hk.1.2) (.int .i64 t273)) (fun _ hk => hk.1.2) (.slice Ao13 t274.length co13)) (fun _ hk => hk.2) (.int .i64 t302)) (fun _ hk => hk.2) (.slice Ao74 t303.length co74)) (fun _ hk => hk.1.1.2)), Kd.R_g (Kd.R_mono (Kd.R_far (p := ⟨gb271, 1, none⟩) (Kd.R_far (p := ⟨gb271, 0, none⟩) (Kd.R_far (p := ⟨gb270, 1, none⟩) (Kd.R_far (p := ⟨gb270, 0, none⟩) (Kd.R_types (Kd.R_types HO305.out BK270.out (by decide)) BK271.out (by decide)) (fun _ hk => hk.1.2) (.int .i64 t273)) (fun _ hk => hk.1.2) (.slice Ao13 t274.length co13)) (fun _ hk => hk.2) (.int .i64 t302)) (fun _ hk => hk.2) (.slice Ao74 t303.length co74)) (fun _ hk => hk.1.1.1.2)), by exact bl43_3 HB.out HI272.out GE270.out GE271.out GE279.out⟩
   ·replace c36 := Bool.eq_false_iff.mpr c36
    subst c36
    replace H := ifF H
    obtain ⟨⟨t308, t309, t312, t313⟩, A76, H⟩ := obE H
    dsimp only at H
    simp only [Option.some.injEq, Prod.mk.injEq] at H
    obtain ⟨rfl, rfl, rfl, rfl⟩ := H
    try go_wp2
    replace HO_280001 := mkA (Kd.R_drew HO_280001.out)
    replace BK270 := mkA (blk_drew BK270.out)
    replace BK271 := mkA (blk_drew BK271.out)
    replace BK279 := mkA (blk_drew BK279.out)
    replace HI272 := mkA (IsS43.drew HI272.out)
    replace HB := mkA (below_drew1 HB.out)
    refine start_ (n := 5) (S := fun w' => w'.cell? ⟨gb279, 0, none⟩ = some (.int .i64 t273) ∧ w'.cell? ⟨gb279, 1, none⟩ = some (.slice Ao13 t274.length co13)) (ds := []) (bm 5 0) (by kernel_rfl) rfl (by kernel_rfl) ⟨(blk_cell BK279.out 0).trans rfl, (blk_cell BK279.out 1).trans rfl⟩ (fun hHeld => ?_)
    generalize wc.drew = w77 at HO_280001 BK270 BK271 BK279 HI272 HB hHeld ⊢
    refine pure_ (i := 1) (N := some 42) (v := ?_) (a' := ?_) (bm 5 2) rfl rfl (by kernel_rfl) (fun _ _ _ h => h) (Or.inl ⟨by rfl, ?_⟩) ?_ ?_
    rotate_left
    ·intro w'
     go_simp
     with_reducible rfl
    rotate_left
    ·simp only [Act.put, List.setIfInBounds_toArray, List.set_cons_zero, List.set_cons_succ, i64_w, i32_w]
     rfl
    refine take_ (i := 0) (N := some 41) (v := ?_) (a' := ?_) (bm 5 3) rfl rfl (by kernel_rfl) (fun _ _ _ h => h) (Or.inl ⟨by rfl, ?_⟩) hHeld ?_ ?_
    rotate_left
    ·rintro w' ⟨s0, s1⟩
     go_simp
     with_reducible rfl
    rotate_left
    ·simp only [Act.put, List.setIfInBounds_toArray, List.set_cons_zero, List.set_cons_succ, i64_w, i32_w]
     rfl
    refine one_ (i := 2) (N := some 43) (bm 5 7) rfl rfl (by kernel_rfl) (by decide) (fun K hK => ?_)
    refine goesR Tryd.func15 #[.pointer (some ⟨gb272, 0, none⟩), .int .i64 5] ?_
    with_reducible refine (spec_l1Cur_anyOrder.calls kj2 gb272 l0 x273001_2 x273002_2 5 t308 t309 t312 t313 w _ ?s1 ?s2 A76.out).mono ?_
    (case s1 => exact st43_3 HI272.out NB272_270.out NB272_271.out NB272_279.out)
    (case s2 => exact bl43_3 HB.out HI272.out GE270.out GE271.out GE279.out)
    rintro e w78 ⟨v310, rfl, ho0, hi, hb, hk⟩
    refine ⟨_, rfl, ?_⟩
    replace BK270 := kB hk BK270
    replace BK271 := kB hk BK271
    replace BK279 := kB hk BK279
    have HO311 := mkA (Kd.R_lower (rN ho0 HO_280001) (below_size (by exact bl43_3 HB.out HI272.out GE270.out GE271.out GE279.out)))
    replace HO_280001 := mkA (Kd.R_mono (Kd.R_told (Kd.R_oldK (IsS43.apart (show IsS43 w _ gb272 l0 x273001_2 x273002_2 from by exact st43_3 HI272.out NB272_270.out NB272_271.out NB272_279.out) (Kd.R_g HO_280001.out) (by decide)) hk) (Kd.R_base ho0)) (fun _ h_ => h_.1))
    replace HI272 := mkA (hi)
    replace HB := mkA (hb)
    (try clear hb)
    (try clear hb2)
    (try clear hk)
    (try clear hi)
    (try clear ho0)
    obtain ⟨Ao82, co82, eo82⟩ := Kd.R_slice HO311.out
    (first | subst eo82 | (injection eo82 with f1_ f2_ f3_; have f4_ := f1_.symm; have f5_ := f3_.symm; clear f1_ f2_ f3_; subst f4_; subst f5_))
    refine hK.out _ _ ⟨(blk_cell BK279.out 0).trans rfl, (blk_cell BK279.out 1).trans rfl⟩ (fun hHeld => ?_)
    clear hK K
    refine normW 43 ?_
    refine one_ (i := 3) (N := none) (bm 5 15) rfl rfl (by kernel_rfl) (by decide) (fun K hK => ?_)
    obtain ⟨_, _, _, _⟩ := blk2 BK270
    refine skip_ (w1 := ?_) (by rfl) rfl ?_ ?_
    rotate_left
    ·go_simp
     rfl
    refine hK.out _ _ ⟨(cF (cF hHeld.1)), (cF (cF hHeld.2))⟩ (fun hHeld => ?_)
    clear hK K
    refine one_ (i := 4) (N := none) (bm 5 31) rfl rfl (by kernel_rfl) (by decide) (fun K hK => ?_)
    obtain ⟨_, _, _, _⟩ := blk2 BK271
    refine skip_ (w1 := ?_) (by rfl) rfl ?_ ?_
    rotate_left
    ·go_simp
     rfl
    refine hK.out _ _ ⟨(cF (cF hHeld.1)), (cF (cF hHeld.2))⟩ (fun hHeld => ?_)
    clear hK K
    refine done_ (by kernel_rfl) ?_
    try go_wp2
    refine bodyPost_ret (results_cc rfl _ _ gb270 gb271 26 26 #[.int .i64 t273, .slice Ao13 t274.length co13] #[.int .i64 t308, .slice Ao82 t309.length co82] (0, 0) (0, 0) _ _ rfl (blkT BK270) Tryd.underlying26 rfl (by kernel_rfl) rfl (blkT BK271) Tryd.underlying26 rfl (by kernel_rfl)) rfl ?_
    exact ⟨_, _, eqE, Kd.R_g (Kd.R_mono (Kd.R_far (p := ⟨gb271, 1, none⟩) (Kd.R_far (p := ⟨gb271, 0, none⟩) (Kd.R_far (p := ⟨gb270, 1, none⟩) (Kd.R_far (p := ⟨gb270, 0, none⟩) (Kd.R_types (Kd.R_types HO_280001.out BK270.out (by decide)) BK271.out (by decide)) (fun _ hk => hk.1.2) (.int .i64 t273)) (fun _ hk => hk.1.2) (.slice Ao13 t274.length co13)) (fun _ hk => hk.2) (.int .i64 t308)) (fun _ hk => hk.2) (.slice Ao82 t309.length co82)) (fun _ hk => hk.1.1.2)), Kd.R_g (Kd.R_mono (Kd.R_far (p := ⟨gb271, 1, none⟩) (Kd.R_far (p := ⟨gb271, 0, none⟩) (Kd.R_far (p := ⟨gb270, 1, none⟩) (Kd.R_far (p := ⟨gb270, 0, none⟩) (Kd.R_types (Kd.R_types HO311.out BK270.out (by decide)) BK271.out (by decide)) (fun _ hk => hk.1.2) (.int .i64 t273)) (fun _ hk => hk.1.2) (.slice Ao13 t274.length co13)) (fun _ hk => hk.2) (.int .i64 t308)) (fun _ hk => hk.2) (.slice Ao82 t309.length co82)) (fun _ hk => hk.1.1.2)), by exact bl43_3 HB.out HI272.out GE270.out GE271.out GE279.out⟩
end Go.Proofs.YtdpmoehmbjmkpaaDoor.Q
