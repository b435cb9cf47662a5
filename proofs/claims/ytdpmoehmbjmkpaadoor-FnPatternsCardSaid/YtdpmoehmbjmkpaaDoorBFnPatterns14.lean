import Derived.Test.YtdpmoehmbjmkpaaDoorBFnPatterns2
namespace Go.Proofs.YtdpmoehmbjmkpaaDoor.Q
open Go.RowKit Go.Proofs.YtdpmoehmbjmkpaaDoorW.PrintWords Go.Proofs.YtdpmoehmbjmkpaaDoorW.PrintLast Go.Proofs.YtdpmoehmbjmkpaaDoorW.PrintMore
attribute [local go_sem] max2_int min2_int max_two min_two max_three min_three max_four min_four neB_f
set_option linter.unusedVariables false
set_option maxHeartbeats 8000000
set_option maxRecDepth 100000
set_option linter.unusedSimpArgs false
def spec_orFits.l0 : Nat → Int → Int → List Int → Int → Int → Int → List Int → Int → List Int → Option (Bool)
 | 0, _, _, _, _, _, _, _, _, _ => none
 | k + 1, x3, x9, x14, x15, x16, x363000, x363001, x364000, x364001 => if x16 < x15 then (if 0 ≤ x16 then (if x16 < (x14.length : Int) then (if (rd x14 x16) = x3 then (some false) else (if 0 ≤ (rd x14 x16) then (if (rd x14 x16) < (x363001.length : Int) then ((spec_orHas.f (rd x363001 (rd x14 x16)) x3).bind fun t370 => (if x16 < (x364001.length : Int) then ((spec_orHas.f (rd x364001 x16) x9).bind fun t372 => (if (t370 != t372) = true then (some false) else (if 0 ≤ x3 then (if x3 < (x363001.length : Int) then ((spec_orHas.f (rd x363001 x3) (rd x14 x16)).bind fun t374 => (if 0 ≤ x9 then (if x9 < (x364001.length : Int) then ((spec_orHas.f (rd x364001 x9) x16).bind fun t376 => (if (t374 != t376) = true then (some false) else (spec_orFits.l0 k x3 x9 x14 x15 (wrap64 (x16 + 1)) x363000 x363001 x364000 x364001))) else (none)) else (none))) else (none)) else (none)))) else (none))) else (none)) else (none))) else (none)) else (none)) else (if 0 ≤ x3 then (if x3 < (x363001.length : Int) then ((spec_orHas.f (rd x363001 x3) x3).bind fun t365 => (if 0 ≤ x9 then (if x9 < (x364001.length : Int) then ((spec_orHas.f (rd x364001 x9) x9).bind fun t367 => (some (t365 == t367))) else (none)) else (none))) else (none)) else (none))
def spec_orFits.f (k : Nat) (a0_0 : Int) (l0_1 : List Int) (a1_0 : Int) (l1_1 : List Int) (l2 : List Int) (a3 : Int) : Option (Bool) := spec_orFits.l0 k a3 (l2.length : Int) l2 (l2.length : Int) 0 a0_0 l0_1 a1_0 l1_1
theorem spec_orFits.mono_l : ∀ k, (∀ y0 y1 y2 y3 y4 y5 y6 y7 y8, LeO (spec_orFits.l0 k y0 y1 y2 y3 y4 y5 y6 y7 y8) (spec_orFits.l0 (k + 1) y0 y1 y2 y3 y4 y5 y6 y7 y8))
 | 0 => fun _ _ _ _ _ _ _ _ _ r h => by simp [spec_orFits.l0] at h
 | k + 1 => by
  have ih0 := spec_orFits.mono_l k
  ·intro y0 y1 y2 y3 y4 y5 y6 y7 y8
   unfold spec_orFits.l0
   repeat' (with_reducible first|apply ih0|apply LeO.refl|apply LeO.none|apply LeO.ite|apply LeO.bind|intro)
theorem spec_orFits.mono : ∀ a0 a1 a2 a3 a4 a5 k, LeO (spec_orFits.f k a0 a1 a2 a3 a4 a5) (spec_orFits.f (k + 1) a0 a1 a2 a3 a4 a5) := by
 intro a0 a1 a2 a3 a4 a5 k
 have ih0 := spec_orFits.mono_l k
 unfold spec_orFits.f
 repeat' (with_reducible first|apply ih0|apply LeO.refl|apply LeO.none|apply LeO.ite|apply LeO.bind|intro)
def spec_orFits.T5 : Bool × List (List Nat × List Nat) := (true, [([], []), ([], []), ([0, 1], [0, 1]), ([2], [2]), ([3], [3]), ([4, 3], [3, 4]), ([3], [3]), ([5, 6, 3], [3, 5, 6]), ([7, 3], [3, 7]), ([3], [3]), ([8, 9, 3, 3], [3, 8, 9]), ([3], [3]), ([11, 3], [3, 11]), ([3], [3]), ([12, 13, 3], [3, 12, 13]), ([14, 3], [3, 14]), ([3], [3]), ([15, 16, 10, 3], [3, 15, 16]), ([10, 17, 3], [3, 10, 17]), ([3, 18], [3, 18]), ([19, 17], [19]), ([20], [20]), ([21, 20], [20, 21]), ([20], [20]), ([22, 23, 20], [20, 22, 23]), ([24, 20], [20, 24]), ([20], [20]), ([25, 26, 20, 20], [20, 25, 26]), ([20], [20]), ([28, 20], [20, 28]), ([20], [20]), ([29, 30, 20], [20, 29, 30]), ([31, 20], [20, 31]), ([20], [20]), ([32, 33, 27, 20], [20, 32, 33]), ([27, 34, 20], [20, 27, 34]), ([20, 35], [20, 35])])
def spec_orFits.B5 : List Nat := [0, 0, 3, 7, 15, 31, 15, 127, 255, 15, 1023, 15, 2063, 15, 14351, 30735, 15, 131071, 262143, 524287, 1048575, 2097151, 4194303, 2097151, 16777215, 33554431, 2097151, 134217727, 2097151, 270532607, 2097151, 1881145343, 4028628991, 2097151, 17179869183, 34359738367, 68719476735]
theorem spec_orFits.tab5 : rtab .any (opsOf Tryd.f45 5) = spec_orFits.T5 := by kernel_rfl
theorem spec_orFits.bits5 : waitsOk spec_orFits.T5.2 spec_orFits.B5 = true := by kernel_rfl
def spec_orFits.T8 : Bool × List (List Nat × List Nat) := (true, [([], []), ([0], [0]), ([], []), ([1, 2], [1, 2]), ([3], [3]), ([], []), ([4, 5], [4, 5]), ([], []), ([7], [7]), ([], []), ([8, 9], [8, 9]), ([10], [10]), ([], []), ([11, 12, 6], [11, 12]), ([6, 13], [6, 13]), ([14, 13, 0, 1, 2, 3, 4, 5, 6, 7, 8, 9, 10, 11, 12, 13, 14], [14])])
def spec_orFits.B8 : List Nat := [0, 1, 0, 7, 15, 0, 63, 0, 128, 0, 896, 1920, 0, 8191, 16383, 32767]
theorem spec_orFits.tab8 : rtab .any (opsOf Tryd.f45 8) = spec_orFits.T8 := by kernel_rfl
theorem spec_orFits.bits8 : waitsOk spec_orFits.T8.2 spec_orFits.B8 = true := by kernel_rfl
theorem spec_orFits.calls (k : Nat) (a0_0 : Int) (A0_1 : Option Addr) (c0_1 : Nat) (l0_1 : List Int) (a1_0 : Int) (A1_1 : Option Addr) (c1_1 : Nat) (l1_1 : List Int) (A2 : Option Addr) (c2 : Nat) (l2 : List Int) (a3 : Int) (r : Bool) (w : World) (hr0_1 : Kd.C (Kd.int .i64) w A0_1 l0_1.length l0_1) (hc0_1 : l0_1.length ≤ c0_1) (hr1_1 : Kd.C (Kd.int .i64) w A1_1 l1_1.length l1_1) (hc1_1 : l1_1.length ≤ c1_1) (hr2 : Kd.C (Kd.int .i64) w A2 l2.length l2) (hc2 : l2.length ≤ c2) (h : spec_orFits.f k a0_0 l0_1 a1_0 l1_1 l2 a3 = some r) :
  Calls Tryd.prog 45 #[.agg #[.int .i64 a0_0, .slice A0_1 l0_1.length c0_1], .agg #[.int .i64 a1_0, .slice A1_1 l1_1.length c1_1], .slice A2 l2.length c2, .int .i64 a3] w fun e w' => e = .returned (.bool r) ∧ Below w.heap.size w w' := by
 have hu26 := Tryd.underlying26
 have HR0_1 := mkA hr0_1
 have HC0_1 := mkA hc0_1
 clear hr0_1 hc0_1
 have HR1_1 := mkA hr1_1
 have HC1_1 := mkA hc1_1
 clear hr1_1 hc1_1
 have HR2 := mkA hr2
 have HC2 := mkA hc2
 clear hr2 hc2
 have HB := mkA (Below.refl w.heap.size w)
 have H := h
 clear h
 unfold spec_orFits.f at H
 have H' := mkA H
 clear H
 go_enter Tryd.func45, Tryd.ntmps45
 go_wp2_with (first | ((with_reducible refine gate_dst (N := 4) rfl ?_); refine boxG HB #[.int .i64 a0_0, .slice A0_1 l0_1.length c0_1] 26 ?_; intro gb362 hg w5 BK362 GE362 hb; replace HB := bst HB hb; clear hb hg) | ((with_reducible refine gate_dst (N := 5) rfl ?_); refine boxG HB #[.int .i64 a1_0, .slice A1_1 l1_1.length c1_1] 26 ?_; intro gb363 hg w6 BK363 GE363 hb; have NB362_363 := neL7 BK362 hg; have NB363_362 := neR7 BK362 hg; replace BK362 := blkB BK362 hb; replace HB := bst HB hb; clear hb hg))
 go_loopg [16] k (fun kq v16 w' => ∃ (x16_1 : Int), v16 = .int .i64 x16_1 ∧ Fc (spec_orFits.l0 kq a3 (l2.length : Int) l2 (l2.length : Int) x16_1 a0_0 l0_1 a1_0 l1_1 = some r) ∧ Fc (kq ≤ k) ∧ Fc (w'.heap[gb362]? = some (.cells #[.int .i64 a0_0, (.slice A0_1 l0_1.length c0_1)] 26 (0, 0))) ∧ Fc (w'.heap[gb363]? = some (.cells #[.int .i64 a1_0, (.slice A1_1 l1_1.length c1_1)] 26 (0, 0))) ∧ Fc (Below w.heap.size w w'))
 case atStart => exact ⟨(0), eqS, H', ⟨Nat.le_refl _⟩, bg BK362, bg BK363, hbg HB⟩
 case round =>
  clear H'
  try clear c2
  obtain ⟨x16_1, rfl, HA, HK1, BK362, BK363, HB⟩ := hrel
  cases gk with
  | zero => exact absurd HA.out (by simp [spec_orFits.l0])
  | succ k1 =>
   have H := HA.out
   clear HA
   simp only [spec_orFits.l0] at H
   rcases iteE H with ⟨c7b0, H⟩ | ⟨c7b0, H⟩
   ·obtain ⟨c8b0, H⟩ := itND H
    obtain ⟨c9b0, H⟩ := itND H
    rcases iteP H with ⟨c10, H⟩ | ⟨c10, H⟩
    ·have c10b0 := beq_iff_eq.mpr c10
     have c10b1 := bne_eq_false_iff_eq.mpr c10
     clear c10
     obtain rfl := Option.some.inj H
     obtain ⟨p368, q368, ad368, e368, hx368_0⟩ := atI HR2.out x16_1
     cases e368
     replace hx368_0 := (HB.out.cell (World.block_lt_of_cell? w _ hx368_0)).trans hx368_0
     try go_wp2
     replace BK362 := mkA (blk_drew BK362.out)
     replace BK363 := mkA (blk_drew BK363.out)
     replace HB := mkA (below_drew1 HB.out)
     refine start_ (n := 37) (S := fun w' => True) (ds := []) (bm 37 0) (by kernel_rfl) rfl (by kernel_rfl) trivial (fun hHeld => ?_); refine with_tabW spec_orFits.tab5 spec_orFits.bits5 (fun HT_ HW_ => ?_)
     generalize wr.drew = w11 at BK362 BK363 HB hHeld ⊢
     refine purW 0 21 37 1 HT_ ?_
     refine purW 1 22 37 3 HT_ ?_
     refine purW 2 23 37 7 HT_ ?_
     refine purW 3 24 37 15 HT_ ?_
     refine purG 4 25 37 31 HT_ ?_
     refine purG 5 26 37 63 HT_ ?_
     refine purG 6 27 37 127 HT_ ?_
     refine purG 7 28 37 255 HT_ ?_
     refine purG 8 29 37 511 HT_ ?_
     refine purG 9 30 37 1023 HT_ ?_
     refine purG 10 31 37 2047 HT_ ?_
     refine purG 11 32 37 4095 HT_ ?_
     refine purG 12 33 37 8191 HT_ ?_
     refine purG 13 34 37 16383 HT_ ?_
     refine purG 14 35 37 32767 HT_ ?_
     refine purG 15 36 37 65535 HT_ ?_
     refine purG 16 37 37 131071 HT_ ?_
     refine purG 17 38 37 262143 HT_ ?_
     refine purG 18 39 37 524287 HT_ ?_
     refine purW 19 40 37 1048575 HT_ ?_
     refine purW 20 41 37 2097151 HT_ ?_
     refine purG 21 42 37 4194303 HT_ ?_
     refine purG 22 43 37 8388607 HT_ ?_
     refine purG 23 44 37 16777215 HT_ ?_
     refine purG 24 45 37 33554431 HT_ ?_
     refine purG 25 46 37 67108863 HT_ ?_
     refine purG 26 47 37 134217727 HT_ ?_
     refine purG 27 48 37 268435455 HT_ ?_
     refine purG 28 49 37 536870911 HT_ ?_
     refine purG 29 50 37 1073741823 HT_ ?_
     refine purG 30 51 37 2147483647 HT_ ?_
     refine purG 31 52 37 4294967295 HT_ ?_
     refine purG 32 53 37 8589934591 HT_ ?_
     refine purG 33 54 37 17179869183 HT_ ?_
     refine purG 34 55 37 34359738367 HT_ ?_
     refine purG 35 56 37 68719476735 HT_ ?_
     refine purW 36 57 37 137438953471 HT_ ?_
     refine doneW HT_ ?_
     try go_wp2
     go_ret
     exact ⟨eqE, bel_g HB.out⟩
    ·have c10b0 := beq_eq_false_iff_ne.mpr c10
     have c10b1 := bne_iff_ne.mpr c10
     obtain ⟨c12b0, H⟩ := itND H
     obtain ⟨c13b0, H⟩ := itND H
     obtain ⟨t370, A14, H⟩ := obE H
     obtain ⟨c15b0, H⟩ := itND H
     obtain ⟨t372, A16, H⟩ := obE H
     rcases iteP H with ⟨c17, H⟩ | ⟨c17, H⟩
     ·have c17b0 : (t370 != t372) = true := c17
      (try (have c17b1 : decide (t370 = t372) = false := by simpa using c17))
      (try (have c17b2 : (t370 == t372) = false := by simpa using c17))
      (try (have c17b3 : ¬ (t370 = t372) := by simpa using c17))
      clear c17
      obtain rfl := Option.some.inj H
      obtain ⟨p368, q368, ad368, e368, hx368_0⟩ := atI HR2.out x16_1
      cases e368
      replace hx368_0 := (HB.out.cell (World.block_lt_of_cell? w _ hx368_0)).trans hx368_0
      try go_wp2
      replace BK362 := mkA (blk_drew BK362.out)
      replace BK363 := mkA (blk_drew BK363.out)
      replace HB := mkA (below_drew1 HB.out)
      obtain ⟨p369, q369, ad369, e369, hx369_0⟩ := atI HR0_1.out (rd l2 x16_1)
      have hw369_0 := hx369_0
      cases e369
      replace hx369_0 := (HB.out.cell (World.block_lt_of_cell? w _ hx369_0)).trans hx369_0
      obtain ⟨p371, q371, ad371, e371, hx371_0⟩ := atI HR1_1.out x16_1
      have hw371_0 := hx371_0
      cases e371
      replace hx371_0 := (HB.out.cell (World.block_lt_of_cell? w _ hx371_0)).trans hx371_0
      refine start_ (n := 37) (S := fun w' => w'.cell? ⟨gb362, 0, none⟩ = some (.int .i64 a0_0) ∧ w'.cell? ⟨gb362, 1, none⟩ = some (.slice (some ad369) l0_1.length c0_1) ∧ w'.cell? ⟨gb363, 0, none⟩ = some (.int .i64 a1_0) ∧ w'.cell? ⟨gb363, 1, none⟩ = some (.slice (some ad371) l1_1.length c1_1) ∧ w'.cell? (ad369.add ((rd l2 x16_1)).toNat) = some (.int .i64 (rd l0_1 (rd l2 x16_1))) ∧ w'.cell? (ad371.add (x16_1).toNat) = some (.int .i64 (rd l1_1 x16_1))) (ds := []) (bm 37 0) (by kernel_rfl) rfl (by kernel_rfl) ⟨(blk_cell BK362.out 0).trans rfl, (blk_cell BK362.out 1).trans rfl, (blk_cell BK363.out 0).trans rfl, (blk_cell BK363.out 1).trans rfl, ((HB.out.cell (World.block_lt_of_cell? w _ hw369_0)).trans hw369_0), ((HB.out.cell (World.block_lt_of_cell? w _ hw371_0)).trans hw371_0)⟩ (fun hHeld => ?_); refine with_tabW spec_orFits.tab5 spec_orFits.bits5 (fun HT_ HW_ => ?_)
      generalize wr.drew = w18 at BK362 BK363 HB hx369_0 hx371_0 hHeld ⊢
      refine purW 0 21 37 1 HT_ ?_
      refine purW 1 22 37 3 HT_ ?_
      refine purW 2 23 37 7 HT_ ?_
      refine purW 3 24 37 15 HT_ ?_
      refine purW 4 25 37 31 HT_ ?_
      refine purW 6 27 37 95 HT_ ?_
      refine purW 9 30 37 607 HT_ ?_
      refine purW 11 32 37 2655 HT_ ?_
      refine purW 13 34 37 10847 HT_ ?_
      refine purW 16 37 37 76383 HT_ ?_
      refine takeW 5 (some 26) (bm 37 76415) HT_ HW_ hHeld ?_
      refine purW 7 28 37 76543 HT_ ?_
      refine takeW 8 (some 29) (bm 37 76799) HT_ HW_ hHeld ?_
      refine takeW 12 (some 33) (bm 37 80895) HT_ HW_ hHeld ?_
      refine purW 14 35 37 97279 HT_ ?_
      refine takeW 15 (some 36) (bm 37 130047) HT_ HW_ hHeld ?_
      refine oneW 10 (some 31) (bm 37 131071) HT_ (fun K hK => ?_)
      refine goesR Tryd.func37 #[.int .i64 (rd l0_1 (rd l2 x16_1)), .int .i64 a3] ?_
      with_reducible refine (spec_orHas.calls (rd l0_1 (rd l2 x16_1)) a3 t370 _ A14.out).mono ?_
      rintro e w' ⟨rfl, ⟨nd, rfl⟩⟩
      refine ⟨_, rfl, ?_⟩
      refine hK.out _ _ ⟨(blk_cell BK362.out 0).trans rfl, (blk_cell BK362.out 1).trans rfl, (blk_cell BK363.out 0).trans rfl, (blk_cell BK363.out 1).trans rfl, ((HB.out.cell (World.block_lt_of_cell? w _ hw369_0)).trans hw369_0), ((HB.out.cell (World.block_lt_of_cell? w _ hw371_0)).trans hw371_0)⟩ (fun hHeld => ?_)
      clear hK K
      refine normW 31 ?_
      refine oneW 17 (some 38) (bm 37 262143) HT_ (fun K hK => ?_)
      refine goesR Tryd.func37 #[.int .i64 (rd l1_1 x16_1), .int .i64 (l2.length : Int)] ?_
      with_reducible refine (spec_orHas.calls (rd l1_1 x16_1) (l2.length : Int) t372 _ A16.out).mono ?_
      rintro e w' ⟨rfl, ⟨nd, rfl⟩⟩
      refine ⟨_, rfl, ?_⟩
      refine hK.out _ _ ⟨(blk_cell BK362.out 0).trans rfl, (blk_cell BK362.out 1).trans rfl, (blk_cell BK363.out 0).trans rfl, (blk_cell BK363.out 1).trans rfl, ((HB.out.cell (World.block_lt_of_cell? w _ hw369_0)).trans hw369_0), ((HB.out.cell (World.block_lt_of_cell? w _ hw371_0)).trans hw371_0)⟩ (fun hHeld => ?_)
      clear hK K
      refine normW 38 ?_
      refine purW 18 39 37 524287 HT_ ?_
      refine purW 19 40 37 1048575 HT_ ?_
      refine purW 20 41 37 2097151 HT_ ?_
      refine purG 21 42 37 4194303 HT_ ?_
      refine purG 22 43 37 8388607 HT_ ?_
      refine purG 23 44 37 16777215 HT_ ?_
      refine purG 24 45 37 33554431 HT_ ?_
      refine purG 25 46 37 67108863 HT_ ?_
      refine purG 26 47 37 134217727 HT_ ?_
      refine purG 27 48 37 268435455 HT_ ?_
      refine purG 28 49 37 536870911 HT_ ?_
      refine purG 29 50 37 1073741823 HT_ ?_
      refine purG 30 51 37 2147483647 HT_ ?_
      refine purG 31 52 37 4294967295 HT_ ?_
      refine purG 32 53 37 8589934591 HT_ ?_
      refine purG 33 54 37 17179869183 HT_ ?_
      refine purG 34 55 37 34359738367 HT_ ?_
      refine purG 35 56 37 68719476735 HT_ ?_
      refine purW 36 57 37 137438953471 HT_ ?_
      refine doneW HT_ ?_
      try go_wp2
      go_ret
      exact ⟨eqE, bel_g HB.out⟩
     ·have c17b0 : (t370 != t372) = false := by simpa using c17
      (try (have c17b1 : decide (t370 = t372) = true := by simpa using c17))
      (try (have c17b2 : (t370 == t372) = true := by simpa using c17))
      clear c17
      obtain ⟨c19b0, H⟩ := itND H
      obtain ⟨c20b0, H⟩ := itND H
      obtain ⟨t374, A21, H⟩ := obE H
      obtain ⟨c22, H⟩ := itNP H
      have c22b0 := decide_eq_true c22
      have c22b1 : decide (0 ≤ l2.length) = true := decide_eq_true (by omega)
      clear c22
      obtain ⟨c23, H⟩ := itNP H
      have c23b0 := decide_eq_true c23
      have c23b1 : decide (l2.length < l1_1.length) = true := decide_eq_true (Int.ofNat_lt.mp c23)
      clear c23
      obtain ⟨t376, A24, H⟩ := obE H
      rcases iteP H with ⟨c25, H⟩ | ⟨c25, H⟩
      ·have c25b0 : (t374 != t376) = true := c25
       (try (have c25b1 : decide (t374 = t376) = false := by simpa using c25))
       (try (have c25b2 : (t374 == t376) = false := by simpa using c25))
       (try (have c25b3 : ¬ (t374 = t376) := by simpa using c25))
       clear c25
       obtain rfl := Option.some.inj H
       obtain ⟨p368, q368, ad368, e368, hx368_0⟩ := atI HR2.out x16_1
       cases e368
       replace hx368_0 := (HB.out.cell (World.block_lt_of_cell? w _ hx368_0)).trans hx368_0
       try go_wp2
       replace BK362 := mkA (blk_drew BK362.out)
       replace BK363 := mkA (blk_drew BK363.out)
       replace HB := mkA (below_drew1 HB.out)
       obtain ⟨p369, q369, ad369, e369, hx369_0⟩ := atI HR0_1.out (rd l2 x16_1)
       have hw369_0 := hx369_0
       cases e369
       replace hx369_0 := (HB.out.cell (World.block_lt_of_cell? w _ hx369_0)).trans hx369_0
       obtain ⟨p371, q371, ad371, e371, hx371_0⟩ := atI HR1_1.out x16_1
       have hw371_0 := hx371_0
       cases e371
       replace hx371_0 := (HB.out.cell (World.block_lt_of_cell? w _ hx371_0)).trans hx371_0
       obtain ⟨p373, q373, ad373, e373, hx373_0⟩ := atI HR0_1.out a3
       have hw373_0 := hx373_0
       obtain rfl : ad369 = ad373 := (by injection e373)
       replace hx373_0 := (HB.out.cell (World.block_lt_of_cell? w _ hx373_0)).trans hx373_0
       have p375 : 0 ≤ ((l2.length : Int) : Int) := ofd
       have q375 : (l2.length : Int) < (l1_1.length : Int) := ofd
       obtain ⟨ad375, e375, hx375_0⟩ := Kd.at_int HR1_1.out (l2.length : Int) p375 q375
       have hw375_0 := hx375_0
       obtain rfl : ad371 = ad375 := (by injection e375)
       replace hx375_0 := (HB.out.cell (World.block_lt_of_cell? w _ hx375_0)).trans hx375_0
       (try simp only [Go.IntWalk.toNatUp] at hx375_0)
       replace p375 := eq_true p375
       replace q375 := eq_true q375
       refine start_ (n := 37) (S := fun w' => w'.cell? ⟨gb362, 0, none⟩ = some (.int .i64 a0_0) ∧ w'.cell? ⟨gb362, 1, none⟩ = some (.slice (some ad369) l0_1.length c0_1) ∧ w'.cell? ⟨gb363, 0, none⟩ = some (.int .i64 a1_0) ∧ w'.cell? ⟨gb363, 1, none⟩ = some (.slice (some ad371) l1_1.length c1_1) ∧ w'.cell? (ad369.add ((rd l2 x16_1)).toNat) = some (.int .i64 (rd l0_1 (rd l2 x16_1))) ∧ w'.cell? (ad371.add (x16_1).toNat) = some (.int .i64 (rd l1_1 x16_1)) ∧ w'.cell? (ad369.add (a3).toNat) = some (.int .i64 (rd l0_1 a3)) ∧ w'.cell? (ad371.add l2.length) = some (.int .i64 (rd l1_1 (l2.length : Int)))) (ds := []) (bm 37 0) (by kernel_rfl) rfl (by kernel_rfl) ⟨(blk_cell BK362.out 0).trans rfl, (blk_cell BK362.out 1).trans rfl, (blk_cell BK363.out 0).trans rfl, (blk_cell BK363.out 1).trans rfl, ((HB.out.cell (World.block_lt_of_cell? w _ hw369_0)).trans hw369_0), ((HB.out.cell (World.block_lt_of_cell? w _ hw371_0)).trans hw371_0), ((HB.out.cell (World.block_lt_of_cell? w _ hw373_0)).trans hw373_0), ((HB.out.cell (World.block_lt_of_cell? w _ hw375_0)).trans hw375_0)⟩ (fun hHeld => ?_); refine with_tabW spec_orFits.tab5 spec_orFits.bits5 (fun HT_ HW_ => ?_)
       generalize wr.drew = w26 at BK362 BK363 HB hx369_0 hx371_0 hx373_0 hx375_0 hHeld ⊢
       refine purW 0 21 37 1 HT_ ?_
       refine purW 1 22 37 3 HT_ ?_
       refine purW 2 23 37 7 HT_ ?_
       refine purW 3 24 37 15 HT_ ?_
       refine purW 4 25 37 31 HT_ ?_
       refine purW 6 27 37 95 HT_ ?_
       refine purW 9 30 37 607 HT_ ?_
       refine purW 11 32 37 2655 HT_ ?_
       refine purW 13 34 37 10847 HT_ ?_
       refine purW 16 37 37 76383 HT_ ?_
       refine takeW 5 (some 26) (bm 37 76415) HT_ HW_ hHeld ?_
       refine purW 7 28 37 76543 HT_ ?_
       refine takeW 8 (some 29) (bm 37 76799) HT_ HW_ hHeld ?_
       refine takeW 12 (some 33) (bm 37 80895) HT_ HW_ hHeld ?_
       refine purW 14 35 37 97279 HT_ ?_
       refine takeW 15 (some 36) (bm 37 130047) HT_ HW_ hHeld ?_
       refine oneW 10 (some 31) (bm 37 131071) HT_ (fun K hK => ?_)
       refine goesR Tryd.func37 #[.int .i64 (rd l0_1 (rd l2 x16_1)), .int .i64 a3] ?_
       with_reducible refine (spec_orHas.calls (rd l0_1 (rd l2 x16_1)) a3 t370 _ A14.out).mono ?_
       rintro e w' ⟨rfl, ⟨nd, rfl⟩⟩
       refine ⟨_, rfl, ?_⟩
       refine hK.out _ _ ⟨(blk_cell BK362.out 0).trans rfl, (blk_cell BK362.out 1).trans rfl, (blk_cell BK363.out 0).trans rfl, (blk_cell BK363.out 1).trans rfl, ((HB.out.cell (World.block_lt_of_cell? w _ hw369_0)).trans hw369_0), ((HB.out.cell (World.block_lt_of_cell? w _ hw371_0)).trans hw371_0), ((HB.out.cell (World.block_lt_of_cell? w _ hw373_0)).trans hw373_0), ((HB.out.cell (World.block_lt_of_cell? w _ hw375_0)).trans hw375_0)⟩ (fun hHeld => ?_)
       clear hK K
       refine normW 31 ?_
       refine oneW 17 (some 38) (bm 37 262143) HT_ (fun K hK => ?_)
       refine goesR Tryd.func37 #[.int .i64 (rd l1_1 x16_1), .int .i64 (l2.length : Int)] ?_
       with_reducible refine (spec_orHas.calls (rd l1_1 x16_1) (l2.length : Int) t372 _ A16.out).mono ?_
       rintro e w' ⟨rfl, ⟨nd, rfl⟩⟩
       refine ⟨_, rfl, ?_⟩
       refine hK.out _ _ ⟨(blk_cell BK362.out 0).trans rfl, (blk_cell BK362.out 1).trans rfl, (blk_cell BK363.out 0).trans rfl, (blk_cell BK363.out 1).trans rfl, ((HB.out.cell (World.block_lt_of_cell? w _ hw369_0)).trans hw369_0), ((HB.out.cell (World.block_lt_of_cell? w _ hw371_0)).trans hw371_0), ((HB.out.cell (World.block_lt_of_cell? w _ hw373_0)).trans hw373_0), ((HB.out.cell (World.block_lt_of_cell? w _ hw375_0)).trans hw375_0)⟩ (fun hHeld => ?_)
       clear hK K
       refine normW 38 ?_
       refine purW 18 39 37 524287 HT_ ?_
       refine purW 19 40 37 1048575 HT_ ?_
       refine purW 20 41 37 2097151 HT_ ?_
       refine purW 21 42 37 4194303 HT_ ?_
       refine purW 23 44 37 12582911 HT_ ?_
       refine purW 26 47 37 79691775 HT_ ?_
       refine purW 28 49 37 348127231 HT_ ?_
       refine purW 30 51 37 1421869055 HT_ ?_
       refine purW 33 54 37 10011803647 HT_ ?_
       refine takeW 22 (some 43) (bm 37 10015997951) HT_ HW_ hHeld ?_
       refine purW 24 45 37 10032775167 HT_ ?_
       refine takeW 25 (some 46) (bm 37 10066329599) HT_ HW_ hHeld ?_
       refine takeW 29 (some 50) (bm 37 10603200511) HT_ HW_ hHeld ?_
       refine purW 31 52 37 12750684159 HT_ ?_
       refine takeW 32 (some 53) (bm 37 17045651455) HT_ HW_ hHeld ?_
       refine oneW 27 (some 48) (bm 37 17179869183) HT_ (fun K hK => ?_)
       refine goesR Tryd.func37 #[.int .i64 (rd l0_1 a3), .int .i64 (rd l2 x16_1)] ?_
       with_reducible refine (spec_orHas.calls (rd l0_1 a3) (rd l2 x16_1) t374 _ A21.out).mono ?_
       rintro e w' ⟨rfl, ⟨nd, rfl⟩⟩
       refine ⟨_, rfl, ?_⟩
       refine hK.out _ _ ⟨(blk_cell BK362.out 0).trans rfl, (blk_cell BK362.out 1).trans rfl, (blk_cell BK363.out 0).trans rfl, (blk_cell BK363.out 1).trans rfl, ((HB.out.cell (World.block_lt_of_cell? w _ hw369_0)).trans hw369_0), ((HB.out.cell (World.block_lt_of_cell? w _ hw371_0)).trans hw371_0), ((HB.out.cell (World.block_lt_of_cell? w _ hw373_0)).trans hw373_0), ((HB.out.cell (World.block_lt_of_cell? w _ hw375_0)).trans hw375_0)⟩ (fun hHeld => ?_)
       clear hK K
       refine normW 48 ?_
       refine oneW 34 (some 55) (bm 37 34359738367) HT_ (fun K hK => ?_)
       refine goesR Tryd.func37 #[.int .i64 (rd l1_1 (l2.length : Int)), .int .i64 x16_1] ?_
       with_reducible refine (spec_orHas.calls (rd l1_1 (l2.length : Int)) x16_1 t376 _ A24.out).mono ?_
       rintro e w' ⟨rfl, ⟨nd, rfl⟩⟩
       refine ⟨_, rfl, ?_⟩
       refine hK.out _ _ ⟨(blk_cell BK362.out 0).trans rfl, (blk_cell BK362.out 1).trans rfl, (blk_cell BK363.out 0).trans rfl, (blk_cell BK363.out 1).trans rfl, ((HB.out.cell (World.block_lt_of_cell? w _ hw369_0)).trans hw369_0), ((HB.out.cell (World.block_lt_of_cell? w _ hw371_0)).trans hw371_0), ((HB.out.cell (World.block_lt_of_cell? w _ hw373_0)).trans hw373_0), ((HB.out.cell (World.block_lt_of_cell? w _ hw375_0)).trans hw375_0)⟩ (fun hHeld => ?_)
       clear hK K
       refine normW 55 ?_
       refine purW 35 56 37 68719476735 HT_ ?_
       refine purW 36 57 37 137438953471 HT_ ?_
       refine doneW HT_ ?_
       try go_wp2
       go_ret
       exact ⟨eqE, bel_g HB.out⟩
      ·have c25b0 : (t374 != t376) = false := by simpa using c25
       (try (have c25b1 : decide (t374 = t376) = true := by simpa using c25))
       (try (have c25b2 : (t374 == t376) = true := by simpa using c25))
       clear c25
       have H' := mkA H
       clear H
       obtain ⟨p368, q368, ad368, e368, hx368_0⟩ := atI HR2.out x16_1
       cases e368
       replace hx368_0 := (HB.out.cell (World.block_lt_of_cell? w _ hx368_0)).trans hx368_0
       try go_wp2
       replace BK362 := mkA (blk_drew BK362.out)
       replace BK363 := mkA (blk_drew BK363.out)
       replace HB := mkA (below_drew1 HB.out)
       obtain ⟨p369, q369, ad369, e369, hx369_0⟩ := atI HR0_1.out (rd l2 x16_1)
       have hw369_0 := hx369_0
       cases e369
       replace hx369_0 := (HB.out.cell (World.block_lt_of_cell? w _ hx369_0)).trans hx369_0
       obtain ⟨p371, q371, ad371, e371, hx371_0⟩ := atI HR1_1.out x16_1
       have hw371_0 := hx371_0
       cases e371
       replace hx371_0 := (HB.out.cell (World.block_lt_of_cell? w _ hx371_0)).trans hx371_0
       obtain ⟨p373, q373, ad373, e373, hx373_0⟩ := atI HR0_1.out a3
       have hw373_0 := hx373_0
       obtain rfl : ad369 = ad373 := (by injection e373)
       replace hx373_0 := (HB.out.cell (World.block_lt_of_cell? w _ hx373_0)).trans hx373_0
       have p375 : 0 ≤ ((l2.length : Int) : Int) := ofd
       have q375 : (l2.length : Int) < (l1_1.length : Int) := ofd
       obtain ⟨ad375, e375, hx375_0⟩ := Kd.at_int HR1_1.out (l2.length : Int) p375 q375
       have hw375_0 := hx375_0
       obtain rfl : ad371 = ad375 := (by injection e375)
       replace hx375_0 := (HB.out.cell (World.block_lt_of_cell? w _ hx375_0)).trans hx375_0
       (try simp only [Go.IntWalk.toNatUp] at hx375_0)
       replace p375 := eq_true p375
       replace q375 := eq_true q375
       refine start_ (n := 37) (S := fun w' => w'.cell? ⟨gb362, 0, none⟩ = some (.int .i64 a0_0) ∧ w'.cell? ⟨gb362, 1, none⟩ = some (.slice (some ad369) l0_1.length c0_1) ∧ w'.cell? ⟨gb363, 0, none⟩ = some (.int .i64 a1_0) ∧ w'.cell? ⟨gb363, 1, none⟩ = some (.slice (some ad371) l1_1.length c1_1) ∧ w'.cell? (ad369.add ((rd l2 x16_1)).toNat) = some (.int .i64 (rd l0_1 (rd l2 x16_1))) ∧ w'.cell? (ad371.add (x16_1).toNat) = some (.int .i64 (rd l1_1 x16_1)) ∧ w'.cell? (ad369.add (a3).toNat) = some (.int .i64 (rd l0_1 a3)) ∧ w'.cell? (ad371.add l2.length) = some (.int .i64 (rd l1_1 (l2.length : Int)))) (ds := []) (bm 37 0) (by kernel_rfl) rfl (by kernel_rfl) ⟨(blk_cell BK362.out 0).trans rfl, (blk_cell BK362.out 1).trans rfl, (blk_cell BK363.out 0).trans rfl, (blk_cell BK363.out 1).trans rfl, ((HB.out.cell (World.block_lt_of_cell? w _ hw369_0)).trans hw369_0), ((HB.out.cell (World.block_lt_of_cell? w _ hw371_0)).trans hw371_0), ((HB.out.cell (World.block_lt_of_cell? w _ hw373_0)).trans hw373_0), ((HB.out.cell (World.block_lt_of_cell? w _ hw375_0)).trans hw375_0)⟩ (fun hHeld => ?_); refine with_tabW spec_orFits.tab5 spec_orFits.bits5 (fun HT_ HW_ => ?_)
       generalize wr.drew = w27 at BK362 BK363 HB hx369_0 hx371_0 hx373_0 hx375_0 hHeld ⊢
       refine purW 0 21 37 1 HT_ ?_
       refine purW 1 22 37 3 HT_ ?_
       refine purW 2 23 37 7 HT_ ?_
       refine purW 3 24 37 15 HT_ ?_
       refine purW 4 25 37 31 HT_ ?_
       refine purW 6 27 37 95 HT_ ?_
       refine purW 9 30 37 607 HT_ ?_
       refine purW 11 32 37 2655 HT_ ?_
       refine purW 13 34 37 10847 HT_ ?_
       refine purW 16 37 37 76383 HT_ ?_
       refine takeW 5 (some 26) (bm 37 76415) HT_ HW_ hHeld ?_
       refine purW 7 28 37 76543 HT_ ?_
       refine takeW 8 (some 29) (bm 37 76799) HT_ HW_ hHeld ?_
       refine takeW 12 (some 33) (bm 37 80895) HT_ HW_ hHeld ?_
       refine purW 14 35 37 97279 HT_ ?_
       refine takeW 15 (some 36) (bm 37 130047) HT_ HW_ hHeld ?_
       refine oneW 10 (some 31) (bm 37 131071) HT_ (fun K hK => ?_)
       refine goesR Tryd.func37 #[.int .i64 (rd l0_1 (rd l2 x16_1)), .int .i64 a3] ?_
       with_reducible refine (spec_orHas.calls (rd l0_1 (rd l2 x16_1)) a3 t370 _ A14.out).mono ?_
       rintro e w' ⟨rfl, ⟨nd, rfl⟩⟩
       refine ⟨_, rfl, ?_⟩
       refine hK.out _ _ ⟨(blk_cell BK362.out 0).trans rfl, (blk_cell BK362.out 1).trans rfl, (blk_cell BK363.out 0).trans rfl, (blk_cell BK363.out 1).trans rfl, ((HB.out.cell (World.block_lt_of_cell? w _ hw369_0)).trans hw369_0), ((HB.out.cell (World.block_lt_of_cell? w _ hw371_0)).trans hw371_0), ((HB.out.cell (World.block_lt_of_cell? w _ hw373_0)).trans hw373_0), ((HB.out.cell (World.block_lt_of_cell? w _ hw375_0)).trans hw375_0)⟩ (fun hHeld => ?_)
       clear hK K
       refine normW 31 ?_
       refine oneW 17 (some 38) (bm 37 262143) HT_ (fun K hK => ?_)
       refine goesR Tryd.func37 #[.int .i64 (rd l1_1 x16_1), .int .i64 (l2.length : Int)] ?_
       with_reducible refine (spec_orHas.calls (rd l1_1 x16_1) (l2.length : Int) t372 _ A16.out).mono ?_
       rintro e w' ⟨rfl, ⟨nd, rfl⟩⟩
       refine ⟨_, rfl, ?_⟩
       refine hK.out _ _ ⟨(blk_cell BK362.out 0).trans rfl, (blk_cell BK362.out 1).trans rfl, (blk_cell BK363.out 0).trans rfl, (blk_cell BK363.out 1).trans rfl, ((HB.out.cell (World.block_lt_of_cell? w _ hw369_0)).trans hw369_0), ((HB.out.cell (World.block_lt_of_cell? w _ hw371_0)).trans hw371_0), ((HB.out.cell (World.block_lt_of_cell? w _ hw373_0)).trans hw373_0), ((HB.out.cell (World.block_lt_of_cell? w _ hw375_0)).trans hw375_0)⟩ (fun hHeld => ?_)
       clear hK K
       refine normW 38 ?_
       refine purW 18 39 37 524287 HT_ ?_
       refine purW 19 40 37 1048575 HT_ ?_
       refine purW 20 41 37 2097151 HT_ ?_
       refine purW 21 42 37 4194303 HT_ ?_
       refine purW 23 44 37 12582911 HT_ ?_
       refine purW 26 47 37 79691775 HT_ ?_
       refine purW 28 49 37 348127231 HT_ ?_
       refine purW 30 51 37 1421869055 HT_ ?_
       refine purW 33 54 37 10011803647 HT_ ?_
       refine takeW 22 (some 43) (bm 37 10015997951) HT_ HW_ hHeld ?_
       refine purW 24 45 37 10032775167 HT_ ?_
       refine takeW 25 (some 46) (bm 37 10066329599) HT_ HW_ hHeld ?_
       refine takeW 29 (some 50) (bm 37 10603200511) HT_ HW_ hHeld ?_
       refine purW 31 52 37 12750684159 HT_ ?_
       refine takeW 32 (some 53) (bm 37 17045651455) HT_ HW_ hHeld ?_
       refine oneW 27 (some 48) (bm 37 17179869183) HT_ (fun K hK => ?_)
       refine goesR Tryd.func37 #[.int .i64 (rd l0_1 a3), .int .i64 (rd l2 x16_1)] ?_
       with_reducible refine (spec_orHas.calls (rd l0_1 a3) (rd l2 x16_1) t374 _ A21.out).mono ?_
       rintro e w' ⟨rfl, ⟨nd, rfl⟩⟩
       refine ⟨_, rfl, ?_⟩
       refine hK.out _ _ ⟨(blk_cell BK362.out 0).trans rfl, (blk_cell BK362.out 1).trans rfl, (blk_cell BK363.out 0).trans rfl, (blk_cell BK363.out 1).trans rfl, ((HB.out.cell (World.block_lt_of_cell? w _ hw369_0)).trans hw369_0), ((HB.out.cell (World.block_lt_of_cell? w _ hw371_0)).trans hw371_0), ((HB.out.cell (World.block_lt_of_cell? w _ hw373_0)).trans hw373_0), ((HB.out.cell (World.block_lt_of_cell? w _ hw375_0)).trans hw375_0)⟩ (fun hHeld => ?_)
       clear hK K
       refine normW 48 ?_
       refine oneW 34 (some 55) (bm 37 34359738367) HT_ (fun K hK => ?_)
       refine goesR Tryd.func37 #[.int .i64 (rd l1_1 (l2.length : Int)), .int .i64 x16_1] ?_
       with_reducible refine (spec_orHas.calls (rd l1_1 (l2.length : Int)) x16_1 t376 _ A24.out).mono ?_
       rintro e w' ⟨rfl, ⟨nd, rfl⟩⟩
       refine ⟨_, rfl, ?_⟩
       refine hK.out _ _ ⟨(blk_cell BK362.out 0).trans rfl, (blk_cell BK362.out 1).trans rfl, (blk_cell BK363.out 0).trans rfl, (blk_cell BK363.out 1).trans rfl, ((HB.out.cell (World.block_lt_of_cell? w _ hw369_0)).trans hw369_0), ((HB.out.cell (World.block_lt_of_cell? w _ hw371_0)).trans hw371_0), ((HB.out.cell (World.block_lt_of_cell? w _ hw373_0)).trans hw373_0), ((HB.out.cell (World.block_lt_of_cell? w _ hw375_0)).trans hw375_0)⟩ (fun hHeld => ?_)
       clear hK K
       refine normW 55 ?_
       refine purW 35 56 37 68719476735 HT_ ?_
       refine purW 36 57 37 137438953471 HT_ ?_
       refine doneW HT_ ?_
       try go_wp2
       go_roundg k1
       case measure => have := HK1.out; omega
       case rel => exact ⟨(wrap64 (x16_1 + 1)), eqS, H', ⟨by have := HK1.out; omega⟩, bg BK362, bg BK363, hbg HB⟩
   ·obtain ⟨c28b0, H⟩ := itND H
    obtain ⟨c29b0, H⟩ := itND H
    obtain ⟨t365, A30, H⟩ := obE H
    obtain ⟨c31, H⟩ := itNP H
    have c31b0 := decide_eq_true c31
    have c31b1 : decide (0 ≤ l2.length) = true := decide_eq_true (by omega)
    clear c31
    obtain ⟨c32, H⟩ := itNP H
    have c32b0 := decide_eq_true c32
    have c32b1 : decide (l2.length < l1_1.length) = true := decide_eq_true (Int.ofNat_lt.mp c32)
    clear c32
    obtain ⟨t367, A33, H⟩ := obE H
    obtain rfl := Option.some.inj H
    try go_wp2
    replace BK362 := mkA (blk_drew BK362.out)
    replace BK363 := mkA (blk_drew BK363.out)
    replace HB := mkA (below_drew1 HB.out)
    obtain ⟨p364, q364, ad364, e364, hx364_0⟩ := atI HR0_1.out a3
    have hw364_0 := hx364_0
    cases e364
    replace hx364_0 := (HB.out.cell (World.block_lt_of_cell? w _ hx364_0)).trans hx364_0
    have p366 : 0 ≤ ((l2.length : Int) : Int) := ofd
    have q366 : (l2.length : Int) < (l1_1.length : Int) := ofd
    obtain ⟨ad366, e366, hx366_0⟩ := Kd.at_int HR1_1.out (l2.length : Int) p366 q366
    have hw366_0 := hx366_0
    cases e366
    replace hx366_0 := (HB.out.cell (World.block_lt_of_cell? w _ hx366_0)).trans hx366_0
    (try simp only [Go.IntWalk.toNatUp] at hx366_0)
    replace p366 := eq_true p366
    replace q366 := eq_true q366
    refine start_ (n := 16) (S := fun w' => w'.cell? ⟨gb362, 0, none⟩ = some (.int .i64 a0_0) ∧ w'.cell? ⟨gb362, 1, none⟩ = some (.slice (some ad364) l0_1.length c0_1) ∧ w'.cell? ⟨gb363, 0, none⟩ = some (.int .i64 a1_0) ∧ w'.cell? ⟨gb363, 1, none⟩ = some (.slice (some ad366) l1_1.length c1_1) ∧ w'.cell? (ad364.add (a3).toNat) = some (.int .i64 (rd l0_1 a3)) ∧ w'.cell? (ad366.add l2.length) = some (.int .i64 (rd l1_1 (l2.length : Int)))) (ds := []) (bm 16 0) (by kernel_rfl) rfl (by kernel_rfl) ⟨(blk_cell BK362.out 0).trans rfl, (blk_cell BK362.out 1).trans rfl, (blk_cell BK363.out 0).trans rfl, (blk_cell BK363.out 1).trans rfl, ((HB.out.cell (World.block_lt_of_cell? w _ hw364_0)).trans hw364_0), ((HB.out.cell (World.block_lt_of_cell? w _ hw366_0)).trans hw366_0)⟩ (fun hHeld => ?_); refine with_tabW spec_orFits.tab8 spec_orFits.bits8 (fun HT_ HW_ => ?_)
    generalize wr.drew = w34 at BK362 BK363 HB hx364_0 hx366_0 hHeld ⊢
    refine purW 0 59 16 1 HT_ ?_
    refine purW 2 61 16 5 HT_ ?_
    refine purW 5 64 16 37 HT_ ?_
    refine purW 7 66 16 165 HT_ ?_
    refine purW 9 68 16 677 HT_ ?_
    refine purW 12 71 16 4773 HT_ ?_
    refine takeW 1 (some 60) (bm 16 4775) HT_ HW_ hHeld ?_
    refine purW 3 62 16 4783 HT_ ?_
    refine takeW 4 (some 63) (bm 16 4799) HT_ HW_ hHeld ?_
    refine takeW 8 (some 67) (bm 16 5055) HT_ HW_ hHeld ?_
    refine purW 10 69 16 6079 HT_ ?_
    refine takeW 11 (some 70) (bm 16 8127) HT_ HW_ hHeld ?_
    refine oneW 6 (some 65) (bm 16 8191) HT_ (fun K hK => ?_)
    refine goesR Tryd.func37 #[.int .i64 (rd l0_1 a3), .int .i64 a3] ?_
    with_reducible refine (spec_orHas.calls (rd l0_1 a3) a3 t365 _ A30.out).mono ?_
    rintro e w' ⟨rfl, ⟨nd, rfl⟩⟩
    refine ⟨_, rfl, ?_⟩
    refine hK.out _ _ ⟨(blk_cell BK362.out 0).trans rfl, (blk_cell BK362.out 1).trans rfl, (blk_cell BK363.out 0).trans rfl, (blk_cell BK363.out 1).trans rfl, ((HB.out.cell (World.block_lt_of_cell? w _ hw364_0)).trans hw364_0), ((HB.out.cell (World.block_lt_of_cell? w _ hw366_0)).trans hw366_0)⟩ (fun hHeld => ?_)
    clear hK K
    refine normW 65 ?_
    refine oneW 13 (some 72) (bm 16 16383) HT_ (fun K hK => ?_)
    refine goesR Tryd.func37 #[.int .i64 (rd l1_1 (l2.length : Int)), .int .i64 (l2.length : Int)] ?_
    with_reducible refine (spec_orHas.calls (rd l1_1 (l2.length : Int)) (l2.length : Int) t367 _ A33.out).mono ?_
    rintro e w' ⟨rfl, ⟨nd, rfl⟩⟩
    refine ⟨_, rfl, ?_⟩
    refine hK.out _ _ ⟨(blk_cell BK362.out 0).trans rfl, (blk_cell BK362.out 1).trans rfl, (blk_cell BK363.out 0).trans rfl, (blk_cell BK363.out 1).trans rfl, ((HB.out.cell (World.block_lt_of_cell? w _ hw364_0)).trans hw364_0), ((HB.out.cell (World.block_lt_of_cell? w _ hw366_0)).trans hw366_0)⟩ (fun hHeld => ?_)
    clear hK K
    refine normW 72 ?_
    refine purW 14 73 16 32767 HT_ ?_
    refine purW 15 8 16 65535 HT_ ?_
    refine doneW HT_ ?_
    try go_wp2
    go_ret
    exact ⟨eqE, bel_g HB.out⟩
end Go.Proofs.YtdpmoehmbjmkpaaDoor.Q
