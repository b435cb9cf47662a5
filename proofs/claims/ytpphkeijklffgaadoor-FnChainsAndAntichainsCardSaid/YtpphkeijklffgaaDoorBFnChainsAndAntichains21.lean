import Derived.Test.YtpphkeijklffgaaDoorBFnChainsAndAntichains7
namespace Go.Proofs.YtpphkeijklffgaaDoor.Q
open Go.RowKit Go.Proofs.YtpphkeijklffgaaDoorW.PrintWords Go.Proofs.YtpphkeijklffgaaDoorW.PrintLast Go.Proofs.YtpphkeijklffgaaDoorW.PrintMore
attribute [local go_sem] max2_int min2_int max_two min_two max_three min_three max_four min_four neB_f
set_option linter.unusedVariables false
set_option maxHeartbeats 8000000
set_option maxRecDepth 100000
set_option linter.unusedSimpArgs false
mutual
def spec_orLonger.l0 : Nat → Int → List Int → List Int → Int → Int → Int → List Int → Option (List Int)
 | 0, _, _, _, _, _, _, _ => none
 | k + 1, x1, x5, x10, x11, x12, x495000, x495001 => if x12 < x11 then (if 0 ≤ x12 then (if x12 < (x10.length : Int) then ((some (([rd x10 x12] : List Int) : List Int)).bind fun y499 => (if 0 ≤ (rd x10 x12) then (if (rd x10 x12) < (x495001.length : Int) then ((spec_orLonger.f k x495000 x495001 (Go.bits .and .i64 (rd x495001 (rd x10 x12)) x1)).bind fun t503 => (if y499.length + t503.length < 17592186044416 then ((some (y499 ++ t503 : List Int)).bind fun y506 => (if (y506.length : Int) > (x5.length : Int) then (spec_orLonger.l0 k x1 y506 x10 x11 (wrap64 (x12 + 1)) x495000 x495001) else (spec_orLonger.l0 k x1 x5 x10 x11 (wrap64 (x12 + 1)) x495000 x495001))) else (none))) else (none)) else (none))) else (none)) else (none)) else (some x5)
def spec_orLonger.f : Nat → Int → List Int → Int → Option (List Int)
 | 0, _, _, _ => none
 | k + 1, a0_0, l0_1, a1 => (spec_orList.f k a1).bind fun t495 => (spec_orLonger.l0 k a1 ([] : List Int) t495 (t495.length : Int) 0 a0_0 l0_1)
end
theorem spec_orLonger.mono_l : ∀ k, (∀ y0 y1 y2, LeO (spec_orLonger.f k y0 y1 y2) (spec_orLonger.f (k + 1) y0 y1 y2)) ∧ (∀ y0 y1 y2 y3 y4 y5 y6, LeO (spec_orLonger.l0 k y0 y1 y2 y3 y4 y5 y6) (spec_orLonger.l0 (k + 1) y0 y1 y2 y3 y4 y5 y6))
 | 0 => ⟨fun _ _ _ r h => by simp [spec_orLonger.f] at h, fun _ _ _ _ _ _ _ r h => by simp [spec_orLonger.l0] at h⟩
 | k + 1 => by
  obtain ⟨ih0, ih1⟩ := spec_orLonger.mono_l k
  refine ⟨?_, ?_⟩ <;> intros
  unfold spec_orLonger.f
  rotate_left
  unfold spec_orLonger.l0
  rotate_left
  all_goals repeat' (with_reducible first|apply ih0|apply ih1|apply spec_orList.mono|apply LeO.refl|apply LeO.none|apply LeO.ite|apply LeO.bind|intro)
theorem spec_orLonger.mono : ∀ a0 a1 a2 k, LeO (spec_orLonger.f k a0 a1 a2) (spec_orLonger.f (k + 1) a0 a1 a2) := by
 intro a0 a1 a2 k
 obtain ⟨ih0, ih1⟩ := spec_orLonger.mono_l k
 exact ih0 a0 a1 a2
def spec_orLonger.T5 : Bool × List (List Nat × List Nat) := (true, [([], []), ([0], [0]), ([], []), ([], []), ([3], [3]), ([], []), ([4, 5], [4, 5]), ([6], [6]), ([], []), ([7, 8], [7, 8]), ([2, 9], [2, 9]), ([1, 10, 10], [1, 10]), ([11, 11, 0, 1, 2, 3, 4, 5, 6, 7, 8, 9, 10, 11], [11])])
def spec_orLonger.B5 : List Nat := [0, 1, 0, 0, 8, 0, 56, 120, 0, 504, 1020, 2047, 4095]
theorem spec_orLonger.tab5 : rtab .any (opsOf Tryd.f29 5) = spec_orLonger.T5 := by kernel_rfl
theorem spec_orLonger.bits5 : waitsOk spec_orLonger.T5.2 spec_orLonger.B5 = true := by kernel_rfl
theorem spec_orLonger.calls (k : Nat) : ∀ (a0_0 : Int) (A0_1 : Option Addr) (c0_1 : Nat) (l0_1 : List Int) (a1 : Int) (r : List Int) (w : World) (hr0_1 : Kd.C (Kd.int .i64) w A0_1 l0_1.length l0_1) (hc0_1 : l0_1.length ≤ c0_1) (h : spec_orLonger.f k a0_0 l0_1 a1 = some r),
  Calls Tryd.prog 29 #[.agg #[.int .i64 a0_0, .slice A0_1 l0_1.length c0_1], .int .i64 a1] w fun e w' => ∃ v0_ : Value, e = .returned (v0_) ∧ Kd.R (Kd.int .i64) 3 w' w.heap.size (fun _ => True) v0_ r ∧ Below w.heap.size w w' := by
 induction k using Nat.strongRecOn with
 | _ k ih =>
 intro a0_0 A0_1 c0_1 l0_1 a1 r w hr0_1 hc0_1 h
 cases k with
 | zero => exact absurd h (by simp [spec_orLonger.f])
 | succ k =>
 simp only [spec_orLonger.f] at h
 have hu26 := Tryd.underlying26
 have HR0_1 := mkA hr0_1
 have HC0_1 := mkA hc0_1
 clear hr0_1 hc0_1
 have HB := mkA (Below.refl w.heap.size w)
 have H := h
 clear h
 unfold spec_orLonger.f at H
 obtain ⟨t495, A3, H⟩ := obE H
 have H' := mkA H
 clear H
 go_enter Tryd.func29, Tryd.ntmps29
 go_wp2_with (first | ((with_reducible refine gate_dst (N := 2) rfl ?_); refine boxG HB #[.int .i64 a0_0, .slice A0_1 l0_1.length c0_1] 26 ?_; intro gb494 hg w4 BK494 GE494 hb; replace HB := bst HB hb; clear hb hg) | ((with_reducible refine gate_callee (f := 36) rfl ?_); refine goesQ (some 10) Tryd.func36 #[.int .i64 a1] ?_; (with_reducible refine (spec_orList.calls k a1 t495 _ A3.out).mono ?_); rintro e w5 ⟨v496, rfl, ho0, hb⟩; refine ⟨_, rfl, ?_⟩; have HO497 := rLo ho0 HB; replace BK494 := blkB BK494 hb; replace HB := bst HB hb; clear hb ho0; obtain ⟨Ao6, co6, rfl⟩ := Kd.R_slice HO497.out))
 go_loopg [5, 12] k (fun kq v5 v12 w' => ∃ (x5_1 : List Int) (x12_1 : Int), v12 = .int .i64 x12_1 ∧ Fc (spec_orLonger.l0 kq a1 x5_1 t495 (t495.length : Int) x12_1 a0_0 l0_1 = some r) ∧ Fc (kq ≤ k) ∧ Fc (Kd.R (Kd.int .i64) 3 w' w.heap.size (fun k_ => some k_ ≠ ((.slice Ao6 t495.length co6) : Value).ownBlock) v5 x5_1) ∧ Fc (Kd.R (Kd.int .i64) 3 w' w.heap.size (fun k_ => some k_ ≠ (v5 : Value).ownBlock) (.slice Ao6 t495.length co6) t495) ∧ Fc (w'.heap[gb494]? = some (.cells #[.int .i64 a0_0, (.slice A0_1 l0_1.length c0_1)] 26 (0, 0))) ∧ Fc (Below w.heap.size w w'))
 case atStart => exact ⟨(([] : List Int)), (0), eqS, H', ⟨Nat.le_refl _⟩, ⟨nilE⟩, ⟨Kd.R_g (Kd.R_mono HO497.out (fun _ hk => (by simp [Value.ownBlock])))⟩, bg BK494, hbg HB⟩
 case round =>
  clear H'
  obtain ⟨x5_1, x12_1, rfl, HA, HK1, HO_5, HO_10, BK494, HB⟩ := hrel
  cases gk with
  | zero => exact absurd HA.out (by simp [spec_orLonger.l0])
  | succ k1 =>
   have H := HA.out
   clear HA
   simp only [spec_orLonger.l0] at H
   rcases iteE H with ⟨c7b0, H⟩ | ⟨c7b0, H⟩
   ·obtain ⟨c8b0, H⟩ := itND H
    obtain ⟨c9b0, H⟩ := itND H
    obtain ⟨y499, Ny499, H⟩ := nmE H
    obtain ⟨c10b0, H⟩ := itND H
    obtain ⟨c11b0, H⟩ := itND H
    obtain ⟨t503, A12, H⟩ := obE H
    obtain ⟨c13, H⟩ := itNP H
    have LMc13 := mkA c13
    clear c13
    obtain ⟨y506, Ny506, H⟩ := nmE H
    rcases iteP H with ⟨c14, H⟩ | ⟨c14, H⟩
    ·have c14b0 := decide_eq_true c14
     have c14b1 : decide (x5_1.length < y506.length) = true := decide_eq_true (Int.ofNat_lt.mp c14)
     clear c14
     have H' := mkA H
     clear H
     obtain ⟨p498, q498, ad498, e498, hx498_0⟩ := atI (Kd.R_reads' HO_10.out).2.2 x12_1
     cases e498
     try go_wp2
     replace HO_5 := mkA (Kd.R_drew HO_5.out)
     replace HO_10 := mkA (Kd.R_drew HO_10.out)
     replace BK494 := mkA (blk_drew BK494.out)
     replace HB := mkA (below_drew1 HB.out)
     obtain ⟨p502, q502, ad502, e502, hx502_0⟩ := atI HR0_1.out (rd t495 x12_1)
     have hw502_0 := hx502_0
     cases e502
     replace hx502_0 := (HB.out.cell (World.block_lt_of_cell? w _ hx502_0)).trans hx502_0
     refine start_ (n := 13) (S := fun w' => w'.cell? ⟨gb494, 0, none⟩ = some (.int .i64 a0_0) ∧ w'.cell? ⟨gb494, 1, none⟩ = some (.slice (some ad502) l0_1.length c0_1) ∧ w'.cell? (ad502.add ((rd t495 x12_1)).toNat) = some (.int .i64 (rd l0_1 (rd t495 x12_1)))) (ds := []) (bm 13 0) (by kernel_rfl) rfl (by kernel_rfl) ⟨(blk_cell BK494.out 0).trans rfl, (blk_cell BK494.out 1).trans rfl, ((HB.out.cell (World.block_lt_of_cell? w _ hw502_0)).trans hw502_0)⟩ (fun hHeld => ?_); refine with_tabW spec_orLonger.tab5 spec_orLonger.bits5 (fun HT_ HW_ => ?_)
     generalize wr.drew = w15 at HO_5 HO_10 BK494 HB hx502_0 hHeld ⊢
     refine purW 0 16 13 1 HT_ ?_
     refine purW 3 19 13 9 HT_ ?_
     refine purW 5 21 13 41 HT_ ?_
     refine purW 8 24 13 297 HT_ ?_
     refine takeW 2 (some 18) (bm 13 301) HT_ HW_ hHeld ?_
     refine takeW 4 (some 20) (bm 13 317) HT_ HW_ hHeld ?_
     refine purW 6 22 13 381 HT_ ?_
     refine takeW 7 (some 23) (bm 13 509) HT_ HW_ hHeld ?_
     refine purW 9 25 13 1021 HT_ ?_
     refine join_ (σ := Value × Value) 2 (bm 13 2047) (fun s_ => [(17, s_.1), (26, s_.2)]) (fun s_ w' => (w'.cell? ⟨gb494, 0, none⟩ = some (.int .i64 a0_0) ∧ w'.cell? ⟨gb494, 1, none⟩ = some (.slice (some ad502) l0_1.length c0_1) ∧ w'.cell? (ad502.add ((rd t495 x12_1)).toNat) = some (.int .i64 (rd l0_1 (rd t495 x12_1)))) ∧ (Kd.R (Kd.int .i64) 3 w' w.heap.size (fun k_ => some k_ ≠ (s_.2 : Value).ownBlock ∧ some k_ ≠ (.slice (some ad498) t495.length co6 : Value).ownBlock ∧ some k_ ≠ (u5 : Value).ownBlock) s_.1 y499) ∧ (Kd.R (Kd.int .i64) 3 w' w.heap.size (fun k_ => some k_ ≠ (s_.1 : Value).ownBlock ∧ some k_ ≠ (.slice (some ad498) t495.length co6 : Value).ownBlock ∧ some k_ ≠ (u5 : Value).ownBlock) s_.2 t503) ∧ (Kd.R (Kd.int .i64) 3 w' w.heap.size (fun k_ => some k_ ≠ (s_.1 : Value).ownBlock ∧ some k_ ≠ (s_.2 : Value).ownBlock ∧ some k_ ≠ (u5 : Value).ownBlock) (.slice (some ad498) t495.length co6) t495) ∧ (Kd.R (Kd.int .i64) 3 w' w.heap.size (fun k_ => some k_ ≠ (s_.1 : Value).ownBlock ∧ some k_ ≠ (s_.2 : Value).ownBlock ∧ some k_ ≠ (.slice (some ad498) t495.length co6 : Value).ownBlock) u5 x5_1) ∧ (w'.heap[gb494]? = some (.cells #[.int .i64 a0_0, .slice (some ad502) l0_1.length c0_1] 26 (0, 0))) ∧ (Below w.heap.size w w')) ?_ ?_
     rotate_left
     ·intro hCont
      refine two_ (i := 1) (j := 10) (Ni := some 17) (Nj := some 26) (bm 13 1023) (bm 13 2045) rfl rfl rfl rfl (two_of HT_.out (by kernel_rfl)) (by decide) (by decide) (fun K hK => ?_) (fun K hK => ?_)
      ·skip
       refine Kd.R_lit_step (Kd.int .i64) _ 3 ?hg (N := 17) ?hd (xs := ([rd t495 x12_1] : List Int)) (inner := [.int .i64 (rd t495 x12_1)]) (ok := fun _ => True) (okp := fun _ => True) ?hr ?hp (fun _ hk => hk) trivial (Below.refl _ _) (Nat.le_refl _) (by simp) ?_; (case hd => rfl); (case hg => rfl); (case hr => first | (go_simp; done) | (go_simp; rfl)); (case hp => exact (Reps.one (show Kd.M (Kd.int .i64) _ _ _ (rd t495 x12_1) [.int .i64 (rd t495 x12_1)] from rfl) (Reps.none _ _)))
       intro v500 w16 ho17 hb hg_ hnew_
       clear hg_ hnew_
       (first | rw [← Ny499.out] at ho17 | (simp only [Int.reduceToNat] at ho17; rw [← Ny499.out] at ho17))
       have HO501 := rLo (rN (rN ho17 HO_5) HO_10) HB
       replace HO_5 := rE HO_5 ho17 hb
       replace HO_10 := rE HO_10 ho17 hb
       replace BK494 := blkB BK494 hb
       replace HB := bst HB hb
       clear hb ho17
       refine hK.out _ _ ⟨(blk_cell BK494.out 0).trans rfl, (blk_cell BK494.out 1).trans rfl, ((HB.out.cell (World.block_lt_of_cell? w _ hw502_0)).trans hw502_0)⟩ (fun hHeld => ?_)
       clear hK K
       refine normW 17 ?_
       refine oneW 10 (some 26) (bm 13 2047) HT_ (fun K hK => ?_)
       refine goesR Tryd.func29 #[.agg #[.int .i64 a0_0, .slice (some ad502) l0_1.length c0_1], .int .i64 (Go.bits .and .i64 (rd l0_1 (rd t495 x12_1)) a1)] ?_
       with_reducible refine (ih k1 (by have := HK1.out; omega) a0_0 _ _ l0_1 (Go.bits .and .i64 (rd l0_1 (rd t495 x12_1)) a1) t503 _ ?s1 ?s2 A12.out).mono ?_
       (case s1 => exact C_g HR0_1 HB)
       (case s2 => exact HC0_1.out)
       rintro e w18 ⟨v504, rfl, ho0, hb⟩
       refine ⟨_, rfl, ?_⟩
       have HO505 := rLo (rN (rN (rN ho0 HO_5) HO_10) HO501) HB
       replace HO_5 := rE HO_5 ho0 hb
       replace HO_10 := rE HO_10 ho0 hb
       replace HO501 := rE HO501 ho0 hb
       replace BK494 := blkB BK494 hb
       replace HB := bst HB hb
       (try clear hb)
       (try clear hb2)
       (try clear hk)
       (try clear hi)
       (try clear ho0)
       refine hK.out _ _ ⟨(blk_cell BK494.out 0).trans rfl, (blk_cell BK494.out 1).trans rfl, ((HB.out.cell (World.block_lt_of_cell? w _ hw502_0)).trans hw502_0)⟩ (fun hHeld => ?_)
       clear hK K
       refine normW 26 ?_
       exact norm_ (by simp only [putAll, Act.put, List.setIfInBounds_toArray, List.set_cons_zero, List.set_cons_succ]) (hCont (v500, v504) _ ⟨hHeld, (Kd.R_g (Kd.R_mono HO501.out (fun _ hk => ⟨hk.2, ⟨hk.1.2, hk.1.1.2⟩⟩))), (Kd.R_g (Kd.R_mono HO505.out (fun _ hk => ⟨hk.2, ⟨hk.1.2, hk.1.1.2⟩⟩))), (Kd.R_g (Kd.R_mono HO_10.out (fun _ hk => ⟨hk.1.2, ⟨hk.2, hk.1.1⟩⟩))), (Kd.R_g (Kd.R_mono HO_5.out (fun _ hk => ⟨hk.1.2, ⟨hk.2, hk.1.1⟩⟩))), (blk_g BK494.out), (bel_g HB.out)⟩)
      ·skip
       refine goesR Tryd.func29 #[.agg #[.int .i64 a0_0, .slice (some ad502) l0_1.length c0_1], .int .i64 (Go.bits .and .i64 (rd l0_1 (rd t495 x12_1)) a1)] ?_
       with_reducible refine (ih k1 (by have := HK1.out; omega) a0_0 _ _ l0_1 (Go.bits .and .i64 (rd l0_1 (rd t495 x12_1)) a1) t503 _ ?s1 ?s2 A12.out).mono ?_
       (case s1 => exact C_g HR0_1 HB)
       (case s2 => exact HC0_1.out)
       rintro e w16 ⟨v504, rfl, ho0, hb⟩
       refine ⟨_, rfl, ?_⟩
       have HO505 := rLo (rN (rN ho0 HO_5) HO_10) HB
       replace HO_5 := rE HO_5 ho0 hb
       replace HO_10 := rE HO_10 ho0 hb
       replace BK494 := blkB BK494 hb
       replace HB := bst HB hb
       (try clear hb)
       (try clear hb2)
       (try clear hk)
       (try clear hi)
       (try clear ho0)
       refine hK.out _ _ ⟨(blk_cell BK494.out 0).trans rfl, (blk_cell BK494.out 1).trans rfl, ((HB.out.cell (World.block_lt_of_cell? w _ hw502_0)).trans hw502_0)⟩ (fun hHeld => ?_)
       clear hK K
       refine normW 26 ?_
       refine oneW 1 (some 17) (bm 13 2047) HT_ (fun K hK => ?_)
       refine Kd.R_lit_step (Kd.int .i64) _ 3 ?hg (N := 17) ?hd (xs := ([rd t495 x12_1] : List Int)) (inner := [.int .i64 (rd t495 x12_1)]) (ok := fun _ => True) (okp := fun _ => True) ?hr ?hp (fun _ hk => hk) trivial (Below.refl _ _) (Nat.le_refl _) (by simp) ?_; (case hd => rfl); (case hg => rfl); (case hr => first | (go_simp; done) | (go_simp; rfl)); (case hp => exact (Reps.one (show Kd.M (Kd.int .i64) _ _ _ (rd t495 x12_1) [.int .i64 (rd t495 x12_1)] from rfl) (Reps.none _ _)))
       intro v500 w17 ho18 hb hg_ hnew_
       clear hg_ hnew_
       (first | rw [← Ny499.out] at ho18 | (simp only [Int.reduceToNat] at ho18; rw [← Ny499.out] at ho18))
       have HO501 := rLo (rN (rN (rN ho18 HO_5) HO_10) HO505) HB
       replace HO_5 := rE HO_5 ho18 hb
       replace HO_10 := rE HO_10 ho18 hb
       replace HO505 := rE HO505 ho18 hb
       replace BK494 := blkB BK494 hb
       replace HB := bst HB hb
       clear hb ho18
       refine hK.out _ _ ⟨(blk_cell BK494.out 0).trans rfl, (blk_cell BK494.out 1).trans rfl, ((HB.out.cell (World.block_lt_of_cell? w _ hw502_0)).trans hw502_0)⟩ (fun hHeld => ?_)
       clear hK K
       refine normW 17 ?_
       exact norm_ (by simp only [putAll, Act.put, List.setIfInBounds_toArray, List.set_cons_zero, List.set_cons_succ]) (hCont (v500, v504) _ ⟨hHeld, (Kd.R_g (Kd.R_mono HO501.out (fun _ hk => ⟨hk.2, ⟨hk.1.2, hk.1.1.2⟩⟩))), (Kd.R_g (Kd.R_mono HO505.out (fun _ hk => ⟨hk.2, ⟨hk.1.2, hk.1.1.2⟩⟩))), (Kd.R_g (Kd.R_mono HO_10.out (fun _ hk => ⟨hk.2, ⟨hk.1.2, hk.1.1⟩⟩))), (Kd.R_g (Kd.R_mono HO_5.out (fun _ hk => ⟨hk.2, ⟨hk.1.2, hk.1.1⟩⟩))), (blk_g BK494.out), (bel_g HB.out)⟩)
     rintro ⟨v500, v504⟩ w19 ⟨hS_, h0_, h1_, h2_, h3_, h4_, h5_⟩
     have n0_ : Fc (Kd.R (Kd.int .i64) 3 w19 w.heap.size (fun k_ => some k_ ≠ (v504 : Value).ownBlock ∧ some k_ ≠ (.slice (some ad498) t495.length co6 : Value).ownBlock ∧ some k_ ≠ (u5 : Value).ownBlock) v500 y499) := ⟨h0_⟩
     have n1_ : Fc (Kd.R (Kd.int .i64) 3 w19 w.heap.size (fun k_ => some k_ ≠ (v500 : Value).ownBlock ∧ some k_ ≠ (.slice (some ad498) t495.length co6 : Value).ownBlock ∧ some k_ ≠ (u5 : Value).ownBlock) v504 t503) := ⟨h1_⟩
     have n2_ : Fc (Kd.R (Kd.int .i64) 3 w19 w.heap.size (fun k_ => some k_ ≠ (v500 : Value).ownBlock ∧ some k_ ≠ (v504 : Value).ownBlock ∧ some k_ ≠ (u5 : Value).ownBlock) (.slice (some ad498) t495.length co6) t495) := ⟨h2_⟩
     have n3_ : Fc (Kd.R (Kd.int .i64) 3 w19 w.heap.size (fun k_ => some k_ ≠ (v500 : Value).ownBlock ∧ some k_ ≠ (v504 : Value).ownBlock ∧ some k_ ≠ (.slice (some ad498) t495.length co6 : Value).ownBlock) u5 x5_1) := ⟨h3_⟩
     have n4_ : Fc (w19.heap[gb494]? = some (.cells #[.int .i64 a0_0, .slice (some ad502) l0_1.length c0_1] 26 (0, 0))) := ⟨h4_⟩
     have n5_ : Fc (Below w.heap.size w w19) := ⟨h5_⟩
     clear HO_5
     clear HO_10
     clear BK494
     clear HB
     clear h0_ h1_ h2_ h3_ h4_ h5_
     have HO501 := n0_
     have HO505 := n1_
     have HO_10 := n2_
     have HO_5 := n3_
     have BK494 := n4_
     have HB := n5_
     clear n0_ n1_ n2_ n3_ n4_ n5_
     have hHeld : w19.cell? ⟨gb494, 0, none⟩ = some (.int .i64 a0_0) ∧ w19.cell? ⟨gb494, 1, none⟩ = some (.slice (some ad502) l0_1.length c0_1) ∧ w19.cell? (ad502.add ((rd t495 x12_1)).toNat) = some (.int .i64 (rd l0_1 (rd t495 x12_1))) := hS_
     obtain ⟨Ao21, co21, eo21⟩ := Kd.R_slice HO505.out
     (first | subst eo21 | (injection eo21 with f1_ f2_ f3_; have f4_ := f1_.symm; have f5_ := f3_.symm; clear f1_ f2_ f3_; subst f4_; subst f5_))
     refine norm_ (a' := ?_) ?_ ?_
     rotate_left
     ·simp only [putAll, Act.put, List.setIfInBounds_toArray, List.set_cons_zero, List.set_cons_succ]
      rfl
     refine oneW 11 (some 27) (bm 13 4095) HT_ (fun K hK => ?_)
     refine Kd.R_append_rows_step (Kd.int .i64) (w0 := w) w.heap.size (by rfl) (.tmp 17) (.tmp 26) 24 3 (.int .i64 0) 8 rfl Tryd.underlying24 info3 rfl (by decide) (by omega) v500 y499 t503 _ _ _ (fun k_ => some k_ ≠ (u5 : Value).ownBlock ∧ some k_ ≠ (.slice (some ad498) t495.length co6 : Value).ownBlock ∧ some k_ ≠ (.slice Ao21 t503.length co21 : Value).ownBlock) (fun _ => False) rfl rfl ?aO ?aR (fun _ _ h => h) (fun _ h => h.elim) ?aF ?aB ?aS ?aL ?_
     (case aR => repeat (first | exact (Kd.R_reads' HO505.out).2.2 | (with_reducible refine Kd.C_alloc ?_ _) | (with_reducible refine Kd.C_drewN ?_ _) | (with_reducible refine Kd.C_drew ?_)))
     (case aB => exact (bel_g HB.out))
     (case aF => exact (fun k_ hk => ⟨Kd.fresh' (Kd.R_lt (Kd.R_g HO_5.out)) k_ hk, Kd.fresh' (Kd.R_lt (Kd.R_g HO_10.out)) k_ hk, Kd.fresh' (Kd.R_lt (Kd.R_g HO505.out)) k_ hk⟩))
     (case aO => exact (Kd.R_g (Kd.R_mono HO501.out (fun _ hk => ⟨hk.2.2, ⟨hk.2.1, hk.1⟩⟩))))
     (case aS => exact (below_size (bel_g HB.out)))
     (case aL => have := LMc13.out; omega)
     intro v507 w20 ho hb hg hat
     rw [← Ny506.out] at ho
     replace HO_5 := mkA (Kd.R_after (ok := (fun k_ => some k_ ≠ (.slice (some ad498) t495.length co6 : Value).ownBlock ∧ some k_ ≠ (.slice Ao21 t503.length co21 : Value).ownBlock)) (Kd.R_g (Kd.R_mono HO_5.out (fun _ hk => ⟨⟨hk.2.2, hk.2.1⟩, hk.1⟩))) hg hat)
     replace HO_10 := mkA (Kd.R_after (ok := (fun k_ => some k_ ≠ (u5 : Value).ownBlock ∧ some k_ ≠ (.slice Ao21 t503.length co21 : Value).ownBlock)) (Kd.R_g (Kd.R_mono HO_10.out (fun _ hk => ⟨⟨hk.2.2, hk.2.1⟩, hk.1⟩))) hg hat)
     replace BK494 := mkA (blk_grown (g := gb494) (o := .cells #[.int .i64 a0_0, .slice (some ad502) l0_1.length c0_1] 26 (0, 0)) (blk_g BK494.out) hg (Kd.R_ne HO501.out BK494.out (by decide)))
     replace HO505 := mkA (Kd.R_after (ok := (fun k_ => some k_ ≠ (u5 : Value).ownBlock ∧ some k_ ≠ (.slice (some ad498) t495.length co6 : Value).ownBlock)) (Kd.R_g (Kd.R_mono HO505.out (fun _ hk => ⟨⟨hk.2.2, hk.2.1⟩, hk.1⟩))) hg hat)
     have HO508 := mkA (ho)
     replace HB := mkA (hb)
     clear HO501
     clear ho hb hg hat
     refine hK.out _ _ ⟨(blk_cell BK494.out 0).trans rfl, (blk_cell BK494.out 1).trans rfl, ((HB.out.cell (World.block_lt_of_cell? w _ hw502_0)).trans hw502_0)⟩ (fun hHeld => ?_)
     clear hK K
     refine normW 27 ?_
     refine purW 12 8 13 8191 HT_ ?_
     refine doneW HT_ ?_
     obtain ⟨Ao22, co22, rfl⟩ := Kd.R_slice HO508.out
     obtain ⟨Ao23, co23, rfl⟩ := Kd.R_slice HO_5.out
     try go_wp2
     go_roundg k1
     case measure => have := HK1.out; omega
     case rel => exact ⟨(y506), (wrap64 (x12_1 + 1)), eqS, H', ⟨by have := HK1.out; omega⟩, ⟨Kd.R_g (Kd.R_mono HO508.out (fun _ hk => hk.2.1))⟩, ⟨Kd.R_g (Kd.R_mono HO_10.out (fun _ hk => hk.2))⟩, bg BK494, hbg HB⟩
    ·have c14b0 := decide_eq_false c14
     have c14b1 : decide (x5_1.length < y506.length) = false := decide_eq_false (fun h => c14 (Int.ofNat_lt.mpr h))
     clear c14
     have H' := mkA H
     clear H
     obtain ⟨p498, q498, ad498, e498, hx498_0⟩ := atI (Kd.R_reads' HO_10.out).2.2 x12_1
     cases e498
     try go_wp2
     replace HO_5 := mkA (Kd.R_drew HO_5.out)
     replace HO_10 := mkA (Kd.R_drew HO_10.out)
     replace BK494 := mkA (blk_drew BK494.out)
     replace HB := mkA (below_drew1 HB.out)
     obtain ⟨p502, q502, ad502, e502, hx502_0⟩ := atI HR0_1.out (rd t495 x12_1)
     have hw502_0 := hx502_0
     cases e502
     replace hx502_0 := (HB.out.cell (World.block_lt_of_cell? w _ hx502_0)).trans hx502_0
     refine start_ (n := 13) (S := fun w' => w'.cell? ⟨gb494, 0, none⟩ = some (.int .i64 a0_0) ∧ w'.cell? ⟨gb494, 1, none⟩ = some (.slice (some ad502) l0_1.length c0_1) ∧ w'.cell? (ad502.add ((rd t495 x12_1)).toNat) = some (.int .i64 (rd l0_1 (rd t495 x12_1)))) (ds := []) (bm 13 0) (by kernel_rfl) rfl (by kernel_rfl) ⟨(blk_cell BK494.out 0).trans rfl, (blk_cell BK494.out 1).trans rfl, ((HB.out.cell (World.block_lt_of_cell? w _ hw502_0)).trans hw502_0)⟩ (fun hHeld => ?_); refine with_tabW spec_orLonger.tab5 spec_orLonger.bits5 (fun HT_ HW_ => ?_)
     generalize wr.drew = w24 at HO_5 HO_10 BK494 HB hx502_0 hHeld ⊢
     refine purW 0 16 13 1 HT_ ?_
     refine purW 3 19 13 9 HT_ ?_
     refine purW 5 21 13 41 HT_ ?_
     refine purW 8 24 13 297 HT_ ?_
     refine takeW 2 (some 18) (bm 13 301) HT_ HW_ hHeld ?_
     refine takeW 4 (some 20) (bm 13 317) HT_ HW_ hHeld ?_
     refine purW 6 22 13 381 HT_ ?_
     refine takeW 7 (some 23) (bm 13 509) HT_ HW_ hHeld ?_
     refine purW 9 25 13 1021 HT_ ?_
     refine join_ (σ := Value × Value) 2 (bm 13 2047) (fun s_ => [(17, s_.1), (26, s_.2)]) (fun s_ w' => (w'.cell? ⟨gb494, 0, none⟩ = some (.int .i64 a0_0) ∧ w'.cell? ⟨gb494, 1, none⟩ = some (.slice (some ad502) l0_1.length c0_1) ∧ w'.cell? (ad502.add ((rd t495 x12_1)).toNat) = some (.int .i64 (rd l0_1 (rd t495 x12_1)))) ∧ (Kd.R (Kd.int .i64) 3 w' w.heap.size (fun k_ => some k_ ≠ (s_.2 : Value).ownBlock ∧ some k_ ≠ (.slice (some ad498) t495.length co6 : Value).ownBlock ∧ some k_ ≠ (u5 : Value).ownBlock) s_.1 y499) ∧ (Kd.R (Kd.int .i64) 3 w' w.heap.size (fun k_ => some k_ ≠ (s_.1 : Value).ownBlock ∧ some k_ ≠ (.slice (some ad498) t495.length co6 : Value).ownBlock ∧ some k_ ≠ (u5 : Value).ownBlock) s_.2 t503) ∧ (Kd.R (Kd.int .i64) 3 w' w.heap.size (fun k_ => some k_ ≠ (s_.1 : Value).ownBlock ∧ some k_ ≠ (s_.2 : Value).ownBlock ∧ some k_ ≠ (u5 : Value).ownBlock) (.slice (some ad498) t495.length co6) t495) ∧ (Kd.R (Kd.int .i64) 3 w' w.heap.size (fun k_ => some k_ ≠ (s_.1 : Value).ownBlock ∧ some k_ ≠ (s_.2 : Value).ownBlock ∧ some k_ ≠ (.slice (some ad498) t495.length co6 : Value).ownBlock) u5 x5_1) ∧ (w'.heap[gb494]? = some (.cells #[.int .i64 a0_0, .slice (some ad502) l0_1.length c0_1] 26 (0, 0))) ∧ (Below w.heap.size w w')) ?_ ?_
     rotate_left
     ·intro hCont
      refine two_ (i := 1) (j := 10) (Ni := some 17) (Nj := some 26) (bm 13 1023) (bm 13 2045) rfl rfl rfl rfl (two_of HT_.out (by kernel_rfl)) (by decide) (by decide) (fun K hK => ?_) (fun K hK => ?_)
      ·skip
       refine Kd.R_lit_step (Kd.int .i64) _ 3 ?hg (N := 17) ?hd (xs := ([rd t495 x12_1] : List Int)) (inner := [.int .i64 (rd t495 x12_1)]) (ok := fun _ => True) (okp := fun _ => True) ?hr ?hp (fun _ hk => hk) trivial (Below.refl _ _) (Nat.le_refl _) (by simp) ?_; (case hd => rfl); (case hg => rfl); (case hr => first | (go_simp; done) | (go_simp; rfl)); (case hp => exact (Reps.one (show Kd.M (Kd.int .i64) _ _ _ (rd t495 x12_1) [.int .i64 (rd t495 x12_1)] from rfl) (Reps.none _ _)))
       intro v500 w25 ho26 hb hg_ hnew_
       clear hg_ hnew_
       (first | rw [← Ny499.out] at ho26 | (simp only [Int.reduceToNat] at ho26; rw [← Ny499.out] at ho26))
       have HO501 := rLo (rN (rN ho26 HO_5) HO_10) HB
       replace HO_5 := rE HO_5 ho26 hb
       replace HO_10 := rE HO_10 ho26 hb
       replace BK494 := blkB BK494 hb
       replace HB := bst HB hb
       clear hb ho26
       refine hK.out _ _ ⟨(blk_cell BK494.out 0).trans rfl, (blk_cell BK494.out 1).trans rfl, ((HB.out.cell (World.block_lt_of_cell? w _ hw502_0)).trans hw502_0)⟩ (fun hHeld => ?_)
       clear hK K
       refine normW 17 ?_
       refine oneW 10 (some 26) (bm 13 2047) HT_ (fun K hK => ?_)
       refine goesR Tryd.func29 #[.agg #[.int .i64 a0_0, .slice (some ad502) l0_1.length c0_1], .int .i64 (Go.bits .and .i64 (rd l0_1 (rd t495 x12_1)) a1)] ?_
       with_reducible refine (ih k1 (by have := HK1.out; omega) a0_0 _ _ l0_1 (Go.bits .and .i64 (rd l0_1 (rd t495 x12_1)) a1) t503 _ ?s1 ?s2 A12.out).mono ?_
       (case s1 => exact C_g HR0_1 HB)
       (case s2 => exact HC0_1.out)
       rintro e w27 ⟨v504, rfl, ho0, hb⟩
       refine ⟨_, rfl, ?_⟩
       have HO505 := rLo (rN (rN (rN ho0 HO_5) HO_10) HO501) HB
       replace HO_5 := rE HO_5 ho0 hb
       replace HO_10 := rE HO_10 ho0 hb
       replace HO501 := rE HO501 ho0 hb
       replace BK494 := blkB BK494 hb
       replace HB := bst HB hb
       (try clear hb)
       (try clear hb2)
       (try clear hk)
       (try clear hi)
       (try clear ho0)
       refine hK.out _ _ ⟨(blk_cell BK494.out 0).trans rfl, (blk_cell BK494.out 1).trans rfl, ((HB.out.cell (World.block_lt_of_cell? w _ hw502_0)).trans hw502_0)⟩ (fun hHeld => ?_)
       clear hK K
       refine normW 26 ?_
       exact norm_ (by simp only [putAll, Act.put, List.setIfInBounds_toArray, List.set_cons_zero, List.set_cons_succ]) (hCont (v500, v504) _ ⟨hHeld, (Kd.R_g (Kd.R_mono HO501.out (fun _ hk => ⟨hk.2, ⟨hk.1.2, hk.1.1.2⟩⟩))), (Kd.R_g (Kd.R_mono HO505.out (fun _ hk => ⟨hk.2, ⟨hk.1.2, hk.1.1.2⟩⟩))), (Kd.R_g (Kd.R_mono HO_10.out (fun _ hk => ⟨hk.1.2, ⟨hk.2, hk.1.1⟩⟩))), (Kd.R_g (Kd.R_mono HO_5.out (fun _ hk => ⟨hk.1.2, ⟨hk.2, hk.1.1⟩⟩))), (blk_g BK494.out), (bel_g HB.out)⟩)
      ·skip
       refine goesR Tryd.func29 #[.agg #[.int .i64 a0_0, .slice (some ad502) l0_1.length c0_1], .int .i64 (Go.bits .and .i64 (rd l0_1 (rd t495 x12_1)) a1)] ?_
       with_reducible refine (ih k1 (by have := HK1.out; omega) a0_0 _ _ l0_1 (Go.bits .and .i64 (rd l0_1 (rd t495 x12_1)) a1) t503 _ ?s1 ?s2 A12.out).mono ?_
       (case s1 => exact C_g HR0_1 HB)
       (case s2 => exact HC0_1.out)
       rintro e w25 ⟨v504, rfl, ho0, hb⟩
       refine ⟨_, rfl, ?_⟩
       have HO505 := rLo (rN (rN ho0 HO_5) HO_10) HB
       replace HO_5 := rE HO_5 ho0 hb
       replace HO_10 := rE HO_10 ho0 hb
       replace BK494 := blkB BK494 hb
       replace HB := bst HB hb
       (try clear hb)
       (try clear hb2)
       (try clear hk)
       (try clear hi)
       (try clear ho0)
       refine hK.out _ _ ⟨(blk_cell BK494.out 0).trans rfl, (blk_cell BK494.out 1).trans rfl, ((HB.out.cell (World.block_lt_of_cell? w _ hw502_0)).trans hw502_0)⟩ (fun hHeld => ?_)
       clear hK K
       refine normW 26 ?_
       refine oneW 1 (some 17) (bm 13 2047) HT_ (fun K hK => ?_)
       refine Kd.R_lit_step (Kd.int .i64) _ 3 ?hg (N := 17) ?hd (xs := ([rd t495 x12_1] : List Int)) (inner := [.int .i64 (rd t495 x12_1)]) (ok := fun _ => True) (okp := fun _ => True) ?hr ?hp (fun _ hk => hk) trivial (Below.refl _ _) (Nat.le_refl _) (by simp) ?_; (case hd => rfl); (case hg => rfl); (case hr => first | (go_simp; done) | (go_simp; rfl)); (case hp => exact (Reps.one (show Kd.M (Kd.int .i64) _ _ _ (rd t495 x12_1) [.int .i64 (rd t495 x12_1)] from rfl) (Reps.none _ _)))
       intro v500 w26 ho27 hb hg_ hnew_
       clear hg_ hnew_
       (first | rw [← Ny499.out] at ho27 | (simp only [Int.reduceToNat] at ho27; rw [← Ny499.out] at ho27))
       have HO501 := rLo (rN (rN (rN ho27 HO_5) HO_10) HO505) HB
       replace HO_5 := rE HO_5 ho27 hb
       replace HO_10 := rE HO_10 ho27 hb
       replace HO505 := rE HO505 ho27 hb
       replace BK494 := blkB BK494 hb
       replace HB := bst HB hb
       clear hb ho27
       refine hK.out _ _ ⟨(blk_cell BK494.out 0).trans rfl, (blk_cell BK494.out 1).trans rfl, ((HB.out.cell (World.block_lt_of_cell? w _ hw502_0)).trans hw502_0)⟩ (fun hHeld => ?_)
       clear hK K
       refine normW 17 ?_
       exact norm_ (by simp only [putAll, Act.put, List.setIfInBounds_toArray, List.set_cons_zero, List.set_cons_succ]) (hCont (v500, v504) _ ⟨hHeld, (Kd.R_g (Kd.R_mono HO501.out (fun _ hk => ⟨hk.2, ⟨hk.1.2, hk.1.1.2⟩⟩))), (Kd.R_g (Kd.R_mono HO505.out (fun _ hk => ⟨hk.2, ⟨hk.1.2, hk.1.1.2⟩⟩))), (Kd.R_g (Kd.R_mono HO_10.out (fun _ hk => ⟨hk.2, ⟨hk.1.2, hk.1.1⟩⟩))), (Kd.R_g (Kd.R_mono HO_5.out (fun _ hk => ⟨hk.2, ⟨hk.1.2, hk.1.1⟩⟩))), (blk_g BK494.out), (bel_g HB.out)⟩)
     rintro ⟨v500, v504⟩ w28 ⟨hS_, h0_, h1_, h2_, h3_, h4_, h5_⟩
     have n0_ : Fc (Kd.R (Kd.int .i64) 3 w28 w.heap.size (fun k_ => some k_ ≠ (v504 : Value).ownBlock ∧ some k_ ≠ (.slice (some ad498) t495.length co6 : Value).ownBlock ∧ some k_ ≠ (u5 : Value).ownBlock) v500 y499) := ⟨h0_⟩
     have n1_ : Fc (Kd.R (Kd.int .i64) 3 w28 w.heap.size (fun k_ => some k_ ≠ (v500 : Value).ownBlock ∧ some k_ ≠ (.slice (some ad498) t495.length co6 : Value).ownBlock ∧ some k_ ≠ (u5 : Value).ownBlock) v504 t503) := ⟨h1_⟩
     have n2_ : Fc (Kd.R (Kd.int .i64) 3 w28 w.heap.size (fun k_ => some k_ ≠ (v500 : Value).ownBlock ∧ some k_ ≠ (v504 : Value).ownBlock ∧ some k_ ≠ (u5 : Value).ownBlock) (.slice (some ad498) t495.length co6) t495) := ⟨h2_⟩
     have n3_ : Fc (Kd.R (Kd.int .i64) 3 w28 w.heap.size (fun k_ => some k_ ≠ (v500 : Value).ownBlock ∧ some k_ ≠ (v504 : Value).ownBlock ∧ some k_ ≠ (.slice (some ad498) t495.length co6 : Value).ownBlock) u5 x5_1) := ⟨h3_⟩
     have n4_ : Fc (w28.heap[gb494]? = some (.cells #[.int .i64 a0_0, .slice (some ad502) l0_1.length c0_1] 26 (0, 0))) := ⟨h4_⟩
     have n5_ : Fc (Below w.heap.size w w28) := ⟨h5_⟩
     clear HO_5
     clear HO_10
     clear BK494
     clear HB
     clear h0_ h1_ h2_ h3_ h4_ h5_
     have HO501 := n0_
     have HO505 := n1_
     have HO_10 := n2_
     have HO_5 := n3_
     have BK494 := n4_
     have HB := n5_
     clear n0_ n1_ n2_ n3_ n4_ n5_
     have hHeld : w28.cell? ⟨gb494, 0, none⟩ = some (.int .i64 a0_0) ∧ w28.cell? ⟨gb494, 1, none⟩ = some (.slice (some ad502) l0_1.length c0_1) ∧ w28.cell? (ad502.add ((rd t495 x12_1)).toNat) = some (.int .i64 (rd l0_1 (rd t495 x12_1))) := hS_
     obtain ⟨Ao30, co30, eo30⟩ := Kd.R_slice HO505.out
     (first | subst eo30 | (injection eo30 with f1_ f2_ f3_; have f4_ := f1_.symm; have f5_ := f3_.symm; clear f1_ f2_ f3_; subst f4_; subst f5_))
     refine norm_ (a' := ?_) ?_ ?_
     rotate_left
     ·simp only [putAll, Act.put, List.setIfInBounds_toArray, List.set_cons_zero, List.set_cons_succ]
      rfl
     refine oneW 11 (some 27) (bm 13 4095) HT_ (fun K hK => ?_)
     refine Kd.R_append_rows_step (Kd.int .i64) (w0 := w) w.heap.size (by rfl) (.tmp 17) (.tmp 26) 24 3 (.int .i64 0) 8 rfl Tryd.underlying24 info3 rfl (by decide) (by omega) v500 y499 t503 _ _ _ (fun k_ => some k_ ≠ (u5 : Value).ownBlock ∧ some k_ ≠ (.slice (some ad498) t495.length co6 : Value).ownBlock ∧ some k_ ≠ (.slice Ao30 t503.length co30 : Value).ownBlock) (fun _ => False) rfl rfl ?aO ?aR (fun _ _ h => h) (fun _ h => h.elim) ?aF ?aB ?aS ?aL ?_
     (case aR => repeat (first | exact (Kd.R_reads' HO505.out).2.2 | (with_reducible refine Kd.C_alloc ?_ _) | (with_reducible refine Kd.C_drewN ?_ _) | (with_reducible refine Kd.C_drew ?_)))
     (case aB => exact (bel_g HB.out))
     (case aF => exact (fun k_ hk => ⟨Kd.fresh' (Kd.R_lt (Kd.R_g HO_5.out)) k_ hk, Kd.fresh' (Kd.R_lt (Kd.R_g HO_10.out)) k_ hk, Kd.fresh' (Kd.R_lt (Kd.R_g HO505.out)) k_ hk⟩))
     (case aO => exact (Kd.R_g (Kd.R_mono HO501.out (fun _ hk => ⟨hk.2.2, ⟨hk.2.1, hk.1⟩⟩))))
     (case aS => exact (below_size (bel_g HB.out)))
     (case aL => have := LMc13.out; omega)
     intro v507 w29 ho hb hg hat
     rw [← Ny506.out] at ho
     replace HO_5 := mkA (Kd.R_after (ok := (fun k_ => some k_ ≠ (.slice (some ad498) t495.length co6 : Value).ownBlock ∧ some k_ ≠ (.slice Ao30 t503.length co30 : Value).ownBlock)) (Kd.R_g (Kd.R_mono HO_5.out (fun _ hk => ⟨⟨hk.2.2, hk.2.1⟩, hk.1⟩))) hg hat)
     replace HO_10 := mkA (Kd.R_after (ok := (fun k_ => some k_ ≠ (u5 : Value).ownBlock ∧ some k_ ≠ (.slice Ao30 t503.length co30 : Value).ownBlock)) (Kd.R_g (Kd.R_mono HO_10.out (fun _ hk => ⟨⟨hk.2.2, hk.2.1⟩, hk.1⟩))) hg hat)
     replace BK494 := mkA (blk_grown (g := gb494) (o := .cells #[.int .i64 a0_0, .slice (some ad502) l0_1.length c0_1] 26 (0, 0)) (blk_g BK494.out) hg (Kd.R_ne HO501.out BK494.out (by decide)))
     replace HO505 := mkA (Kd.R_after (ok := (fun k_ => some k_ ≠ (u5 : Value).ownBlock ∧ some k_ ≠ (.slice (some ad498) t495.length co6 : Value).ownBlock)) (Kd.R_g (Kd.R_mono HO505.out (fun _ hk => ⟨⟨hk.2.2, hk.2.1⟩, hk.1⟩))) hg hat)
     have HO508 := mkA (ho)
     replace HB := mkA (hb)
     clear HO501
     clear ho hb hg hat
     refine hK.out _ _ ⟨(blk_cell BK494.out 0).trans rfl, (blk_cell BK494.out 1).trans rfl, ((HB.out.cell (World.block_lt_of_cell? w _ hw502_0)).trans hw502_0)⟩ (fun hHeld => ?_)
     clear hK K
     refine normW 27 ?_
     refine purW 12 8 13 8191 HT_ ?_
     refine doneW HT_ ?_
     obtain ⟨Ao31, co31, rfl⟩ := Kd.R_slice HO508.out
     obtain ⟨Ao32, co32, rfl⟩ := Kd.R_slice HO_5.out
     try go_wp2
     go_roundg k1
     case measure => have := HK1.out; omega
     case rel => exact ⟨(x5_1), (wrap64 (x12_1 + 1)), eqS, H', ⟨by have := HK1.out; omega⟩, ⟨Kd.R_g (Kd.R_mono HO_5.out (fun _ hk => hk.1.1))⟩, ⟨Kd.R_g (Kd.R_mono HO_10.out (fun _ hk => hk.1.1))⟩, bg BK494, hbg HB⟩
   ·obtain rfl := Option.some.inj H
    go_wp2
    go_ret
    exact ⟨_, eqE, Kd.R_g (Kd.R_mono HO_5.out (fun _ hk => trivial)), bel_g HB.out⟩
end Go.Proofs.YtpphkeijklffgaaDoor.Q
