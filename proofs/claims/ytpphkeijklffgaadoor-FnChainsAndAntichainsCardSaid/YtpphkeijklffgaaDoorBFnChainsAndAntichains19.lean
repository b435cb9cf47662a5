import Derived.Test.YtpphkeijklffgaaDoorBFnChainsAndAntichains7
import Derived.Test.YtpphkeijklffgaaDoorBFnChainsAndAntichains18
namespace Go.Proofs.YtpphkeijklffgaaDoor.Q
open Go.RowKit Go.Proofs.YtpphkeijklffgaaDoorW.PrintWords Go.Proofs.YtpphkeijklffgaaDoorW.PrintLast Go.Proofs.YtpphkeijklffgaaDoorW.PrintMore
attribute [local go_sem] max2_int min2_int max_two min_two max_three min_three max_four min_four neB_f
set_option linter.unusedVariables false
set_option maxHeartbeats 8000000
set_option maxRecDepth 100000
set_option linter.unusedSimpArgs false
mutual
def spec_orLarger.l0 : Nat → Int → List Int → List Int → Int → Int → Int → List Int → Option (List Int)
 | 0, _, _, _, _, _, _, _ => none
 | k + 1, x1, x5, x10, x11, x12, x436000, x436001 => if x12 < x11 then (if 0 ≤ x12 then (if x12 < (x10.length : Int) then ((spec_orFree.f k x436000 x436001 (rd x10 x12)).bind fun t440 => (if 0 ≤ (rd x10 x12) then ((spec_orLarger.f k x436000 x436001 (Go.bits .andNot .i64 (Go.bits .and .i64 x1 t440) (wrap64 ((shl .i64 1 (rd x10 x12)) - 1)))).bind fun t441 => (if (wrap64 ((t441.length : Int) + 1)) > (x5.length : Int) then ((some (([rd x10 x12] : List Int) : List Int)).bind fun y444 => (if y444.length + t441.length < 17592186044416 then (spec_orLarger.l0 k x1 (y444 ++ t441) x10 x11 (wrap64 (x12 + 1)) x436000 x436001) else (none))) else (spec_orLarger.l0 k x1 x5 x10 x11 (wrap64 (x12 + 1)) x436000 x436001))) else (none))) else (none)) else (none)) else (some x5)
def spec_orLarger.f : Nat → Int → List Int → Int → Option (List Int)
 | 0, _, _, _ => none
 | k + 1, a0_0, l0_1, a1 => (spec_orList.f k a1).bind fun t436 => (spec_orLarger.l0 k a1 ([] : List Int) t436 (t436.length : Int) 0 a0_0 l0_1)
end
theorem spec_orLarger.mono_l : ∀ k, (∀ y0 y1 y2, LeO (spec_orLarger.f k y0 y1 y2) (spec_orLarger.f (k + 1) y0 y1 y2)) ∧ (∀ y0 y1 y2 y3 y4 y5 y6, LeO (spec_orLarger.l0 k y0 y1 y2 y3 y4 y5 y6) (spec_orLarger.l0 (k + 1) y0 y1 y2 y3 y4 y5 y6))
 | 0 => ⟨fun _ _ _ r h => by simp [spec_orLarger.f] at h, fun _ _ _ _ _ _ _ r h => by simp [spec_orLarger.l0] at h⟩
 | k + 1 => by
  obtain ⟨ih0, ih1⟩ := spec_orLarger.mono_l k
  refine ⟨?_, ?_⟩ <;> intros
  unfold spec_orLarger.f
  rotate_left
  unfold spec_orLarger.l0
  rotate_left
  all_goals repeat' (with_reducible first|apply ih0|apply ih1|apply spec_orFree.mono|apply spec_orList.mono|apply LeO.refl|apply LeO.none|apply LeO.ite|apply LeO.bind|intro)
theorem spec_orLarger.mono : ∀ a0 a1 a2 k, LeO (spec_orLarger.f k a0 a1 a2) (spec_orLarger.f (k + 1) a0 a1 a2) := by
 intro a0 a1 a2 k
 obtain ⟨ih0, ih1⟩ := spec_orLarger.mono_l k
 exact ih0 a0 a1 a2
def spec_orLarger.T5 : Bool × List (List Nat × List Nat) := (true, [([], []), ([], []), ([], []), ([], []), ([2, 3], [2, 3]), ([1, 4], [1, 4]), ([], []), ([6], [6]), ([7], [7]), ([5, 8], [5, 8]), ([0, 9, 4], [0, 9]), ([10, 10, 0, 1, 2, 3, 4, 5, 6, 7, 8, 9, 10], [10])])
def spec_orLarger.B5 : List Nat := [0, 0, 0, 0, 12, 30, 0, 64, 192, 510, 1023, 2047]
theorem spec_orLarger.tab5 : rtab .any (opsOf Tryd.f26 5) = spec_orLarger.T5 := by kernel_rfl
theorem spec_orLarger.bits5 : waitsOk spec_orLarger.T5.2 spec_orLarger.B5 = true := by kernel_rfl
theorem spec_orLarger.calls (k : Nat) : ∀ (a0_0 : Int) (A0_1 : Option Addr) (c0_1 : Nat) (l0_1 : List Int) (a1 : Int) (r : List Int) (w : World) (hr0_1 : Kd.C (Kd.int .i64) w A0_1 l0_1.length l0_1) (hc0_1 : l0_1.length ≤ c0_1) (h : spec_orLarger.f k a0_0 l0_1 a1 = some r),
  Calls Tryd.prog 26 #[.agg #[.int .i64 a0_0, .slice A0_1 l0_1.length c0_1], .int .i64 a1] w fun e w' => ∃ v0_ : Value, e = .returned (v0_) ∧ Kd.R (Kd.int .i64) 3 w' w.heap.size (fun _ => True) v0_ r ∧ Below w.heap.size w w' := by
 induction k using Nat.strongRecOn with
 | _ k ih =>
 intro a0_0 A0_1 c0_1 l0_1 a1 r w hr0_1 hc0_1 h
 cases k with
 | zero => exact absurd h (by simp [spec_orLarger.f])
 | succ k =>
 simp only [spec_orLarger.f] at h
 have hu26 := Tryd.underlying26
 have HR0_1 := mkA hr0_1
 have HC0_1 := mkA hc0_1
 clear hr0_1 hc0_1
 have HB := mkA (Below.refl w.heap.size w)
 have H := h
 clear h
 unfold spec_orLarger.f at H
 obtain ⟨t436, A3, H⟩ := obE H
 have H' := mkA H
 clear H
 go_enter Tryd.func26, Tryd.ntmps26
 go_wp2_with (first | ((with_reducible refine gate_dst (N := 2) rfl ?_); refine boxG HB #[.int .i64 a0_0, .slice A0_1 l0_1.length c0_1] 26 ?_; intro gb435 hg w4 BK435 GE435 hb; replace HB := bst HB hb; clear hb hg) | ((with_reducible refine gate_callee (f := 36) rfl ?_); refine goesQ (some 10) Tryd.func36 #[.int .i64 a1] ?_; (with_reducible refine (spec_orList.calls k a1 t436 _ A3.out).mono ?_); rintro e w5 ⟨v437, rfl, ho0, hb⟩; refine ⟨_, rfl, ?_⟩; have HO438 := rLo ho0 HB; replace BK435 := blkB BK435 hb; replace HB := bst HB hb; clear hb ho0; obtain ⟨Ao6, co6, rfl⟩ := Kd.R_slice HO438.out))
 go_loopg [5, 12] k (fun kq v5 v12 w' => ∃ (x5_1 : List Int) (x12_1 : Int), v12 = .int .i64 x12_1 ∧ Fc (spec_orLarger.l0 kq a1 x5_1 t436 (t436.length : Int) x12_1 a0_0 l0_1 = some r) ∧ Fc (kq ≤ k) ∧ Fc (Kd.R (Kd.int .i64) 3 w' w.heap.size (fun k_ => some k_ ≠ ((.slice Ao6 t436.length co6) : Value).ownBlock) v5 x5_1) ∧ Fc (Kd.R (Kd.int .i64) 3 w' w.heap.size (fun k_ => some k_ ≠ (v5 : Value).ownBlock) (.slice Ao6 t436.length co6) t436) ∧ Fc (w'.heap[gb435]? = some (.cells #[.int .i64 a0_0, (.slice A0_1 l0_1.length c0_1)] 26 (0, 0))) ∧ Fc (Below w.heap.size w w'))
 case atStart => exact ⟨(([] : List Int)), (0), eqS, H', ⟨Nat.le_refl _⟩, ⟨nilE⟩, ⟨Kd.R_g (Kd.R_mono HO438.out (fun _ hk => (by simp [Value.ownBlock])))⟩, bg BK435, hbg HB⟩
 case round =>
  clear H'
  obtain ⟨x5_1, x12_1, rfl, HA, HK1, HO_5, HO_10, BK435, HB⟩ := hrel
  cases gk with
  | zero => exact absurd HA.out (by simp [spec_orLarger.l0])
  | succ k1 =>
   have H := HA.out
   clear HA
   simp only [spec_orLarger.l0] at H
   rcases iteE H with ⟨c7b0, H⟩ | ⟨c7b0, H⟩
   ·obtain ⟨c8b0, H⟩ := itND H
    obtain ⟨c9b0, H⟩ := itND H
    obtain ⟨t440, A10, H⟩ := obE H
    obtain ⟨c11b0, c11b1, H⟩ := itNQ H
    obtain ⟨ji12, hji12⟩ : ∃ j_ : Int, (shl .i64 1 (rd t436 x12_1)) = j_ := ⟨_, rfl⟩
    first | rw [hji12] at H | simp only [hji12] at H
    (try rw [hji12] at A10)
    have hji12_ : (IntKind.i64.wrap (1 * 2 ^ min (rd t436 x12_1).toNat 64)) = ji12 := hji12
    have hji12z : (rd t436 x12_1) ≤ 64 → (IntKind.i64.wrap (1 * 2 ^ (rd t436 x12_1).toNat)) = ji12 := shl_small hji12
    have hji12u : (IntKind.i64.wrap (2 ^ min (rd t436 x12_1).toNat 64)) = ji12 := by have h_ := hji12_; rw [Int.one_mul] at h_; exact h_
    have hji12v : (rd t436 x12_1) ≤ 64 → (IntKind.i64.wrap (2 ^ (rd t436 x12_1).toNat)) = ji12 := fun hle_ => by have h_ := hji12z hle_; rw [Int.one_mul] at h_; exact h_
    have hji12y : (wrap64 (1 * 2 ^ min (rd t436 x12_1).toNat 64)) = ji12 := (i64_w _).symm.trans hji12_
    have hji12x : (rd t436 x12_1) ≤ 64 → (wrap64 (1 * 2 ^ (rd t436 x12_1).toNat)) = ji12 := fun h_ => (i64_w _).symm.trans (hji12z h_)
    obtain ⟨t441, A13, H⟩ := obE H
    rcases iteP H with ⟨c14, H⟩ | ⟨c14, H⟩
    ·have c14b0 := decide_eq_true c14
     clear c14
     obtain ⟨y444, Ny444, H⟩ := nmE H
     obtain ⟨c15, H⟩ := itNP H
     have LMc15 := mkA c15
     clear c15
     obtain ⟨y447, hy447⟩ : ∃ y_ : List Int, y_ = (y444 ++ t441) := ⟨_, rfl⟩
     rw [← hy447] at H
     have Ny447 := mkA hy447
     clear hy447
     have H' := mkA H
     clear H
     obtain ⟨p439, q439, ad439, e439, hx439_0⟩ := atI (Kd.R_reads' HO_10.out).2.2 x12_1
     cases e439
     try go_wp2
     replace HO_5 := mkA (Kd.R_drew HO_5.out)
     replace HO_10 := mkA (Kd.R_drew HO_10.out)
     replace BK435 := mkA (blk_drew BK435.out)
     replace HB := mkA (below_drew1 HB.out)
     refine start_ (n := 12) (S := fun w' => w'.cell? ⟨gb435, 0, none⟩ = some (.int .i64 a0_0) ∧ w'.cell? ⟨gb435, 1, none⟩ = some (.slice A0_1 l0_1.length c0_1)) (ds := []) (bm 12 0) (by kernel_rfl) rfl (by kernel_rfl) ⟨(blk_cell BK435.out 0).trans rfl, (blk_cell BK435.out 1).trans rfl⟩ (fun hHeld => ?_); refine with_tabW spec_orLarger.tab5 spec_orLarger.bits5 (fun HT_ HW_ => ?_)
     generalize wr.drew = w16 at HO_5 HO_10 BK435 HB hHeld ⊢
     refine purW 1 17 12 2 HT_ ?_
     refine purW 3 19 12 10 HT_ ?_
     refine purW 6 22 12 74 HT_ ?_
     refine purW 7 23 12 202 HT_ ?_
     refine purW 8 24 12 458 HT_ ?_
     refine takeW 0 (some 16) (bm 12 459) HT_ HW_ hHeld ?_
     refine takeW 2 (some 18) (bm 12 463) HT_ HW_ hHeld ?_
     refine oneW 4 (some 20) (bm 12 479) HT_ (fun K hK => ?_)
     refine goesR Tryd.func47 #[.agg #[.int .i64 a0_0, .slice A0_1 l0_1.length c0_1], .int .i64 (rd t436 x12_1)] ?_
     with_reducible refine (spec_orFree.calls k1 a0_0 _ _ l0_1 (rd t436 x12_1) t440 _ ?s1 ?s2 A10.out).mono ?_
     (case s1 => exact C_g HR0_1 HB)
     (case s2 => exact HC0_1.out)
     rintro e w17 ⟨rfl, hb⟩
     refine ⟨_, rfl, ?_⟩
     replace HO_5 := rB HO_5 hb
     replace HO_10 := rB HO_10 hb
     replace BK435 := blkB BK435 hb
     replace HB := bst HB hb
     (try clear hb)
     (try clear hb2)
     (try clear hk)
     (try clear hi)
     refine hK.out _ _ ⟨(blk_cell BK435.out 0).trans rfl, (blk_cell BK435.out 1).trans rfl⟩ (fun hHeld => ?_)
     clear hK K
     refine normW 20 ?_
     refine purW 5 21 12 511 HT_ ?_
     refine purW 9 25 12 1023 HT_ ?_
     refine oneW 10 (some 26) (bm 12 2047) HT_ (fun K hK => ?_)
     refine goes_ Tryd.func26 (by kernel_rfl) rfl #[.agg #[.int .i64 a0_0, .slice A0_1 l0_1.length c0_1], .int .i64 (Go.bits .andNot .i64 (Go.bits .and .i64 a1 t440) (wrap64 ((ji12) - 1)))] (by rfl) rfl rfl (by (try simp only [List.map_toArray, List.map_cons, List.map_nil]); first | done | (simp only [hji12]; rfl) | rfl | (simp only [List.length_drop, List.length_take]; rfl)) ?_
     with_reducible refine (ih k1 (by have := HK1.out; omega) a0_0 _ _ l0_1 (Go.bits .andNot .i64 (Go.bits .and .i64 a1 t440) (wrap64 ((ji12) - 1))) t441 _ ?s1 ?s2 A13.out).mono ?_
     (case s1 => exact C_g HR0_1 HB)
     (case s2 => exact HC0_1.out)
     rintro e w18 ⟨v442, rfl, ho0, hb⟩
     refine ⟨_, rfl, ?_⟩
     have HO443 := rLo (rN (rN ho0 HO_5) HO_10) HB
     replace HO_5 := rE HO_5 ho0 hb
     replace HO_10 := rE HO_10 ho0 hb
     replace BK435 := blkB BK435 hb
     replace HB := bst HB hb
     (try clear hb)
     (try clear hb2)
     (try clear hk)
     (try clear hi)
     (try clear ho0)
     refine hK.out _ _ ⟨(blk_cell BK435.out 0).trans rfl, (blk_cell BK435.out 1).trans rfl⟩ (fun hHeld => ?_)
     clear hK K
     refine normW 26 ?_
     refine purW 11 8 12 4095 HT_ ?_
     refine doneW HT_ ?_
     obtain ⟨Ao19, co19, rfl⟩ := Kd.R_slice HO443.out
     obtain ⟨Ao20, co20, rfl⟩ := Kd.R_slice HO_5.out
     try go_wp2_with (first | ((with_reducible refine gate_dst (N := 34) rfl ?_); refine litE (Kd.int .i64) 3 ([rd t436 x12_1] : List Int) [.int .i64 (rd t436 x12_1)] ?hp ?_; (case hp => exact (Reps.one (show Kd.M (Kd.int .i64) _ _ _ (rd t436 x12_1) [.int .i64 (rd t436 x12_1)] from rfl) (Reps.none _ _))); intro v445 w21 ho22 hb hg_ hnew_; clear hg_ hnew_; (first | rw [← Ny444.out] at ho22 | (simp only [Int.reduceToNat] at ho22; rw [← Ny444.out] at ho22)); have HO446 := rLo (rN (rN (rN ho22 HO_5) HO_10) HO443) HB; replace HO_5 := rE HO_5 ho22 hb; replace HO_10 := rE HO_10 ho22 hb; replace HO443 := rE HO443 ho22 hb; replace BK435 := blkB BK435 hb; replace HB := bst HB hb; clear hb ho22) | ((with_reducible refine gate_builtin (b := .append) (xs := #[.tmp 34, .tmp 35]) rfl ?_); at_builtin; refine Kd.R_append_rows (Kd.int .i64) (w0 := w) w.heap.size rfl (.tmp 34) (.tmp 35) 24 3 (.int .i64 0) 8 rfl Tryd.underlying24 info3 rfl (by decide) (by omega) v445 y444 t441 _ _ _ (fun k_ => some k_ ≠ (.slice Ao20 x5_1.length co20 : Value).ownBlock ∧ some k_ ≠ (.slice (some ad439) t436.length co6 : Value).ownBlock ∧ some k_ ≠ (.slice Ao19 t441.length co19 : Value).ownBlock) (fun _ => False) rfl rfl ?aO ?aR (fun _ _ h => h) (fun _ h => h.elim) ?aF ?aB ?aS ?aL ?_; (case aR => repeat (first | exact (Kd.R_reads' HO443.out).2.2 | (with_reducible refine Kd.C_alloc ?_ _) | (with_reducible refine Kd.C_drewN ?_ _) | (with_reducible refine Kd.C_drew ?_))); (case aB => exact (bel_g HB.out)); (case aF => exact (fun k_ hk => ⟨Kd.fresh' (Kd.R_lt (Kd.R_g HO_5.out)) k_ hk, Kd.fresh' (Kd.R_lt (Kd.R_g HO_10.out)) k_ hk, Kd.fresh' (Kd.R_lt (Kd.R_g HO443.out)) k_ hk⟩)); (case aO => exact (Kd.R_g (Kd.R_mono HO446.out (fun _ hk => ⟨hk.1.1.2, ⟨hk.1.2, hk.2⟩⟩)))); (case aS => exact (below_size (bel_g HB.out))); (case aL => have := LMc15.out; omega); intro v448 w23 ho hb hg hat; rw [← Ny447.out] at ho; replace HO_5 := mkA (Kd.R_after (ok := (fun k_ => some k_ ≠ (.slice (some ad439) t436.length co6 : Value).ownBlock ∧ some k_ ≠ (.slice Ao19 t441.length co19 : Value).ownBlock)) (Kd.R_g HO_5.out) hg hat); replace HO_10 := mkA (Kd.R_after (ok := (fun k_ => some k_ ≠ (.slice Ao20 x5_1.length co20 : Value).ownBlock ∧ some k_ ≠ (.slice Ao19 t441.length co19 : Value).ownBlock)) (Kd.R_g HO_10.out) hg hat); replace BK435 := mkA (blk_grown (g := gb435) (o := .cells #[.int .i64 a0_0, .slice A0_1 l0_1.length c0_1] 26 (0, 0)) (blk_g BK435.out) hg (Kd.R_ne HO446.out BK435.out (by decide))); replace HO443 := mkA (Kd.R_after (ok := (fun k_ => some k_ ≠ (.slice Ao20 x5_1.length co20 : Value).ownBlock ∧ some k_ ≠ (.slice (some ad439) t436.length co6 : Value).ownBlock)) (Kd.R_g (Kd.R_mono HO443.out (fun _ hk => ⟨⟨hk.1.1.2, hk.1.2⟩, hk.2⟩))) hg hat); have HO449 := mkA (ho); replace HB := mkA (hb); clear HO446; clear ho hb hg hat))
     go_roundg k1
     case measure => have := HK1.out; omega
     case rel => exact ⟨(y447), (wrap64 (x12_1 + 1)), eqS, H', ⟨by have := HK1.out; omega⟩, ⟨Kd.R_g (Kd.R_mono HO449.out (fun _ hk => hk.2.1))⟩, ⟨Kd.R_g (Kd.R_mono HO_10.out (fun _ hk => hk.2))⟩, bg BK435, hbg HB⟩
    ·have c14b0 := decide_eq_false c14
     clear c14
     have H' := mkA H
     clear H
     obtain ⟨p439, q439, ad439, e439, hx439_0⟩ := atI (Kd.R_reads' HO_10.out).2.2 x12_1
     cases e439
     try go_wp2
     replace HO_5 := mkA (Kd.R_drew HO_5.out)
     replace HO_10 := mkA (Kd.R_drew HO_10.out)
     replace BK435 := mkA (blk_drew BK435.out)
     replace HB := mkA (below_drew1 HB.out)
     refine start_ (n := 12) (S := fun w' => w'.cell? ⟨gb435, 0, none⟩ = some (.int .i64 a0_0) ∧ w'.cell? ⟨gb435, 1, none⟩ = some (.slice A0_1 l0_1.length c0_1)) (ds := []) (bm 12 0) (by kernel_rfl) rfl (by kernel_rfl) ⟨(blk_cell BK435.out 0).trans rfl, (blk_cell BK435.out 1).trans rfl⟩ (fun hHeld => ?_); refine with_tabW spec_orLarger.tab5 spec_orLarger.bits5 (fun HT_ HW_ => ?_)
     generalize wr.drew = w24 at HO_5 HO_10 BK435 HB hHeld ⊢
     refine purW 1 17 12 2 HT_ ?_
     refine purW 3 19 12 10 HT_ ?_
     refine purW 6 22 12 74 HT_ ?_
     refine purW 7 23 12 202 HT_ ?_
     refine purW 8 24 12 458 HT_ ?_
     refine takeW 0 (some 16) (bm 12 459) HT_ HW_ hHeld ?_
     refine takeW 2 (some 18) (bm 12 463) HT_ HW_ hHeld ?_
     refine oneW 4 (some 20) (bm 12 479) HT_ (fun K hK => ?_)
     refine goesR Tryd.func47 #[.agg #[.int .i64 a0_0, .slice A0_1 l0_1.length c0_1], .int .i64 (rd t436 x12_1)] ?_
     with_reducible refine (spec_orFree.calls k1 a0_0 _ _ l0_1 (rd t436 x12_1) t440 _ ?s1 ?s2 A10.out).mono ?_
     (case s1 => exact C_g HR0_1 HB)
     (case s2 => exact HC0_1.out)
     rintro e w25 ⟨rfl, hb⟩
     refine ⟨_, rfl, ?_⟩
     replace HO_5 := rB HO_5 hb
     replace HO_10 := rB HO_10 hb
     replace BK435 := blkB BK435 hb
     replace HB := bst HB hb
     (try clear hb)
     (try clear hb2)
     (try clear hk)
     (try clear hi)
     refine hK.out _ _ ⟨(blk_cell BK435.out 0).trans rfl, (blk_cell BK435.out 1).trans rfl⟩ (fun hHeld => ?_)
     clear hK K
     refine normW 20 ?_
     refine purW 5 21 12 511 HT_ ?_
     refine purW 9 25 12 1023 HT_ ?_
     refine oneW 10 (some 26) (bm 12 2047) HT_ (fun K hK => ?_)
     refine goes_ Tryd.func26 (by kernel_rfl) rfl #[.agg #[.int .i64 a0_0, .slice A0_1 l0_1.length c0_1], .int .i64 (Go.bits .andNot .i64 (Go.bits .and .i64 a1 t440) (wrap64 ((ji12) - 1)))] (by rfl) rfl rfl (by (try simp only [List.map_toArray, List.map_cons, List.map_nil]); first | done | (simp only [hji12]; rfl) | rfl | (simp only [List.length_drop, List.length_take]; rfl)) ?_
     with_reducible refine (ih k1 (by have := HK1.out; omega) a0_0 _ _ l0_1 (Go.bits .andNot .i64 (Go.bits .and .i64 a1 t440) (wrap64 ((ji12) - 1))) t441 _ ?s1 ?s2 A13.out).mono ?_
     (case s1 => exact C_g HR0_1 HB)
     (case s2 => exact HC0_1.out)
     rintro e w26 ⟨v442, rfl, ho0, hb⟩
     refine ⟨_, rfl, ?_⟩
     have HO443 := rLo (rN (rN ho0 HO_5) HO_10) HB
     replace HO_5 := rE HO_5 ho0 hb
     replace HO_10 := rE HO_10 ho0 hb
     replace BK435 := blkB BK435 hb
     replace HB := bst HB hb
     (try clear hb)
     (try clear hb2)
     (try clear hk)
     (try clear hi)
     (try clear ho0)
     refine hK.out _ _ ⟨(blk_cell BK435.out 0).trans rfl, (blk_cell BK435.out 1).trans rfl⟩ (fun hHeld => ?_)
     clear hK K
     refine normW 26 ?_
     refine purW 11 8 12 4095 HT_ ?_
     refine doneW HT_ ?_
     obtain ⟨Ao27, co27, rfl⟩ := Kd.R_slice HO443.out
     obtain ⟨Ao28, co28, rfl⟩ := Kd.R_slice HO_5.out
     try go_wp2
     go_roundg k1
     case measure => have := HK1.out; omega
     case rel => exact ⟨(x5_1), (wrap64 (x12_1 + 1)), eqS, H', ⟨by have := HK1.out; omega⟩, ⟨Kd.R_g (Kd.R_mono HO_5.out (fun _ hk => hk.1))⟩, ⟨Kd.R_g (Kd.R_mono HO_10.out (fun _ hk => hk.1))⟩, bg BK435, hbg HB⟩
   ·obtain rfl := Option.some.inj H
    go_wp2
    go_ret
    exact ⟨_, eqE, Kd.R_g (Kd.R_mono HO_5.out (fun _ hk => trivial)), bel_g HB.out⟩
def spec_ChainNumbers.f (k : Nat) (a0_0 : Int) (l0_1 : List Int) : Option (List Int × Bool) := (spec_orGood.f k a0_0 l0_1).bind fun t451 => (if t451 = true then (if 0 ≤ a0_0 then ((spec_orLarger.f k a0_0 l0_1 (wrap64 ((shl .i64 1 a0_0) - 1))).bind fun t452 => ((spec_orNumbers.f k a0_0 l0_1 ([] : List Int) (t452.length : Int)).bind fun bt455 => (some (bt455.1, bt455.2)))) else (none)) else (some (([] : List Int), false)))
theorem spec_ChainNumbers.mono : ∀ a0 a1 k, LeO (spec_ChainNumbers.f k a0 a1) (spec_ChainNumbers.f (k + 1) a0 a1) := by
 intro a0 a1 k
 unfold spec_ChainNumbers.f
 repeat' (with_reducible first|apply spec_orGood.mono|apply spec_orLarger.mono|apply spec_orNumbers.mono|apply LeO.refl|apply LeO.none|apply LeO.ite|apply LeO.bind|intro)
def spec_ChainNumbers.T3 : Bool × List (List Nat × List Nat) := (true, [([], []), ([], []), ([], []), ([2], [2]), ([3], [3]), ([4], [4]), ([1, 5], [1, 5]), ([6], [6]), ([0, 7, 6], [0, 7]), ([8], [8]), ([8], [8]), ([9, 8, 0, 1, 2, 3, 4, 5, 6, 7, 8, 9, 10], [9]), ([10, 11, 0, 1, 2, 3, 4, 5, 6, 7, 8, 9, 10, 11], [10])])
def spec_ChainNumbers.B3 : List Nat := [0, 0, 0, 4, 12, 28, 62, 126, 255, 511, 511, 2047, 4095]
theorem spec_ChainNumbers.tab3 : rtab .any (opsOf Tryd.f7 3) = spec_ChainNumbers.T3 := by kernel_rfl
theorem spec_ChainNumbers.bits3 : waitsOk spec_ChainNumbers.T3.2 spec_ChainNumbers.B3 = true := by kernel_rfl
theorem spec_ChainNumbers.calls (k : Nat) (a0_0 : Int) (A0_1 : Option Addr) (c0_1 : Nat) (l0_1 : List Int) (r1 : List Int) (r2 : Bool) (w : World) (hr0_1 : Kd.C (Kd.int .i64) w A0_1 l0_1.length l0_1) (hc0_1 : l0_1.length ≤ c0_1) (h : spec_ChainNumbers.f k a0_0 l0_1 = some (r1, r2)) :
  Calls Tryd.prog 7 #[.agg #[.int .i64 a0_0, .slice A0_1 l0_1.length c0_1]] w fun e w' => ∃ v0_ : Value, e = .returned (.tuple #[v0_, .bool r2]) ∧ Kd.R (Kd.int .i64) 3 w' w.heap.size (fun _ => True) v0_ r1 ∧ Below w.heap.size w w' := by
 have hu26 := Tryd.underlying26
 have HR0_1 := mkA hr0_1
 have HC0_1 := mkA hc0_1
 clear hr0_1 hc0_1
 have HB := mkA (Below.refl w.heap.size w)
 have H := h
 clear h
 unfold spec_ChainNumbers.f at H
 obtain ⟨t451, A2, H⟩ := obE H
 by_cases c3 : t451 = true
 ·subst c3
  replace H := ifT H
  obtain ⟨c4b0, c4b1, H⟩ := itNQ H
  obtain ⟨ji5, hji5⟩ : ∃ j_ : Int, (shl .i64 1 a0_0) = j_ := ⟨_, rfl⟩
  first | rw [hji5] at H | simp only [hji5] at H
  (try rw [hji5] at A2)
  have hji5_ : (IntKind.i64.wrap (1 * 2 ^ min a0_0.toNat 64)) = ji5 := hji5
  have hji5z : a0_0 ≤ 64 → (IntKind.i64.wrap (1 * 2 ^ a0_0.toNat)) = ji5 := shl_small hji5
  have hji5u : (IntKind.i64.wrap (2 ^ min a0_0.toNat 64)) = ji5 := by have h_ := hji5_; rw [Int.one_mul] at h_; exact h_
  have hji5v : a0_0 ≤ 64 → (IntKind.i64.wrap (2 ^ a0_0.toNat)) = ji5 := fun hle_ => by have h_ := hji5z hle_; rw [Int.one_mul] at h_; exact h_
  have hji5y : (wrap64 (1 * 2 ^ min a0_0.toNat 64)) = ji5 := (i64_w _).symm.trans hji5_
  have hji5x : a0_0 ≤ 64 → (wrap64 (1 * 2 ^ a0_0.toNat)) = ji5 := fun h_ => (i64_w _).symm.trans (hji5z h_)
  obtain ⟨t452, A6, H⟩ := obE H
  obtain ⟨⟨t455, t458⟩, A7, H⟩ := obE H
  dsimp only at H
  simp only [Option.some.injEq, Prod.mk.injEq] at H
  obtain ⟨rfl, rfl⟩ := H
  go_enter Tryd.func7, Tryd.ntmps7
  try go_wp2_with (first | ((with_reducible refine gate_dst (N := 1) rfl ?_); refine boxG HB #[.int .i64 a0_0, .slice A0_1 l0_1.length c0_1] 26 ?_; intro gb450 hg w8 BK450 GE450 hb; replace HB := bst HB hb; clear hb hg; obtain ⟨_, _, _, _⟩ := blk2 BK450) | ((with_reducible refine gate_callee (f := 16) rfl ?_); refine goesQ (some 5) Tryd.func16 #[.agg #[.int .i64 a0_0, .slice A0_1 l0_1.length c0_1]] ?_; (with_reducible refine (spec_orGood.calls k a0_0 _ _ l0_1 true _ ?_ ?_ A2.out).mono ?_); exact C_g HR0_1 HB; exact HC0_1.out; rintro e w10 ⟨rfl, hb⟩; refine ⟨_, rfl, ?_⟩; replace BK450 := blkB BK450 hb; replace HB := bst HB hb; clear hb))
  replace BK450 := mkA (blk_drew BK450.out)
  replace HB := mkA (below_drew1 HB.out)
  refine start_ (n := 13) (S := fun w' => w'.cell? ⟨gb450, 0, none⟩ = some (.int .i64 a0_0) ∧ w'.cell? ⟨gb450, 1, none⟩ = some (.slice A0_1 l0_1.length c0_1)) (ds := []) (bm 13 0) (by kernel_rfl) rfl (by kernel_rfl) ⟨(blk_cell BK450.out 0).trans rfl, (blk_cell BK450.out 1).trans rfl⟩ (fun hHeld => ?_); refine with_tabW spec_ChainNumbers.tab3 spec_ChainNumbers.bits3 (fun HT_ HW_ => ?_)
  generalize w10.drew = w11 at BK450 HB hHeld ⊢
  refine purW 2 9 13 4 HT_ ?_
  refine takeW 0 (some 7) (bm 13 5) HT_ HW_ hHeld ?_
  refine takeW 1 (some 8) (bm 13 7) HT_ HW_ hHeld ?_
  refine takeW 3 (some 10) (bm 13 15) HT_ HW_ hHeld ?_
  refine purW 4 11 13 31 HT_ ?_
  refine purW 5 12 13 63 HT_ ?_
  refine oneW 6 (some 13) (bm 13 127) HT_ (fun K hK => ?_)
  refine goes_ Tryd.func26 (by kernel_rfl) rfl #[.agg #[.int .i64 a0_0, .slice A0_1 l0_1.length c0_1], .int .i64 (wrap64 ((ji5) - 1))] (by rfl) rfl rfl (by (try simp only [List.map_toArray, List.map_cons, List.map_nil]); first | done | (simp only [hji5]; rfl) | rfl | (simp only [List.length_drop, List.length_take]; rfl)) ?_
  with_reducible refine (spec_orLarger.calls k a0_0 _ _ l0_1 (wrap64 ((ji5) - 1)) t452 _ ?s1 ?s2 A6.out).mono ?_
  (case s1 => exact C_g HR0_1 HB)
  (case s2 => exact HC0_1.out)
  rintro e w12 ⟨v453, rfl, ho0, hb⟩
  refine ⟨_, rfl, ?_⟩
  have HO454 := rLo ho0 HB
  replace BK450 := blkB BK450 hb
  replace HB := bst HB hb
  (try clear hb)
  (try clear hb2)
  (try clear hk)
  (try clear hi)
  (try clear ho0)
  obtain ⟨Ao13, co13, eo13⟩ := Kd.R_slice HO454.out
  (first | subst eo13 | (injection eo13 with f1_ f2_ f3_; have f4_ := f1_.symm; have f5_ := f3_.symm; clear f1_ f2_ f3_; subst f4_; subst f5_))
  refine hK.out _ _ ⟨(blk_cell BK450.out 0).trans rfl, (blk_cell BK450.out 1).trans rfl⟩ (fun hHeld => ?_)
  clear hK K
  refine normW 13 ?_
  refine purW 7 14 13 255 HT_ ?_
  refine oneW 8 (some 15) (bm 13 511) HT_ (fun K hK => ?_)
  refine goesR Tryd.func25 #[.agg #[.int .i64 a0_0, .slice A0_1 l0_1.length c0_1], .slice none 0 0, .int .i64 (t452.length : Int)] ?_
  refine (spec_orNumbers.calls k a0_0 _ _ l0_1 (fun k_ => some k_ = (.slice none 0 0 : Value).ownBlock) (.slice none 0 0) ([] : List Int) (t452.length : Int) t455 t458 w _ ?s1 ?s2 ?s3 ?s4 A7.out).mono ?_
  (case s1 => exact bel_g HB.out)
  (case s2 => exact Kd.C_kept_came (Kd.heap_int .i64) HR0_1.out (bel_g HB.out) (fun k_ hs_ => (fun e_ => by simp [Value.ownBlock] at e_) hs_))
  (case s3 => exact HC0_1.out)
  (case s4 => exact Kd.R_nil _ _ _ _ _)
  rintro e w14 ⟨v456, rfl, ho0, hb, hkp⟩
  refine ⟨_, rfl, ?_⟩
  replace BK450 := mkA (blk_kept (blk_g BK450.out) hkp (fun hs_ => (fun e_ => by simp [Value.ownBlock] at e_) hs_))
  have HO457 := mkA (Kd.R_mono (ok' := fun k_ => some k_ ≠ (.slice Ao13 t452.length co13 : Value).ownBlock) ho0 (fun k_ hk_ => Or.elim hk_ (fun hs_ => absurd hs_ (by simp [Value.ownBlock])) (fun hn_ => (Kd.fresh' (Kd.R_lt (Kd.R_g HO454.out)) k_ hn_))))
  replace HO454 := mkA (Kd.R_mono (ok' := fun k_ => some k_ ≠ (v456 : Value).ownBlock) (Kd.R_keptB (HO454.out) hkp (fun k_ hk_ hs_ => (fun e_ => by simp [Value.ownBlock] at e_) hs_)) (fun k_ hk_ => fun e_ => Or.elim (ho0.1 k_ e_.symm) (fun hs_ => hk_.2.1 hs_) (fun hn_ => Nat.not_le.2 hk_.2.2 hn_)))
  replace HB := mkA (hb)
  (try clear hb)
  (try clear hkp)
  (try clear ho0)
  refine hK.out _ _ ⟨(blk_cell BK450.out 0).trans rfl, (blk_cell BK450.out 1).trans rfl⟩ (fun hHeld => ?_)
  clear hK K
  refine normW 15 ?_
  refine purW 9 16 13 1023 HT_ ?_
  refine purW 10 17 13 2047 HT_ ?_
  refine purW 11 2 13 4095 HT_ ?_
  refine purW 12 3 13 8191 HT_ ?_
  refine doneW HT_ ?_
  try go_wp2
  go_ret2
  exact ⟨_, by first | rfl | (simp [errW_none, errW_some] <;> rfl) | (simp only [← hji5]; first | rfl | (simp [errW_none, errW_some] <;> rfl)) | (simp [*, errW_none, errW_some] <;> rfl), Kd.R_g (Kd.R_mono HO457.out (fun _ hk => trivial)), bel_g HB.out⟩
 ·replace c3 := Bool.eq_false_iff.mpr c3
  subst c3
  replace H := ifF H
  simp only [Option.some.injEq, Prod.mk.injEq] at H
  obtain ⟨rfl, rfl⟩ := H
  go_enter Tryd.func7, Tryd.ntmps7
  go_wp2_with (first | ((with_reducible refine gate_dst (N := 1) rfl ?_); refine boxG HB #[.int .i64 a0_0, .slice A0_1 l0_1.length c0_1] 26 ?_; intro gb450 hg w15 BK450 GE450 hb; replace HB := bst HB hb; clear hb hg; obtain ⟨_, _, _, _⟩ := blk2 BK450) | ((with_reducible refine gate_callee (f := 16) rfl ?_); refine goesQ (some 5) Tryd.func16 #[.agg #[.int .i64 a0_0, .slice A0_1 l0_1.length c0_1]] ?_; (with_reducible refine (spec_orGood.calls k a0_0 _ _ l0_1 false _ ?_ ?_ A2.out).mono ?_); exact C_g HR0_1 HB; exact HC0_1.out; rintro e w17 ⟨rfl, hb⟩; refine ⟨_, rfl, ?_⟩; replace BK450 := blkB BK450 hb; replace HB := bst HB hb; clear hb))
  go_ret2
  exact ⟨_, eqE, nilE, bel_g HB.out⟩
def laws_pSame.l0 : Nat → List Int → List Int → Int → Int → Option (Bool)
 | 0, _, _, _, _ => none
 | k + 1, x0, x1, x12, x13 => if x13 < x12 then (if 0 ≤ x13 then (if x13 < (x0.length : Int) then (if x13 < (x1.length : Int) then (if (rd x0 x13) = (rd x1 x13) then (laws_pSame.l0 k x0 x1 x12 (wrap64 (x13 + 1))) else (some false)) else (none)) else (none)) else (none)) else (some true)
def laws_pSame.f (k : Nat) (l0 : List Int) (l1 : List Int) : Option (Bool) := if (l0.length : Int) = (l1.length : Int) then (laws_pSame.l0 k l0 l1 (l0.length : Int) 0) else (some false)
theorem laws_pSame.mono_l : ∀ k, (∀ y0 y1 y2 y3, LeO (laws_pSame.l0 k y0 y1 y2 y3) (laws_pSame.l0 (k + 1) y0 y1 y2 y3))
 | 0 => fun _ _ _ _ r h => by simp [laws_pSame.l0] at h
 | k + 1 => by
  have ih0 := laws_pSame.mono_l k
  ·intro y0 y1 y2 y3
   unfold laws_pSame.l0
   repeat' (with_reducible first|apply ih0|apply LeO.refl|apply LeO.none|apply LeO.ite|apply LeO.bind|intro)
theorem laws_pSame.mono : ∀ a0 a1 k, LeO (laws_pSame.f k a0 a1) (laws_pSame.f (k + 1) a0 a1) := by
 intro a0 a1 k
 have ih0 := laws_pSame.mono_l k
 unfold laws_pSame.f
 repeat' (with_reducible first|apply ih0|apply LeO.refl|apply LeO.none|apply LeO.ite|apply LeO.bind|intro)
theorem laws_pSame.calls (k : Nat) (A0 : Option Addr) (c0 : Nat) (l0 : List Int) (A1 : Option Addr) (c1 : Nat) (l1 : List Int) (r : Bool) (w : World) (hr0 : Kd.C (Kd.int .i64) w A0 l0.length l0) (hc0 : l0.length ≤ c0) (hr1 : Kd.C (Kd.int .i64) w A1 l1.length l1) (hc1 : l1.length ≤ c1) (h : laws_pSame.f k l0 l1 = some r) :
  Calls Tryd.prog 8 #[.slice A0 l0.length c0, .slice A1 l1.length c1] w fun e w' => e = .returned (.bool r) ∧ Drawn0 w w' := by
 have HR0 := mkA hr0
 have HC0 := mkA hc0
 clear hr0 hc0
 have HR1 := mkA hr1
 have HC1 := mkA hc1
 clear hr1 hc1
 have H := h
 clear h
 unfold laws_pSame.f at H
 rcases iteP H with ⟨c3, H⟩ | ⟨c3, H⟩
 ·have c3b0 := beq_iff_eq.mpr c3
  have c3b1 := bne_eq_false_iff_eq.mpr c3
  have c3b2 : (l0.length == l1.length) = true := by first | simpa using c3 | (simp at c3 ⊢; omega)
  clear c3
  have H' := mkA H
  clear H
  go_enter Tryd.func8, Tryd.ntmps8
  go_wp2
  repeat (go_quiet (fail); try go_wp2)
  go_loopg [13] k (fun kq v13 w' => ∃ (x13_1 : Int), v13 = .int .i64 x13_1 ∧ Fc (laws_pSame.l0 kq l0 l1 (l0.length : Int) x13_1 = some r) ∧ Fc (kq ≤ k) ∧ Drawn0 w w')
  case atStart => exact ⟨(0), eqS, H', ⟨Nat.le_refl _⟩, by repeat (first | exact Drawn0.refl _ | apply Drawn0.step)⟩
  case round =>
   clear H'
   try clear c1
   try clear c3
   try clear c3b0
   try clear c3b1
   try clear c3b2
   obtain ⟨x13_1, rfl, HA, HK1, ⟨m1, rfl⟩⟩ := hrel
   cases gk with
   | zero => exact absurd HA.out (by simp [laws_pSame.l0])
   | succ k1 =>
    have H := HA.out
    clear HA
    simp only [laws_pSame.l0] at H
    rcases iteE H with ⟨c4b0, H⟩ | ⟨c4b0, H⟩
    ·obtain ⟨c5b0, H⟩ := itND H
     obtain ⟨c6b0, H⟩ := itND H
     obtain ⟨c7b0, H⟩ := itND H
     rcases iteP H with ⟨c8, H⟩ | ⟨c8, H⟩
     ·have c8b0 := beq_iff_eq.mpr c8
      have c8b1 := bne_eq_false_iff_eq.mpr c8
      clear c8
      have H' := mkA H
      clear H
      obtain ⟨p459, q459, ad459, e459, hx459_0⟩ := atI HR0.out x13_1
      cases e459
      obtain ⟨p460, q460, ad460, e460, hx460_0⟩ := atI HR1.out x13_1
      cases e460
      go_wp2
      repeat (go_quiet (fail); try go_wp2)
      go_roundg k1
      case measure => have := HK1.out; omega
      case rel => exact ⟨(wrap64 (x13_1 + 1)), eqS, H', ⟨by have := HK1.out; omega⟩, by repeat (first | exact Drawn0.refl _ | apply Drawn0.step)⟩
     ·have c8b0 := beq_eq_false_iff_ne.mpr c8
      have c8b1 := bne_iff_ne.mpr c8
      obtain rfl := Option.some.inj H
      obtain ⟨p459, q459, ad459, e459, hx459_0⟩ := atI HR0.out x13_1
      cases e459
      obtain ⟨p460, q460, ad460, e460, hx460_0⟩ := atI HR1.out x13_1
      cases e460
      go_wp2
      repeat (go_quiet (fail); try go_wp2)
      go_ret
      exact ⟨eqS, drE⟩
    ·obtain rfl := Option.some.inj H
     go_wp2
     repeat (go_quiet (fail); try go_wp2)
     go_ret
     exact ⟨eqS, drE⟩
 ·have c3b0 := beq_eq_false_iff_ne.mpr c3
  have c3b1 := bne_iff_ne.mpr c3
  have c3b2 : (l0.length == l1.length) = false := by first | simpa using c3 | (simp at c3 ⊢; omega)
  obtain rfl := Option.some.inj H
  go_enter Tryd.func8, Tryd.ntmps8
  go_wp2
  repeat (go_quiet (fail); try go_wp2)
  go_ret
  exact ⟨eqS, drE⟩
end Go.Proofs.YtpphkeijklffgaaDoor.Q
