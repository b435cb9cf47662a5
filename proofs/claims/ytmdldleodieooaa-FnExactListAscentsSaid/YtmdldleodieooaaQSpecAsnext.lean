-- printed by this project's own program (wip/mp/mp.py) over the kit's print, for this seat; Lean checks it
import Derived.Test.YtmdldleodieooaaQx0
import Derived.Test.YtmdldleodieooaaQSpecAsbound
import Derived.Test.YtmdldleodieooaaQSpecL1Own
namespace Go.Proofs.Ytmdldleodieooaa.Q
open Go.RowKit Go.Proofs.YtmdldleodieooaaW.PrintWords Go.Proofs.YtmdldleodieooaaW.PrintLast Go.Proofs.YtmdldleodieooaaW.PrintMore
attribute [local go_sem] max2_int min2_int max_two min_two max_three min_three max_four min_four   -- for this text's walks alone
set_option linter.unusedVariables false
set_option maxHeartbeats 8000000
set_option maxRecDepth 100000
set_option linter.unusedSimpArgs false

/-! ### spec_asNext: function 10 -/
mutual
def spec_asNext.l0 : Nat → List Int → Int → Option (List Int × Bool)
 | 0, _, _ => none
 | k + 1, x0, x4 => if x4 > 0 then (if 0 ≤ x4 then (if x4 < (x0.length : Int) then (if x4 ≤ (x0.length : Int) then ((spec_asBound.f k (x0.take (x4 : Int).toNat)).bind fun t112 => (if (rd x0 x4) < t112 then ((spec_l1Own.f (x0.take (x4 : Int).toNat)).bind fun t114 => ((some (([wrap64 ((rd x0 x4) + 1)] : List Int) : List Int)).bind fun y118 => (if t114.length + y118.length < 17592186044416 then (spec_asNext.l1 k x0 (t114 ++ y118)) else (none)))) else (spec_asNext.l0 k x0 (wrap64 (x4 - 1))))) else (none)) else (none)) else (none)) else (some (([] : List Int), false))
def spec_asNext.l1 : Nat → List Int → List Int → Option (List Int × Bool)
 | 0, _, _ => none
 | k + 1, x0, x5 => if (x5.length : Int) < (x0.length : Int) then ((some (([0] : List Int) : List Int)).bind fun y124 => (if x5.length + y124.length < 17592186044416 then (spec_asNext.l1 k x0 (x5 ++ y124)) else (none))) else (some (x5, true))
end
def spec_asNext.f (k : Nat) (l0 : List Int) : Option (List Int × Bool) := spec_asNext.l0 k l0 (wrap64 ((l0.length : Int) - 1))
theorem spec_asNext.mono_l : ∀ k, (∀ y0 y1, LeO (spec_asNext.l0 k y0 y1) (spec_asNext.l0 (k + 1) y0 y1)) ∧ (∀ y0 y1, LeO (spec_asNext.l1 k y0 y1) (spec_asNext.l1 (k + 1) y0 y1))
 | 0 => ⟨fun _ _ r h => by simp [spec_asNext.l0] at h, fun _ _ r h => by simp [spec_asNext.l1] at h⟩
 | k + 1 => by
  obtain ⟨ih0, ih1⟩ := spec_asNext.mono_l k
  refine ⟨?_, ?_⟩ <;> intros
  unfold spec_asNext.l0
  rotate_left
  unfold spec_asNext.l1
  rotate_left
  all_goals repeat' (with_reducible first|apply ih0|apply ih1|apply spec_asBound.mono|apply LeO.refl|apply LeO.none|apply LeO.ite|apply LeO.bind|intro)
theorem spec_asNext.mono : ∀ a0 k, LeO (spec_asNext.f k a0) (spec_asNext.f (k + 1) a0) := by
 intro a0 k
 obtain ⟨ih0, ih1⟩ := spec_asNext.mono_l k
 unfold spec_asNext.f
 repeat' (with_reducible first|apply ih0|apply ih1|apply spec_asBound.mono|apply LeO.refl|apply LeO.none|apply LeO.ite|apply LeO.bind|intro)
def spec_asNext.T4 : Bool × List (List Nat × List Nat) := (true, [([], []), ([], []), ([0, 1], [0, 1]), ([2], [2]), ([], []), ([], []), ([4, 5], [4, 5]), ([6], [6]), ([3, 7], [3, 7])])
def spec_asNext.B4 : List Nat := [0, 0, 3, 7, 0, 0, 48, 112, 255]
theorem spec_asNext.tab4 : rtab .any (opsOf Try.f10 4) = spec_asNext.T4 := by kernel_rfl
theorem spec_asNext.bits4 : waitsOk spec_asNext.T4.2 spec_asNext.B4 = true := by kernel_rfl
def spec_asNext.T5 : Bool × List (List Nat × List Nat) := (true, [([], []), ([], []), ([0, 1], [0, 1]), ([2], [2]), ([], []), ([], []), ([4, 5], [4, 5]), ([6], [6]), ([7], [7]), ([8], [8]), ([3, 9, 3], [3, 9]), ([10, 10, 0, 1, 2, 3, 4, 5, 6, 7, 8, 9, 10], [10])])
def spec_asNext.B5 : List Nat := [0, 0, 3, 7, 0, 0, 48, 112, 240, 496, 1023, 2047]
theorem spec_asNext.tab5 : rtab .any (opsOf Try.f10 5) = spec_asNext.T5 := by kernel_rfl
theorem spec_asNext.bits5 : waitsOk spec_asNext.T5.2 spec_asNext.B5 = true := by kernel_rfl
theorem spec_asNext.calls (k : Nat) (A0 : Option Addr) (c0 : Nat) (l0 : List Int) (r1 : List Int) (r2 : Bool) (w : World) (hr0 : Kd.C (Kd.int .i64) w A0 l0.length l0) (hc0 : l0.length ≤ c0) (h : spec_asNext.f k l0 = some (r1, r2)) :
  Calls Try.prog 10 #[.slice A0 l0.length c0] w fun e w' => ∃ v0_ : Value, e = .returned (.tuple #[v0_, .bool r2]) ∧ Kd.R (Kd.int .i64) 3 w' w.heap.size (fun _ => True) v0_ r1 ∧ Below w.heap.size w w' := by
 have HR0 := mkA hr0
 have HC0 := mkA hc0
 clear hr0 hc0
 have HB := mkA (Below.refl w.heap.size w)
 have H := h
 clear h
 unfold spec_asNext.f at H
 have H' := mkA H
 clear H
 go_enter Try.func10, Try.ntmps10
 go_wp2
 go_loopg [4] k (fun kq v4 w' => ∃ (x4_1 : Int), v4 = .int .i64 x4_1 ∧ Fc (spec_asNext.l0 kq l0 x4_1 = some (r1, r2)) ∧ Fc (kq ≤ k) ∧ Fc (Below w.heap.size w w'))
 case atStart => exact ⟨(wrap64 ((l0.length : Int) - 1)), eqS, H', ⟨Nat.le_refl _⟩, hbg HB⟩
 case round =>
  clear H'
  obtain ⟨x4_1, rfl, HA, HK1, HB⟩ := hrel
  cases gk with
  | zero => exact absurd HA.out (by simp [spec_asNext.l0])
  | succ k1 =>
   have H := HA.out
   clear HA
   simp only [spec_asNext.l0] at H
   rcases iteP H with ⟨c2, H⟩ | ⟨c2, H⟩
   ·have c2b0 := decide_eq_true c2
    clear c2
    obtain ⟨c3b0, H⟩ := itND H
    obtain ⟨c4b0, H⟩ := itND H
    have c5b0 := eq_true (ofd : 0 ≤ x4_1)
    obtain ⟨c6b0, c6b1, H⟩ := itNQ H
    obtain ⟨t112, A7, H⟩ := obE H
    rcases iteE H with ⟨c8b0, H⟩ | ⟨c8b0, H⟩
    ·have c9b0 := eq_true (ofd : 0 ≤ x4_1)
     have c10b0 := eq_true (ofd : x4_1 ≤ (l0.length : Int))
     obtain ⟨t114, A11, H⟩ := obE H
     obtain ⟨y118, Ny118, H⟩ := nmE H
     obtain ⟨c12, H⟩ := itNP H
     have LMc12 := mkA c12
     clear c12
     obtain ⟨y121, hy121⟩ : ∃ y_ : List Int, y_ = (t114 ++ y118) := ⟨_, rfl⟩
     rw [← hy121] at H
     have Ny121 := mkA hy121
     clear hy121
     have H' := mkA H
     clear H
     try go_wp2
     replace HB := mkA (below_drew1 HB.out)
     obtain ⟨p110, q110, ad110, e110, hx110_0⟩ := atI HR0.out x4_1
     have hw110_0 := hx110_0
     cases e110
     replace hx110_0 := (HB.out.cell (World.block_lt_of_cell? w _ hx110_0)).trans hx110_0
     obtain ⟨i014, hi014, _, hsz14, _⟩ := info_parts info3
     obtain ⟨hcut14, hA14, hC14⟩ := print_take_of (P := Try.prog) (Value.int .i64) 0 29 3 .i64 Try.underlying29 hi014 hsz14 (some ad110) c0 l0 x4_1 (ofd) (ofd) HC0.out
     have HR111 := mkA (Kd.C_of_reads (h1 := fun _ => rfl) (hA14 _ (Kd.reads_of_C HR0.out)))
     have HC111 := mkA hC14
     clear hA14 hC14 hi014 hsz14
     refine start_ (n := 9) (S := fun w' => w'.cell? (ad110.add (x4_1).toNat) = some (.int .i64 (rd l0 x4_1))) (ds := []) (bm 9 0) (by kernel_rfl) rfl (by kernel_rfl) (((HB.out.cell (World.block_lt_of_cell? w _ hw110_0)).trans hw110_0)) (fun hHeld => ?_); refine with_tabW spec_asNext.tab4 spec_asNext.bits4 (fun HT_ HW_ => ?_)
     generalize wr.drew = w13 at HB HR111 hx110_0 hHeld ⊢
     refine purW 0 13 9 1 HT_ ?_
     refine purW 1 14 9 3 HT_ ?_
     refine purW 2 15 9 7 HT_ ?_
     refine purW 4 17 9 23 HT_ ?_
     refine purW 5 18 9 55 HT_ ?_
     refine purW 6 19 9 119 HT_ ?_
     refine takeW 3 (some 16) (bm 9 127) HT_ HW_ hHeld ?_
     refine oneW 7 (some 20) (bm 9 255) HT_ (fun K hK => ?_)
     refine goes_ Try.func17 (by kernel_rfl) rfl #[.slice (some ad110) (l0.take (x4_1 : Int).toNat).length c0] (by rfl) rfl rfl (by (try simp only [List.map_toArray, List.map_cons, List.map_nil]); first | done | (rw [show (l0.take (x4_1 : Int).toNat).length = x4_1.toNat from (by rw [List.length_take]; have h_ : (x4_1 : Int) ≤ (l0.length : Int) := ofd; omega)] <;> rfl) | rfl | (simp only [List.length_drop, List.length_take]; rfl)) ?_
     with_reducible refine (spec_asBound.calls k1 _ _ (l0.take (x4_1 : Int).toNat) t112 _ ?s1 ?s2 A7.out).mono ?_
     (case s1 => exact C_g HR111 HB)
     (case s2 => exact HC111.out)
     rintro e w' ⟨rfl, ⟨nd, rfl⟩⟩
     refine ⟨_, rfl, ?_⟩
     refine hK.out _ _ (((HB.out.cell (World.block_lt_of_cell? w _ hw110_0)).trans hw110_0)) (fun hHeld => ?_)
     clear hK K
     refine normW 20 ?_
     refine purW 8 21 9 511 HT_ ?_
     refine doneW HT_ ?_
     try go_wp2
     (try (rw [drewN_self w13]; generalize hq_ : World.drewN w13 _ = w13; have n0_ : Fc (Below w.heap.size w w13) := ⟨by rw [← hq_]; exact (bel_g HB.out)⟩; clear HB hq_; have HB := n0_; clear n0_))
     replace HB := mkA (below_drew1 HB.out)
     obtain ⟨i016, hi016, _, hsz16, _⟩ := info_parts info3
     obtain ⟨hcut16, hA16, hC16⟩ := print_take_of (P := Try.prog) (Value.int .i64) 0 29 3 .i64 Try.underlying29 hi016 hsz16 (some ad110) c0 l0 x4_1 (ofd) (ofd) HC0.out
     have HR113 := mkA (Kd.C_of_reads (h1 := fun _ => rfl) (hA16 _ (Kd.reads_of_C HR0.out)))
     have HC113 := mkA hC16
     clear hA16 hC16 hi016 hsz16
     obtain ⟨p117, q117, ad117, e117, hx117_0⟩ := atI HR0.out x4_1
     have hw117_0 := hx117_0
     obtain rfl : ad110 = ad117 := (by injection e117)
     replace hx117_0 := (HB.out.cell (World.block_lt_of_cell? w _ hx117_0)).trans hx117_0
     refine start_ (n := 12) (S := fun w' => w'.cell? (ad110.add (x4_1).toNat) = some (.int .i64 (rd l0 x4_1))) (ds := []) (bm 12 0) (by kernel_rfl) rfl (by kernel_rfl) (((HB.out.cell (World.block_lt_of_cell? w _ hw117_0)).trans hw117_0)) (fun hHeld => ?_); refine with_tabW spec_asNext.tab5 spec_asNext.bits5 (fun HT_ HW_ => ?_)
     generalize w13.drew = w15 at HB HR113 hx117_0 hHeld ⊢
     refine purW 0 22 12 1 HT_ ?_
     refine purW 1 23 12 3 HT_ ?_
     refine purW 2 24 12 7 HT_ ?_
     refine purW 4 26 12 23 HT_ ?_
     refine purW 5 27 12 55 HT_ ?_
     refine purW 6 28 12 119 HT_ ?_
     refine takeW 7 (some 29) (bm 12 247) HT_ HW_ hHeld ?_
     refine purW 8 30 12 503 HT_ ?_
     refine join_ (σ := Value × Value) 2 (bm 12 1023) (fun s_ => [(25, s_.1), (31, s_.2)]) (fun s_ w' => (w'.cell? (ad110.add (x4_1).toNat) = some (.int .i64 (rd l0 x4_1))) ∧ (Kd.R (Kd.int .i64) 3 w' w.heap.size (fun k_ => some k_ ≠ (s_.2 : Value).ownBlock) s_.1 t114) ∧ (Kd.R (Kd.int .i64) 3 w' w.heap.size (fun k_ => some k_ ≠ (s_.1 : Value).ownBlock) s_.2 y118) ∧ (Below w.heap.size w w')) ?_ ?_
     rotate_left
     ·intro hCont
      refine two_ (i := 3) (j := 9) (Ni := some 25) (Nj := some 31) (bm 12 511) (bm 12 1015) rfl rfl rfl rfl (two_of HT_.out (by kernel_rfl)) (by decide) (by decide) (fun K hK => ?_) (fun K hK => ?_)
      ·skip
       refine goes_ Try.func18 (by kernel_rfl) rfl #[.slice (some ad110) (l0.take (x4_1 : Int).toNat).length c0] (by rfl) rfl rfl (by (try simp only [List.map_toArray, List.map_cons, List.map_nil]); first | done | (rw [show (l0.take (x4_1 : Int).toNat).length = x4_1.toNat from (by rw [List.length_take]; have h_ : (x4_1 : Int) ≤ (l0.length : Int) := ofd; omega)] <;> rfl) | rfl | (simp only [List.length_drop, List.length_take]; rfl)) ?_
       with_reducible refine (spec_l1Own.calls _ _ (l0.take (x4_1 : Int).toNat) t114 _ ?s1 ?s2 A11.out).mono ?_
       (case s1 => exact C_g HR113 HB)
       (case s2 => exact HC113.out)
       rintro e w17 ⟨v115, rfl, ho0, hb⟩
       refine ⟨_, rfl, ?_⟩
       have HO116 := rLo ho0 HB
       replace HB := bst HB hb
       (try clear hb)
       (try clear hb2)
       (try clear hk)
       (try clear hi)
       (try clear ho0)
       refine hK.out _ _ (((HB.out.cell (World.block_lt_of_cell? w _ hw117_0)).trans hw117_0)) (fun hHeld => ?_)
       clear hK K
       refine normW 25 ?_
       refine oneW 9 (some 31) (bm 12 1023) HT_ (fun K hK => ?_)
       refine Kd.R_lit_step (Kd.int .i64) _ 3 ?hg (N := 31) ?hd (xs := ([wrap64 ((rd l0 x4_1) + 1)] : List Int)) (inner := [.int .i64 (wrap64 ((rd l0 x4_1) + 1))]) (ok := fun _ => True) (okp := fun _ => True) ?hr ?hp (fun _ hk => hk) trivial (Below.refl _ _) (Nat.le_refl _) (by simp) ?_; (case hd => rfl); (case hg => rfl); (case hr => first | (go_simp; done) | (go_simp; rfl)); (case hp => exact (Reps.one (show Kd.M (Kd.int .i64) _ _ _ (wrap64 ((rd l0 x4_1) + 1)) [.int .i64 (wrap64 ((rd l0 x4_1) + 1))] from rfl) (Reps.none _ _)))
       intro v119 w18 ho19 hb hg_ hnew_
       clear hg_ hnew_
       (first | rw [← Ny118.out] at ho19 | (simp only [Int.reduceToNat] at ho19; rw [← Ny118.out] at ho19))
       have HO120 := rLo (rN ho19 HO116) HB
       replace HO116 := rE HO116 ho19 hb
       replace HB := bst HB hb
       clear hb ho19
       refine hK.out _ _ (((HB.out.cell (World.block_lt_of_cell? w _ hw117_0)).trans hw117_0)) (fun hHeld => ?_)
       clear hK K
       refine normW 31 ?_
       exact norm_ (by simp only [putAll, Act.put, List.setIfInBounds_toArray, List.set_cons_zero, List.set_cons_succ]) (hCont (v115, v119) _ ⟨hHeld, (Kd.R_g (Kd.R_mono HO116.out (fun _ hk => hk.2))), (Kd.R_g (Kd.R_mono HO120.out (fun _ hk => hk.2))), (bel_g HB.out)⟩)
      ·skip
       refine Kd.R_lit_step (Kd.int .i64) _ 3 ?hg (N := 31) ?hd (xs := ([wrap64 ((rd l0 x4_1) + 1)] : List Int)) (inner := [.int .i64 (wrap64 ((rd l0 x4_1) + 1))]) (ok := fun _ => True) (okp := fun _ => True) ?hr ?hp (fun _ hk => hk) trivial (Below.refl _ _) (Nat.le_refl _) (by simp) ?_; (case hd => rfl); (case hg => rfl); (case hr => first | (go_simp; done) | (go_simp; rfl)); (case hp => exact (Reps.one (show Kd.M (Kd.int .i64) _ _ _ (wrap64 ((rd l0 x4_1) + 1)) [.int .i64 (wrap64 ((rd l0 x4_1) + 1))] from rfl) (Reps.none _ _)))
       intro v119 w17 ho18 hb hg_ hnew_
       clear hg_ hnew_
       (first | rw [← Ny118.out] at ho18 | (simp only [Int.reduceToNat] at ho18; rw [← Ny118.out] at ho18))
       have HO120 := rLo ho18 HB
       replace HB := bst HB hb
       clear hb ho18
       refine hK.out _ _ (((HB.out.cell (World.block_lt_of_cell? w _ hw117_0)).trans hw117_0)) (fun hHeld => ?_)
       clear hK K
       refine normW 31 ?_
       refine oneW 3 (some 25) (bm 12 1023) HT_ (fun K hK => ?_)
       refine goes_ Try.func18 (by kernel_rfl) rfl #[.slice (some ad110) (l0.take (x4_1 : Int).toNat).length c0] (by rfl) rfl rfl (by (try simp only [List.map_toArray, List.map_cons, List.map_nil]); first | done | (rw [show (l0.take (x4_1 : Int).toNat).length = x4_1.toNat from (by rw [List.length_take]; have h_ : (x4_1 : Int) ≤ (l0.length : Int) := ofd; omega)] <;> rfl) | rfl | (simp only [List.length_drop, List.length_take]; rfl)) ?_
       with_reducible refine (spec_l1Own.calls _ _ (l0.take (x4_1 : Int).toNat) t114 _ ?s1 ?s2 A11.out).mono ?_
       (case s1 => exact C_g HR113 HB)
       (case s2 => exact HC113.out)
       rintro e w19 ⟨v115, rfl, ho0, hb⟩
       refine ⟨_, rfl, ?_⟩
       have HO116 := rLo (rN ho0 HO120) HB
       replace HO120 := rE HO120 ho0 hb
       replace HB := bst HB hb
       (try clear hb)
       (try clear hb2)
       (try clear hk)
       (try clear hi)
       (try clear ho0)
       refine hK.out _ _ (((HB.out.cell (World.block_lt_of_cell? w _ hw117_0)).trans hw117_0)) (fun hHeld => ?_)
       clear hK K
       refine normW 25 ?_
       exact norm_ (by simp only [putAll, Act.put, List.setIfInBounds_toArray, List.set_cons_zero, List.set_cons_succ]) (hCont (v115, v119) _ ⟨hHeld, (Kd.R_g (Kd.R_mono HO116.out (fun _ hk => hk.2))), (Kd.R_g (Kd.R_mono HO120.out (fun _ hk => hk.2))), (bel_g HB.out)⟩)
     rintro ⟨v115, v119⟩ w20 ⟨hS_, h0_, h1_, h2_⟩
     have n0_ : Fc (Kd.R (Kd.int .i64) 3 w20 w.heap.size (fun k_ => some k_ ≠ (v119 : Value).ownBlock) v115 t114) := ⟨h0_⟩
     have n1_ : Fc (Kd.R (Kd.int .i64) 3 w20 w.heap.size (fun k_ => some k_ ≠ (v115 : Value).ownBlock) v119 y118) := ⟨h1_⟩
     have n2_ : Fc (Below w.heap.size w w20) := ⟨h2_⟩
     clear HB
     clear h0_ h1_ h2_
     have HO116 := n0_
     have HO120 := n1_
     have HB := n2_
     clear n0_ n1_ n2_
     have hHeld : w20.cell? (ad110.add (x4_1).toNat) = some (.int .i64 (rd l0 x4_1)) := hS_
     obtain ⟨Ao22, co22, eo22⟩ := Kd.R_slice HO120.out
     (first | subst eo22 | (injection eo22 with f1_ f2_ f3_; have f4_ := f1_.symm; have f5_ := f3_.symm; clear f1_ f2_ f3_; subst f4_; subst f5_))
     refine norm_ (a' := ?_) ?_ ?_
     rotate_left
     ·simp only [putAll, Act.put, List.setIfInBounds_toArray, List.set_cons_zero, List.set_cons_succ]
      rfl
     refine oneW 10 (some 32) (bm 12 2047) HT_ (fun K hK => ?_)
     refine Kd.R_append_rows_step (Kd.int .i64) (w0 := w) w.heap.size (by rfl) (.tmp 25) (.tmp 31) 29 3 (.int .i64 0) 8 rfl Try.underlying29 info3 rfl (by decide) (by omega) v115 t114 y118 _ _ _ (fun k_ => some k_ ≠ (.slice Ao22 y118.length co22 : Value).ownBlock) (fun _ => False) rfl rfl ?aO ?aR (fun _ _ h => h) (fun _ h => h.elim) ?aF ?aB ?aS ?aL ?_
     (case aR => repeat (first | exact (Kd.R_reads' HO120.out).2.2 | (with_reducible refine Kd.C_alloc ?_ _) | (with_reducible refine Kd.C_drewN ?_ _) | (with_reducible refine Kd.C_drew ?_)))
     (case aB => exact (bel_g HB.out))
     (case aF => exact (fun k_ hk => Kd.fresh' (Kd.R_lt (Kd.R_g HO120.out)) k_ hk))
     (case aO => exact (Kd.R_g HO116.out))
     (case aS => exact (below_size (bel_g HB.out)))
     (case aL => have := LMc12.out; omega)
     intro v122 w21 ho hb hg hat
     rw [← Ny121.out] at ho
     replace HO120 := mkA (Kd.R_after (ok := (fun _ => True)) (Kd.R_g (Kd.R_mono HO120.out (fun _ hk => ⟨trivial, hk⟩))) hg hat)
     have HO123 := mkA (ho)
     replace HB := mkA (hb)
     clear HO116
     clear ho hb hg hat
     refine hK.out _ _ (((HB.out.cell (World.block_lt_of_cell? w _ hw117_0)).trans hw117_0)) (fun hHeld => ?_)
     clear hK K
     refine normW 32 ?_
     refine purW 11 5 12 4095 HT_ ?_
     refine doneW HT_ ?_
     try go_wp2
     go_loopg [5] k1 (fun kq v5 w' => ∃ (x5_2 : List Int), Fc (spec_asNext.l1 kq l0 x5_2 = some (r1, r2)) ∧ Fc (kq ≤ k1) ∧ Fc (Kd.R (Kd.int .i64) 3 w' w.heap.size (fun _ => True) v5 x5_2) ∧ Fc (Below w.heap.size w w'))
     case atStart => exact ⟨(y121), H', ⟨Nat.le_refl _⟩, ⟨Kd.R_g (Kd.R_mono HO123.out (fun _ hk => trivial))⟩, hbg HB⟩
     case round =>
      clear H'
      try clear c2
      try clear c2b0
      try clear c3
      try clear c3b0
      try clear c4
      try clear c4b0
      try clear c5b0
      try clear c6
      try clear c6b0
      try clear c6b1
      try clear c8b0
      try clear c9b0
      try clear c10b0
      try clear c12
      try clear hx110_0
      try clear hx117_0
      try clear p110
      try clear p117
      try clear q110
      try clear q117
      obtain ⟨x5_2, HA, HK2, HO_5, HB⟩ := hrel
      cases gk with
      | zero => exact absurd HA.out (by simp [spec_asNext.l1])
      | succ k2 =>
       have H := HA.out
       clear HA
       simp only [spec_asNext.l1] at H
       rcases iteP H with ⟨c23, H⟩ | ⟨c23, H⟩
       ·have c23b0 := decide_eq_true c23
        have c23b1 : decide (x5_2.length < l0.length) = true := decide_eq_true (Int.ofNat_lt.mp c23)
        clear c23
        obtain ⟨y124, Ny124, H⟩ := nmE H
        obtain ⟨c24, H⟩ := itNP H
        have LMc24 := mkA c24
        clear c24
        obtain ⟨y127, hy127⟩ : ∃ y_ : List Int, y_ = (x5_2 ++ y124) := ⟨_, rfl⟩
        rw [← hy127] at H
        have Ny127 := mkA hy127
        clear hy127
        have H' := mkA H
        clear H
        obtain ⟨Ao25, co25, rfl⟩ := Kd.R_slice HO_5.out
        go_wp2_with (first | ((with_reducible refine gate_dst (N := 39) rfl ?_); refine litE (Kd.int .i64) 3 ([0] : List Int) [.int .i64 0] ?hp ?_; (case hp => exact (Reps.one (show Kd.M (Kd.int .i64) _ _ _ 0 [.int .i64 0] from rfl) (Reps.none _ _))); intro v125 w26 ho27 hb hg_ hnew_; clear hg_ hnew_; (first | rw [← Ny124.out] at ho27 | (simp only [Int.reduceToNat] at ho27; rw [← Ny124.out] at ho27)); have HO126 := rLo (rN ho27 HO_5) HB; replace HO_5 := rE HO_5 ho27 hb; replace HB := bst HB hb; clear hb ho27; obtain ⟨Ao29, co29, rfl⟩ := Kd.R_slice HO126.out) | ((with_reducible refine gate_builtin (b := .append) (xs := #[.tmp 38, .tmp 39]) rfl ?_); at_builtin; refine Kd.R_append_rows (Kd.int .i64) (w0 := w) w.heap.size rfl (.tmp 38) (.tmp 39) 29 3 (.int .i64 0) 8 rfl Try.underlying29 info3 rfl (by decide) (by omega) (.slice Ao25 x5_2.length co25) x5_2 y124 _ _ _ (fun k_ => some k_ ≠ (.slice Ao29 y124.length co29 : Value).ownBlock) (fun _ => False) rfl rfl ?aO ?aR (fun _ _ h => h) (fun _ h => h.elim) ?aF ?aB ?aS ?aL ?_; (case aR => repeat (first | exact (Kd.R_reads' HO126.out).2.2 | (with_reducible refine Kd.C_alloc ?_ _) | (with_reducible refine Kd.C_drewN ?_ _) | (with_reducible refine Kd.C_drew ?_))); (case aB => exact (bel_g HB.out)); (case aF => exact (fun k_ hk => Kd.fresh' (Kd.R_lt (Kd.R_g HO126.out)) k_ hk)); (case aO => exact (Kd.R_g (Kd.R_mono HO_5.out (fun _ hk => hk.2)))); (case aS => exact (below_size (bel_g HB.out))); (case aL => have := LMc24.out; omega); intro v128 w28 ho hb hg hat; rw [← Ny127.out] at ho; replace HO126 := mkA (Kd.R_after (ok := (fun _ => True)) (Kd.R_g HO126.out) hg hat); have HO129 := mkA (ho); replace HB := mkA (hb); clear HO_5; clear ho hb hg hat))
        go_roundg k2
        case measure => have := HK1.out; have := HK2.out; omega
        case rel => exact ⟨(y127), H', ⟨by have := HK1.out; have := HK2.out; omega⟩, ⟨Kd.R_g (Kd.R_mono HO129.out (fun _ hk => trivial))⟩, hbg HB⟩
       ·have c23b0 := decide_eq_false c23
        have c23b1 : decide (x5_2.length < l0.length) = false := decide_eq_false (fun h => c23 (Int.ofNat_lt.mpr h))
        clear c23
        simp only [Option.some.injEq, Prod.mk.injEq] at H
        obtain ⟨rfl, rfl⟩ := H
        obtain ⟨Ao30, co30, rfl⟩ := Kd.R_slice HO_5.out
        go_wp2
        go_ret2
        exact ⟨_, eqE, Kd.R_g HO_5.out, bel_g HB.out⟩
    ·have H' := mkA H
     clear H
     try go_wp2
     replace HB := mkA (below_drew1 HB.out)
     obtain ⟨p110, q110, ad110, e110, hx110_0⟩ := atI HR0.out x4_1
     have hw110_0 := hx110_0
     cases e110
     replace hx110_0 := (HB.out.cell (World.block_lt_of_cell? w _ hx110_0)).trans hx110_0
     obtain ⟨i032, hi032, _, hsz32, _⟩ := info_parts info3
     obtain ⟨hcut32, hA32, hC32⟩ := print_take_of (P := Try.prog) (Value.int .i64) 0 29 3 .i64 Try.underlying29 hi032 hsz32 (some ad110) c0 l0 x4_1 (ofd) (ofd) HC0.out
     have HR111 := mkA (Kd.C_of_reads (h1 := fun _ => rfl) (hA32 _ (Kd.reads_of_C HR0.out)))
     have HC111 := mkA hC32
     clear hA32 hC32 hi032 hsz32
     refine start_ (n := 9) (S := fun w' => w'.cell? (ad110.add (x4_1).toNat) = some (.int .i64 (rd l0 x4_1))) (ds := []) (bm 9 0) (by kernel_rfl) rfl (by kernel_rfl) (((HB.out.cell (World.block_lt_of_cell? w _ hw110_0)).trans hw110_0)) (fun hHeld => ?_); refine with_tabW spec_asNext.tab4 spec_asNext.bits4 (fun HT_ HW_ => ?_)
     generalize wr.drew = w31 at HB HR111 hx110_0 hHeld ⊢
     refine purW 0 13 9 1 HT_ ?_
     refine purW 1 14 9 3 HT_ ?_
     refine purW 2 15 9 7 HT_ ?_
     refine purW 4 17 9 23 HT_ ?_
     refine purW 5 18 9 55 HT_ ?_
     refine purW 6 19 9 119 HT_ ?_
     refine takeW 3 (some 16) (bm 9 127) HT_ HW_ hHeld ?_
     refine oneW 7 (some 20) (bm 9 255) HT_ (fun K hK => ?_)
     refine goes_ Try.func17 (by kernel_rfl) rfl #[.slice (some ad110) (l0.take (x4_1 : Int).toNat).length c0] (by rfl) rfl rfl (by (try simp only [List.map_toArray, List.map_cons, List.map_nil]); first | done | (rw [show (l0.take (x4_1 : Int).toNat).length = x4_1.toNat from (by rw [List.length_take]; have h_ : (x4_1 : Int) ≤ (l0.length : Int) := ofd; omega)] <;> rfl) | rfl | (simp only [List.length_drop, List.length_take]; rfl)) ?_
     with_reducible refine (spec_asBound.calls k1 _ _ (l0.take (x4_1 : Int).toNat) t112 _ ?s1 ?s2 A7.out).mono ?_
     (case s1 => exact C_g HR111 HB)
     (case s2 => exact HC111.out)
     rintro e w' ⟨rfl, ⟨nd, rfl⟩⟩
     refine ⟨_, rfl, ?_⟩
     refine hK.out _ _ (((HB.out.cell (World.block_lt_of_cell? w _ hw110_0)).trans hw110_0)) (fun hHeld => ?_)
     clear hK K
     refine normW 20 ?_
     refine purW 8 21 9 511 HT_ ?_
     refine doneW HT_ ?_
     try go_wp2
     go_roundg k1
     case measure => have := HK1.out; omega
     case rel => exact ⟨(wrap64 (x4_1 - 1)), eqS, H', ⟨by have := HK1.out; omega⟩, hbg HB⟩
   ·have c2b0 := decide_eq_false c2
    clear c2
    simp only [Option.some.injEq, Prod.mk.injEq] at H
    obtain ⟨rfl, rfl⟩ := H
    go_wp2
    go_ret2
    exact ⟨_, eqE, nilE, bel_g HB.out⟩

end Go.Proofs.Ytmdldleodieooaa.Q
