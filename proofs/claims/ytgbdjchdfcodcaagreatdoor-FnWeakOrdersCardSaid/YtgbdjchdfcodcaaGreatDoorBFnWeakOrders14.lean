import Derived.Shelf.Small.Bits
import Derived.Shelf.Small.Wraps
import Derived.Shelf.Strconv.Itoa0
import Derived.Shelf.Sort.Plain
import Derived.Ground.Names2Prog
import Derived.Shelf.Slices.CompactI
import Derived.Shelf.Slices.SearchI
import Derived.Shelf.Slices.Cells
import Derived.Shelf.Slices.In.SortNone
import Derived.Shelf.Slices.Empties
import Derived.Test.YtgbdjchdfcodcaaGreatDoorBFnWeakOrders13
namespace Go.Proofs.YtgbdjchdfcodcaaGreatDoor.Q
open Go.RowKit Go.Proofs.YtgbdjchdfcodcaaGreatDoorW.PrintWords Go.Proofs.YtgbdjchdfcodcaaGreatDoorW.PrintLast Go.Proofs.YtgbdjchdfcodcaaGreatDoorW.PrintMore
attribute [local go_sem] max2_int min2_int max_two min_two max_three min_three max_four min_four neB_f
set_option linter.unusedVariables false
set_option maxHeartbeats 8000000
set_option maxRecDepth 100000
set_option linter.unusedSimpArgs false
mutual
def impl_Order_twoOne.l0 : Nat → List Int → Int → Int → Int → List Int → Option (List Int)
 | 0, _, _, _, _, _ => none
 | k + 1, x3, x11, x12, x400000, x400001 => if x12 < x11 then (if 0 ≤ x12 then (if x12 < (x400001.length : Int) then ((impl_members.f k (rd x400001 x12)).bind fun t404 => (impl_Order_twoOne.l1 k x3 x12 x11 x12 t404 (t404.length : Int) 0 x400000 x400001)) else (none)) else (none)) else (some ([] : List Int))
def impl_Order_twoOne.l1 : Nat → List Int → Int → Int → Int → List Int → Int → Int → Int → List Int → Option (List Int)
 | 0, _, _, _, _, _, _, _, _, _ => none
 | k + 1, x3, x4, x11, x12, x20, x21, x22, x400000, x400001 => if x22 < x21 then (if 0 ≤ x22 then (if x22 < (x20.length : Int) then (if 0 ≤ x4 then (if x4 < (x3.length : Int) then (if 0 ≤ (rd x20 x22) then (if (rd x20 x22) < (x3.length : Int) then (if (Go.bits .and .i64 (rd x3 x4) (rd x3 (rd x20 x22))) = 0 then (impl_Order_twoOne.l1 k x3 x4 x11 x12 x20 x21 (wrap64 (x22 + 1)) x400000 x400001) else ((impl_members.f k (Go.bits .and .i64 (rd x3 x4) (rd x3 (rd x20 x22)))).bind fun t410 => (if 0 < (t410.length : Int) then (some (([x4, rd x20 x22, rd t410 0] : List Int))) else (none)))) else (none)) else (none)) else (none)) else (none)) else (none)) else (none)) else (impl_Order_twoOne.l0 k x3 x11 (wrap64 (x12 + 1)) x400000 x400001)
end
def impl_Order_twoOne.f (k : Nat) (a0_0 : Int) (l0_1 : List Int) : Option (List Int) := (impl_Order_indifferent.f k a0_0 l0_1).bind fun t400 => (impl_Order_twoOne.l0 k t400 a0_0 0 a0_0 l0_1)
theorem impl_Order_twoOne.mono_l : ∀ k, (∀ y0 y1 y2 y3 y4, LeO (impl_Order_twoOne.l0 k y0 y1 y2 y3 y4) (impl_Order_twoOne.l0 (k + 1) y0 y1 y2 y3 y4)) ∧ (∀ y0 y1 y2 y3 y4 y5 y6 y7 y8, LeO (impl_Order_twoOne.l1 k y0 y1 y2 y3 y4 y5 y6 y7 y8) (impl_Order_twoOne.l1 (k + 1) y0 y1 y2 y3 y4 y5 y6 y7 y8))
 | 0 => ⟨fun _ _ _ _ _ r h => by simp [impl_Order_twoOne.l0] at h, fun _ _ _ _ _ _ _ _ _ r h => by simp [impl_Order_twoOne.l1] at h⟩
 | k + 1 => by
  obtain ⟨ih0, ih1⟩ := impl_Order_twoOne.mono_l k
  refine ⟨?_, ?_⟩ <;> intros
  unfold impl_Order_twoOne.l0
  rotate_left
  unfold impl_Order_twoOne.l1
  rotate_left
  all_goals repeat' (with_reducible first|apply ih0|apply ih1|apply impl_Order_indifferent.mono|apply impl_members.mono|apply LeO.refl|apply LeO.none|apply LeO.ite|apply LeO.bind|intro)
theorem impl_Order_twoOne.mono : ∀ a0 a1 k, LeO (impl_Order_twoOne.f k a0 a1) (impl_Order_twoOne.f (k + 1) a0 a1) := by
 intro a0 a1 k
 obtain ⟨ih0, ih1⟩ := impl_Order_twoOne.mono_l k
 unfold impl_Order_twoOne.f
 repeat' (with_reducible first|apply ih0|apply ih1|apply impl_Order_indifferent.mono|apply impl_members.mono|apply LeO.refl|apply LeO.none|apply LeO.ite|apply LeO.bind|intro)
theorem impl_Order_twoOne.calls (k : Nat) (a0_0 : Int) (A0_1 : Option Addr) (c0_1 : Nat) (l0_1 : List Int) (r : List Int) (w : World) (hr0_1 : Kd.C (Kd.int .i64) w A0_1 l0_1.length l0_1) (hc0_1 : l0_1.length ≤ c0_1) (hTAB : Tab w) (h : impl_Order_twoOne.f k a0_0 l0_1 = some r) :
  Calls Tryz.prog 23 #[.agg #[.int .i64 a0_0, .slice A0_1 l0_1.length c0_1]] w fun e w' => ∃ v0_ : Value, e = .returned (v0_) ∧ Kd.R (Kd.int .i64) 3 w' w.heap.size (fun _ => True) v0_ r ∧ Below w.heap.size w w' ∧ (r = [] → v0_ = .slice none 0 0) := by
 have HTAB := mkA hTAB
 clear hTAB
 have hu26 := Tryz.underlying26
 have HR0_1 := mkA hr0_1
 have HC0_1 := mkA hc0_1
 clear hr0_1 hc0_1
 have HB := mkA (Below.refl w.heap.size w)
 have H := h
 clear h
 unfold impl_Order_twoOne.f at H
 obtain ⟨t400, A2, H⟩ := obE H
 have H' := mkA H
 clear H
 go_enter Tryz.func23, Tryz.ntmps23
 go_wp2_with (first | ((with_reducible refine gate_dst (N := 1) rfl ?_); refine boxG HB #[.int .i64 a0_0, .slice A0_1 l0_1.length c0_1] 26 ?_; intro gb399 hg w3 BK399 GE399 hb; replace HB := bst HB hb; clear hb hg; obtain ⟨hcz4_0, hcz4_1, hfz4_0, hfz4_1⟩ := blk2 BK399) | (go_at_call 47; (with_reducible refine (impl_Order_indifferent.calls k a0_0 _ _ l0_1 t400 _ ?_ ?_ A2.out).mono ?_); exact C_g HR0_1 HB; exact HC0_1.out; rintro e w5 ⟨v401, rfl, ho0, hb⟩; have HO402 := rLo ho0 HB; replace BK399 := blkB BK399 hb; replace HB := bst HB hb; clear hb ho0; obtain ⟨hcz6_0, hcz6_1, hfz6_0, hfz6_1⟩ := blk2 BK399))
 repeat (go_quiet (first | ((with_reducible refine gate_dst (N := 1) rfl ?_); refine boxG HB #[.int .i64 a0_0, .slice A0_1 l0_1.length c0_1] 26 ?_; intro gb399 hg w3 BK399 GE399 hb; replace HB := bst HB hb; clear hb hg; obtain ⟨hcz4_0, hcz4_1, hfz4_0, hfz4_1⟩ := blk2 BK399) | (go_at_call 47; (with_reducible refine (impl_Order_indifferent.calls k a0_0 _ _ l0_1 t400 _ ?_ ?_ A2.out).mono ?_); exact C_g HR0_1 HB; exact HC0_1.out; rintro e w5 ⟨v401, rfl, ho0, hb⟩; have HO402 := rLo ho0 HB; replace BK399 := blkB BK399 hb; replace HB := bst HB hb; clear hb ho0; obtain ⟨hcz6_0, hcz6_1, hfz6_0, hfz6_1⟩ := blk2 BK399)); try go_wp2_with (first | ((with_reducible refine gate_dst (N := 1) rfl ?_); refine boxG HB #[.int .i64 a0_0, .slice A0_1 l0_1.length c0_1] 26 ?_; intro gb399 hg w3 BK399 GE399 hb; replace HB := bst HB hb; clear hb hg; obtain ⟨hcz4_0, hcz4_1, hfz4_0, hfz4_1⟩ := blk2 BK399) | (go_at_call 47; (with_reducible refine (impl_Order_indifferent.calls k a0_0 _ _ l0_1 t400 _ ?_ ?_ A2.out).mono ?_); exact C_g HR0_1 HB; exact HC0_1.out; rintro e w5 ⟨v401, rfl, ho0, hb⟩; have HO402 := rLo ho0 HB; replace BK399 := blkB BK399 hb; replace HB := bst HB hb; clear hb ho0; obtain ⟨hcz6_0, hcz6_1, hfz6_0, hfz6_1⟩ := blk2 BK399)))
 go_loopg [12] k (fun kq v12 w' => ∃ (x12_1 : Int), v12 = .int .i64 x12_1 ∧ Fc (impl_Order_twoOne.l0 kq t400 a0_0 x12_1 a0_0 l0_1 = some r) ∧ Fc (kq ≤ k) ∧ Fc (Kd.R (Kd.int .i64) 3 w' w.heap.size (fun _ => True) v401 t400) ∧ Fc (w'.heap[gb399]? = some (.cells #[.int .i64 a0_0, (.slice A0_1 l0_1.length c0_1)] 26 (0, 0))) ∧ Fc (Below w.heap.size w w'))
 case atStart => exact ⟨(0), eqS, H', ⟨Nat.le_refl _⟩, rg HO402, bg BK399, hbg HB⟩
 case round =>
  clear H'
  obtain ⟨x12_1, rfl, HA, HK1, HO_3, BK399, HB⟩ := hrel
  cases gk with
  | zero => exact absurd HA.out (by simp [impl_Order_twoOne.l0])
  | succ k1 =>
   have H := HA.out
   clear HA
   simp only [impl_Order_twoOne.l0] at H
   rcases iteE H with ⟨c7b0, H⟩ | ⟨c7b0, H⟩
   ·obtain ⟨c8b0, H⟩ := itND H
    obtain ⟨c9b0, H⟩ := itND H
    obtain ⟨t404, A10, H⟩ := obE H
    have H' := mkA H
    clear H
    obtain ⟨_, _, _, _⟩ := blk2 BK399
    obtain ⟨p403, q403, ad403, e403, hx403_0⟩ := atI HR0_1.out x12_1
    cases e403
    replace hx403_0 := (HB.out.cell (World.block_lt_of_cell? w _ hx403_0)).trans hx403_0
    go_wp2_with (first | (go_at_call 32; (with_reducible refine (impl_members.calls k1 (rd l0_1 x12_1) t404 _ ?_ A10.out).mono ?_); exact Tab.below HTAB.out (bel_g HB.out); rintro e w12 ⟨v405, rfl, ho0, hb⟩; have HO406 := rLo (rN ho0 HO_3) HB; replace HO_3 := rE HO_3 ho0 hb; replace BK399 := blkB BK399 hb; replace HB := bst HB hb; clear hb ho0; obtain ⟨Ao13, co13, rfl⟩ := Kd.R_slice HO406.out))
    repeat (go_quiet (first | (go_at_call 32; (with_reducible refine (impl_members.calls k1 (rd l0_1 x12_1) t404 _ ?_ A10.out).mono ?_); exact Tab.below HTAB.out (bel_g HB.out); rintro e w12 ⟨v405, rfl, ho0, hb⟩; have HO406 := rLo (rN ho0 HO_3) HB; replace HO_3 := rE HO_3 ho0 hb; replace BK399 := blkB BK399 hb; replace HB := bst HB hb; clear hb ho0; obtain ⟨Ao13, co13, rfl⟩ := Kd.R_slice HO406.out)); try go_wp2_with (first | (go_at_call 32; (with_reducible refine (impl_members.calls k1 (rd l0_1 x12_1) t404 _ ?_ A10.out).mono ?_); exact Tab.below HTAB.out (bel_g HB.out); rintro e w12 ⟨v405, rfl, ho0, hb⟩; have HO406 := rLo (rN ho0 HO_3) HB; replace HO_3 := rE HO_3 ho0 hb; replace BK399 := blkB BK399 hb; replace HB := bst HB hb; clear hb ho0; obtain ⟨Ao13, co13, rfl⟩ := Kd.R_slice HO406.out)))
    go_loopg [22] k1 (fun kq v22 w' => ∃ (x22_2 : Int), v22 = .int .i64 x22_2 ∧ Fc (impl_Order_twoOne.l1 kq t400 x12_1 a0_0 x12_1 t404 (t404.length : Int) x22_2 a0_0 l0_1 = some r) ∧ Fc (kq ≤ k1) ∧ Fc (Kd.R (Kd.int .i64) 3 w' w.heap.size (fun k_ => some k_ ≠ ((.slice Ao13 t404.length co13) : Value).ownBlock) v401 t400) ∧ Fc (Kd.R (Kd.int .i64) 3 w' w.heap.size (fun k_ => some k_ ≠ (v401 : Value).ownBlock) (.slice Ao13 t404.length co13) t404) ∧ Fc (w'.heap[gb399]? = some (.cells #[.int .i64 a0_0, (.slice (some ad403) l0_1.length c0_1)] 26 (0, 0))) ∧ Fc (Below w.heap.size w w'))
    case atStart => exact ⟨(0), eqS, H', ⟨Nat.le_refl _⟩, ⟨Kd.R_g (Kd.R_mono HO_3.out (fun _ hk => hk.2))⟩, ⟨Kd.R_g (Kd.R_mono HO406.out (fun _ hk => hk.2))⟩, bg BK399, hbg HB⟩
    case round =>
     clear H'
     try clear c7b0
     try clear c8
     try clear c8b0
     try clear c9
     try clear c9b0
     try clear hx403_0
     try clear p403
     try clear q403
     obtain ⟨x22_2, rfl, HA, HK2, HO_3, HO_20, BK399, HB⟩ := hrel
     cases gk with
     | zero => exact absurd HA.out (by simp [impl_Order_twoOne.l1])
     | succ k2 =>
      have H := HA.out
      clear HA
      simp only [impl_Order_twoOne.l1] at H
      rcases iteE H with ⟨c14b0, H⟩ | ⟨c14b0, H⟩
      ·obtain ⟨c15b0, H⟩ := itND H
       obtain ⟨c16b0, H⟩ := itND H
       obtain ⟨c17b0, H⟩ := itND H
       obtain ⟨c18b0, H⟩ := itND H
       obtain ⟨c19b0, H⟩ := itND H
       obtain ⟨c20b0, H⟩ := itND H
       rcases iteP H with ⟨c21, H⟩ | ⟨c21, H⟩
       ·have c21b0 := beq_iff_eq.mpr c21
        have c21b1 := bne_eq_false_iff_eq.mpr c21
        clear c21
        have H' := mkA H
        clear H
        obtain ⟨p407, q407, ad407, e407, hx407_0⟩ := atI (Kd.R_reads' HO_20.out).2.2 x22_2
        cases e407
        obtain ⟨Ao22, co22, rfl⟩ := Kd.R_slice HO_3.out
        obtain ⟨p408, q408, ad408, e408, hx408_0⟩ := atI (Kd.R_reads' HO_3.out).2.2 x12_1
        cases e408
        obtain ⟨p409, q409, ad409, e409, hx409_0⟩ := atI (Kd.R_reads' HO_3.out).2.2 (rd t404 x22_2)
        obtain rfl : ad408 = ad409 := (by injection e409)
        go_wp2
        repeat (go_quiet (fail); try go_wp2)
        go_roundg k2
        case measure => have := HK1.out; have := HK2.out; omega
        case rel => exact ⟨(wrap64 (x22_2 + 1)), eqS, H', ⟨by have := HK1.out; have := HK2.out; omega⟩, rg HO_3, rg HO_20, bg BK399, hbg HB⟩
       ·have c21b0 := beq_eq_false_iff_ne.mpr c21
        have c21b1 := bne_iff_ne.mpr c21
        obtain ⟨t410, A23, H⟩ := obE H
        obtain ⟨c24, H⟩ := itNP H
        have c24b0 := decide_eq_true c24
        have c24b1 : decide (0 < t410.length) = true := decide_eq_true (by omega)
        clear c24
        obtain ⟨y414, hy414⟩ : ∃ y_ : List Int, y_ = (([x12_1, rd t404 x22_2, rd t410 0] : List Int)) := ⟨_, rfl⟩
        rw [← hy414] at H
        have Ny414 := mkA hy414
        clear hy414
        obtain rfl := Option.some.inj H
        obtain ⟨p407, q407, ad407, e407, hx407_0⟩ := atI (Kd.R_reads' HO_20.out).2.2 x22_2
        cases e407
        obtain ⟨Ao25, co25, rfl⟩ := Kd.R_slice HO_3.out
        obtain ⟨p408, q408, ad408, e408, hx408_0⟩ := atI (Kd.R_reads' HO_3.out).2.2 x12_1
        cases e408
        obtain ⟨p409, q409, ad409, e409, hx409_0⟩ := atI (Kd.R_reads' HO_3.out).2.2 (rd t404 x22_2)
        obtain rfl : ad408 = ad409 := (by injection e409)
        go_wp2_with (first | (go_at_call 32; (with_reducible refine (impl_members.calls k2 (Go.bits .and .i64 (rd t400 x12_1) (rd t400 (rd t404 x22_2))) t410 _ ?_ A23.out).mono ?_); exact Tab.below HTAB.out (bel_g HB.out); rintro e w26 ⟨v411, rfl, ho0, hb⟩; have HO412 := rLo (rN (rN ho0 HO_3) HO_20) HB; replace HO_3 := rE HO_3 ho0 hb; replace HO_20 := rE HO_20 ho0 hb; replace BK399 := blkB BK399 hb; replace HB := bst HB hb; clear hb ho0; obtain ⟨Ao27, co27, rfl⟩ := Kd.R_slice HO412.out; have p413 : 0 ≤ (0 : Int) := (by omega); have q413 : 0 < (t410.length : Int) := ofd; obtain ⟨ad413, e413, hx413_0⟩ := Kd.at_int (Kd.R_reads' HO412.out).2.2 0 p413 q413; cases e413; have qi413 : (0 < t410.length) = True := eq_true (by omega); (try rw [show ((0 : Int)).toNat = 0 from rfl] at hx413_0); (try rw [Addr.add_zero'] at hx413_0); replace p413 := eq_true p413; replace q413 := eq_true q413) | ((with_reducible refine gate_dst (N := 43) rfl ?_); refine litE (Kd.int .i64) 3 ([x12_1, rd t404 x22_2, rd t410 0] : List Int) [.int .i64 x12_1, .int .i64 (rd t404 x22_2), .int .i64 (rd t410 0)] ?hp ?_; (case hp => exact (Reps.one (show Kd.M (Kd.int .i64) _ _ _ x12_1 [.int .i64 x12_1] from rfl) (Reps.one (show Kd.M (Kd.int .i64) _ _ _ (rd t404 x22_2) [.int .i64 (rd t404 x22_2)] from rfl) (Reps.one (show Kd.M (Kd.int .i64) _ _ _ (rd t410 0) [.int .i64 (rd t410 0)] from rfl) (Reps.none _ _))))); intro v415 w28 ho29 hb hg_ hnew_; clear hg_ hnew_; (first | rw [← Ny414.out] at ho29 | (simp only [Int.reduceToNat] at ho29; rw [← Ny414.out] at ho29)); have HO416 := rLo (rN (rN (rN ho29 HO_3) HO_20) HO412) HB; replace HO_3 := rE HO_3 ho29 hb; replace HO_20 := rE HO_20 ho29 hb; replace HO412 := rE HO412 ho29 hb; replace BK399 := blkB BK399 hb; replace HB := bst HB hb; clear hb ho29))
        repeat (go_quiet (first | (go_at_call 32; (with_reducible refine (impl_members.calls k2 (Go.bits .and .i64 (rd t400 x12_1) (rd t400 (rd t404 x22_2))) t410 _ ?_ A23.out).mono ?_); exact Tab.below HTAB.out (bel_g HB.out); rintro e w26 ⟨v411, rfl, ho0, hb⟩; have HO412 := rLo (rN (rN ho0 HO_3) HO_20) HB; replace HO_3 := rE HO_3 ho0 hb; replace HO_20 := rE HO_20 ho0 hb; replace BK399 := blkB BK399 hb; replace HB := bst HB hb; clear hb ho0; obtain ⟨Ao27, co27, rfl⟩ := Kd.R_slice HO412.out; have p413 : 0 ≤ (0 : Int) := (by omega); have q413 : 0 < (t410.length : Int) := ofd; obtain ⟨ad413, e413, hx413_0⟩ := Kd.at_int (Kd.R_reads' HO412.out).2.2 0 p413 q413; cases e413; have qi413 : (0 < t410.length) = True := eq_true (by omega); (try rw [show ((0 : Int)).toNat = 0 from rfl] at hx413_0); (try rw [Addr.add_zero'] at hx413_0); replace p413 := eq_true p413; replace q413 := eq_true q413) | ((with_reducible refine gate_dst (N := 43) rfl ?_); refine litE (Kd.int .i64) 3 ([x12_1, rd t404 x22_2, rd t410 0] : List Int) [.int .i64 x12_1, .int .i64 (rd t404 x22_2), .int .i64 (rd t410 0)] ?hp ?_; (case hp => exact (Reps.one (show Kd.M (Kd.int .i64) _ _ _ x12_1 [.int .i64 x12_1] from rfl) (Reps.one (show Kd.M (Kd.int .i64) _ _ _ (rd t404 x22_2) [.int .i64 (rd t404 x22_2)] from rfl) (Reps.one (show Kd.M (Kd.int .i64) _ _ _ (rd t410 0) [.int .i64 (rd t410 0)] from rfl) (Reps.none _ _))))); intro v415 w28 ho29 hb hg_ hnew_; clear hg_ hnew_; (first | rw [← Ny414.out] at ho29 | (simp only [Int.reduceToNat] at ho29; rw [← Ny414.out] at ho29)); have HO416 := rLo (rN (rN (rN ho29 HO_3) HO_20) HO412) HB; replace HO_3 := rE HO_3 ho29 hb; replace HO_20 := rE HO_20 ho29 hb; replace HO412 := rE HO412 ho29 hb; replace BK399 := blkB BK399 hb; replace HB := bst HB hb; clear hb ho29)); try go_wp2_with (first | (go_at_call 32; (with_reducible refine (impl_members.calls k2 (Go.bits .and .i64 (rd t400 x12_1) (rd t400 (rd t404 x22_2))) t410 _ ?_ A23.out).mono ?_); exact Tab.below HTAB.out (bel_g HB.out); rintro e w26 ⟨v411, rfl, ho0, hb⟩; have HO412 := rLo (rN (rN ho0 HO_3) HO_20) HB; replace HO_3 := rE HO_3 ho0 hb; replace HO_20 := rE HO_20 ho0 hb; replace BK399 := blkB BK399 hb; replace HB := bst HB hb; clear hb ho0; obtain ⟨Ao27, co27, rfl⟩ := Kd.R_slice HO412.out; have p413 : 0 ≤ (0 : Int) := (by omega); have q413 : 0 < (t410.length : Int) := ofd; obtain ⟨ad413, e413, hx413_0⟩ := Kd.at_int (Kd.R_reads' HO412.out).2.2 0 p413 q413; cases e413; have qi413 : (0 < t410.length) = True := eq_true (by omega); (try rw [show ((0 : Int)).toNat = 0 from rfl] at hx413_0); (try rw [Addr.add_zero'] at hx413_0); replace p413 := eq_true p413; replace q413 := eq_true q413) | ((with_reducible refine gate_dst (N := 43) rfl ?_); refine litE (Kd.int .i64) 3 ([x12_1, rd t404 x22_2, rd t410 0] : List Int) [.int .i64 x12_1, .int .i64 (rd t404 x22_2), .int .i64 (rd t410 0)] ?hp ?_; (case hp => exact (Reps.one (show Kd.M (Kd.int .i64) _ _ _ x12_1 [.int .i64 x12_1] from rfl) (Reps.one (show Kd.M (Kd.int .i64) _ _ _ (rd t404 x22_2) [.int .i64 (rd t404 x22_2)] from rfl) (Reps.one (show Kd.M (Kd.int .i64) _ _ _ (rd t410 0) [.int .i64 (rd t410 0)] from rfl) (Reps.none _ _))))); intro v415 w28 ho29 hb hg_ hnew_; clear hg_ hnew_; (first | rw [← Ny414.out] at ho29 | (simp only [Int.reduceToNat] at ho29; rw [← Ny414.out] at ho29)); have HO416 := rLo (rN (rN (rN ho29 HO_3) HO_20) HO412) HB; replace HO_3 := rE HO_3 ho29 hb; replace HO_20 := rE HO_20 ho29 hb; replace HO412 := rE HO412 ho29 hb; replace BK399 := blkB BK399 hb; replace HB := bst HB hb; clear hb ho29)))
        go_ret
        exact ⟨_, eqE, Kd.R_g (Kd.R_mono HO416.out (fun _ hk => trivial)), bel_g HB.out, by first | rfl | (intro _; rfl) | (intro h_; simp at h_; done) | (intro h_; rw [Ny414.out] at h_; simp at h_; done)⟩
      ·have H' := mkA H
       clear H
       go_wp2
       repeat (go_quiet (fail); try go_wp2)
       go_roundg k2
       case measure => have := HK1.out; have := HK2.out; omega
       case rel => exact ⟨(wrap64 (x12_1 + 1)), eqS, H', ⟨by have := HK1.out; have := HK2.out; omega⟩, ⟨Kd.R_g (Kd.R_mono HO_3.out (fun _ hk => trivial))⟩, bg BK399, hbg HB⟩
   ·obtain rfl := Option.some.inj H
    go_wp2
    repeat (go_quiet (fail); try go_wp2)
    go_ret
    exact ⟨_, eqE, nilE, bel_g HB.out, by first | rfl | (intro _; rfl) | (intro h_; simp at h_; done)⟩
end Go.Proofs.YtgbdjchdfcodcaaGreatDoor.Q
/-
  DERIVED: THE SHELF's CONTRACTS AT THIS DUMP, IN PLAIN WORDS (tools/lay-plain.mjs out of 'YtgbdjchdfcodcaaGreatDoorQShelf.lean', which tools/lay-shelf.mjs wrote): THE SAME DECLARATIONS UNDER THE SAME NAMES: 'import', 'namespace', 'open', 'def', 'theorem' AND NOTHING ELSE: no command of the shelf's: FOR A HAND-IN. Each laying: the table of numbers ('.._ren') and one theorem, a field a fact of the dump's own or the kernel's comparison; each contract: ONE APPLICATION.
-/
namespace Go.Proofs
open Go.Shelf
def Tryz.lays189_ren : Go.Shelf.Ren := ⟨fun | 189 => 77 | 125 => 86 | 257 => 85 | 128 => 97 | 129 => 98 | 294 => 89 | 295 => 90 | 296 => 91 | 297 => 92 | 298 => 93 | 299 => 94 | 216 => 79 | 300 => 95 | 301 => 96 | 328 => 99 | 329 => 100 | 330 => 101 | 331 => 102 | 332 => 103 | 215 => 87 | 343 => 104 | n => n, fun | 28 => 24 | 3 => 3 | 46 => 60 | 0 => 0 | 51 => 71 | 53 => 50 | 4 => 4 | 183 => 82 | 182 => 81 | 131 => 67 | 5 => 5 | 9 => 9 | 218 => 86 | 222 => 90 | 228 => 92 | 229 => 93 | n => n, fun | n => n⟩
theorem Tryz.lays189 : Go.Proofs.Lays.n189 Tryz.prog Tryz.lays189_ren := {
  mixed := by kernel_rfl
  f125 := Tryz.func86.trans (congrArg some (by kernel_rfl))
  f128 := Tryz.func97.trans (congrArg some (by kernel_rfl))
  f129 := Tryz.func98.trans (congrArg some (by kernel_rfl))
  f189 := Tryz.func77.trans (congrArg some (by kernel_rfl))
  f215 := Tryz.func87.trans (congrArg some (by kernel_rfl))
  f216 := Tryz.func79.trans (congrArg some (by kernel_rfl))
  f257 := Tryz.func85.trans (congrArg some (by kernel_rfl))
  f294 := Tryz.func89.trans (congrArg some (by kernel_rfl))
  f295 := Tryz.func90.trans (congrArg some (by kernel_rfl))
  f296 := Tryz.func91.trans (congrArg some (by kernel_rfl))
  f297 := Tryz.func92.trans (congrArg some (by kernel_rfl))
  f298 := Tryz.func93.trans (congrArg some (by kernel_rfl))
  f299 := Tryz.func94.trans (congrArg some (by kernel_rfl))
  f300 := Tryz.func95.trans (congrArg some (by kernel_rfl))
  f301 := Tryz.func96.trans (congrArg some (by kernel_rfl))
  f328 := Tryz.func99.trans (congrArg some (by kernel_rfl))
  f329 := Tryz.func100.trans (congrArg some (by kernel_rfl))
  f330 := Tryz.func101.trans (congrArg some (by kernel_rfl))
  f331 := Tryz.func102.trans (congrArg some (by kernel_rfl))
  f332 := Tryz.func103.trans (congrArg some (by kernel_rfl))
  f343 := Tryz.func104.trans (congrArg some (by kernel_rfl))
  t0 := Tryz.underlying0
  a0 := Tryz.isAgg0
  z0 := Tryz.sizeOf0
  v0 := Tryz.zeroValue0
  t3 := Tryz.underlying3
  a3 := Tryz.isAgg3
  z3 := Tryz.sizeOf3
  v3 := Tryz.zeroValue3
  t4 := Tryz.underlying4
  a4 := Tryz.isAgg4
  z4 := Tryz.sizeOf4
  v4 := Tryz.zeroValue4
  t5 := Tryz.underlying5
  a5 := Tryz.isAgg5
  z5 := Tryz.sizeOf5
  v5 := Tryz.zeroValue5
  t9 := Tryz.underlying9
  a9 := Tryz.isAgg9
  z9 := Tryz.sizeOf9
  v9 := Tryz.zeroValue9
  t28 := Tryz.underlying24
  a28 := Tryz.isAgg24
  z28 := Tryz.sizeOf24
  v28 := Tryz.zeroValue24
  t46 := Tryz.underlying60
  a46 := Tryz.isAgg60
  z46 := Tryz.sizeOf60
  v46 := Tryz.zeroValue60
  t51 := Tryz.underlying71
  a51 := Tryz.isAgg71
  z51 := Tryz.sizeOf71
  v51 := Tryz.zeroValue71
  t53 := Tryz.underlying50
  a53 := Tryz.isAgg50
  z53 := Tryz.sizeOf50
  v53 := Tryz.zeroValue50
  t131 := Tryz.underlying67
  a131 := Tryz.isAgg67
  z131 := Tryz.sizeOf67
  v131 := Tryz.zeroValue67
  t182 := Tryz.underlying81
  a182 := Tryz.isAgg81
  z182 := Tryz.sizeOf81
  v182 := Tryz.zeroValue81
  t183 := Tryz.underlying82
  a183 := Tryz.isAgg82
  z183 := Tryz.sizeOf82
  v183 := Tryz.zeroValue82
  t218 := Tryz.underlying86
  a218 := Tryz.isAgg86
  z218 := Tryz.sizeOf86
  v218 := Tryz.zeroValue86
  t222 := Tryz.underlying90
  a222 := Tryz.isAgg90
  z222 := Tryz.sizeOf90
  v222 := Tryz.zeroValue90
  t228 := Tryz.underlying92
  a228 := Tryz.isAgg92
  z228 := Tryz.sizeOf92
  v228 := Tryz.zeroValue92
  t229 := Tryz.underlying93
  a229 := Tryz.isAgg93
  z229 := Tryz.sizeOf93
  v229 := Tryz.zeroValue93 }
open Go.Sort Go.RowKit in
theorem Tryz.slices_Sort_int (blk off cap : Nat) (zs : List Int) (w : World) (hH : Holds (Value.int .i64) w blk off zs.toArray) (hblk : blk < w.heap.size) (hsz : zs.length < 4611686018427387904) :
    Calls Tryz.prog 77 #[.slice (some ⟨blk, off, none⟩) zs.length cap] w fun e w' =>
      e = .returned (.tuple #[]) ∧ ∃ n os, w' = grow (putRow (Value.int .i64) (Sort.ahead w n) blk off (zs.mergeSort fun x y => decide (x ≤ y)).toArray) os := Any.slices_Sort_int Tryz.lays189 blk off cap zs w hH hblk hsz
def Tryz.laysNm220_ren : Go.Shelf.Ren := ⟨fun | 20 => 62 | n => n, fun | 22 => 24 | 3 => 3 | 4 => 4 | 0 => 0 | n => n, fun | n => n⟩
theorem Tryz.laysNm220 : Go.Proofs.Lays2.n20 Tryz.prog Tryz.laysNm220_ren := {
  mixed := by kernel_rfl
  f20 := Tryz.func62.trans (congrArg some (by kernel_rfl))
  t0 := Tryz.underlying0
  a0 := Tryz.isAgg0
  z0 := Tryz.sizeOf0
  v0 := Tryz.zeroValue0
  t3 := Tryz.underlying3
  a3 := Tryz.isAgg3
  z3 := Tryz.sizeOf3
  v3 := Tryz.zeroValue3
  t4 := Tryz.underlying4
  a4 := Tryz.isAgg4
  z4 := Tryz.sizeOf4
  v4 := Tryz.zeroValue4
  t22 := Tryz.underlying24
  a22 := Tryz.isAgg24
  z22 := Tryz.sizeOf24
  v22 := Tryz.zeroValue24
  i3 := by kernel_rfl }
open Go.RowKit Go.Lib Go.Sort in
theorem Tryz.slices_Compact_int (blk off cap : Nat) (zs : List Int) (w : World) (hH : Holds (Value.int .i64) w blk off zs.toArray) (hsz : zs.length ≤ 9223372036854775807) (hcap : zs.length ≤ cap) :
    Calls Tryz.prog 62 #[.slice (some ⟨blk, off, none⟩) zs.length cap] w fun e w' => e = .returned (.slice (some ⟨blk, off, none⟩) (Lib.compact zs).length cap) ∧ ∃ q, w' = putRow (Value.int .i64) (Sort.ahead w q) blk off (Lib.compact zs ++ List.replicate (zs.length - (Lib.compact zs).length) 0).toArray := Any.slices_Compact_int Tryz.laysNm220 blk off cap zs w hH hsz hcap
open Go.RowKit Go.Lib Go.Sort in
theorem Tryz.slices_Compact_int_empty (a : Option Addr) (cap : Nat) (w : World) :
    Calls Tryz.prog 62 #[.slice a 0 cap] w fun e w' => e = .returned (.slice a 0 cap) ∧ w' = w := Any.slices_Compact_int_empty Tryz.laysNm220 a cap w
open Go.RowKit Go.Sort in
theorem Tryz.slices_Sort_int_none (p : Option Addr) (cap : Nat) (w : World) :
    Calls Tryz.prog 77 #[.slice p 0 cap] w fun e w' => e = .returned (.tuple #[]) ∧ w' = w := Any.slices_Sort_int_none Tryz.lays189 p cap w
end Go.Proofs
