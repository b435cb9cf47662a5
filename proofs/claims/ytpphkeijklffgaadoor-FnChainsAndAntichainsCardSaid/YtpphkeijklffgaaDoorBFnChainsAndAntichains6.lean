import Derived.Test.YtpphkeijklffgaaDoorBFnChainsAndAntichains4
import Derived.Test.YtpphkeijklffgaaDoorBFnChainsAndAntichains5
namespace Go.Proofs.YtpphkeijklffgaaDoor.Q
open Go.RowKit Go.Proofs.YtpphkeijklffgaaDoorW.PrintWords Go.Proofs.YtpphkeijklffgaaDoorW.PrintLast Go.Proofs.YtpphkeijklffgaaDoorW.PrintMore
attribute [local go_sem] max2_int min2_int max_two min_two max_three min_three max_four min_four neB_f
set_option linter.unusedVariables false
set_option maxHeartbeats 8000000
set_option maxRecDepth 100000
set_option linter.unusedSimpArgs false
def spec_l1Cur_anyOrder.f (k : Nat) (s0_0 : List Int) (s0_1 : Int) (s0_2 : Int) (a1 : Int) : Option (Int × List Int × Int × Int) := (spec_l1Cur_order.f k s0_0 s0_1 s0_2 a1).bind fun bt196 => ((spec_l1Cur_pick.f s0_0 bt196.2.2.1 bt196.2.2.2 14).bind fun bt203 => (if bt203.1 = 0 then ((spec_l1Cur_relation.f k s0_0 bt203.2.1 bt203.2.2 a1).bind fun bt206 => (some (bt206.1, bt206.2.1, bt206.2.2.1, bt206.2.2.2))) else (if bt203.1 = 1 then ((spec_l1Cur_among.f s0_0 bt203.2.1 bt203.2.2 (([(-1), 0, 10, 11] : List Int))).bind fun bt215 => (some (bt215.1, bt196.2.1, bt215.2.1, bt215.2.2))) else (if bt203.1 = 2 then (if (bt196.2.1.length : Int) > 0 then ((spec_l1Cur_pick.f s0_0 bt203.2.1 bt203.2.2 (bt196.2.1.length : Int)).bind fun bt218 => (if 0 ≤ bt196.1 then ((spec_l1Cur_among.f s0_0 bt218.2.1 bt218.2.2 (([(-1), 0, 1, shl .i64 1 bt196.1] : List Int))).bind fun bt224 => (if 0 ≤ bt218.1 then (if bt218.1 < (bt196.2.1.length : Int) then (some (bt196.1, (bt196.2.1.set (bt218.1 : Int).toNat bt224.1), bt224.2.1, bt224.2.2)) else (none)) else (none))) else (none))) else (some (bt196.1, bt196.2.1, bt203.2.1, bt203.2.2))) else (if bt203.1 = 3 then ((spec_l1Cur_order.f k s0_0 bt203.2.1 bt203.2.2 10).bind fun bt228 => (some (bt228.1, bt228.2.1, bt228.2.2.1, bt228.2.2.2))) else (some (bt196.1, bt196.2.1, bt203.2.1, bt203.2.2)))))))
theorem spec_l1Cur_anyOrder.mono : ∀ a0 a1 a2 a3 k, LeO (spec_l1Cur_anyOrder.f k a0 a1 a2 a3) (spec_l1Cur_anyOrder.f (k + 1) a0 a1 a2 a3) := by
 intro a0 a1 a2 a3 k
 unfold spec_l1Cur_anyOrder.f
 repeat' (with_reducible first|apply spec_l1Cur_order.mono|apply spec_l1Cur_relation.mono|apply LeO.refl|apply LeO.none|apply LeO.ite|apply LeO.bind|intro)
def spec_l1Cur_anyOrder.T9 : Bool × List (List Nat × List Nat) := (true, [([], []), ([0], [0]), ([], []), ([], []), ([3], [3]), ([4], [4]), ([2, 5], [2, 5]), ([], []), ([], []), ([8], [8]), ([9], [9]), ([10], [10]), ([7, 11, 6], [7, 11]), ([1, 6, 0, 1, 2, 3, 4, 5, 6, 7, 8, 9, 10, 11, 12], [1, 6]), ([13, 12, 12, 0, 1, 2, 3, 4, 5, 6, 7, 8, 9, 10, 11, 12], [12, 13])])
def spec_l1Cur_anyOrder.B9 : List Nat := [0, 1, 0, 0, 8, 24, 60, 0, 0, 256, 768, 1792, 4092, 8191, 16383]
theorem spec_l1Cur_anyOrder.tab9 : rtab .any (opsOf Tryd.f15 9) = spec_l1Cur_anyOrder.T9 := by kernel_rfl
theorem spec_l1Cur_anyOrder.bits9 : waitsOk spec_l1Cur_anyOrder.T9.2 spec_l1Cur_anyOrder.B9 = true := by kernel_rfl
theorem spec_l1Cur_anyOrder.calls (k : Nat) (g : Nat) (s0_0 : List Int) (s0_1 : Int) (s0_2 : Int) (a1 : Int) (r1 : Int) (r2 : List Int) (r3 : Int) (r4 : Int) (w0 w : World) (hI : IsS36 w0 w g s0_0 s0_1 s0_2) (hB : Below w0.heap.size w0 w) (h : spec_l1Cur_anyOrder.f k s0_0 s0_1 s0_2 a1 = some (r1, r2, r3, r4)) :
  Calls Tryd.prog 15 #[.pointer (some ⟨g, 0, none⟩), .int .i64 a1] w fun e w' => ∃ v1_ : Value, e = .returned (.agg #[.int .i64 r1, v1_]) ∧ Kd.R (Kd.int .i64) 3 w' w.heap.size (fun _ => True) v1_ r2 ∧ IsS36 w0 w' g s0_0 r3 r4 ∧ Below w0.heap.size w0 w' ∧ KeepBut w w' g none := by
 have hu26 := Tryd.underlying26
 have HI0 := mkA hI
 have HK := mkA (KeepBut.refl w g none)
 have HL := mkA hB.size
 clear hI
 have HW0 := mkA hB.size
 have HB := mkA hB
 clear hB
 have H := h
 clear h
 unfold spec_l1Cur_anyOrder.f at H
 obtain ⟨⟨t196, t197, t200, t201⟩, A3, H⟩ := obE H
 dsimp only at H
 obtain ⟨⟨t203, t204, t205⟩, A4, H⟩ := obE H
 dsimp only at H
 rcases iteP H with ⟨c5, H⟩ | ⟨c5, H⟩
 ·have c5b0 := beq_iff_eq.mpr c5
  have c5b1 := bne_eq_false_iff_eq.mpr c5
  clear c5
  obtain ⟨⟨t206, t207, t210, t211⟩, A6, H⟩ := obE H
  dsimp only at H
  simp only [Option.some.injEq, Prod.mk.injEq] at H
  obtain ⟨rfl, rfl, rfl, rfl⟩ := H
  go_enter Tryd.func15, Tryd.ntmps15
  go_wp2_with (first | ((with_reducible refine gate_dst (N := 4) rfl ?_); refine boxE (N := 4) (cs := #[.int .i64 0, .slice none 0 0]) (t := 26) ?_; intro gb195 hg w7 hbox hb; have BK195 := mkA (hbox); have GW195 := mkA ((by rw [hg]; exact (keep_size (w := w) (g := g) (row := none) (by exact kb36_0 HK.out)) : w.heap.size ≤ gb195)); have GE195 := mkA (Nat.le_trans HW0.out GW195.out); replace HK := kU (g := g) (by exact kb36_0 HK.out) hb; have NB0_195 : NeB _ _ := ⟨(by rw [hg]; exact Nat.ne_of_lt (IsS36.lt (show IsS36 w0 _ g s0_0 s0_1 s0_2 from by exact st36_0 HI0.out)) : g ≠ gb195)⟩; have NB195_0 : NeB _ _ := ⟨(by rw [hg]; exact Nat.ne_of_gt (IsS36.lt (show IsS36 w0 _ g s0_0 s0_1 s0_2 from by exact st36_0 HI0.out)) : gb195 ≠ g)⟩; replace HB := mkA (below_step (by exact bl36_0 HB.out HI0.out) hb); replace HI0 := mkA (IsS36.below (by exact st36_0 HI0.out) hb); clear hb hbox hg) | ((with_reducible refine gate_callee (f := 30) rfl ?_); refine goesQ (some 8) Tryd.func30 #[.pointer (some ⟨g, 0, none⟩), .int .i64 a1] ?_; (with_reducible refine (spec_l1Cur_order.calls k g s0_0 s0_1 s0_2 a1 t196 t197 t200 t201 w0 _ ?_ ?_ A3.out).mono ?_); exact st36_1 HI0.out NB0_195.out; exact bl36_1 HB.out HI0.out GE195.out; rintro e w8 ⟨v198, rfl, ho0, hi, hb, hk⟩; refine ⟨_, rfl, ?_⟩; replace BK195 := kB hk BK195; have HO199 := mkA (Kd.R_lower ho0 (keep_size (w := w) (g := g) (row := none) (by exact kb36_1 HK.out GW195.out))); replace HK := kT (by exact kb36_1 HK.out GW195.out) hk; replace HI0 := mkA (hi); replace HB := mkA (hb); clear hb hk hi ho0) | ((with_reducible refine gate_dst (N := 5) rfl ?_); refine boxE (N := 5) (cs := #[.int .i64 0, .slice none 0 0]) (t := 26) ?_; intro gb202 hg w9 hbox hb; replace HO199 := rB HO199 hb; have BK202 := mkA (hbox); have GW202 := mkA ((by rw [hg]; exact (keep_size (w := w) (g := g) (row := none) (by exact kb36_1 HK.out GW195.out)) : w.heap.size ≤ gb202)); have GE202 := mkA (Nat.le_trans HW0.out GW202.out); replace HK := kU (g := g) (by exact kb36_1 HK.out GW195.out) hb; have NB195_202 := neL7 BK195 hg; have NB202_195 := neR7 BK195 hg; replace BK195 := blkB BK195 hb; have NB0_202 : NeB _ _ := ⟨(by rw [hg]; exact Nat.ne_of_lt (IsS36.lt (show IsS36 w0 _ g s0_0 t200 t201 from by exact st36_1 HI0.out NB0_195.out)) : g ≠ gb202)⟩; have NB202_0 : NeB _ _ := ⟨(by rw [hg]; exact Nat.ne_of_gt (IsS36.lt (show IsS36 w0 _ g s0_0 t200 t201 from by exact st36_1 HI0.out NB0_195.out)) : gb202 ≠ g)⟩; replace HB := mkA (below_step (by exact bl36_1 HB.out HI0.out GE195.out) hb); replace HI0 := mkA (IsS36.below (by exact st36_1 HI0.out NB0_195.out) hb); clear hb hbox hg; obtain ⟨_, _, _, _⟩ := blk2 BK202; obtain ⟨Ao13, co13, rfl⟩ := Kd.R_slice HO199.out) | ((with_reducible refine gate_callee (f := 31) rfl ?_); refine goesQ (some 10) Tryd.func31 #[.pointer (some ⟨g, 0, none⟩), .int .i64 14] ?_; (with_reducible refine (spec_l1Cur_pick.calls g s0_0 t200 t201 14 t203 t204 t205 w0 _ ?_ ?_ A4.out).mono ?_); exact st36_2 HI0.out NB0_195.out NB0_202.out; exact bl36_2 HB.out HI0.out GE195.out GE202.out; rintro e w14 ⟨rfl, hi, hb, hk⟩; refine ⟨_, rfl, ?_⟩; replace BK195 := kR hk BK195; replace HO199 := rK (IsS36.apart (show IsS36 w0 _ g s0_0 t200 t201 from by exact st36_2 HI0.out NB0_195.out NB0_202.out) (rFg HO199 BK202) (by decide)) hk; replace BK202 := kR hk BK202; replace HK := kT (by exact kb36_2 HK.out GW195.out GW202.out) hk; replace HI0 := mkA (hi); replace HB := mkA (hb); clear hb hk hi) | ((with_reducible refine gate_callee (f := 32) rfl ?_); refine goesQ (some 15) Tryd.func32 #[.pointer (some ⟨g, 0, none⟩), .int .i64 a1] ?_; (with_reducible refine (spec_l1Cur_relation.calls k g s0_0 t204 t205 a1 t206 t207 t210 t211 w0 _ ?_ ?_ A6.out).mono ?_); exact st36_2 HI0.out NB0_195.out NB0_202.out; exact bl36_2 HB.out HI0.out GE195.out GE202.out; rintro e w15 ⟨v208, rfl, ho0, hi, hb, hk⟩; refine ⟨_, rfl, ?_⟩; replace BK195 := kB hk BK195; replace BK202 := kB hk BK202; have HO209 := mkA (Kd.R_lower (rN ho0 HO199) (keep_size (w := w) (g := g) (row := none) (by exact kb36_2 HK.out GW195.out GW202.out))); replace HO199 := mkA (Kd.R_mono (Kd.R_told (Kd.R_oldK (IsS36.apart (show IsS36 w0 _ g s0_0 t204 t205 from by exact st36_2 HI0.out NB0_195.out NB0_202.out) (Kd.R_g HO199.out) (by decide)) hk) (Kd.R_base ho0)) (fun _ h_ => h_.1)); replace HK := kT (by exact kb36_2 HK.out GW195.out GW202.out) hk; replace HI0 := mkA (hi); replace HB := mkA (hb); clear hb hk hi ho0; obtain ⟨_, _, _, _⟩ := blk2 BK195; obtain ⟨Ao18, co18, rfl⟩ := Kd.R_slice HO209.out))
  refine bodyPost_ret (results_cell_row rfl _ _ gb195 26 #[.int .i64 t206, .slice Ao18 t207.length co18] (0, 0) _ rfl (blkT BK195) Tryd.underlying26 rfl (by kernel_rfl)) rfl ?_
  exact ⟨_, eqE, Kd.R_g (Kd.R_mono (rF HO209 BK195) (fun _ _ => trivial)), by exact st36_2 HI0.out NB0_195.out NB0_202.out, by exact bl36_2 HB.out HI0.out GE195.out GE202.out, by exact kb36_2 HK.out GW195.out GW202.out⟩
 ·have c5b0 := beq_eq_false_iff_ne.mpr c5
  have c5b1 := bne_iff_ne.mpr c5
  rcases iteP H with ⟨c19, H⟩ | ⟨c19, H⟩
  ·have c19b0 := beq_iff_eq.mpr c19
   have c19b1 := bne_eq_false_iff_eq.mpr c19
   clear c19
   obtain ⟨y212, hy212⟩ : ∃ y_ : List Int, y_ = (([(-1), 0, 10, 11] : List Int)) := ⟨_, rfl⟩
   rw [← hy212] at H
   have Ny212 := mkA hy212
   clear hy212
   obtain ⟨⟨t215, t216, t217⟩, A20, H⟩ := obE H
   dsimp only at H
   simp only [Option.some.injEq, Prod.mk.injEq] at H
   obtain ⟨rfl, rfl, rfl, rfl⟩ := H
   go_enter Tryd.func15, Tryd.ntmps15
   go_wp2_with (first | ((with_reducible refine gate_dst (N := 4) rfl ?_); refine boxE (N := 4) (cs := #[.int .i64 0, .slice none 0 0]) (t := 26) ?_; intro gb195 hg w21 hbox hb; have BK195 := mkA (hbox); have GW195 := mkA ((by rw [hg]; exact (keep_size (w := w) (g := g) (row := none) (by exact kb36_0 HK.out)) : w.heap.size ≤ gb195)); have GE195 := mkA (Nat.le_trans HW0.out GW195.out); replace HK := kU (g := g) (by exact kb36_0 HK.out) hb; have NB0_195 : NeB _ _ := ⟨(by rw [hg]; exact Nat.ne_of_lt (IsS36.lt (show IsS36 w0 _ g s0_0 s0_1 s0_2 from by exact st36_0 HI0.out)) : g ≠ gb195)⟩; have NB195_0 : NeB _ _ := ⟨(by rw [hg]; exact Nat.ne_of_gt (IsS36.lt (show IsS36 w0 _ g s0_0 s0_1 s0_2 from by exact st36_0 HI0.out)) : gb195 ≠ g)⟩; replace HB := mkA (below_step (by exact bl36_0 HB.out HI0.out) hb); replace HI0 := mkA (IsS36.below (by exact st36_0 HI0.out) hb); clear hb hbox hg) | ((with_reducible refine gate_callee (f := 30) rfl ?_); refine goesQ (some 8) Tryd.func30 #[.pointer (some ⟨g, 0, none⟩), .int .i64 a1] ?_; (with_reducible refine (spec_l1Cur_order.calls k g s0_0 s0_1 s0_2 a1 t196 t197 t200 t201 w0 _ ?_ ?_ A3.out).mono ?_); exact st36_1 HI0.out NB0_195.out; exact bl36_1 HB.out HI0.out GE195.out; rintro e w22 ⟨v198, rfl, ho0, hi, hb, hk⟩; refine ⟨_, rfl, ?_⟩; replace BK195 := kB hk BK195; have HO199 := mkA (Kd.R_lower ho0 (keep_size (w := w) (g := g) (row := none) (by exact kb36_1 HK.out GW195.out))); replace HK := kT (by exact kb36_1 HK.out GW195.out) hk; replace HI0 := mkA (hi); replace HB := mkA (hb); clear hb hk hi ho0) | ((with_reducible refine gate_dst (N := 5) rfl ?_); refine boxE (N := 5) (cs := #[.int .i64 0, .slice none 0 0]) (t := 26) ?_; intro gb202 hg w23 hbox hb; replace HO199 := rB HO199 hb; have BK202 := mkA (hbox); have GW202 := mkA ((by rw [hg]; exact (keep_size (w := w) (g := g) (row := none) (by exact kb36_1 HK.out GW195.out)) : w.heap.size ≤ gb202)); have GE202 := mkA (Nat.le_trans HW0.out GW202.out); replace HK := kU (g := g) (by exact kb36_1 HK.out GW195.out) hb; have NB195_202 := neL7 BK195 hg; have NB202_195 := neR7 BK195 hg; replace BK195 := blkB BK195 hb; have NB0_202 : NeB _ _ := ⟨(by rw [hg]; exact Nat.ne_of_lt (IsS36.lt (show IsS36 w0 _ g s0_0 t200 t201 from by exact st36_1 HI0.out NB0_195.out)) : g ≠ gb202)⟩; have NB202_0 : NeB _ _ := ⟨(by rw [hg]; exact Nat.ne_of_gt (IsS36.lt (show IsS36 w0 _ g s0_0 t200 t201 from by exact st36_1 HI0.out NB0_195.out)) : gb202 ≠ g)⟩; replace HB := mkA (below_step (by exact bl36_1 HB.out HI0.out GE195.out) hb); replace HI0 := mkA (IsS36.below (by exact st36_1 HI0.out NB0_195.out) hb); clear hb hbox hg; obtain ⟨_, _, _, _⟩ := blk2 BK202; obtain ⟨Ao27, co27, rfl⟩ := Kd.R_slice HO199.out) | ((with_reducible refine gate_callee (f := 31) rfl ?_); refine goesQ (some 10) Tryd.func31 #[.pointer (some ⟨g, 0, none⟩), .int .i64 14] ?_; (with_reducible refine (spec_l1Cur_pick.calls g s0_0 t200 t201 14 t203 t204 t205 w0 _ ?_ ?_ A4.out).mono ?_); exact st36_2 HI0.out NB0_195.out NB0_202.out; exact bl36_2 HB.out HI0.out GE195.out GE202.out; rintro e w28 ⟨rfl, hi, hb, hk⟩; refine ⟨_, rfl, ?_⟩; replace BK195 := kR hk BK195; replace HO199 := rK (IsS36.apart (show IsS36 w0 _ g s0_0 t200 t201 from by exact st36_2 HI0.out NB0_195.out NB0_202.out) (rFg HO199 BK202) (by decide)) hk; replace BK202 := kR hk BK202; replace HK := kT (by exact kb36_2 HK.out GW195.out GW202.out) hk; replace HI0 := mkA (hi); replace HB := mkA (hb); clear hb hk hi) | ((with_reducible refine gate_dst (N := 19) rfl ?_); refine litE (Kd.int .i64) 3 ([(-1), 0, 10, 11] : List Int) [.int .i64 (-1), .int .i64 0, .int .i64 10, .int .i64 11] ?hp ?_; (case hp => exact (Reps.one (show Kd.M (Kd.int .i64) _ _ _ (-1) [.int .i64 (-1)] from rfl) (Reps.one (show Kd.M (Kd.int .i64) _ _ _ 0 [.int .i64 0] from rfl) (Reps.one (show Kd.M (Kd.int .i64) _ _ _ 10 [.int .i64 10] from rfl) (Reps.one (show Kd.M (Kd.int .i64) _ _ _ 11 [.int .i64 11] from rfl) (Reps.none _ _)))))); intro v213 w29 ho30 hb hg_ hnew_; clear hg_ hnew_; (first | rw [← Ny212.out] at ho30 | (simp only [Int.reduceToNat] at ho30; rw [← Ny212.out] at ho30)); have HO214 := mkA (Kd.R_lower (rN ho30 HO199) (keep_size (w := w) (g := g) (row := none) (by exact kb36_2 HK.out GW195.out GW202.out))); replace HO199 := rE HO199 ho30 hb; replace BK195 := blkB BK195 hb; replace BK202 := blkB BK202 hb; replace HK := kU (g := g) (by exact kb36_2 HK.out GW195.out GW202.out) hb; replace HB := mkA (below_step (by exact bl36_2 HB.out HI0.out GE195.out GE202.out) hb); replace HI0 := mkA (IsS36.below (by exact st36_2 HI0.out NB0_195.out NB0_202.out) hb); clear hb ho30; obtain ⟨Ao31, co31, rfl⟩ := Kd.R_slice HO214.out) | ((with_reducible refine gate_callee (f := 33) rfl ?_); refine goesQ (some 20) Tryd.func33 #[.pointer (some ⟨g, 0, none⟩), .slice Ao31 y212.length co31] ?_; (with_reducible refine (spec_l1Cur_among.calls g s0_0 t204 t205 _ _ y212 t215 t216 t217 w0 _ ?_ ?_ ?_ ?_ ?_ A20.out).mono ?_); exact st36_2 HI0.out NB0_195.out NB0_202.out; exact bl36_2 HB.out HI0.out GE195.out GE202.out; exact rC HO214; exact rL HO214; exact far_slice (IsS36.own_ne HI0.out HO214.out (by decide)); rintro e w32 ⟨rfl, hi, hb, hk⟩; refine ⟨_, rfl, ?_⟩; replace BK195 := kB hk BK195; replace HO199 := rK (IsS36.apart (show IsS36 w0 _ g s0_0 t204 t205 from by exact st36_2 HI0.out NB0_195.out NB0_202.out) (Kd.R_g HO199.out) (by decide)) hk; replace BK202 := kB hk BK202; replace HO214 := rK (IsS36.apart (show IsS36 w0 _ g s0_0 t204 t205 from by exact st36_2 HI0.out NB0_195.out NB0_202.out) (Kd.R_g HO214.out) (by decide)) hk; replace HK := kT (by exact kb36_2 HK.out GW195.out GW202.out) hk; replace HI0 := mkA (hi); replace HB := mkA (hb); clear hb hk hi; obtain ⟨_, _, _, _⟩ := blk2 BK202; obtain ⟨_, _, _, _⟩ := blk2 BK195))
   refine bodyPost_ret (results_cell_row rfl _ _ gb195 26 #[.int .i64 t215, .slice Ao27 t197.length co27] (0, 0) _ rfl (blkT BK195) Tryd.underlying26 rfl (by kernel_rfl)) rfl ?_
   exact ⟨_, eqE, Kd.R_g (Kd.R_mono (Kd.R_far (p := ⟨gb195, 1, none⟩) (Kd.R_far (p := ⟨gb195, 0, none⟩) (Kd.R_far (p := ⟨gb202, 0, none⟩) (Kd.R_types (Kd.R_types HO199.out BK202.out (by decide)) BK195.out (by decide)) (fun _ hk => hk.1.2) (.int .i64 t215)) (fun _ hk => hk.2) (.int .i64 t215)) (fun _ hk => hk.2) (.slice Ao27 t197.length co27)) (fun _ hk => trivial)), by exact st36_2 HI0.out NB0_195.out NB0_202.out, by exact bl36_2 HB.out HI0.out GE195.out GE202.out, by exact kb36_2 HK.out GW195.out GW202.out⟩
  ·have c19b0 := beq_eq_false_iff_ne.mpr c19
   have c19b1 := bne_iff_ne.mpr c19
   rcases iteP H with ⟨c36, H⟩ | ⟨c36, H⟩
   ·have c36b0 := beq_iff_eq.mpr c36
    have c36b1 := bne_eq_false_iff_eq.mpr c36
    clear c36
    rcases iteP H with ⟨c37, H⟩ | ⟨c37, H⟩
    ·have c37b0 := decide_eq_true c37
     have c37b1 : decide (0 < t197.length) = true := decide_eq_true (by omega)
     clear c37
     obtain ⟨⟨t218, t219, t220⟩, A38, H⟩ := obE H
     dsimp only at H
     obtain ⟨c39b0, c39b1, H⟩ := itNQ H
     obtain ⟨ji40, hji40⟩ : ∃ j_ : Int, (shl .i64 1 t196) = j_ := ⟨_, rfl⟩
     first | rw [hji40] at H | simp only [hji40] at H
     (try rw [hji40] at A3)
     (try rw [hji40] at A4)
     (try rw [hji40] at A38)
     have hji40_ : (IntKind.i64.wrap (1 * 2 ^ min t196.toNat 64)) = ji40 := hji40
     have hji40z : t196 ≤ 64 → (IntKind.i64.wrap (1 * 2 ^ t196.toNat)) = ji40 := shl_small hji40
     have hji40u : (IntKind.i64.wrap (2 ^ min t196.toNat 64)) = ji40 := by have h_ := hji40_; rw [Int.one_mul] at h_; exact h_
     have hji40v : t196 ≤ 64 → (IntKind.i64.wrap (2 ^ t196.toNat)) = ji40 := fun hle_ => by have h_ := hji40z hle_; rw [Int.one_mul] at h_; exact h_
     have hji40y : (wrap64 (1 * 2 ^ min t196.toNat 64)) = ji40 := (i64_w _).symm.trans hji40_
     have hji40x : t196 ≤ 64 → (wrap64 (1 * 2 ^ t196.toNat)) = ji40 := fun h_ => (i64_w _).symm.trans (hji40z h_)
     obtain ⟨y221, hy221⟩ : ∃ y_ : List Int, y_ = (([(-1), 0, 1, ji40] : List Int)) := ⟨_, rfl⟩
     rw [← hy221] at H
     have Ny221 := mkA hy221
     clear hy221
     obtain ⟨⟨t224, t225, t226⟩, A41, H⟩ := obE H
     dsimp only at H
     obtain ⟨c42b0, H⟩ := itND H
     obtain ⟨c43b0, H⟩ := itND H
     obtain ⟨y227, hy227⟩ : ∃ y_ : List Int, y_ = (t197.set (t218 : Int).toNat t224) := ⟨_, rfl⟩
     rw [← hy227] at H
     have Ny227 := mkA hy227
     clear hy227
     simp only [Option.some.injEq, Prod.mk.injEq] at H
     obtain ⟨rfl, rfl, rfl, rfl⟩ := H
     go_enter Tryd.func15, Tryd.ntmps15
     try go_wp2_with (first | ((with_reducible refine gate_dst (N := 4) rfl ?_); refine boxE (N := 4) (cs := #[.int .i64 0, .slice none 0 0]) (t := 26) ?_; intro gb195 hg w45 hbox hb; have BK195 := mkA (hbox); have GW195 := mkA ((by rw [hg]; exact (keep_size (w := w) (g := g) (row := none) (by exact kb36_0 HK.out)) : w.heap.size ≤ gb195)); have GE195 := mkA (Nat.le_trans HW0.out GW195.out); replace HK := kU (g := g) (by exact kb36_0 HK.out) hb; have NB0_195 : NeB _ _ := ⟨(by rw [hg]; exact Nat.ne_of_lt (IsS36.lt (show IsS36 w0 _ g s0_0 s0_1 s0_2 from by exact st36_0 HI0.out)) : g ≠ gb195)⟩; have NB195_0 : NeB _ _ := ⟨(by rw [hg]; exact Nat.ne_of_gt (IsS36.lt (show IsS36 w0 _ g s0_0 s0_1 s0_2 from by exact st36_0 HI0.out)) : gb195 ≠ g)⟩; replace HB := mkA (below_step (by exact bl36_0 HB.out HI0.out) hb); replace HI0 := mkA (IsS36.below (by exact st36_0 HI0.out) hb); clear hb hbox hg) | ((with_reducible refine gate_callee (f := 30) rfl ?_); refine goesQ (some 8) Tryd.func30 #[.pointer (some ⟨g, 0, none⟩), .int .i64 a1] ?_; (with_reducible refine (spec_l1Cur_order.calls k g s0_0 s0_1 s0_2 a1 t196 t197 t200 t201 w0 _ ?_ ?_ A3.out).mono ?_); exact st36_1 HI0.out NB0_195.out; exact bl36_1 HB.out HI0.out GE195.out; rintro e w46 ⟨v198, rfl, ho0, hi, hb, hk⟩; refine ⟨_, rfl, ?_⟩; replace BK195 := kB hk BK195; have HO199 := mkA (Kd.R_lower ho0 (keep_size (w := w) (g := g) (row := none) (by exact kb36_1 HK.out GW195.out))); replace HK := kT (by exact kb36_1 HK.out GW195.out) hk; replace HI0 := mkA (hi); replace HB := mkA (hb); clear hb hk hi ho0) | ((with_reducible refine gate_dst (N := 5) rfl ?_); refine boxE (N := 5) (cs := #[.int .i64 0, .slice none 0 0]) (t := 26) ?_; intro gb202 hg w47 hbox hb; replace HO199 := rB HO199 hb; have BK202 := mkA (hbox); have GW202 := mkA ((by rw [hg]; exact (keep_size (w := w) (g := g) (row := none) (by exact kb36_1 HK.out GW195.out)) : w.heap.size ≤ gb202)); have GE202 := mkA (Nat.le_trans HW0.out GW202.out); replace HK := kU (g := g) (by exact kb36_1 HK.out GW195.out) hb; have NB195_202 := neL7 BK195 hg; have NB202_195 := neR7 BK195 hg; replace BK195 := blkB BK195 hb; have NB0_202 : NeB _ _ := ⟨(by rw [hg]; exact Nat.ne_of_lt (IsS36.lt (show IsS36 w0 _ g s0_0 t200 t201 from by exact st36_1 HI0.out NB0_195.out)) : g ≠ gb202)⟩; have NB202_0 : NeB _ _ := ⟨(by rw [hg]; exact Nat.ne_of_gt (IsS36.lt (show IsS36 w0 _ g s0_0 t200 t201 from by exact st36_1 HI0.out NB0_195.out)) : gb202 ≠ g)⟩; replace HB := mkA (below_step (by exact bl36_1 HB.out HI0.out GE195.out) hb); replace HI0 := mkA (IsS36.below (by exact st36_1 HI0.out NB0_195.out) hb); clear hb hbox hg; obtain ⟨_, _, _, _⟩ := blk2 BK202; obtain ⟨Ao51, co51, rfl⟩ := Kd.R_slice HO199.out) | ((with_reducible refine gate_callee (f := 31) rfl ?_); refine goesQ (some 10) Tryd.func31 #[.pointer (some ⟨g, 0, none⟩), .int .i64 14] ?_; (with_reducible refine (spec_l1Cur_pick.calls g s0_0 t200 t201 14 t203 t204 t205 w0 _ ?_ ?_ A4.out).mono ?_); exact st36_2 HI0.out NB0_195.out NB0_202.out; exact bl36_2 HB.out HI0.out GE195.out GE202.out; rintro e w52 ⟨rfl, hi, hb, hk⟩; refine ⟨_, rfl, ?_⟩; replace BK195 := kR hk BK195; replace HO199 := rK (IsS36.apart (show IsS36 w0 _ g s0_0 t200 t201 from by exact st36_2 HI0.out NB0_195.out NB0_202.out) (rFg HO199 BK202) (by decide)) hk; replace BK202 := kR hk BK202; replace HK := kT (by exact kb36_2 HK.out GW195.out GW202.out) hk; replace HI0 := mkA (hi); replace HB := mkA (hb); clear hb hk hi; obtain ⟨_, _, _, _⟩ := blk2 BK202))
     replace HO199 := mkA (Kd.R_drew HO199.out)
     replace BK195 := mkA (blk_drew BK195.out)
     replace BK202 := mkA (blk_drew BK202.out)
     replace HI0 := mkA (IsS36.drew HI0.out)
     replace HK := mkA (keep_drew HK.out)
     replace HB := mkA (below_drew1 HB.out)
     refine start_ (n := 15) (S := fun w' => w'.cell? ⟨gb202, 0, none⟩ = some (.int .i64 t196) ∧ w'.cell? ⟨gb202, 1, none⟩ = some (.slice Ao51 t197.length co51)) (ds := [14]) (bm 15 0) (by kernel_rfl) rfl rfl ⟨(blk_cell BK202.out 0).trans rfl, (blk_cell BK202.out 1).trans rfl⟩ (fun hHeld => ?_); refine with_tabW spec_l1Cur_anyOrder.tab9 spec_l1Cur_anyOrder.bits9 (fun HT_ HW_ => ?_)
     generalize w52.drew = w54 at HO199 BK195 BK202 HI0 HK HB hHeld ⊢
     refine purW 0 28 15 1 HT_ ?_
     refine purW 2 30 15 5 HT_ ?_
     refine purW 3 31 15 13 HT_ ?_
     refine purW 7 35 15 141 HT_ ?_
     refine purW 8 36 15 397 HT_ ?_
     refine takeW 1 (some 29) (bm 15 399) HT_ HW_ hHeld ?_
     refine takeW 4 (some 32) (bm 15 415) HT_ HW_ hHeld ?_
     refine purW 5 33 15 447 HT_ ?_
     refine takeW 9 (some 37) (bm 15 959) HT_ HW_ hHeld ?_
     refine purW 10 38 15 1983 HT_ ?_
     refine join_ (σ := Value) 3 (bm 15 4095) (fun s_ => [(34, .int .i64 t218), (39, s_)]) (fun s_ w' => (w'.cell? ⟨gb202, 0, none⟩ = some (.int .i64 t196) ∧ w'.cell? ⟨gb202, 1, none⟩ = some (.slice Ao51 t197.length co51)) ∧ (Kd.R (Kd.int .i64) 3 w' w.heap.size (fun k_ => some k_ ≠ (s_ : Value).ownBlock) (.slice Ao51 t197.length co51) t197) ∧ (Kd.R (Kd.int .i64) 3 w' w.heap.size (fun k_ => some k_ ≠ (.slice Ao51 t197.length co51 : Value).ownBlock) s_ y221) ∧ (w'.heap[gb195]? = some (.cells #[.int .i64 0, .slice none 0 0] 26 (0, 0))) ∧ (w'.heap[gb202]? = some (.cells #[.int .i64 t196, .slice Ao51 t197.length co51] 26 (0, 0))) ∧ (IsS36 w0 w' g s0_0 t219 t220) ∧ (KeepBut w w' g none) ∧ (Below w0.heap.size w0 w')) ?_ ?_
     rotate_left
     ·intro hCont
      refine two_ (i := 6) (j := 11) (Ni := some 34) (Nj := some 39) (bm 15 2047) (bm 15 4031) rfl rfl rfl rfl (two_of HT_.out (by kernel_rfl)) (by decide) (by decide) (fun K hK => ?_) (fun K hK => ?_)
      ·skip
       refine goesR Tryd.func31 #[.pointer (some ⟨g, 0, none⟩), .int .i64 (t197.length : Int)] ?_
       with_reducible refine (spec_l1Cur_pick.calls g s0_0 t204 t205 (t197.length : Int) t218 t219 t220 w0 _ ?s1 ?s2 A38.out).mono ?_
       (case s1 => exact st36_2 HI0.out NB0_195.out NB0_202.out)
       (case s2 => exact bl36_2 HB.out HI0.out GE195.out GE202.out)
       rintro e w55 ⟨rfl, hi, hb, hk⟩
       refine ⟨_, rfl, ?_⟩
       replace BK195 := kB hk BK195
       replace HO199 := rK (IsS36.apart (show IsS36 w0 _ g s0_0 t204 t205 from by exact st36_2 HI0.out NB0_195.out NB0_202.out) (Kd.R_g HO199.out) (by decide)) hk
       replace BK202 := kB hk BK202
       replace HK := kT (by exact kb36_2 HK.out GW195.out GW202.out) hk
       replace HI0 := mkA (hi)
       replace HB := mkA (hb)
       (try clear hb)
       (try clear hb2)
       (try clear hk)
       (try clear hi)
       refine hK.out _ _ ⟨(blk_cell BK202.out 0).trans rfl, (blk_cell BK202.out 1).trans rfl⟩ (fun hHeld => ?_)
       clear hK K
       refine normW 34 ?_
       refine oneW 11 (some 39) (bm 15 4095) HT_ (fun K hK => ?_)
       refine Kd.R_lit_step (Kd.int .i64) _ 3 ?hg (N := 39) ?hd (xs := ([(-1), 0, 1, ji40] : List Int)) (inner := [.int .i64 (-1), .int .i64 0, .int .i64 1, .int .i64 ji40]) (ok := fun _ => True) (okp := fun _ => True) ?hr ?hp (fun _ hk => hk) trivial (Below.refl _ _) (Nat.le_refl _) (by simp) ?_; (case hd => rfl); (case hg => rfl); (case hr => first | (go_simp; done) | (go_simp; rfl)); (case hp => exact (Reps.one (show Kd.M (Kd.int .i64) _ _ _ (-1) [.int .i64 (-1)] from rfl) (Reps.one (show Kd.M (Kd.int .i64) _ _ _ 0 [.int .i64 0] from rfl) (Reps.one (show Kd.M (Kd.int .i64) _ _ _ 1 [.int .i64 1] from rfl) (Reps.one (show Kd.M (Kd.int .i64) _ _ _ ji40 [.int .i64 ji40] from rfl) (Reps.none _ _))))))
       intro v222 w56 ho57 hb hg_ hnew_
       clear hg_ hnew_
       (first | rw [← Ny221.out] at ho57 | (simp only [Int.reduceToNat] at ho57; rw [← Ny221.out] at ho57))
       have HO223 := mkA (Kd.R_lower (rN ho57 HO199) (keep_size (w := w) (g := g) (row := none) (by exact kb36_2 HK.out GW195.out GW202.out)))
       replace HO199 := rE HO199 ho57 hb
       replace BK195 := blkB BK195 hb
       replace BK202 := blkB BK202 hb
       replace HK := kU (g := g) (by exact kb36_2 HK.out GW195.out GW202.out) hb
       replace HB := mkA (below_step (by exact bl36_2 HB.out HI0.out GE195.out GE202.out) hb)
       replace HI0 := mkA (IsS36.below (by exact st36_2 HI0.out NB0_195.out NB0_202.out) hb)
       clear hb ho57
       refine hK.out _ _ ⟨(blk_cell BK202.out 0).trans rfl, (blk_cell BK202.out 1).trans rfl⟩ (fun hHeld => ?_)
       clear hK K
       refine normW 39 ?_
       exact norm_ (by simp only [putAll, Act.put, List.setIfInBounds_toArray, List.set_cons_zero, List.set_cons_succ]) (hCont (v222) _ ⟨hHeld, (Kd.R_g (Kd.R_mono HO199.out (fun _ hk => hk.2))), (Kd.R_g (Kd.R_mono HO223.out (fun _ hk => hk.2))), (blk_g BK195.out), (blk_g BK202.out), (by exact st36_2 HI0.out NB0_195.out NB0_202.out), (by exact kb36_2 HK.out GW195.out GW202.out), (by exact bl36_2 HB.out HI0.out GE195.out GE202.out)⟩)
      ·skip
       refine Kd.R_lit_step (Kd.int .i64) _ 3 ?hg (N := 39) ?hd (xs := ([(-1), 0, 1, ji40] : List Int)) (inner := [.int .i64 (-1), .int .i64 0, .int .i64 1, .int .i64 ji40]) (ok := fun _ => True) (okp := fun _ => True) ?hr ?hp (fun _ hk => hk) trivial (Below.refl _ _) (Nat.le_refl _) (by simp) ?_; (case hd => rfl); (case hg => rfl); (case hr => first | (go_simp; done) | (go_simp; rfl)); (case hp => exact (Reps.one (show Kd.M (Kd.int .i64) _ _ _ (-1) [.int .i64 (-1)] from rfl) (Reps.one (show Kd.M (Kd.int .i64) _ _ _ 0 [.int .i64 0] from rfl) (Reps.one (show Kd.M (Kd.int .i64) _ _ _ 1 [.int .i64 1] from rfl) (Reps.one (show Kd.M (Kd.int .i64) _ _ _ ji40 [.int .i64 ji40] from rfl) (Reps.none _ _))))))
       intro v222 w55 ho56 hb hg_ hnew_
       clear hg_ hnew_
       (first | rw [← Ny221.out] at ho56 | (simp only [Int.reduceToNat] at ho56; rw [← Ny221.out] at ho56))
       have HO223 := mkA (Kd.R_lower (rN ho56 HO199) (keep_size (w := w) (g := g) (row := none) (by exact kb36_2 HK.out GW195.out GW202.out)))
       replace HO199 := rE HO199 ho56 hb
       replace BK195 := blkB BK195 hb
       replace BK202 := blkB BK202 hb
       replace HK := kU (g := g) (by exact kb36_2 HK.out GW195.out GW202.out) hb
       replace HB := mkA (below_step (by exact bl36_2 HB.out HI0.out GE195.out GE202.out) hb)
       replace HI0 := mkA (IsS36.below (by exact st36_2 HI0.out NB0_195.out NB0_202.out) hb)
       clear hb ho56
       refine hK.out _ _ ⟨(blk_cell BK202.out 0).trans rfl, (blk_cell BK202.out 1).trans rfl⟩ (fun hHeld => ?_)
       clear hK K
       refine normW 39 ?_
       refine oneW 6 (some 34) (bm 15 4095) HT_ (fun K hK => ?_)
       refine goesR Tryd.func31 #[.pointer (some ⟨g, 0, none⟩), .int .i64 (t197.length : Int)] ?_
       with_reducible refine (spec_l1Cur_pick.calls g s0_0 t204 t205 (t197.length : Int) t218 t219 t220 w0 _ ?s1 ?s2 A38.out).mono ?_
       (case s1 => exact st36_2 HI0.out NB0_195.out NB0_202.out)
       (case s2 => exact bl36_2 HB.out HI0.out GE195.out GE202.out)
       rintro e w57 ⟨rfl, hi, hb, hk⟩
       refine ⟨_, rfl, ?_⟩
       replace BK195 := kB hk BK195
       replace HO199 := rK (IsS36.apart (show IsS36 w0 _ g s0_0 t204 t205 from by exact st36_2 HI0.out NB0_195.out NB0_202.out) (Kd.R_g HO199.out) (by decide)) hk
       replace BK202 := kB hk BK202
       replace HO223 := rK (IsS36.apart (show IsS36 w0 _ g s0_0 t204 t205 from by exact st36_2 HI0.out NB0_195.out NB0_202.out) (Kd.R_g HO223.out) (by decide)) hk
       replace HK := kT (by exact kb36_2 HK.out GW195.out GW202.out) hk
       replace HI0 := mkA (hi)
       replace HB := mkA (hb)
       (try clear hb)
       (try clear hb2)
       (try clear hk)
       (try clear hi)
       refine hK.out _ _ ⟨(blk_cell BK202.out 0).trans rfl, (blk_cell BK202.out 1).trans rfl⟩ (fun hHeld => ?_)
       clear hK K
       refine normW 34 ?_
       exact norm_ (by simp only [putAll, Act.put, List.setIfInBounds_toArray, List.set_cons_zero, List.set_cons_succ]) (hCont (v222) _ ⟨hHeld, (Kd.R_g (Kd.R_mono HO199.out (fun _ hk => hk.2))), (Kd.R_g (Kd.R_mono HO223.out (fun _ hk => hk.2))), (blk_g BK195.out), (blk_g BK202.out), (by exact st36_2 HI0.out NB0_195.out NB0_202.out), (by exact kb36_2 HK.out GW195.out GW202.out), (by exact bl36_2 HB.out HI0.out GE195.out GE202.out)⟩)
     rintro v222 w58 ⟨hS_, h0_, h1_, h2_, h3_, h4_, h5_, h6_⟩
     have n0_ : Fc (Kd.R (Kd.int .i64) 3 w58 w.heap.size (fun k_ => some k_ ≠ (v222 : Value).ownBlock) (.slice Ao51 t197.length co51) t197) := ⟨h0_⟩
     have n1_ : Fc (Kd.R (Kd.int .i64) 3 w58 w.heap.size (fun k_ => some k_ ≠ (.slice Ao51 t197.length co51 : Value).ownBlock) v222 y221) := ⟨h1_⟩
     have n2_ : Fc (w58.heap[gb195]? = some (.cells #[.int .i64 0, .slice none 0 0] 26 (0, 0))) := ⟨h2_⟩
     have n3_ : Fc (w58.heap[gb202]? = some (.cells #[.int .i64 t196, .slice Ao51 t197.length co51] 26 (0, 0))) := ⟨h3_⟩
     have n4_ : Fc (IsS36 w0 w58 g s0_0 t219 t220) := ⟨h4_⟩
     have n5_ : Fc (KeepBut w w58 g none) := ⟨h5_⟩
     have n6_ : Fc (Below w0.heap.size w0 w58) := ⟨h6_⟩
     clear HO199
     clear BK195
     clear BK202
     clear HI0
     clear HK
     clear HB
     clear h0_ h1_ h2_ h3_ h4_ h5_ h6_
     have HO199 := n0_
     have HO223 := n1_
     have BK195 := n2_
     have BK202 := n3_
     have HI0 := n4_
     have HK := n5_
     have HB := n6_
     clear n0_ n1_ n2_ n3_ n4_ n5_ n6_
     have hHeld : w58.cell? ⟨gb202, 0, none⟩ = some (.int .i64 t196) ∧ w58.cell? ⟨gb202, 1, none⟩ = some (.slice Ao51 t197.length co51) := hS_
     obtain ⟨Ao59, co59, eo59⟩ := Kd.R_slice HO223.out
     (first | subst eo59 | (injection eo59 with f1_ f2_ f3_; have f4_ := f1_.symm; have f5_ := f3_.symm; clear f1_ f2_ f3_; subst f4_; subst f5_))
     refine norm_ (a' := ?_) ?_ ?_
     rotate_left
     ·simp only [putAll, Act.put, List.setIfInBounds_toArray, List.set_cons_zero, List.set_cons_succ]
      rfl
     refine oneW 12 (some 40) (bm 15 8191) HT_ (fun K hK => ?_)
     refine goesR Tryd.func33 #[.pointer (some ⟨g, 0, none⟩), .slice Ao59 y221.length co59] ?_
     with_reducible refine (spec_l1Cur_among.calls g s0_0 t219 t220 _ _ y221 t224 t225 t226 w0 _ ?s1 ?s2 ?s3 ?s4 ?s5 A41.out).mono ?_
     (case s1 => exact st36_2 HI0.out NB0_195.out NB0_202.out)
     (case s2 => exact bl36_2 HB.out HI0.out GE195.out GE202.out)
     (case s3 => exact rC HO223)
     (case s4 => exact rL HO223)
     (case s5 => exact far_slice (IsS36.own_ne HI0.out HO223.out (by decide)))
     rintro e w60 ⟨rfl, hi, hb, hk⟩
     refine ⟨_, rfl, ?_⟩
     replace BK195 := kB hk BK195
     replace HO199 := rK (IsS36.apart (show IsS36 w0 _ g s0_0 t219 t220 from by exact st36_2 HI0.out NB0_195.out NB0_202.out) (Kd.R_g HO199.out) (by decide)) hk
     replace BK202 := kB hk BK202
     replace HO223 := rK (IsS36.apart (show IsS36 w0 _ g s0_0 t219 t220 from by exact st36_2 HI0.out NB0_195.out NB0_202.out) (Kd.R_g HO223.out) (by decide)) hk
     replace HK := kT (by exact kb36_2 HK.out GW195.out GW202.out) hk
     replace HI0 := mkA (hi)
     replace HB := mkA (hb)
     (try clear hb)
     (try clear hb2)
     (try clear hk)
     (try clear hi)
     have p44 : 0 ≤ (t218 : Int) := ofd
     have q44 : (t218 : Int) < ((t197.length : Int) : Int) := ofd
     obtain ⟨go44, co44, eo44, gb44, gl44, cl44, HG44⟩ := Kd.R_form HO199.out (by omega)
     (first | cases eo44 | (injection eo44 with ea_ en_ ec_; (first | subst ea_ | (injection ea_ with ea_; subst ea_)); subst ec_; clear en_))
     have GB44 : Ge _ _ := ⟨gb44⟩
     have GG44 := mkA HG44
     clear gb44 gl44 HG44
     obtain ⟨hx44_0, hf44_0⟩ := Kd.R_celln 0 HO199.out (t218 : Int) p44 q44
     replace p44 := eq_true p44
     replace q44 := eq_true q44
     have HN0_go44 := mkA (show g ≠ go44 from by have h_ := IsS36.own_ne HI0.out HO199.out (by decide); intro e_; exact h_ (by rw [e_]; rfl))
     have HP61 := Kd.R_putn HO199.out (t218 : Int) t224
     rw [← Ny227.out] at HP61
     have HQ61 := mkA HP61
     clear HP61
     refine hK.out _ _ ⟨(blk_cell BK202.out 0).trans rfl, (blk_cell BK202.out 1).trans rfl⟩ (fun hHeld => ?_)
     clear hK K
     refine normW 40 ?_
     refine purW 13 41 15 16383 HT_ ?_
     refine last_ (i := 14) (N := none) (bm 15 32767) rfl rfl (one_of HT_.out (by kernel_rfl)) (by decide) (fun K hK => ?_)
     refine skip_ (w1 := ?_) (by rfl) rfl ?_ ?_
     rotate_left
     ·go_simp
      rfl
     refine hK.out _ _ ?_
     clear hK K
     refine doneW HT_ ?_
     have n0_ : Fc (Kd.R (Kd.int .i64) 3 (w60.setCell ⟨go44, (t218 : Int).toNat, none⟩ (.int .i64 t224)) w.heap.size (fun k_ => some k_ ≠ (.slice Ao59 y221.length co59 : Value).ownBlock) (.slice (some ⟨go44, 0, none⟩) t197.length co51) y227) := ⟨Kd.R_g HQ61.out⟩
     have n1_ : Fc (Kd.R (Kd.int .i64) 3 (w60.setCell ⟨go44, (t218 : Int).toNat, none⟩ (.int .i64 t224)) w.heap.size (fun k_ => some k_ ≠ (.slice (some ⟨go44, 0, none⟩) t197.length co51 : Value).ownBlock) (.slice Ao59 y221.length co59) y221) := ⟨Kd.R_g (Kd.R_mono (Kd.R_far (p := ⟨go44, (t218 : Int).toNat, none⟩) (Kd.R_mono HO223.out (fun k_ hk => (⟨hk, fun e_ => hk (by rw [e_]; rfl)⟩ : _ ∧ k_ ≠ go44))) (fun _ hk => hk.2) (.int .i64 t224)) (fun _ hk => hk.1))⟩
     have n2_ : Fc ((w60.setCell ⟨go44, (t218 : Int).toNat, none⟩ (.int .i64 t224)).heap[gb195]? = some (.cells #[.int .i64 0, .slice none 0 0] 26 (0, 0))) := ⟨by (with_reducible repeat (first | refine blk_drewN ?_ _ | refine blk_drew ?_ | refine blk_alloc ?_ _)); refine blk_far ?_ (by have h_ := Kd.R_ne HO199.out BK195.out (by decide); intro e_; exact h_ (by rw [e_]; rfl)) _; (with_reducible repeat (first | refine blk_drewN ?_ _ | refine blk_drew ?_ | refine blk_alloc ?_ _)); exact BK195.out⟩
     have n3_ : Fc ((w60.setCell ⟨go44, (t218 : Int).toNat, none⟩ (.int .i64 t224)).heap[gb202]? = some (.cells #[.int .i64 t196, .slice (some ⟨go44, 0, none⟩) t197.length co51] 26 (0, 0))) := ⟨by (with_reducible repeat (first | refine blk_drewN ?_ _ | refine blk_drew ?_ | refine blk_alloc ?_ _)); refine blk_far ?_ (by have h_ := Kd.R_ne HO199.out BK202.out (by decide); intro e_; exact h_ (by rw [e_]; rfl)) _; (with_reducible repeat (first | refine blk_drewN ?_ _ | refine blk_drew ?_ | refine blk_alloc ?_ _)); exact BK202.out⟩
     have n4_ : Fc (IsS36 w0 (w60.setCell ⟨go44, (t218 : Int).toNat, none⟩ (.int .i64 t224)) g s0_0 t225 t226) := ⟨by exact st36_3 HI0.out HN0_go44.out NB0_195.out NB0_202.out⟩
     have n5_ : Fc (KeepBut w (w60.setCell ⟨go44, (t218 : Int).toNat, none⟩ (.int .i64 t224)) g none) := ⟨by exact kb36_3 HK.out GB44.out GW195.out GW202.out⟩
     have n6_ : Fc (Below w0.heap.size w0 (w60.setCell ⟨go44, (t218 : Int).toNat, none⟩ (.int .i64 t224))) := ⟨by repeat (first | (with_reducible first | exact HB.out | apply below_alloc | apply pw_below_drewN | apply below_drew1 | refine below_set ?_ (Nat.le_trans HL.out GB44.out) | refine below_set ?_ (IsS36.ge HI0.out) | refine below_set ?_ GE195.out | refine below_set ?_ GE202.out) | exact HB.out)⟩
     (try clear HO199)
     (try clear HO223)
     (try clear BK195)
     (try clear BK202)
     (try clear HI0)
     (try clear HK)
     (try clear HB)
     generalize (w60.setCell ⟨go44, (t218 : Int).toNat, none⟩ (.int .i64 t224)) = w62 at n0_ n1_ n2_ n3_ n4_ n5_ n6_ ⊢
     have HO199 := n0_
     have HO223 := n1_
     have BK195 := n2_
     have BK202 := n3_
     have HI0 := n4_
     have HK := n5_
     have HB := n6_
     clear n0_ n1_ n2_ n3_ n4_ n5_ n6_
     obtain ⟨_, _, _, _⟩ := blk2 BK202
     obtain ⟨_, _, _, _⟩ := blk2 BK195
     try go_wp2
     refine bodyPost_ret (results_cell_row rfl _ _ gb195 26 #[.int .i64 t196, .slice (some ⟨go44, 0, none⟩) t197.length co51] (0, 0) _ rfl (blkT BK195) Tryd.underlying26 rfl (by kernel_rfl)) rfl ?_
     exact ⟨_, by first | rfl | (simp [errW_none, errW_some] <;> rfl) | (simp only [← hji40]; first | rfl | (simp [errW_none, errW_some] <;> rfl)) | (simp [*, errW_none, errW_some] <;> rfl), Kd.R_g (Kd.R_mono (rF HO199 BK195) (fun _ _ => trivial)), by exact st36_2 HI0.out NB0_195.out NB0_202.out, by exact bl36_2 HB.out HI0.out GE195.out GE202.out, by exact kb36_2 HK.out GW195.out GW202.out⟩
    ·have c37b0 := decide_eq_false c37
     have c37b1 : decide (0 < t197.length) = false := decide_eq_false (by omega)
     clear c37
     simp only [Option.some.injEq, Prod.mk.injEq] at H
     obtain ⟨rfl, rfl, rfl, rfl⟩ := H
     go_enter Tryd.func15, Tryd.ntmps15
     go_wp2_with (first | ((with_reducible refine gate_dst (N := 4) rfl ?_); refine boxE (N := 4) (cs := #[.int .i64 0, .slice none 0 0]) (t := 26) ?_; intro gb195 hg w66 hbox hb; have BK195 := mkA (hbox); have GW195 := mkA ((by rw [hg]; exact (keep_size (w := w) (g := g) (row := none) (by exact kb36_0 HK.out)) : w.heap.size ≤ gb195)); have GE195 := mkA (Nat.le_trans HW0.out GW195.out); replace HK := kU (g := g) (by exact kb36_0 HK.out) hb; have NB0_195 : NeB _ _ := ⟨(by rw [hg]; exact Nat.ne_of_lt (IsS36.lt (show IsS36 w0 _ g s0_0 s0_1 s0_2 from by exact st36_0 HI0.out)) : g ≠ gb195)⟩; have NB195_0 : NeB _ _ := ⟨(by rw [hg]; exact Nat.ne_of_gt (IsS36.lt (show IsS36 w0 _ g s0_0 s0_1 s0_2 from by exact st36_0 HI0.out)) : gb195 ≠ g)⟩; replace HB := mkA (below_step (by exact bl36_0 HB.out HI0.out) hb); replace HI0 := mkA (IsS36.below (by exact st36_0 HI0.out) hb); clear hb hbox hg) | ((with_reducible refine gate_callee (f := 30) rfl ?_); refine goesQ (some 8) Tryd.func30 #[.pointer (some ⟨g, 0, none⟩), .int .i64 a1] ?_; (with_reducible refine (spec_l1Cur_order.calls k g s0_0 s0_1 s0_2 a1 t196 t197 t200 t201 w0 _ ?_ ?_ A3.out).mono ?_); exact st36_1 HI0.out NB0_195.out; exact bl36_1 HB.out HI0.out GE195.out; rintro e w67 ⟨v198, rfl, ho0, hi, hb, hk⟩; refine ⟨_, rfl, ?_⟩; replace BK195 := kB hk BK195; have HO199 := mkA (Kd.R_lower ho0 (keep_size (w := w) (g := g) (row := none) (by exact kb36_1 HK.out GW195.out))); replace HK := kT (by exact kb36_1 HK.out GW195.out) hk; replace HI0 := mkA (hi); replace HB := mkA (hb); clear hb hk hi ho0) | ((with_reducible refine gate_dst (N := 5) rfl ?_); refine boxE (N := 5) (cs := #[.int .i64 0, .slice none 0 0]) (t := 26) ?_; intro gb202 hg w68 hbox hb; replace HO199 := rB HO199 hb; have BK202 := mkA (hbox); have GW202 := mkA ((by rw [hg]; exact (keep_size (w := w) (g := g) (row := none) (by exact kb36_1 HK.out GW195.out)) : w.heap.size ≤ gb202)); have GE202 := mkA (Nat.le_trans HW0.out GW202.out); replace HK := kU (g := g) (by exact kb36_1 HK.out GW195.out) hb; have NB195_202 := neL7 BK195 hg; have NB202_195 := neR7 BK195 hg; replace BK195 := blkB BK195 hb; have NB0_202 : NeB _ _ := ⟨(by rw [hg]; exact Nat.ne_of_lt (IsS36.lt (show IsS36 w0 _ g s0_0 t200 t201 from by exact st36_1 HI0.out NB0_195.out)) : g ≠ gb202)⟩; have NB202_0 : NeB _ _ := ⟨(by rw [hg]; exact Nat.ne_of_gt (IsS36.lt (show IsS36 w0 _ g s0_0 t200 t201 from by exact st36_1 HI0.out NB0_195.out)) : gb202 ≠ g)⟩; replace HB := mkA (below_step (by exact bl36_1 HB.out HI0.out GE195.out) hb); replace HI0 := mkA (IsS36.below (by exact st36_1 HI0.out NB0_195.out) hb); clear hb hbox hg; obtain ⟨_, _, _, _⟩ := blk2 BK202; obtain ⟨Ao72, co72, rfl⟩ := Kd.R_slice HO199.out) | ((with_reducible refine gate_callee (f := 31) rfl ?_); refine goesQ (some 10) Tryd.func31 #[.pointer (some ⟨g, 0, none⟩), .int .i64 14] ?_; (with_reducible refine (spec_l1Cur_pick.calls g s0_0 t200 t201 14 t203 t204 t205 w0 _ ?_ ?_ A4.out).mono ?_); exact st36_2 HI0.out NB0_195.out NB0_202.out; exact bl36_2 HB.out HI0.out GE195.out GE202.out; rintro e w73 ⟨rfl, hi, hb, hk⟩; refine ⟨_, rfl, ?_⟩; replace BK195 := kR hk BK195; replace HO199 := rK (IsS36.apart (show IsS36 w0 _ g s0_0 t200 t201 from by exact st36_2 HI0.out NB0_195.out NB0_202.out) (rFg HO199 BK202) (by decide)) hk; replace BK202 := kR hk BK202; replace HK := kT (by exact kb36_2 HK.out GW195.out GW202.out) hk; replace HI0 := mkA (hi); replace HB := mkA (hb); clear hb hk hi; obtain ⟨_, _, _, _⟩ := blk2 BK202; obtain ⟨_, _, _, _⟩ := blk2 BK195))
     refine bodyPost_ret (results_cell_row rfl _ _ gb195 26 #[.int .i64 t196, .slice Ao72 t197.length co72] (0, 0) _ rfl (blkT BK195) Tryd.underlying26 rfl (by kernel_rfl)) rfl ?_
     exact ⟨_, eqE, Kd.R_g (Kd.R_mono (rF HO199 BK195) (fun _ _ => trivial)), by exact st36_2 HI0.out NB0_195.out NB0_202.out, by exact bl36_2 HB.out HI0.out GE195.out GE202.out, by exact kb36_2 HK.out GW195.out GW202.out⟩
   ·have c36b0 := beq_eq_false_iff_ne.mpr c36
    have c36b1 := bne_iff_ne.mpr c36
    rcases iteP H with ⟨c77, H⟩ | ⟨c77, H⟩
    ·have c77b0 := beq_iff_eq.mpr c77
     have c77b1 := bne_eq_false_iff_eq.mpr c77
     clear c77
     obtain ⟨⟨t228, t229, t232, t233⟩, A78, H⟩ := obE H
     dsimp only at H
     simp only [Option.some.injEq, Prod.mk.injEq] at H
     obtain ⟨rfl, rfl, rfl, rfl⟩ := H
     go_enter Tryd.func15, Tryd.ntmps15
     go_wp2_with (first | ((with_reducible refine gate_dst (N := 4) rfl ?_); refine boxE (N := 4) (cs := #[.int .i64 0, .slice none 0 0]) (t := 26) ?_; intro gb195 hg w79 hbox hb; have BK195 := mkA (hbox); have GW195 := mkA ((by rw [hg]; exact (keep_size (w := w) (g := g) (row := none) (by exact kb36_0 HK.out)) : w.heap.size ≤ gb195)); have GE195 := mkA (Nat.le_trans HW0.out GW195.out); replace HK := kU (g := g) (by exact kb36_0 HK.out) hb; have NB0_195 : NeB _ _ := ⟨(by rw [hg]; exact Nat.ne_of_lt (IsS36.lt (show IsS36 w0 _ g s0_0 s0_1 s0_2 from by exact st36_0 HI0.out)) : g ≠ gb195)⟩; have NB195_0 : NeB _ _ := ⟨(by rw [hg]; exact Nat.ne_of_gt (IsS36.lt (show IsS36 w0 _ g s0_0 s0_1 s0_2 from by exact st36_0 HI0.out)) : gb195 ≠ g)⟩; replace HB := mkA (below_step (by exact bl36_0 HB.out HI0.out) hb); replace HI0 := mkA (IsS36.below (by exact st36_0 HI0.out) hb); clear hb hbox hg) | ((with_reducible refine gate_callee (f := 30) rfl ?_); refine goesQ (some 8) Tryd.func30 #[.pointer (some ⟨g, 0, none⟩), .int .i64 a1] ?_; (with_reducible refine (spec_l1Cur_order.calls k g s0_0 s0_1 s0_2 a1 t196 t197 t200 t201 w0 _ ?_ ?_ A3.out).mono ?_); exact st36_1 HI0.out NB0_195.out; exact bl36_1 HB.out HI0.out GE195.out; rintro e w80 ⟨v198, rfl, ho0, hi, hb, hk⟩; refine ⟨_, rfl, ?_⟩; replace BK195 := kB hk BK195; have HO199 := mkA (Kd.R_lower ho0 (keep_size (w := w) (g := g) (row := none) (by exact kb36_1 HK.out GW195.out))); replace HK := kT (by exact kb36_1 HK.out GW195.out) hk; replace HI0 := mkA (hi); replace HB := mkA (hb); clear hb hk hi ho0) | ((with_reducible refine gate_dst (N := 5) rfl ?_); refine boxE (N := 5) (cs := #[.int .i64 0, .slice none 0 0]) (t := 26) ?_; intro gb202 hg w81 hbox hb; replace HO199 := rB HO199 hb; have BK202 := mkA (hbox); have GW202 := mkA ((by rw [hg]; exact (keep_size (w := w) (g := g) (row := none) (by exact kb36_1 HK.out GW195.out)) : w.heap.size ≤ gb202)); have GE202 := mkA (Nat.le_trans HW0.out GW202.out); replace HK := kU (g := g) (by exact kb36_1 HK.out GW195.out) hb; have NB195_202 := neL7 BK195 hg; have NB202_195 := neR7 BK195 hg; replace BK195 := blkB BK195 hb; have NB0_202 : NeB _ _ := ⟨(by rw [hg]; exact Nat.ne_of_lt (IsS36.lt (show IsS36 w0 _ g s0_0 t200 t201 from by exact st36_1 HI0.out NB0_195.out)) : g ≠ gb202)⟩; have NB202_0 : NeB _ _ := ⟨(by rw [hg]; exact Nat.ne_of_gt (IsS36.lt (show IsS36 w0 _ g s0_0 t200 t201 from by exact st36_1 HI0.out NB0_195.out)) : gb202 ≠ g)⟩; replace HB := mkA (below_step (by exact bl36_1 HB.out HI0.out GE195.out) hb); replace HI0 := mkA (IsS36.below (by exact st36_1 HI0.out NB0_195.out) hb); clear hb hbox hg; obtain ⟨_, _, _, _⟩ := blk2 BK202; obtain ⟨Ao85, co85, rfl⟩ := Kd.R_slice HO199.out) | ((with_reducible refine gate_callee (f := 31) rfl ?_); refine goesQ (some 10) Tryd.func31 #[.pointer (some ⟨g, 0, none⟩), .int .i64 14] ?_; (with_reducible refine (spec_l1Cur_pick.calls g s0_0 t200 t201 14 t203 t204 t205 w0 _ ?_ ?_ A4.out).mono ?_); exact st36_2 HI0.out NB0_195.out NB0_202.out; exact bl36_2 HB.out HI0.out GE195.out GE202.out; rintro e w86 ⟨rfl, hi, hb, hk⟩; refine ⟨_, rfl, ?_⟩; replace BK195 := kR hk BK195; replace HO199 := rK (IsS36.apart (show IsS36 w0 _ g s0_0 t200 t201 from by exact st36_2 HI0.out NB0_195.out NB0_202.out) (rFg HO199 BK202) (by decide)) hk; replace BK202 := kR hk BK202; replace HK := kT (by exact kb36_2 HK.out GW195.out GW202.out) hk; replace HI0 := mkA (hi); replace HB := mkA (hb); clear hb hk hi) | ((with_reducible refine gate_callee (f := 30) rfl ?_); refine goesQ (some 45) Tryd.func30 #[.pointer (some ⟨g, 0, none⟩), .int .i64 10] ?_; (with_reducible refine (spec_l1Cur_order.calls k g s0_0 t204 t205 10 t228 t229 t232 t233 w0 _ ?_ ?_ A78.out).mono ?_); exact st36_2 HI0.out NB0_195.out NB0_202.out; exact bl36_2 HB.out HI0.out GE195.out GE202.out; rintro e w87 ⟨v230, rfl, ho0, hi, hb, hk⟩; refine ⟨_, rfl, ?_⟩; replace BK195 := kB hk BK195; replace BK202 := kB hk BK202; have HO231 := mkA (Kd.R_lower (rN ho0 HO199) (keep_size (w := w) (g := g) (row := none) (by exact kb36_2 HK.out GW195.out GW202.out))); replace HO199 := mkA (Kd.R_mono (Kd.R_told (Kd.R_oldK (IsS36.apart (show IsS36 w0 _ g s0_0 t204 t205 from by exact st36_2 HI0.out NB0_195.out NB0_202.out) (Kd.R_g HO199.out) (by decide)) hk) (Kd.R_base ho0)) (fun _ h_ => h_.1)); replace HK := kT (by exact kb36_2 HK.out GW195.out GW202.out) hk; replace HI0 := mkA (hi); replace HB := mkA (hb); clear hb hk hi ho0; obtain ⟨_, _, _, _⟩ := blk2 BK195; obtain ⟨Ao90, co90, rfl⟩ := Kd.R_slice HO231.out))
     refine bodyPost_ret (results_cell_row rfl _ _ gb195 26 #[.int .i64 t228, .slice Ao90 t229.length co90] (0, 0) _ rfl (blkT BK195) Tryd.underlying26 rfl (by kernel_rfl)) rfl ?_
     exact ⟨_, eqE, Kd.R_g (Kd.R_mono (rF HO231 BK195) (fun _ _ => trivial)), by exact st36_2 HI0.out NB0_195.out NB0_202.out, by exact bl36_2 HB.out HI0.out GE195.out GE202.out, by exact kb36_2 HK.out GW195.out GW202.out⟩
    ·have c77b0 := beq_eq_false_iff_ne.mpr c77
     have c77b1 := bne_iff_ne.mpr c77
     simp only [Option.some.injEq, Prod.mk.injEq] at H
     obtain ⟨rfl, rfl, rfl, rfl⟩ := H
     go_enter Tryd.func15, Tryd.ntmps15
     go_wp2_with (first | ((with_reducible refine gate_dst (N := 4) rfl ?_); refine boxE (N := 4) (cs := #[.int .i64 0, .slice none 0 0]) (t := 26) ?_; intro gb195 hg w91 hbox hb; have BK195 := mkA (hbox); have GW195 := mkA ((by rw [hg]; exact (keep_size (w := w) (g := g) (row := none) (by exact kb36_0 HK.out)) : w.heap.size ≤ gb195)); have GE195 := mkA (Nat.le_trans HW0.out GW195.out); replace HK := kU (g := g) (by exact kb36_0 HK.out) hb; have NB0_195 : NeB _ _ := ⟨(by rw [hg]; exact Nat.ne_of_lt (IsS36.lt (show IsS36 w0 _ g s0_0 s0_1 s0_2 from by exact st36_0 HI0.out)) : g ≠ gb195)⟩; have NB195_0 : NeB _ _ := ⟨(by rw [hg]; exact Nat.ne_of_gt (IsS36.lt (show IsS36 w0 _ g s0_0 s0_1 s0_2 from by exact st36_0 HI0.out)) : gb195 ≠ g)⟩; replace HB := mkA (below_step (by exact bl36_0 HB.out HI0.out) hb); replace HI0 := mkA (IsS36.below (by exact st36_0 HI0.out) hb); clear hb hbox hg) | ((with_reducible refine gate_callee (f := 30) rfl ?_); refine goesQ (some 8) Tryd.func30 #[.pointer (some ⟨g, 0, none⟩), .int .i64 a1] ?_; (with_reducible refine (spec_l1Cur_order.calls k g s0_0 s0_1 s0_2 a1 t196 t197 t200 t201 w0 _ ?_ ?_ A3.out).mono ?_); exact st36_1 HI0.out NB0_195.out; exact bl36_1 HB.out HI0.out GE195.out; rintro e w92 ⟨v198, rfl, ho0, hi, hb, hk⟩; refine ⟨_, rfl, ?_⟩; replace BK195 := kB hk BK195; have HO199 := mkA (Kd.R_lower ho0 (keep_size (w := w) (g := g) (row := none) (by exact kb36_1 HK.out GW195.out))); replace HK := kT (by exact kb36_1 HK.out GW195.out) hk; replace HI0 := mkA (hi); replace HB := mkA (hb); clear hb hk hi ho0) | ((with_reducible refine gate_dst (N := 5) rfl ?_); refine boxE (N := 5) (cs := #[.int .i64 0, .slice none 0 0]) (t := 26) ?_; intro gb202 hg w93 hbox hb; replace HO199 := rB HO199 hb; have BK202 := mkA (hbox); have GW202 := mkA ((by rw [hg]; exact (keep_size (w := w) (g := g) (row := none) (by exact kb36_1 HK.out GW195.out)) : w.heap.size ≤ gb202)); have GE202 := mkA (Nat.le_trans HW0.out GW202.out); replace HK := kU (g := g) (by exact kb36_1 HK.out GW195.out) hb; have NB195_202 := neL7 BK195 hg; have NB202_195 := neR7 BK195 hg; replace BK195 := blkB BK195 hb; have NB0_202 : NeB _ _ := ⟨(by rw [hg]; exact Nat.ne_of_lt (IsS36.lt (show IsS36 w0 _ g s0_0 t200 t201 from by exact st36_1 HI0.out NB0_195.out)) : g ≠ gb202)⟩; have NB202_0 : NeB _ _ := ⟨(by rw [hg]; exact Nat.ne_of_gt (IsS36.lt (show IsS36 w0 _ g s0_0 t200 t201 from by exact st36_1 HI0.out NB0_195.out)) : gb202 ≠ g)⟩; replace HB := mkA (below_step (by exact bl36_1 HB.out HI0.out GE195.out) hb); replace HI0 := mkA (IsS36.below (by exact st36_1 HI0.out NB0_195.out) hb); clear hb hbox hg; obtain ⟨_, _, _, _⟩ := blk2 BK202; obtain ⟨Ao97, co97, rfl⟩ := Kd.R_slice HO199.out) | ((with_reducible refine gate_callee (f := 31) rfl ?_); refine goesQ (some 10) Tryd.func31 #[.pointer (some ⟨g, 0, none⟩), .int .i64 14] ?_; (with_reducible refine (spec_l1Cur_pick.calls g s0_0 t200 t201 14 t203 t204 t205 w0 _ ?_ ?_ A4.out).mono ?_); exact st36_2 HI0.out NB0_195.out NB0_202.out; exact bl36_2 HB.out HI0.out GE195.out GE202.out; rintro e w98 ⟨rfl, hi, hb, hk⟩; refine ⟨_, rfl, ?_⟩; replace BK195 := kR hk BK195; replace HO199 := rK (IsS36.apart (show IsS36 w0 _ g s0_0 t200 t201 from by exact st36_2 HI0.out NB0_195.out NB0_202.out) (rFg HO199 BK202) (by decide)) hk; replace BK202 := kR hk BK202; replace HK := kT (by exact kb36_2 HK.out GW195.out GW202.out) hk; replace HI0 := mkA (hi); replace HB := mkA (hb); clear hb hk hi; obtain ⟨_, _, _, _⟩ := blk2 BK202; obtain ⟨_, _, _, _⟩ := blk2 BK195))
     refine bodyPost_ret (results_cell_row rfl _ _ gb195 26 #[.int .i64 t196, .slice Ao97 t197.length co97] (0, 0) _ rfl (blkT BK195) Tryd.underlying26 rfl (by kernel_rfl)) rfl ?_
     exact ⟨_, eqE, Kd.R_g (Kd.R_mono (rF HO199 BK195) (fun _ _ => trivial)), by exact st36_2 HI0.out NB0_195.out NB0_202.out, by exact bl36_2 HB.out HI0.out GE195.out GE202.out, by exact kb36_2 HK.out GW195.out GW202.out⟩
end Go.Proofs.YtpphkeijklffgaaDoor.Q
