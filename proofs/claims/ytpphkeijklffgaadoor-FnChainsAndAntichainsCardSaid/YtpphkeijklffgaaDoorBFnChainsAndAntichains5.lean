import Derived.Test.YtpphkeijklffgaaDoorBFnChainsAndAntichains1
namespace Go.Proofs.YtpphkeijklffgaaDoor.Q
open Go.RowKit Go.Proofs.YtpphkeijklffgaaDoorW.PrintWords Go.Proofs.YtpphkeijklffgaaDoorW.PrintLast Go.Proofs.YtpphkeijklffgaaDoorW.PrintMore
attribute [local go_sem] max2_int min2_int max_two min_two max_three min_three max_four min_four neB_f
set_option linter.unusedVariables false
set_option maxHeartbeats 8000000
set_option maxRecDepth 100000
set_option linter.unusedSimpArgs false
mutual
def spec_l1Cur_relation.l0 : Nat → List Int → Int → Int → Int → List Int → Option (Int × List Int × Int × Int)
 | 0, _, _, _, _, _ => none
 | k + 1, x1000, x1001, x1002, x185000, x185001 => if (x185001.length : Int) < x185000 then (spec_l1Cur_relation.l1 k 0 0 x1000 x1001 x1002 x185000 x185001) else (some (x185000, x185001, x1001, x1002))
def spec_l1Cur_relation.l1 : Nat → Int → Int → List Int → Int → Int → Int → List Int → Option (Int × List Int × Int × Int)
 | 0, _, _, _, _, _, _, _ => none
 | k + 1, x6, x7, x1000, x1001, x1002, x185000, x185001 => if x7 < x185000 then ((spec_l1Cur_one.f x1000 x1001 x1002 4).bind fun bt185 => (if bt185.1 = true then (if 0 ≤ x7 then (spec_l1Cur_relation.l1 k (Go.bits .or .i64 x6 (shl .i64 1 x7)) (wrap64 (x7 + 1)) x1000 bt185.2.1 bt185.2.2 x185000 x185001) else (none)) else (spec_l1Cur_relation.l1 k x6 (wrap64 (x7 + 1)) x1000 bt185.2.1 bt185.2.2 x185000 x185001))) else (if x185001.length < 17592186044416 then (spec_l1Cur_relation.l0 k x1000 x1001 x1002 x185000 (x185001 ++ [x6])) else (none))
end
def spec_l1Cur_relation.f (k : Nat) (s0_0 : List Int) (s0_1 : Int) (s0_2 : Int) (a1 : Int) : Option (Int × List Int × Int × Int) := (spec_l1Cur_pick.f s0_0 s0_1 s0_2 (wrap64 (a1 + 1))).bind fun bt181 => (spec_l1Cur_relation.l0 k s0_0 bt181.2.1 bt181.2.2 bt181.1 ([] : List Int))
theorem spec_l1Cur_relation.mono_l : ∀ k, (∀ y0 y1 y2 y3 y4, LeO (spec_l1Cur_relation.l0 k y0 y1 y2 y3 y4) (spec_l1Cur_relation.l0 (k + 1) y0 y1 y2 y3 y4)) ∧ (∀ y0 y1 y2 y3 y4 y5 y6, LeO (spec_l1Cur_relation.l1 k y0 y1 y2 y3 y4 y5 y6) (spec_l1Cur_relation.l1 (k + 1) y0 y1 y2 y3 y4 y5 y6))
 | 0 => ⟨fun _ _ _ _ _ r h => by simp [spec_l1Cur_relation.l0] at h, fun _ _ _ _ _ _ _ r h => by simp [spec_l1Cur_relation.l1] at h⟩
 | k + 1 => by
  obtain ⟨ih0, ih1⟩ := spec_l1Cur_relation.mono_l k
  refine ⟨?_, ?_⟩ <;> intros
  unfold spec_l1Cur_relation.l0
  rotate_left
  unfold spec_l1Cur_relation.l1
  rotate_left
  all_goals repeat' (with_reducible first|apply ih0|apply ih1|apply LeO.refl|apply LeO.none|apply LeO.ite|apply LeO.bind|intro)
theorem spec_l1Cur_relation.mono : ∀ a0 a1 a2 a3 k, LeO (spec_l1Cur_relation.f k a0 a1 a2 a3) (spec_l1Cur_relation.f (k + 1) a0 a1 a2 a3) := by
 intro a0 a1 a2 a3 k
 obtain ⟨ih0, ih1⟩ := spec_l1Cur_relation.mono_l k
 unfold spec_l1Cur_relation.f
 repeat' (with_reducible first|apply ih0|apply ih1|apply LeO.refl|apply LeO.none|apply LeO.ite|apply LeO.bind|intro)
theorem spec_l1Cur_relation.calls (k : Nat) (g : Nat) (s0_0 : List Int) (s0_1 : Int) (s0_2 : Int) (a1 : Int) (r1 : Int) (r2 : List Int) (r3 : Int) (r4 : Int) (w0 w : World) (hI : IsS36 w0 w g s0_0 s0_1 s0_2) (hB : Below w0.heap.size w0 w) (h : spec_l1Cur_relation.f k s0_0 s0_1 s0_2 a1 = some (r1, r2, r3, r4)) :
  Calls Tryd.prog 32 #[.pointer (some ⟨g, 0, none⟩), .int .i64 a1] w fun e w' => ∃ v1_ : Value, e = .returned (.agg #[.int .i64 r1, v1_]) ∧ Kd.R (Kd.int .i64) 3 w' w.heap.size (fun _ => True) v1_ r2 ∧ IsS36 w0 w' g s0_0 r3 r4 ∧ Below w0.heap.size w0 w' ∧ KeepBut w w' g none := by
 have hu26 := Tryd.underlying26
 have HI0 := mkA hI
 have HK := mkA (KeepBut.refl w g none)
 have HL := mkA hB.size
 clear hI
 have HW0 := mkA hB.size
 have HB := mkA hB
 clear hB
 have H := h
 clear h
 unfold spec_l1Cur_relation.f at H
 obtain ⟨⟨t181, t182, t183⟩, A3, H⟩ := obE H
 dsimp only at H
 have H' := mkA H
 clear H
 go_enter Tryd.func32, Tryd.ntmps32
 go_wp2_with (first | ((with_reducible refine gate_dst (N := 4) rfl ?_); refine boxE (N := 4) (cs := #[.int .i64 0, .slice none 0 0]) (t := 26) ?_; intro gb180 hg w4 hbox hb; have BK180 := mkA (hbox); have GW180 := mkA ((by rw [hg]; exact (keep_size (w := w) (g := g) (row := none) (by exact kb36_0 HK.out)) : w.heap.size ≤ gb180)); have GE180 := mkA (Nat.le_trans HW0.out GW180.out); replace HK := kU (g := g) (by exact kb36_0 HK.out) hb; have NB0_180 : NeB _ _ := ⟨(by rw [hg]; exact Nat.ne_of_lt (IsS36.lt (show IsS36 w0 _ g s0_0 s0_1 s0_2 from by exact st36_0 HI0.out)) : g ≠ gb180)⟩; have NB180_0 : NeB _ _ := ⟨(by rw [hg]; exact Nat.ne_of_gt (IsS36.lt (show IsS36 w0 _ g s0_0 s0_1 s0_2 from by exact st36_0 HI0.out)) : gb180 ≠ g)⟩; replace HB := mkA (below_step (by exact bl36_0 HB.out HI0.out) hb); replace HI0 := mkA (IsS36.below (by exact st36_0 HI0.out) hb); clear hb hbox hg) | ((with_reducible refine gate_callee (f := 31) rfl ?_); refine goesQ (some 11) Tryd.func31 #[.pointer (some ⟨g, 0, none⟩), .int .i64 (wrap64 (a1 + 1))] ?_; (with_reducible refine (spec_l1Cur_pick.calls g s0_0 s0_1 s0_2 (wrap64 (a1 + 1)) t181 t182 t183 w0 _ ?_ ?_ A3.out).mono ?_); exact st36_1 HI0.out NB0_180.out; exact bl36_1 HB.out HI0.out GE180.out; rintro e w5 ⟨rfl, hi, hb, hk⟩; refine ⟨_, rfl, ?_⟩; replace BK180 := kB hk BK180; replace HK := kT (by exact kb36_1 HK.out GW180.out) hk; replace HI0 := mkA (hi); replace HB := mkA (hb); clear hb hk hi) | ((with_reducible refine gate_dst (N := 5) rfl ?_); refine boxE (N := 5) (cs := #[.int .i64 0, .slice none 0 0]) (t := 26) ?_; intro gb184 hg w6 hbox hb; have BK184 := mkA (hbox); have GW184 := mkA ((by rw [hg]; exact (keep_size (w := w) (g := g) (row := none) (by exact kb36_1 HK.out GW180.out)) : w.heap.size ≤ gb184)); have GE184 := mkA (Nat.le_trans HW0.out GW184.out); replace HK := kU (g := g) (by exact kb36_1 HK.out GW180.out) hb; have NB180_184 := neL7 BK180 hg; have NB184_180 := neR7 BK180 hg; replace BK180 := blkB BK180 hb; have NB0_184 : NeB _ _ := ⟨(by rw [hg]; exact Nat.ne_of_lt (IsS36.lt (show IsS36 w0 _ g s0_0 t182 t183 from by exact st36_1 HI0.out NB0_180.out)) : g ≠ gb184)⟩; have NB184_0 : NeB _ _ := ⟨(by rw [hg]; exact Nat.ne_of_gt (IsS36.lt (show IsS36 w0 _ g s0_0 t182 t183 from by exact st36_1 HI0.out NB0_180.out)) : gb184 ≠ g)⟩; replace HB := mkA (below_step (by exact bl36_1 HB.out HI0.out GE180.out) hb); replace HI0 := mkA (IsS36.below (by exact st36_1 HI0.out NB0_180.out) hb); clear hb hbox hg; obtain ⟨_, _, _, _⟩ := blk2 BK184))
 go_loopg [] k (fun kq w' => ∃ (x1001_1 : Int) (x1002_1 : Int) (x185001_1 : List Int) (u185001 : Value), Fc (spec_l1Cur_relation.l0 kq s0_0 x1001_1 x1002_1 t181 x185001_1 = some (r1, r2, r3, r4)) ∧ Fc (kq ≤ k) ∧ Fc (Kd.R (Kd.int .i64) 3 w' w.heap.size (fun _ => True) u185001 x185001_1) ∧ Fc (w'.heap[gb180]? = some (.cells #[.int .i64 0, (.slice none 0 0)] 26 (0, 0))) ∧ Fc (w'.heap[gb184]? = some (.cells #[.int .i64 t181, u185001] 26 (0, 0))) ∧ Fc (IsS36 w0 w' g s0_0 x1001_1 x1002_1) ∧ Fc (KeepBut w w' g none) ∧ Fc (Below w0.heap.size w0 w'))
 case atStart => exact ⟨(t182), (t183), (([] : List Int)), (.slice none 0 0), H', ⟨Nat.le_refl _⟩, ⟨nilE⟩, ⟨blkT BK180⟩, ⟨blkT BK184⟩, ⟨by exact st36_2 HI0.out NB0_180.out NB0_184.out⟩, ⟨by exact kb36_2 HK.out GW180.out GW184.out⟩, ⟨by exact bl36_2 HB.out HI0.out GE180.out GE184.out⟩⟩
 case round =>
  clear H'
  obtain ⟨x1001_1, x1002_1, x185001_1, u185001, HA, HK1, HO_185001, BK180, BK184, HI0, HK, HB⟩ := hrel
  cases gk with
  | zero => exact absurd HA.out (by simp [spec_l1Cur_relation.l0])
  | succ k1 =>
   have H := HA.out
   clear HA
   simp only [spec_l1Cur_relation.l0] at H
   rcases iteE H with ⟨c10b0, H⟩ | ⟨c10b0, H⟩
   ·have H' := mkA H
    clear H
    obtain ⟨_, _, _, _⟩ := blk2 BK184
    obtain ⟨Ao14, co14, rfl⟩ := Kd.R_slice HO_185001.out
    go_wp2
    go_loopg [6, 7] k1 (fun kq v6 v7 w' => ∃ (x6_2 : Int) (x7_2 : Int) (x1001_2 : Int) (x1002_2 : Int), v6 = .int .i64 x6_2 ∧ v7 = .int .i64 x7_2 ∧ Fc (spec_l1Cur_relation.l1 kq x6_2 x7_2 s0_0 x1001_2 x1002_2 t181 x185001_1 = some (r1, r2, r3, r4)) ∧ Fc (kq ≤ k1) ∧ Fc (Kd.R (Kd.int .i64) 3 w' w.heap.size (fun _ => True) (.slice Ao14 x185001_1.length co14) x185001_1) ∧ Fc (w'.heap[gb180]? = some (.cells #[.int .i64 0, (.slice none 0 0)] 26 (0, 0))) ∧ Fc (w'.heap[gb184]? = some (.cells #[.int .i64 t181, (.slice Ao14 x185001_1.length co14)] 26 (0, 0))) ∧ Fc (IsS36 w0 w' g s0_0 x1001_2 x1002_2) ∧ Fc (KeepBut w w' g none) ∧ Fc (Below w0.heap.size w0 w'))
    case atStart => exact ⟨(0), (0), (x1001_1), (x1002_1), eqS, eqS, H', ⟨Nat.le_refl _⟩, rg HO_185001, bg BK180, bg BK184, ⟨by exact st36_2 HI0.out NB0_180.out NB0_184.out⟩, ⟨by exact kb36_2 HK.out GW180.out GW184.out⟩, ⟨by exact bl36_2 HB.out HI0.out GE180.out GE184.out⟩⟩
    case round =>
     clear H'
     try clear c10b0
     obtain ⟨x6_2, x7_2, x1001_2, x1002_2, rfl, rfl, HA, HK2, HO_185001, BK180, BK184, HI0, HK, HB⟩ := hrel
     cases gk with
     | zero => exact absurd HA.out (by simp [spec_l1Cur_relation.l1])
     | succ k2 =>
      have H := HA.out
      clear HA
      simp only [spec_l1Cur_relation.l1] at H
      rcases iteE H with ⟨c15b0, H⟩ | ⟨c15b0, H⟩
      ·obtain ⟨⟨t185, t186, t187⟩, A16, H⟩ := obE H
       dsimp only at H
       by_cases c17 : t185 = true
       ·subst c17
        replace H := ifT H
        obtain ⟨c18b0, c18b1, H⟩ := itNQ H
        obtain ⟨ji19, hji19⟩ : ∃ j_ : Int, (shl .i64 1 x7_2) = j_ := ⟨_, rfl⟩
        first | rw [hji19] at H | simp only [hji19] at H
        (try rw [hji19] at A16)
        have hji19_ : (IntKind.i64.wrap (1 * 2 ^ min x7_2.toNat 64)) = ji19 := hji19
        have hji19z : x7_2 ≤ 64 → (IntKind.i64.wrap (1 * 2 ^ x7_2.toNat)) = ji19 := shl_small hji19
        have hji19u : (IntKind.i64.wrap (2 ^ min x7_2.toNat 64)) = ji19 := by have h_ := hji19_; rw [Int.one_mul] at h_; exact h_
        have hji19v : x7_2 ≤ 64 → (IntKind.i64.wrap (2 ^ x7_2.toNat)) = ji19 := fun hle_ => by have h_ := hji19z hle_; rw [Int.one_mul] at h_; exact h_
        have hji19y : (wrap64 (1 * 2 ^ min x7_2.toNat 64)) = ji19 := (i64_w _).symm.trans hji19_
        have hji19x : x7_2 ≤ 64 → (wrap64 (1 * 2 ^ x7_2.toNat)) = ji19 := fun h_ => (i64_w _).symm.trans (hji19z h_)
        have H' := mkA H
        clear H
        obtain ⟨_, _, _, _⟩ := blk2 BK184
        go_wp2_with (first | ((with_reducible refine gate_callee (f := 39) rfl ?_); refine goesQ (some 26) Tryd.func39 #[.pointer (some ⟨g, 0, none⟩), .int .i64 4] ?_; (with_reducible refine (spec_l1Cur_one.calls g s0_0 x1001_2 x1002_2 4 true t186 t187 w0 _ ?_ ?_ A16.out).mono ?_); exact st36_2 HI0.out NB0_180.out NB0_184.out; exact bl36_2 HB.out HI0.out GE180.out GE184.out; rintro e w23 ⟨rfl, hi, hb, hk⟩; refine ⟨_, rfl, ?_⟩; replace HO_185001 := rK (IsS36.apart (show IsS36 w0 _ g s0_0 x1001_2 x1002_2 from by exact st36_2 HI0.out NB0_180.out NB0_184.out) (Kd.R_g HO_185001.out) (by decide)) hk; replace BK180 := kB hk BK180; replace BK184 := kB hk BK184; replace HK := kT (by exact kb36_2 HK.out GW180.out GW184.out) hk; replace HI0 := mkA (hi); replace HB := mkA (hb); clear hb hk hi))
        go_roundg k2
        case measure => have := HK1.out; have := HK2.out; omega
        case rel => exact ⟨(Go.bits .or .i64 x6_2 (ji19)), (wrap64 (x7_2 + 1)), (t186), (t187), (by first | rfl | (simp; done) | (simp only [← hji19] <;> (first | rfl | simp)) | (simp [*]; done)), eqS, H', ⟨by have := HK1.out; have := HK2.out; omega⟩, rg HO_185001, bg BK180, bg BK184, ⟨by exact st36_2 HI0.out NB0_180.out NB0_184.out⟩, ⟨by exact kb36_2 HK.out GW180.out GW184.out⟩, ⟨by exact bl36_2 HB.out HI0.out GE180.out GE184.out⟩⟩
       ·replace c17 := Bool.eq_false_iff.mpr c17
        subst c17
        replace H := ifF H
        have H' := mkA H
        clear H
        obtain ⟨_, _, _, _⟩ := blk2 BK184
        go_wp2_with (first | ((with_reducible refine gate_callee (f := 39) rfl ?_); refine goesQ (some 26) Tryd.func39 #[.pointer (some ⟨g, 0, none⟩), .int .i64 4] ?_; (with_reducible refine (spec_l1Cur_one.calls g s0_0 x1001_2 x1002_2 4 false t186 t187 w0 _ ?_ ?_ A16.out).mono ?_); exact st36_2 HI0.out NB0_180.out NB0_184.out; exact bl36_2 HB.out HI0.out GE180.out GE184.out; rintro e w27 ⟨rfl, hi, hb, hk⟩; refine ⟨_, rfl, ?_⟩; replace HO_185001 := rK (IsS36.apart (show IsS36 w0 _ g s0_0 x1001_2 x1002_2 from by exact st36_2 HI0.out NB0_180.out NB0_184.out) (Kd.R_g HO_185001.out) (by decide)) hk; replace BK180 := kB hk BK180; replace BK184 := kB hk BK184; replace HK := kT (by exact kb36_2 HK.out GW180.out GW184.out) hk; replace HI0 := mkA (hi); replace HB := mkA (hb); clear hb hk hi))
        go_roundg k2
        case measure => have := HK1.out; have := HK2.out; omega
        case rel => exact ⟨(x6_2), (wrap64 (x7_2 + 1)), (t186), (t187), eqS, eqS, H', ⟨by have := HK1.out; have := HK2.out; omega⟩, rg HO_185001, bg BK180, bg BK184, ⟨by exact st36_2 HI0.out NB0_180.out NB0_184.out⟩, ⟨by exact kb36_2 HK.out GW180.out GW184.out⟩, ⟨by exact bl36_2 HB.out HI0.out GE180.out GE184.out⟩⟩
      ·obtain ⟨c28, H⟩ := itNP H
       have LMc28 := mkA c28
       clear c28
       obtain ⟨y188, hy188⟩ : ∃ y_ : List Int, y_ = (x185001_1 ++ [x6_2]) := ⟨_, rfl⟩
       rw [← hy188] at H
       have Ny188 := mkA hy188
       clear hy188
       have H' := mkA H
       clear H
       obtain ⟨_, _, _, _⟩ := blk2 BK184
       go_wp2_with (first | ((with_reducible refine gate_builtin (b := .append) (xs := #[.tmp 32, .tmp 34]) rfl ?_); at_builtin; refine Kd.R_append (Kd.int .i64) w.heap.size rfl (.tmp 32) (.tmp 34) 24 3 (.int .i64 0) 8 rfl Tryd.underlying24 info3 rfl (by decide) (by omega) (.slice Ao14 x185001_1.length co14) x185001_1 x6_2 [.int .i64 x6_2] (fun _ => True) (fun _ => False) rfl rfl ?aP (fun _ hk => hk.elim) ?aF ?aO (Below.refl _ _) ?aS ?aL ?_; (case aP => exact rfl); (case aF => exact (fun _ _ => trivial)); (case aO => exact (Kd.R_g HO_185001.out)); (case aS => exact (keep_size (w := w) (g := g) (row := none) (by exact kb36_2 HK.out GW180.out GW184.out))); (case aL => have := LMc28.out; omega); intro v189 w32 ho hb hg hat; rw [← Ny188.out] at ho; replace BK180 := mkA (blk_grown (g := gb180) (o := .cells #[.int .i64 0, .slice none 0 0] 26 (0, 0)) (blk_g BK180.out) hg (Kd.R_ne HO_185001.out BK180.out (by decide))); replace BK184 := mkA (blk_grown (g := gb184) (o := .cells #[.int .i64 t181, .slice Ao14 x185001_1.length co14] 26 (0, 0)) (blk_g BK184.out) hg (Kd.R_ne HO_185001.out BK184.out (by decide))); replace HK := mkA (KeepBut.trans (by exact kb36_2 HK.out GW180.out GW184.out) (KeepBut.of_grown hg g) (Kd.R_base2 HO_185001.out)); have HO190 := mkA (ho); replace HB := mkA (below_weaken (by exact bl36_2 HB.out HI0.out GE180.out GE184.out) HL.out hb); replace HI0 := mkA (IsS36.grown (by exact st36_2 HI0.out NB0_180.out NB0_184.out) hg (IsS36.own_ne HI0.out HO_185001.out (by decide))); clear HO_185001; clear ho hb hg hat; obtain ⟨Ao33, co33, rfl⟩ := Kd.R_slice HO190.out; obtain ⟨_, _, _, _⟩ := blk2 BK184))
       go_roundg k2
       case measure => have := HK1.out; have := HK2.out; omega
       case rel => exact ⟨(x1001_2), (x1002_2), (y188), (.slice Ao33 y188.length co33), H', ⟨by have := HK1.out; have := HK2.out; omega⟩, ⟨Kd.R_g (Kd.R_mono (Kd.R_far (p := ⟨gb184, 1, none⟩) (Kd.R_types HO190.out BK184.out (by decide)) (fun _ hk => hk.2) (.slice Ao33 y188.length co33)) (fun _ hk => trivial))⟩, ⟨blkT BK180⟩, ⟨blkT BK184⟩, ⟨by exact st36_2 HI0.out NB0_180.out NB0_184.out⟩, ⟨by exact kb36_2 HK.out GW180.out GW184.out⟩, ⟨by exact bl36_2 HB.out HI0.out GE180.out GE184.out⟩⟩
   ·simp only [Option.some.injEq, Prod.mk.injEq] at H
    obtain ⟨rfl, rfl, rfl, rfl⟩ := H
    obtain ⟨_, _, _, _⟩ := blk2 BK184
    obtain ⟨Ao38, co38, rfl⟩ := Kd.R_slice HO_185001.out
    obtain ⟨_, _, _, _⟩ := blk2 BK180
    go_wp2
    refine bodyPost_ret (results_cell_row rfl _ _ gb180 26 #[.int .i64 t181, .slice Ao38 x185001_1.length co38] (0, 0) _ rfl (blkT BK180) Tryd.underlying26 rfl (by kernel_rfl)) rfl ?_
    exact ⟨_, eqE, Kd.R_g (Kd.R_mono (rF HO_185001 BK180) (fun _ _ => trivial)), by exact st36_2 HI0.out NB0_180.out NB0_184.out, by exact bl36_2 HB.out HI0.out GE180.out GE184.out, by exact kb36_2 HK.out GW180.out GW184.out⟩
def spec_l1Cur_among.f (s0_0 : List Int) (s0_1 : Int) (s0_2 : Int) (l1 : List Int) : Option (Int × Int × Int) := (spec_l1Cur_pick.f s0_0 s0_1 s0_2 (l1.length : Int)).bind fun bt191 => (if 0 ≤ bt191.1 then (if bt191.1 < (l1.length : Int) then (some (rd l1 bt191.1, bt191.2.1, bt191.2.2)) else (none)) else (none))
theorem spec_l1Cur_among.calls (g : Nat) (s0_0 : List Int) (s0_1 : Int) (s0_2 : Int) (A1 : Option Addr) (c1 : Nat) (l1 : List Int) (r1 : Int) (r2 : Int) (r3 : Int) (w0 w : World) (hI : IsS36 w0 w g s0_0 s0_1 s0_2) (hB : Below w0.heap.size w0 w) (hr1 : Kd.C (Kd.int .i64) w A1 l1.length l1) (hc1 : l1.length ≤ c1) (hf1 : ∀ ad, A1 = some ad → 0 < l1.length → ad.block ≠ g) (h : spec_l1Cur_among.f s0_0 s0_1 s0_2 l1 = some (r1, r2, r3)) :
  Calls Tryd.prog 33 #[.pointer (some ⟨g, 0, none⟩), .slice A1 l1.length c1] w fun e w' => e = .returned (.int .i64 r1) ∧ IsS36 w0 w' g s0_0 r2 r3 ∧ Below w0.heap.size w0 w' ∧ KeepBut w w' g none := by
 have HR1 := mkA hr1
 have HC1 := mkA hc1
 clear hr1 hc1
 have HI0 := mkA hI
 have HK := mkA (KeepBut.refl w g none)
 have HL := mkA hB.size
 clear hI
 have HW0 := mkA hB.size
 have HB := mkA hB
 clear hB
 have H := h
 clear h
 unfold spec_l1Cur_among.f at H
 obtain ⟨⟨t191, t192, t193⟩, A3, H⟩ := obE H
 dsimp only at H
 obtain ⟨c4b0, H⟩ := itND H
 obtain ⟨c5b0, H⟩ := itND H
 simp only [Option.some.injEq, Prod.mk.injEq] at H
 obtain ⟨rfl, rfl, rfl⟩ := H
 go_enter Tryd.func33, Tryd.ntmps33
 go_wp2_with (first | ((with_reducible refine gate_callee (f := 31) rfl ?_); refine goesQ (some 9) Tryd.func31 #[.pointer (some ⟨g, 0, none⟩), .int .i64 (l1.length : Int)] ?_; (with_reducible refine (spec_l1Cur_pick.calls g s0_0 s0_1 s0_2 (l1.length : Int) t191 t192 t193 w0 _ ?_ ?_ A3.out).mono ?_); exact st36_0 HI0.out; exact bl36_0 HB.out HI0.out; rintro e w6 ⟨rfl, hi, hb, hk⟩; refine ⟨_, rfl, ?_⟩; replace HK := kT (by exact kb36_0 HK.out) hk; replace HI0 := mkA (hi); replace HB := mkA (hb); clear hb hk hi; have p194 : 0 ≤ (t191 : Int) := ofd; have q194 : t191 < (l1.length : Int) := ofd; obtain ⟨ad194, e194, hx194_0⟩ := Kd.at_int HR1.out t191 p194 q194; cases e194; replace hx194_0 := keep_cell HK.out hx194_0 (by first | (rw [add_block]; exact hf1 _ rfl (by omega)) | exact hf1 _ rfl (by omega) | exact hf1 ad194 rfl (by omega)); replace p194 := eq_true p194; replace q194 := eq_true q194))
 go_ret
 exact ⟨eqE, by exact st36_0 HI0.out, by exact bl36_0 HB.out HI0.out, by exact kb36_0 HK.out⟩
end Go.Proofs.YtpphkeijklffgaaDoor.Q
