import Derived.Test.YtcalgdljcphjaaaDoorBFnStairs4
namespace Go.Proofs.YtcalgdljcphjaaaDoor.Q
open Go.RowKit Go.Proofs.YtcalgdljcphjaaaDoorW.PrintWords Go.Proofs.YtcalgdljcphjaaaDoorW.PrintLast Go.Proofs.YtcalgdljcphjaaaDoorW.PrintMore
attribute [local go_sem] max2_int min2_int max_two min_two max_three min_three max_four min_four neB_f
set_option linter.unusedVariables false
set_option maxHeartbeats 8000000
set_option maxRecDepth 100000
set_option linter.unusedSimpArgs false
mutual
def spec_seOrder.l0 : Nat → List Int → Int → Int → Int → List Int → Option (Int × List Int)
 | 0, _, _, _, _, _ => none
 | k + 1, x13, x14, x15, x185000, x185001 => if x15 < x14 then (if 0 ≤ x15 then (if x15 < (x13.length : Int) then (spec_seOrder.l1 k x15 (rd x13 x15) 0 x13 x14 x15 x185000 x185001) else (none)) else (none)) else (some (x185000, x185001))
def spec_seOrder.l1 : Nat → Int → Int → Int → List Int → Int → Int → Int → List Int → Option (Int × List Int)
 | 0, _, _, _, _, _, _, _, _ => none
 | k + 1, x4, x5, x6, x13, x14, x15, x185000, x185001 => if x6 < x5 then (if 0 ≤ x6 then (if x6 < (x185001.length : Int) then (if 0 ≤ x4 then (spec_seOrder.l1 k x4 x5 (wrap64 (x6 + 1)) x13 x14 x15 x185000 (x185001.set (x6 : Int).toNat (Go.bits .or .i64 (rd x185001 x6) (shl .i64 1 x4)))) else (none)) else (none)) else (none)) else (spec_seOrder.l0 k x13 x14 (wrap64 (x15 + 1)) x185000 x185001)
end
def spec_seOrder.f (k : Nat) (l0 : List Int) : Option (Int × List Int) := if 0 ≤ (l0.length : Int) then (if ((l0.length : Int) : Int).toNat ≤ 35184372088832 then (spec_seOrder.l0 k l0 (l0.length : Int) 0 (l0.length : Int) (List.replicate ((l0.length : Int) : Int).toNat 0)) else (none)) else (none)
theorem spec_seOrder.mono_l : ∀ k, (∀ y0 y1 y2 y3 y4, LeO (spec_seOrder.l0 k y0 y1 y2 y3 y4) (spec_seOrder.l0 (k + 1) y0 y1 y2 y3 y4)) ∧ (∀ y0 y1 y2 y3 y4 y5 y6 y7, LeO (spec_seOrder.l1 k y0 y1 y2 y3 y4 y5 y6 y7) (spec_seOrder.l1 (k + 1) y0 y1 y2 y3 y4 y5 y6 y7))
 | 0 => ⟨fun _ _ _ _ _ r h => by simp [spec_seOrder.l0] at h, fun _ _ _ _ _ _ _ _ r h => by simp [spec_seOrder.l1] at h⟩
 | k + 1 => by
  obtain ⟨ih0, ih1⟩ := spec_seOrder.mono_l k
  refine ⟨?_, ?_⟩ <;> intros
  unfold spec_seOrder.l0
  rotate_left
  unfold spec_seOrder.l1
  rotate_left
  all_goals repeat' (with_reducible first|apply ih0|apply ih1|apply LeO.refl|apply LeO.none|apply LeO.ite|apply LeO.bind|intro)
theorem spec_seOrder.mono : ∀ a0 k, LeO (spec_seOrder.f k a0) (spec_seOrder.f (k + 1) a0) := by
 intro a0 k
 obtain ⟨ih0, ih1⟩ := spec_seOrder.mono_l k
 unfold spec_seOrder.f
 repeat' (with_reducible first|apply ih0|apply ih1|apply LeO.refl|apply LeO.none|apply LeO.ite|apply LeO.bind|intro)
def spec_seOrder.T8 : Bool × List (List Nat × List Nat) := (true, [([], []), ([0], [0]), ([], []), ([1, 2], [1, 2]), ([3], [3]), ([], []), ([5], [5]), ([4, 6], [4, 6]), ([1, 2, 0, 1, 2, 3, 4, 5, 6, 7], [1, 2]), ([8, 7, 0, 1, 2, 3, 4, 5, 6, 7], [7, 8])])
def spec_seOrder.B8 : List Nat := [0, 1, 0, 7, 15, 0, 32, 127, 255, 511]
theorem spec_seOrder.tab8 : rtab .any (opsOf Tryd.f26 8) = spec_seOrder.T8 := by kernel_rfl
theorem spec_seOrder.bits8 : waitsOk spec_seOrder.T8.2 spec_seOrder.B8 = true := by kernel_rfl
theorem spec_seOrder.calls (k : Nat) (A0 : Option Addr) (c0 : Nat) (l0 : List Int) (r1 : Int) (r2 : List Int) (w : World) (hr0 : Kd.C (Kd.int .i64) w A0 l0.length l0) (hc0 : l0.length ≤ c0) (h : spec_seOrder.f k l0 = some (r1, r2)) :
  Calls Tryd.prog 26 #[.slice A0 l0.length c0] w fun e w' => ∃ v1_ : Value, e = .returned (.agg #[.int .i64 r1, v1_]) ∧ Kd.R (Kd.int .i64) 3 w' w.heap.size (fun _ => True) v1_ r2 ∧ Below w.heap.size w w' := by
 have hu27 := Tryd.underlying27
 have HR0 := mkA hr0
 have HC0 := mkA hc0
 clear hr0 hc0
 have HB := mkA (Below.refl w.heap.size w)
 have H := h
 clear h
 unfold spec_seOrder.f at H
 obtain ⟨c2b0, c2b1, H⟩ := itNQ H
 obtain ⟨c3b0, c3b1, H⟩ := itNQ H
 obtain ⟨y181, hy181⟩ : ∃ y_ : List Int, y_ = (List.replicate ((l0.length : Int) : Int).toNat 0) := ⟨_, rfl⟩
 rw [← hy181] at H
 have Ny181 := mkA hy181
 clear hy181
 have H' := mkA H
 clear H
 go_enter Tryd.func26, Tryd.ntmps26
 go_wp2_with (first | ((with_reducible refine gate_dst (N := 2) rfl ?_); refine boxG HB #[.int .i64 0, .slice none 0 0] 27 ?_; intro gb180 hg w4 BK180 GE180 hb; replace HB := bst HB hb; clear hb hg) | ((with_reducible refine gate_dst (N := 11) rfl ?_); refine Kd.R_make (Kd.int .i64) _ 3 rfl (N := 11) rfl 24 _ _ rfl (l0.length : Int) rfl rfl Tryd.underlying24 (.int .i64 0) 8 info3 rfl (by decide) (by omega) 0 (ok := fun _ => True) (okp := fun _ => True) rfl (fun _ hk => hk) trivial (ofd) (Nat.le_trans (Nat.mul_le_mul_right _ (ofd : (l0.length : Int).toNat ≤ 35184372088832)) (by omega)) (Below.refl _ _) (Nat.le_refl _) ?_; intro v182 w5 ho6 hb hg_ hnew_; clear hg_ hnew_; (first | rw [← Ny181.out] at ho6 | (simp only [Int.reduceToNat] at ho6; rw [← Ny181.out] at ho6)); have HO183 := rLo ho6 HB; replace BK180 := blkB BK180 hb; replace HB := bst HB hb; clear hb ho6; obtain ⟨Ao7, co7, rfl⟩ := Kd.R_slice HO183.out) | ((with_reducible refine gate_dst (N := 3) rfl ?_); refine boxG HB #[.int .i64 0, .slice none 0 0] 27 ?_; intro gb184 hg w8 BK184 GE184 hb; replace HO183 := rB HO183 hb; have NB180_184 := neL7 BK180 hg; have NB184_180 := neR7 BK180 hg; replace BK180 := blkB BK180 hb; replace HB := bst HB hb; clear hb hg; obtain ⟨_, _, _, _⟩ := blk2 BK184))
 go_loopg [15] k (fun kq v15 w' => ∃ (x15_1 : Int) (x185001_1 : List Int) (u185001 : Value), v15 = .int .i64 x15_1 ∧ Fc (spec_seOrder.l0 kq l0 (l0.length : Int) x15_1 (l0.length : Int) x185001_1 = some (r1, r2)) ∧ Fc (kq ≤ k) ∧ Fc (Kd.R (Kd.int .i64) 3 w' w.heap.size (fun _ => True) u185001 x185001_1) ∧ Fc (w'.heap[gb180]? = some (.cells #[.int .i64 0, (.slice none 0 0)] 27 (0, 0))) ∧ Fc (w'.heap[gb184]? = some (.cells #[.int .i64 (l0.length : Int), u185001] 27 (0, 0))) ∧ Fc (Below w.heap.size w w'))
 case atStart => exact ⟨(0), (y181), (.slice Ao7 y181.length co7), eqS, H', ⟨Nat.le_refl _⟩, ⟨Kd.R_g (Kd.R_mono (rF HO183 BK184) (fun _ _ => trivial))⟩, ⟨blkT BK180⟩, ⟨blkT BK184⟩, hbg HB⟩
 case round =>
  clear H'
  try clear c2
  try clear c2b0
  try clear c2b1
  try clear c3
  try clear c3b0
  try clear c3b1
  obtain ⟨x15_1, x185001_1, u185001, rfl, HA, HK1, HO_185001, BK180, BK184, HB⟩ := hrel
  cases gk with
  | zero => exact absurd HA.out (by simp [spec_seOrder.l0])
  | succ k1 =>
   have H := HA.out
   clear HA
   simp only [spec_seOrder.l0] at H
   rcases iteE H with ⟨c11b0, H⟩ | ⟨c11b0, H⟩
   ·obtain ⟨c12b0, H⟩ := itND H
    obtain ⟨c13b0, H⟩ := itND H
    have H' := mkA H
    clear H
    obtain ⟨p185, q185, ad185, e185, hx185_0⟩ := atI HR0.out x15_1
    cases e185
    replace hx185_0 := (HB.out.cell (World.block_lt_of_cell? w _ hx185_0)).trans hx185_0
    go_wp2
    go_loopg [6] k1 (fun kq v6 w' => ∃ (x6_2 : Int) (x185001_2 : List Int) (u185001 : Value), v6 = .int .i64 x6_2 ∧ Fc (spec_seOrder.l1 kq x15_1 (rd l0 x15_1) x6_2 l0 (l0.length : Int) x15_1 (l0.length : Int) x185001_2 = some (r1, r2)) ∧ Fc (kq ≤ k1) ∧ Fc (Kd.R (Kd.int .i64) 3 w' w.heap.size (fun _ => True) u185001 x185001_2) ∧ Fc (w'.heap[gb180]? = some (.cells #[.int .i64 0, (.slice none 0 0)] 27 (0, 0))) ∧ Fc (w'.heap[gb184]? = some (.cells #[.int .i64 (l0.length : Int), u185001] 27 (0, 0))) ∧ Fc (Below w.heap.size w w'))
    case atStart => exact ⟨(0), (x185001_1), (u185001), eqS, H', ⟨Nat.le_refl _⟩, rg HO_185001, bg BK180, bg BK184, hbg HB⟩
    case round =>
     clear H'
     try clear c2
     try clear c2b0
     try clear c2b1
     try clear c3
     try clear c3b0
     try clear c3b1
     try clear c11b0
     try clear c12
     try clear c12b0
     try clear c13
     try clear c13b0
     try clear hx185_0
     try clear p185
     try clear q185
     obtain ⟨x6_2, x185001_2, u185001, rfl, HA, HK2, HO_185001, BK180, BK184, HB⟩ := hrel
     cases gk with
     | zero => exact absurd HA.out (by simp [spec_seOrder.l1])
     | succ k2 =>
      have H := HA.out
      clear HA
      simp only [spec_seOrder.l1] at H
      rcases iteE H with ⟨c14b0, H⟩ | ⟨c14b0, H⟩
      ·obtain ⟨c15b0, H⟩ := itND H
       obtain ⟨c16b0, H⟩ := itND H
       obtain ⟨c17b0, c17b1, H⟩ := itNQ H
       obtain ⟨ji18, hji18⟩ : ∃ j_ : Int, (shl .i64 1 x15_1) = j_ := ⟨_, rfl⟩
       first | rw [hji18] at H | simp only [hji18] at H
       have hji18_ : (IntKind.i64.wrap (1 * 2 ^ min x15_1.toNat 64)) = ji18 := hji18
       have hji18z : x15_1 ≤ 64 → (IntKind.i64.wrap (1 * 2 ^ x15_1.toNat)) = ji18 := shl_small hji18
       have hji18u : (IntKind.i64.wrap (2 ^ min x15_1.toNat 64)) = ji18 := by have h_ := hji18_; rw [Int.one_mul] at h_; exact h_
       have hji18v : x15_1 ≤ 64 → (IntKind.i64.wrap (2 ^ x15_1.toNat)) = ji18 := fun hle_ => by have h_ := hji18z hle_; rw [Int.one_mul] at h_; exact h_
       have hji18y : (wrap64 (1 * 2 ^ min x15_1.toNat 64)) = ji18 := (i64_w _).symm.trans hji18_
       have hji18x : x15_1 ≤ 64 → (wrap64 (1 * 2 ^ x15_1.toNat)) = ji18 := fun h_ => (i64_w _).symm.trans (hji18z h_)
       obtain ⟨y187, hy187⟩ : ∃ y_ : List Int, y_ = (x185001_2.set (x6_2 : Int).toNat (Go.bits .or .i64 (rd x185001_2 x6_2) (ji18))) := ⟨_, rfl⟩
       rw [← hy187] at H
       have Ny187 := mkA hy187
       clear hy187
       have H' := mkA H
       clear H
       try go_wp2
       replace HO_185001 := mkA (Kd.R_drew HO_185001.out)
       replace BK180 := mkA (blk_drew BK180.out)
       replace BK184 := mkA (blk_drew BK184.out)
       replace HB := mkA (below_drew1 HB.out)
       obtain ⟨Ao21, co21, eo21⟩ := Kd.R_slice HO_185001.out
       (first | subst eo21 | (injection eo21 with f1_ f2_ f3_; have f4_ := f1_.symm; have f5_ := f3_.symm; clear f1_ f2_ f3_; subst f4_; subst f5_))
       obtain ⟨p186, q186, ad186, e186, hx186_0⟩ := atI (Kd.R_reads' HO_185001.out).2.2 x6_2
       cases e186
       have p19 : 0 ≤ (x6_2 : Int) := ofd
       have q19 : (x6_2 : Int) < ((x185001_2.length : Int) : Int) := ofd
       obtain ⟨go19, co19, eo19, gb19, gl19, cl19, HG19⟩ := Kd.R_form HO_185001.out (by omega)
       (first | cases eo19 | (injection eo19 with ea_ en_ ec_; (first | subst ea_ | (injection ea_ with ea_; subst ea_)); subst ec_; clear en_))
       have GB19 : Ge _ _ := ⟨gb19⟩
       have GG19 := mkA HG19
       clear gb19 gl19 HG19
       (first | simp only [add_plain] at hx186_0 | skip)
       obtain ⟨hx19_0, hf19_0⟩ := Kd.R_celln 0 HO_185001.out (x6_2 : Int) p19 q19
       replace p19 := eq_true p19
       replace q19 := eq_true q19
       have HP22 := Kd.R_putn HO_185001.out (x6_2 : Int) (Go.bits .or .i64 (rd x185001_2 x6_2) (ji18))
       rw [← Ny187.out] at HP22
       have HQ22 := mkA HP22
       clear HP22
       refine start_ (n := 10) (S := fun w' => w'.cell? ⟨gb184, 0, none⟩ = some (.int .i64 (l0.length : Int)) ∧ w'.cell? ⟨gb184, 1, none⟩ = some (.slice (some ⟨go19, 0, none⟩) x185001_2.length co21) ∧ w'.cell? ⟨go19, (x6_2).toNat, none⟩ = some (.int .i64 (rd x185001_2 x6_2))) (ds := [9]) (bm 10 0) (by kernel_rfl) rfl rfl ⟨(blk_cell BK184.out 0).trans rfl, (blk_cell BK184.out 1).trans rfl, hx186_0⟩ (fun hHeld => ?_); refine with_tabW spec_seOrder.tab8 spec_seOrder.bits8 (fun HT_ HW_ => ?_)
       generalize wr.drew = w20 at HO_185001 BK180 BK184 HB GG19 HQ22 hf19_0 hx186_0 hx19_0 hHeld ⊢
       refine purW 0 25 10 1 HT_ ?_
       refine purW 2 27 10 5 HT_ ?_
       refine purW 5 30 10 37 HT_ ?_
       refine purW 6 31 10 101 HT_ ?_
       refine takeW 1 (some 26) (bm 10 103) HT_ HW_ hHeld ?_
       refine purW 3 28 10 111 HT_ ?_
       refine takeW 4 (some 29) (bm 10 127) HT_ HW_ hHeld ?_
       refine purW 7 32 10 255 HT_ ?_
       refine purW 8 33 10 511 HT_ ?_
       refine last_ (i := 9) (N := none) (bm 10 1023) rfl rfl (one_of HT_.out (by kernel_rfl)) (by decide) (fun K hK => ?_)
       refine skip_ (w1 := ?_) (by rfl) rfl ?_ ?_
       rotate_left
       ·go_simp
        rfl
       refine hK.out _ _ ?_
       clear hK K
       refine doneW HT_ ?_
       try go_wp2
       go_roundg k2
       case measure => have := HK1.out; have := HK2.out; omega
       case rel => exact ⟨(wrap64 (x6_2 + 1)), (y187), (.slice (some ⟨go19, 0, none⟩) x185001_2.length co21), eqS, H', ⟨by have := HK1.out; have := HK2.out; omega⟩, ⟨Kd.R_g HQ22.out⟩, ⟨by (with_reducible repeat (first | refine blk_drewN ?_ _ | refine blk_drew ?_ | refine blk_alloc ?_ _)); refine blk_far ?_ (by have h_ := Kd.R_ne HO_185001.out BK180.out (by decide); intro e_; exact h_ (by rw [e_]; rfl)) _; (with_reducible repeat (first | refine blk_drewN ?_ _ | refine blk_drew ?_ | refine blk_alloc ?_ _)); exact BK180.out⟩, ⟨by (with_reducible repeat (first | refine blk_drewN ?_ _ | refine blk_drew ?_ | refine blk_alloc ?_ _)); refine blk_far ?_ (by have h_ := Kd.R_ne HO_185001.out BK184.out (by decide); intro e_; exact h_ (by rw [e_]; rfl)) _; (with_reducible repeat (first | refine blk_drewN ?_ _ | refine blk_drew ?_ | refine blk_alloc ?_ _)); exact BK184.out⟩, hbg HB⟩
      ·have H' := mkA H
       clear H
       go_wp2
       go_roundg k2
       case measure => have := HK1.out; have := HK2.out; omega
       case rel => exact ⟨(wrap64 (x15_1 + 1)), (x185001_2), (u185001), eqS, H', ⟨by have := HK1.out; have := HK2.out; omega⟩, rg HO_185001, bg BK180, bg BK184, hbg HB⟩
   ·simp only [Option.some.injEq, Prod.mk.injEq] at H
    obtain ⟨rfl, rfl⟩ := H
    obtain ⟨_, _, _, _⟩ := blk2 BK184
    obtain ⟨_, _, _, _⟩ := blk2 BK180
    obtain ⟨Ao26, co26, rfl⟩ := Kd.R_slice HO_185001.out
    go_wp2
    refine bodyPost_ret (results_cell_row rfl _ _ gb180 27 #[.int .i64 (l0.length : Int), .slice Ao26 x185001_1.length co26] (0, 0) _ rfl (blkT BK180) Tryd.underlying27 rfl (by kernel_rfl)) rfl ?_
    exact ⟨_, eqE, Kd.R_g (Kd.R_mono (rF HO_185001 BK180) (fun _ _ => trivial)), bel_g HB.out⟩
def spec_OrderOfStair.f (k : Nat) (l0 : List Int) : Option (Int × List Int × Bool) := (spec_IsStair.f k l0).bind fun t189 => (if t189 = true then ((spec_seOrder.f k l0).bind fun bt190 => (some (bt190.1, bt190.2, true))) else (some (0, ([] : List Int), false)))
theorem spec_OrderOfStair.mono : ∀ a0 k, LeO (spec_OrderOfStair.f k a0) (spec_OrderOfStair.f (k + 1) a0) := by
 intro a0 k
 unfold spec_OrderOfStair.f
 repeat' (with_reducible first|apply spec_IsStair.mono|apply spec_seOrder.mono|apply LeO.refl|apply LeO.none|apply LeO.ite|apply LeO.bind|intro)
theorem spec_OrderOfStair.calls (k : Nat) (A0 : Option Addr) (c0 : Nat) (l0 : List Int) (r1 : Int) (r2 : List Int) (r3 : Bool) (w : World) (hr0 : Kd.C (Kd.int .i64) w A0 l0.length l0) (hc0 : l0.length ≤ c0) (h : spec_OrderOfStair.f k l0 = some (r1, r2, r3)) :
  Calls Tryd.prog 7 #[.slice A0 l0.length c0] w fun e w' => ∃ v1_ : Value, e = .returned (.tuple #[.agg #[.int .i64 r1, v1_], .bool r3]) ∧ Kd.R (Kd.int .i64) 3 w' w.heap.size (fun _ => True) v1_ r2 ∧ Below w.heap.size w w' := by
 have hu27 := Tryd.underlying27
 have HR0 := mkA hr0
 have HC0 := mkA hc0
 clear hr0 hc0
 have HB := mkA (Below.refl w.heap.size w)
 have H := h
 clear h
 unfold spec_OrderOfStair.f at H
 obtain ⟨t189, A2, H⟩ := obE H
 by_cases c3 : t189 = true
 ·subst c3
  replace H := ifT H
  obtain ⟨⟨t190, t191⟩, A4, H⟩ := obE H
  dsimp only at H
  simp only [Option.some.injEq, Prod.mk.injEq] at H
  obtain ⟨rfl, rfl, rfl⟩ := H
  go_enter Tryd.func7, Tryd.ntmps7
  go_wp2_with (first | ((with_reducible refine gate_dst (N := 2) rfl ?_); refine boxG HB #[.int .i64 0, .slice none 0 0] 27 ?_; intro gb188 hg w5 BK188 GE188 hb; replace HB := bst HB hb; clear hb hg) | ((with_reducible refine gate_callee (f := 25) rfl ?_); refine goesQ (some 5) Tryd.func25 #[.slice A0 l0.length c0] ?_; (with_reducible refine (spec_IsStair.calls k _ _ l0 true _ ?_ ?_ A2.out).mono ?_); exact C_g HR0 HB; exact HC0.out; rintro e w' ⟨rfl, ⟨nd, rfl⟩⟩; refine ⟨_, rfl, ?_⟩; (try (rw [drewN_self w5]; generalize hq_ : World.drewN w5 _ = w5; have n0_ : Fc (w5.heap[gb188]? = some (.cells #[.int .i64 0, .slice none 0 0] 27 (0, 0))) := ⟨by rw [← hq_]; exact (blk_g BK188.out)⟩; have n1_ : Fc (Below w.heap.size w w5) := ⟨by rw [← hq_]; exact (bel_g HB.out)⟩; clear BK188 HB hq_; have BK188 := n0_; have HB := n1_; clear n0_ n1_))) | ((with_reducible refine gate_callee (f := 26) rfl ?_); refine goesQ (some 9) Tryd.func26 #[.slice A0 l0.length c0] ?_; (with_reducible refine (spec_seOrder.calls k _ _ l0 t190 t191 _ ?_ ?_ A4.out).mono ?_); exact C_g HR0 HB; exact HC0.out; rintro e w6 ⟨v192, rfl, ho0, hb⟩; refine ⟨_, rfl, ?_⟩; have HO193 := rLo ho0 HB; replace BK188 := blkB BK188 hb; replace HB := bst HB hb; clear hb ho0; obtain ⟨_, _, _, _⟩ := blk2 BK188; obtain ⟨Ao8, co8, rfl⟩ := Kd.R_slice HO193.out))
  refine bodyPost_ret (results_ct rfl _ _ gb188 27 #[.int .i64 t190, .slice Ao8 t191.length co8] (0, 0) _ rfl (blkT BK188) Tryd.underlying27 rfl (by kernel_rfl)) rfl ?_
  exact ⟨_, eqE, Kd.R_g (Kd.R_mono (rF HO193 BK188) (fun _ _ => trivial)), bel_g HB.out⟩
 ·replace c3 := Bool.eq_false_iff.mpr c3
  subst c3
  replace H := ifF H
  simp only [Option.some.injEq, Prod.mk.injEq] at H
  obtain ⟨rfl, rfl, rfl⟩ := H
  go_enter Tryd.func7, Tryd.ntmps7
  go_wp2_with (first | ((with_reducible refine gate_dst (N := 2) rfl ?_); refine boxG HB #[.int .i64 0, .slice none 0 0] 27 ?_; intro gb188 hg w9 BK188 GE188 hb; replace HB := bst HB hb; clear hb hg) | ((with_reducible refine gate_callee (f := 25) rfl ?_); refine goesQ (some 5) Tryd.func25 #[.slice A0 l0.length c0] ?_; (with_reducible refine (spec_IsStair.calls k _ _ l0 false _ ?_ ?_ A2.out).mono ?_); exact C_g HR0 HB; exact HC0.out; rintro e w' ⟨rfl, ⟨nd, rfl⟩⟩; refine ⟨_, rfl, ?_⟩; (try (rw [drewN_self w9]; generalize hq_ : World.drewN w9 _ = w9; have n0_ : Fc (w9.heap[gb188]? = some (.cells #[.int .i64 0, .slice none 0 0] 27 (0, 0))) := ⟨by rw [← hq_]; exact (blk_g BK188.out)⟩; have n1_ : Fc (Below w.heap.size w w9) := ⟨by rw [← hq_]; exact (bel_g HB.out)⟩; clear BK188 HB hq_; have BK188 := n0_; have HB := n1_; clear n0_ n1_)); obtain ⟨_, _, _, _⟩ := blk2 BK188))
  refine bodyPost_ret (results_ct rfl _ _ gb188 27 #[.int .i64 0, .slice none 0 0] (0, 0) _ rfl (blkT BK188) Tryd.underlying27 rfl (by kernel_rfl)) rfl ?_
  exact ⟨_, eqE, nilE, bel_g HB.out⟩
def laws_vSame.l0 : Nat → List Int → List Int → Int → Int → Option (Bool)
 | 0, _, _, _, _ => none
 | k + 1, x0, x1, x12, x13 => if x13 < x12 then (if 0 ≤ x13 then (if x13 < (x0.length : Int) then (if x13 < (x1.length : Int) then (if (rd x0 x13) = (rd x1 x13) then (laws_vSame.l0 k x0 x1 x12 (wrap64 (x13 + 1))) else (some false)) else (none)) else (none)) else (none)) else (some true)
def laws_vSame.f (k : Nat) (l0 : List Int) (l1 : List Int) : Option (Bool) := if (l0.length : Int) = (l1.length : Int) then (laws_vSame.l0 k l0 l1 (l0.length : Int) 0) else (some false)
theorem laws_vSame.mono_l : ∀ k, (∀ y0 y1 y2 y3, LeO (laws_vSame.l0 k y0 y1 y2 y3) (laws_vSame.l0 (k + 1) y0 y1 y2 y3))
 | 0 => fun _ _ _ _ r h => by simp [laws_vSame.l0] at h
 | k + 1 => by
  have ih0 := laws_vSame.mono_l k
  ·intro y0 y1 y2 y3
   unfold laws_vSame.l0
   repeat' (with_reducible first|apply ih0|apply LeO.refl|apply LeO.none|apply LeO.ite|apply LeO.bind|intro)
theorem laws_vSame.mono : ∀ a0 a1 k, LeO (laws_vSame.f k a0 a1) (laws_vSame.f (k + 1) a0 a1) := by
 intro a0 a1 k
 have ih0 := laws_vSame.mono_l k
 unfold laws_vSame.f
 repeat' (with_reducible first|apply ih0|apply LeO.refl|apply LeO.none|apply LeO.ite|apply LeO.bind|intro)
theorem laws_vSame.calls (k : Nat) (A0 : Option Addr) (c0 : Nat) (l0 : List Int) (A1 : Option Addr) (c1 : Nat) (l1 : List Int) (r : Bool) (w : World) (hr0 : Kd.C (Kd.int .i64) w A0 l0.length l0) (hc0 : l0.length ≤ c0) (hr1 : Kd.C (Kd.int .i64) w A1 l1.length l1) (hc1 : l1.length ≤ c1) (h : laws_vSame.f k l0 l1 = some r) :
  Calls Tryd.prog 13 #[.slice A0 l0.length c0, .slice A1 l1.length c1] w fun e w' => e = .returned (.bool r) ∧ Drawn0 w w' := by
 have HR0 := mkA hr0
 have HC0 := mkA hc0
 clear hr0 hc0
 have HR1 := mkA hr1
 have HC1 := mkA hc1
 clear hr1 hc1
 have H := h
 clear h
 unfold laws_vSame.f at H
 rcases iteP H with ⟨c3, H⟩ | ⟨c3, H⟩
 ·have c3b0 := beq_iff_eq.mpr c3
  have c3b1 := bne_eq_false_iff_eq.mpr c3
  have c3b2 : (l0.length == l1.length) = true := by first | simpa using c3 | (simp at c3 ⊢; omega)
  clear c3
  have H' := mkA H
  clear H
  go_enter Tryd.func13, Tryd.ntmps13
  go_wp2
  repeat (go_quiet (fail); try go_wp2)
  go_loopg [13] k (fun kq v13 w' => ∃ (x13_1 : Int), v13 = .int .i64 x13_1 ∧ Fc (laws_vSame.l0 kq l0 l1 (l0.length : Int) x13_1 = some r) ∧ Fc (kq ≤ k) ∧ Drawn0 w w')
  case atStart => exact ⟨(0), eqS, H', ⟨Nat.le_refl _⟩, by repeat (first | exact Drawn0.refl _ | apply Drawn0.step)⟩
  case round =>
   clear H'
   try clear c1
   try clear c3
   try clear c3b0
   try clear c3b1
   try clear c3b2
   obtain ⟨x13_1, rfl, HA, HK1, ⟨m1, rfl⟩⟩ := hrel
   cases gk with
   | zero => exact absurd HA.out (by simp [laws_vSame.l0])
   | succ k1 =>
    have H := HA.out
    clear HA
    simp only [laws_vSame.l0] at H
    rcases iteE H with ⟨c4b0, H⟩ | ⟨c4b0, H⟩
    ·obtain ⟨c5b0, H⟩ := itND H
     obtain ⟨c6b0, H⟩ := itND H
     obtain ⟨c7b0, H⟩ := itND H
     rcases iteP H with ⟨c8, H⟩ | ⟨c8, H⟩
     ·have c8b0 := beq_iff_eq.mpr c8
      have c8b1 := bne_eq_false_iff_eq.mpr c8
      clear c8
      have H' := mkA H
      clear H
      obtain ⟨p194, q194, ad194, e194, hx194_0⟩ := atI HR0.out x13_1
      cases e194
      obtain ⟨p195, q195, ad195, e195, hx195_0⟩ := atI HR1.out x13_1
      cases e195
      go_wp2
      repeat (go_quiet (fail); try go_wp2)
      go_roundg k1
      case measure => have := HK1.out; omega
      case rel => exact ⟨(wrap64 (x13_1 + 1)), eqS, H', ⟨by have := HK1.out; omega⟩, by repeat (first | exact Drawn0.refl _ | apply Drawn0.step)⟩
     ·have c8b0 := beq_eq_false_iff_ne.mpr c8
      have c8b1 := bne_iff_ne.mpr c8
      obtain rfl := Option.some.inj H
      obtain ⟨p194, q194, ad194, e194, hx194_0⟩ := atI HR0.out x13_1
      cases e194
      obtain ⟨p195, q195, ad195, e195, hx195_0⟩ := atI HR1.out x13_1
      cases e195
      go_wp2
      repeat (go_quiet (fail); try go_wp2)
      go_ret
      exact ⟨eqS, drE⟩
    ·obtain rfl := Option.some.inj H
     go_wp2
     repeat (go_quiet (fail); try go_wp2)
     go_ret
     exact ⟨eqS, drE⟩
 ·have c3b0 := beq_eq_false_iff_ne.mpr c3
  have c3b1 := bne_iff_ne.mpr c3
  have c3b2 : (l0.length == l1.length) = false := by first | simpa using c3 | (simp at c3 ⊢; omega)
  obtain rfl := Option.some.inj H
  go_enter Tryd.func13, Tryd.ntmps13
  go_wp2
  repeat (go_quiet (fail); try go_wp2)
  go_ret
  exact ⟨eqS, drE⟩
def laws_vOrder.f (k : Nat) (a0_0 : Int) (l0_1 : List Int) (a1_0 : Int) (l1_1 : List Int) : Option (Bool) := if a0_0 = a1_0 then ((laws_vSame.f k l0_1 l1_1).bind fun t198 => (some t198)) else (some false)
theorem laws_vOrder.mono : ∀ a0 a1 a2 a3 k, LeO (laws_vOrder.f k a0 a1 a2 a3) (laws_vOrder.f (k + 1) a0 a1 a2 a3) := by
 intro a0 a1 a2 a3 k
 unfold laws_vOrder.f
 repeat' (with_reducible first|apply laws_vSame.mono|apply LeO.refl|apply LeO.none|apply LeO.ite|apply LeO.bind|intro)
theorem laws_vOrder.calls (k : Nat) (a0_0 : Int) (A0_1 : Option Addr) (c0_1 : Nat) (l0_1 : List Int) (a1_0 : Int) (A1_1 : Option Addr) (c1_1 : Nat) (l1_1 : List Int) (r : Bool) (w : World) (hr0_1 : Kd.C (Kd.int .i64) w A0_1 l0_1.length l0_1) (hc0_1 : l0_1.length ≤ c0_1) (hr1_1 : Kd.C (Kd.int .i64) w A1_1 l1_1.length l1_1) (hc1_1 : l1_1.length ≤ c1_1) (h : laws_vOrder.f k a0_0 l0_1 a1_0 l1_1 = some r) :
  Calls Tryd.prog 8 #[.agg #[.int .i64 a0_0, .slice A0_1 l0_1.length c0_1], .agg #[.int .i64 a1_0, .slice A1_1 l1_1.length c1_1]] w fun e w' => e = .returned (.bool r) ∧ Below w.heap.size w w' := by
 have hu27 := Tryd.underlying27
 have HR0_1 := mkA hr0_1
 have HC0_1 := mkA hc0_1
 clear hr0_1 hc0_1
 have HR1_1 := mkA hr1_1
 have HC1_1 := mkA hc1_1
 clear hr1_1 hc1_1
 have HB := mkA (Below.refl w.heap.size w)
 have H := h
 clear h
 unfold laws_vOrder.f at H
 rcases iteP H with ⟨c3, H⟩ | ⟨c3, H⟩
 ·have c3b0 := beq_iff_eq.mpr c3
  have c3b1 := bne_eq_false_iff_eq.mpr c3
  clear c3
  obtain ⟨t198, A4, H⟩ := obE H
  obtain rfl := Option.some.inj H
  go_enter Tryd.func8, Tryd.ntmps8
  go_wp2_with (first | ((with_reducible refine gate_dst (N := 2) rfl ?_); refine boxG HB #[.int .i64 a0_0, .slice A0_1 l0_1.length c0_1] 27 ?_; intro gb196 hg w5 BK196 GE196 hb; replace HB := bst HB hb; clear hb hg) | ((with_reducible refine gate_dst (N := 3) rfl ?_); refine boxG HB #[.int .i64 a1_0, .slice A1_1 l1_1.length c1_1] 27 ?_; intro gb197 hg w6 BK197 GE197 hb; have NB196_197 := neL7 BK196 hg; have NB197_196 := neR7 BK196 hg; replace BK196 := blkB BK196 hb; replace HB := bst HB hb; clear hb hg; obtain ⟨_, _, _, _⟩ := blk2 BK196; obtain ⟨_, _, _, _⟩ := blk2 BK197) | (go_at_call 13; (with_reducible refine (laws_vSame.calls k _ _ l0_1 _ _ l1_1 t198 _ ?_ ?_ ?_ ?_ A4.out).mono ?_); exact C_g HR0_1 HB; exact HC0_1.out; exact C_g HR1_1 HB; exact HC1_1.out; rintro e w' ⟨rfl, ⟨nd, rfl⟩⟩))
  go_ret
  exact ⟨eqE, bel_g HB.out⟩
 ·have c3b0 := beq_eq_false_iff_ne.mpr c3
  have c3b1 := bne_iff_ne.mpr c3
  obtain rfl := Option.some.inj H
  go_enter Tryd.func8, Tryd.ntmps8
  go_wp2_with (first | ((with_reducible refine gate_dst (N := 2) rfl ?_); refine boxG HB #[.int .i64 a0_0, .slice A0_1 l0_1.length c0_1] 27 ?_; intro gb196 hg w10 BK196 GE196 hb; replace HB := bst HB hb; clear hb hg) | ((with_reducible refine gate_dst (N := 3) rfl ?_); refine boxG HB #[.int .i64 a1_0, .slice A1_1 l1_1.length c1_1] 27 ?_; intro gb197 hg w11 BK197 GE197 hb; have NB196_197 := neL7 BK196 hg; have NB197_196 := neR7 BK196 hg; replace BK196 := blkB BK196 hb; replace HB := bst HB hb; clear hb hg; obtain ⟨_, _, _, _⟩ := blk2 BK196; obtain ⟨_, _, _, _⟩ := blk2 BK197))
  go_ret
  exact ⟨eqE, bel_g HB.out⟩
end Go.Proofs.YtcalgdljcphjaaaDoor.Q
