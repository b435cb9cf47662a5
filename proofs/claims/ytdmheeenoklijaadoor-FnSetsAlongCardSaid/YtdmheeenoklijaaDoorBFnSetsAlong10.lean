import Derived.Test.YtdmheeenoklijaaDoorBFnSetsAlong9
namespace Go.Proofs.YtdmheeenoklijaaDoor.Q
open Go.RowKit Go.Proofs.YtdmheeenoklijaaDoorW.PrintWords Go.Proofs.YtdmheeenoklijaaDoorW.PrintLast Go.Proofs.YtdmheeenoklijaaDoorW.PrintMore
attribute [local go_sem] max2_int min2_int max_two min_two max_three min_three max_four min_four neB_f
set_option linter.unusedVariables false
set_option maxHeartbeats 8000000
set_option maxRecDepth 100000
set_option linter.unusedSimpArgs false
def spec_ivGood.l0 : Nat → List (S39) → List (S39) → Int → Int → Option (Bool)
 | 0, _, _, _, _ => none
 | k + 1, x0, x5, x6, x7 => if x7 < x6 then (if 0 ≤ x7 then (if x7 < (x5.length : Int) then ((spec_l1In.f ((rd_T39 x5 x7).f0) (-1000) ((rd_T39 x5 x7).f1)).bind fun t150 => (if t150 = true then (if ((rd_T39 x5 x7).f1) > 1000 then (some false) else (spec_ivGood.l0 k x0 x5 x6 (wrap64 (x7 + 1)))) else (some false))) else (none)) else (none)) else (some (decide ((x0.length : Int) ≤ 10)))
def spec_ivGood.f (k : Nat) (l0 : List (S39)) : Option (Bool) := spec_ivGood.l0 k l0 l0 (l0.length : Int) 0
theorem spec_ivGood.mono_l : ∀ k, (∀ y0 y1 y2 y3, LeO (spec_ivGood.l0 k y0 y1 y2 y3) (spec_ivGood.l0 (k + 1) y0 y1 y2 y3))
 | 0 => fun _ _ _ _ r h => by simp [spec_ivGood.l0] at h
 | k + 1 => by
  have ih0 := spec_ivGood.mono_l k
  ·intro y0 y1 y2 y3
   unfold spec_ivGood.l0
   repeat' (with_reducible first|apply ih0|apply LeO.refl|apply LeO.none|apply LeO.ite|apply LeO.bind|intro)
theorem spec_ivGood.mono : ∀ a0 k, LeO (spec_ivGood.f k a0) (spec_ivGood.f (k + 1) a0) := by
 intro a0 k
 have ih0 := spec_ivGood.mono_l k
 unfold spec_ivGood.f
 repeat' (with_reducible first|apply ih0|apply LeO.refl|apply LeO.none|apply LeO.ite|apply LeO.bind|intro)
theorem spec_ivGood.calls (k : Nat) (A0 : Option Addr) (c0 : Nat) (l0 : List (S39)) (r : Bool) (w : World) (hr0 : Kd.C k39 w A0 l0.length l0) (hc0 : l0.length ≤ c0) (h : spec_ivGood.f k l0 = some r) :
  Calls Tryd.prog 43 #[.slice A0 l0.length c0] w fun e w' => e = .returned (.bool r) ∧ Below w.heap.size w w' := by
 have hu39 := Tryd.underlying39
 have HR0 := mkA hr0
 have HC0 := mkA hc0
 clear hr0 hc0
 have HB := mkA (Below.refl w.heap.size w)
 have H := h
 clear h
 unfold spec_ivGood.f at H
 have H' := mkA H
 clear H
 go_enter Tryd.func43, Tryd.ntmps43
 go_wp2
 go_loopg [7] k (fun kq v7 w' => ∃ (x7_1 : Int), v7 = .int .i64 x7_1 ∧ Fc (spec_ivGood.l0 kq l0 l0 (l0.length : Int) x7_1 = some r) ∧ Fc (kq ≤ k) ∧ Fc (Below w.heap.size w w'))
 case atStart => exact ⟨(0), eqS, H', ⟨Nat.le_refl _⟩, hbg HB⟩
 case round =>
  clear H'
  obtain ⟨x7_1, rfl, HA, HK1, HB⟩ := hrel
  cases gk with
  | zero => exact absurd HA.out (by simp [spec_ivGood.l0])
  | succ k1 =>
   have H := HA.out
   clear HA
   simp only [spec_ivGood.l0] at H
   rcases iteE H with ⟨c2b0, H⟩ | ⟨c2b0, H⟩
   ·obtain ⟨c3b0, H⟩ := itND H
    obtain ⟨c4b0, H⟩ := itND H
    obtain ⟨t150, A5, H⟩ := obE H
    by_cases c6 : t150 = true
    ·subst c6
     replace H := ifT H
     rcases iteP H with ⟨c7, H⟩ | ⟨c7, H⟩
     ·have c7b0 := decide_eq_true c7
      clear c7
      obtain rfl := Option.some.inj H
      have p148 : 0 ≤ (x7_1 : Int) := ofd
      have q148 : x7_1 < (l0.length : Int) := ofd
      obtain ⟨ad148, e148, hx148_0, hx148_1⟩ := at_T39 HR0.out x7_1 p148 q148
      cases e148
      replace hx148_0 := (HB.out.cell (World.block_lt_of_cell? w _ hx148_0)).trans hx148_0
      replace hx148_1 := (HB.out.cell (World.block_lt_of_cell? w _ hx148_1)).trans hx148_1
      replace p148 := eq_true p148
      replace q148 := eq_true q148
      go_wp2_with (first | ((with_reducible refine gate_dst (N := 4) rfl ?_); refine boxG HB #[.int .i64 0, .int .i64 0] 39 ?_; intro gb149 hg w8 BK149 GE149 hb; replace HB := bst HB hb; clear hb hg; obtain ⟨_, _, _, _⟩ := blk2 BK149) | ((with_reducible refine gate_callee (f := 50) rfl ?_); refine goesQ (some 15) Tryd.func50 #[.int .i64 ((rd_T39 l0 x7_1).f0), .int .i64 (-1000), .int .i64 ((rd_T39 l0 x7_1).f1)] ?_; (with_reducible refine (spec_l1In.calls ((rd_T39 l0 x7_1).f0) (-1000) ((rd_T39 l0 x7_1).f1) true _ A5.out).mono ?_); rintro e w' ⟨rfl, ⟨nd, rfl⟩⟩; refine ⟨_, rfl, ?_⟩))
      go_ret
      exact ⟨eqE, bel_g HB.out⟩
     ·have c7b0 := decide_eq_false c7
      clear c7
      have H' := mkA H
      clear H
      have p148 : 0 ≤ (x7_1 : Int) := ofd
      have q148 : x7_1 < (l0.length : Int) := ofd
      obtain ⟨ad148, e148, hx148_0, hx148_1⟩ := at_T39 HR0.out x7_1 p148 q148
      cases e148
      replace hx148_0 := (HB.out.cell (World.block_lt_of_cell? w _ hx148_0)).trans hx148_0
      replace hx148_1 := (HB.out.cell (World.block_lt_of_cell? w _ hx148_1)).trans hx148_1
      replace p148 := eq_true p148
      replace q148 := eq_true q148
      go_wp2_with (first | ((with_reducible refine gate_dst (N := 4) rfl ?_); refine boxG HB #[.int .i64 0, .int .i64 0] 39 ?_; intro gb149 hg w10 BK149 GE149 hb; replace HB := bst HB hb; clear hb hg; obtain ⟨_, _, _, _⟩ := blk2 BK149) | ((with_reducible refine gate_callee (f := 50) rfl ?_); refine goesQ (some 15) Tryd.func50 #[.int .i64 ((rd_T39 l0 x7_1).f0), .int .i64 (-1000), .int .i64 ((rd_T39 l0 x7_1).f1)] ?_; (with_reducible refine (spec_l1In.calls ((rd_T39 l0 x7_1).f0) (-1000) ((rd_T39 l0 x7_1).f1) true _ A5.out).mono ?_); rintro e w' ⟨rfl, ⟨nd, rfl⟩⟩; refine ⟨_, rfl, ?_⟩))
      go_roundg k1
      case measure => have := HK1.out; omega
      case rel => exact ⟨(wrap64 (x7_1 + 1)), eqS, H', ⟨by have := HK1.out; omega⟩, hbg HB⟩
    ·replace c6 := Bool.eq_false_iff.mpr c6
     subst c6
     replace H := ifF H
     obtain rfl := Option.some.inj H
     have p148 : 0 ≤ (x7_1 : Int) := ofd
     have q148 : x7_1 < (l0.length : Int) := ofd
     obtain ⟨ad148, e148, hx148_0, hx148_1⟩ := at_T39 HR0.out x7_1 p148 q148
     cases e148
     replace hx148_0 := (HB.out.cell (World.block_lt_of_cell? w _ hx148_0)).trans hx148_0
     replace hx148_1 := (HB.out.cell (World.block_lt_of_cell? w _ hx148_1)).trans hx148_1
     replace p148 := eq_true p148
     replace q148 := eq_true q148
     go_wp2_with (first | ((with_reducible refine gate_dst (N := 4) rfl ?_); refine boxG HB #[.int .i64 0, .int .i64 0] 39 ?_; intro gb149 hg w12 BK149 GE149 hb; replace HB := bst HB hb; clear hb hg; obtain ⟨_, _, _, _⟩ := blk2 BK149) | ((with_reducible refine gate_callee (f := 50) rfl ?_); refine goesQ (some 15) Tryd.func50 #[.int .i64 ((rd_T39 l0 x7_1).f0), .int .i64 (-1000), .int .i64 ((rd_T39 l0 x7_1).f1)] ?_; (with_reducible refine (spec_l1In.calls ((rd_T39 l0 x7_1).f0) (-1000) ((rd_T39 l0 x7_1).f1) false _ A5.out).mono ?_); rintro e w' ⟨rfl, ⟨nd, rfl⟩⟩; refine ⟨_, rfl, ?_⟩))
     go_ret
     exact ⟨eqE, bel_g HB.out⟩
   ·obtain rfl := Option.some.inj H
    go_wp2
    go_ret
    exact ⟨eqE, bel_g HB.out⟩
mutual
def spec_ivOrder.l0 : Nat → List (S39) → List (S39) → Int → Int → Int → List Int → Option (Int × List Int)
 | 0, _, _, _, _, _, _ => none
 | k + 1, x0, x12, x13, x14, x153000, x153001 => if x14 < x13 then (if 0 ≤ x14 then (if x14 < (x12.length : Int) then (spec_ivOrder.l1 k x0 0 x12 x13 x14 x0 (x0.length : Int) 0 x153000 x153001 ((rd_T39 x12 x14).f0) ((rd_T39 x12 x14).f1)) else (none)) else (none)) else (some (x153000, x153001))
def spec_ivOrder.l1 : Nat → List (S39) → Int → List (S39) → Int → Int → List (S39) → Int → Int → Int → List Int → Int → Int → Option (Int × List Int)
 | 0, _, _, _, _, _, _, _, _, _, _, _, _ => none
 | k + 1, x0, x6, x12, x13, x14, x18, x19, x20, x153000, x153001, x155000, x155001 => if x20 < x19 then (if 0 ≤ x20 then (if x20 < (x18.length : Int) then (if x155001 < ((rd_T39 x18 x20).f0) then (spec_ivOrder.l1 k x0 (Go.bits .or .i64 x6 (shl .i64 1 x20)) x12 x13 x14 x18 x19 (wrap64 (x20 + 1)) x153000 x153001 x155000 x155001) else (spec_ivOrder.l1 k x0 x6 x12 x13 x14 x18 x19 (wrap64 (x20 + 1)) x153000 x153001 x155000 x155001)) else (none)) else (none)) else (if x153001.length < 17592186044416 then (spec_ivOrder.l0 k x0 x12 x13 (wrap64 (x14 + 1)) x153000 (x153001 ++ [x6])) else (none))
end
def spec_ivOrder.f (k : Nat) (l0 : List (S39)) : Option (Int × List Int) := spec_ivOrder.l0 k l0 l0 (l0.length : Int) 0 (l0.length : Int) ([] : List Int)
theorem spec_ivOrder.mono_l : ∀ k, (∀ y0 y1 y2 y3 y4 y5, LeO (spec_ivOrder.l0 k y0 y1 y2 y3 y4 y5) (spec_ivOrder.l0 (k + 1) y0 y1 y2 y3 y4 y5)) ∧ (∀ y0 y1 y2 y3 y4 y5 y6 y7 y8 y9 y10 y11, LeO (spec_ivOrder.l1 k y0 y1 y2 y3 y4 y5 y6 y7 y8 y9 y10 y11) (spec_ivOrder.l1 (k + 1) y0 y1 y2 y3 y4 y5 y6 y7 y8 y9 y10 y11))
 | 0 => ⟨fun _ _ _ _ _ _ r h => by simp [spec_ivOrder.l0] at h, fun _ _ _ _ _ _ _ _ _ _ _ _ r h => by simp [spec_ivOrder.l1] at h⟩
 | k + 1 => by
  obtain ⟨ih0, ih1⟩ := spec_ivOrder.mono_l k
  refine ⟨?_, ?_⟩ <;> intros
  unfold spec_ivOrder.l0
  rotate_left
  unfold spec_ivOrder.l1
  rotate_left
  all_goals repeat' (with_reducible first|apply ih0|apply ih1|apply LeO.refl|apply LeO.none|apply LeO.ite|apply LeO.bind|intro)
theorem spec_ivOrder.mono : ∀ a0 k, LeO (spec_ivOrder.f k a0) (spec_ivOrder.f (k + 1) a0) := by
 intro a0 k
 obtain ⟨ih0, ih1⟩ := spec_ivOrder.mono_l k
 unfold spec_ivOrder.f
 repeat' (with_reducible first|apply ih0|apply ih1|apply LeO.refl|apply LeO.none|apply LeO.ite|apply LeO.bind|intro)
theorem spec_ivOrder.calls (k : Nat) (A0 : Option Addr) (c0 : Nat) (l0 : List (S39)) (r1 : Int) (r2 : List Int) (w : World) (hr0 : Kd.C k39 w A0 l0.length l0) (hc0 : l0.length ≤ c0) (h : spec_ivOrder.f k l0 = some (r1, r2)) :
  Calls Tryd.prog 44 #[.slice A0 l0.length c0] w fun e w' => ∃ v1_ : Value, e = .returned (.agg #[.int .i64 r1, v1_]) ∧ Kd.R (Kd.int .i64) 3 w' w.heap.size (fun _ => True) v1_ r2 ∧ Below w.heap.size w w' := by
 have hu26 := Tryd.underlying26
 have hu39 := Tryd.underlying39
 have HR0 := mkA hr0
 have HC0 := mkA hc0
 clear hr0 hc0
 have HB := mkA (Below.refl w.heap.size w)
 have H := h
 clear h
 unfold spec_ivOrder.f at H
 have H' := mkA H
 clear H
 go_enter Tryd.func44, Tryd.ntmps44
 go_wp2_with (first | ((with_reducible refine gate_dst (N := 2) rfl ?_); refine boxG HB #[.int .i64 0, .slice none 0 0] 26 ?_; intro gb151 hg w2 BK151 GE151 hb; replace HB := bst HB hb; clear hb hg) | ((with_reducible refine gate_dst (N := 3) rfl ?_); refine boxG HB #[.int .i64 0, .slice none 0 0] 26 ?_; intro gb152 hg w3 BK152 GE152 hb; have NB151_152 := neL7 BK151 hg; have NB152_151 := neR7 BK151 hg; replace BK151 := blkB BK151 hb; replace HB := bst HB hb; clear hb hg; obtain ⟨_, _, _, _⟩ := blk2 BK152))
 go_loopg [14] k (fun kq v14 w' => ∃ (x14_1 : Int) (x153001_1 : List Int) (u153001 : Value), v14 = .int .i64 x14_1 ∧ Fc (spec_ivOrder.l0 kq l0 l0 (l0.length : Int) x14_1 (l0.length : Int) x153001_1 = some (r1, r2)) ∧ Fc (kq ≤ k) ∧ Fc (Kd.R (Kd.int .i64) 3 w' w.heap.size (fun _ => True) u153001 x153001_1) ∧ Fc (w'.heap[gb151]? = some (.cells #[.int .i64 0, (.slice none 0 0)] 26 (0, 0))) ∧ Fc (w'.heap[gb152]? = some (.cells #[.int .i64 (l0.length : Int), u153001] 26 (0, 0))) ∧ Fc (Below w.heap.size w w'))
 case atStart => exact ⟨(0), (([] : List Int)), (.slice none 0 0), eqS, H', ⟨Nat.le_refl _⟩, ⟨nilE⟩, ⟨blkT BK151⟩, ⟨blkT BK152⟩, hbg HB⟩
 case round =>
  clear H'
  obtain ⟨x14_1, x153001_1, u153001, rfl, HA, HK1, HO_153001, BK151, BK152, HB⟩ := hrel
  cases gk with
  | zero => exact absurd HA.out (by simp [spec_ivOrder.l0])
  | succ k1 =>
   have H := HA.out
   clear HA
   simp only [spec_ivOrder.l0] at H
   rcases iteE H with ⟨c6b0, H⟩ | ⟨c6b0, H⟩
   ·obtain ⟨c7b0, H⟩ := itND H
    obtain ⟨c8b0, H⟩ := itND H
    have H' := mkA H
    clear H
    have p153 : 0 ≤ (x14_1 : Int) := ofd
    have q153 : x14_1 < (l0.length : Int) := ofd
    obtain ⟨ad153, e153, hx153_0, hx153_1⟩ := at_T39 HR0.out x14_1 p153 q153
    cases e153
    replace hx153_0 := (HB.out.cell (World.block_lt_of_cell? w _ hx153_0)).trans hx153_0
    replace hx153_1 := (HB.out.cell (World.block_lt_of_cell? w _ hx153_1)).trans hx153_1
    replace p153 := eq_true p153
    replace q153 := eq_true q153
    go_wp2_with (first | ((with_reducible refine gate_dst (N := 5) rfl ?_); refine boxG HB #[.int .i64 0, .int .i64 0] 39 ?_; intro gb154 hg w9 BK154 GE154 hb; replace HO_153001 := rB HO_153001 hb; have NB151_154 := neL7 BK151 hg; have NB154_151 := neR7 BK151 hg; replace BK151 := blkB BK151 hb; have NB152_154 := neL7 BK152 hg; have NB154_152 := neR7 BK152 hg; replace BK152 := blkB BK152 hb; replace HB := bst HB hb; clear hb hg; obtain ⟨_, _, _, _⟩ := blk2 BK154))
    go_loopg [6, 20] k1 (fun kq v6 v20 w' => ∃ (x6_2 : Int) (x20_2 : Int), v6 = .int .i64 x6_2 ∧ v20 = .int .i64 x20_2 ∧ Fc (spec_ivOrder.l1 kq l0 x6_2 l0 (l0.length : Int) x14_1 l0 (l0.length : Int) x20_2 (l0.length : Int) x153001_1 ((rd_T39 l0 x14_1).f0) ((rd_T39 l0 x14_1).f1) = some (r1, r2)) ∧ Fc (kq ≤ k1) ∧ Fc (Kd.R (Kd.int .i64) 3 w' w.heap.size (fun _ => True) u153001 x153001_1) ∧ Fc (w'.heap[gb151]? = some (.cells #[.int .i64 0, (.slice none 0 0)] 26 (0, 0))) ∧ Fc (w'.heap[gb152]? = some (.cells #[.int .i64 (l0.length : Int), u153001] 26 (0, 0))) ∧ Fc (w'.heap[gb154]? = some (.cells #[.int .i64 ((rd_T39 l0 x14_1).f0), .int .i64 ((rd_T39 l0 x14_1).f1)] 39 (0, 0))) ∧ Fc (Below w.heap.size w w'))
    case atStart => exact ⟨(0), (0), eqS, eqS, H', ⟨Nat.le_refl _⟩, ⟨Kd.R_g (Kd.R_mono (Kd.R_far (p := ⟨gb154, 1, none⟩) (Kd.R_far (p := ⟨gb154, 0, none⟩) (Kd.R_types HO_153001.out BK154.out (by decide)) (fun _ hk => hk.2) (.int .i64 ((rd_T39 l0 x14_1).f0))) (fun _ hk => hk.2) (.int .i64 ((rd_T39 l0 x14_1).f1))) (fun _ hk => trivial))⟩, ⟨blkT BK151⟩, ⟨blkT BK152⟩, ⟨blkT BK154⟩, hbg HB⟩
    case round =>
     clear H'
     try clear c6b0
     try clear c7
     try clear c7b0
     try clear c8
     try clear c8b0
     try clear hx153_0
     try clear hx153_1
     try clear p153
     try clear q153
     obtain ⟨x6_2, x20_2, rfl, rfl, HA, HK2, HO_153001, BK151, BK152, BK154, HB⟩ := hrel
     cases gk with
     | zero => exact absurd HA.out (by simp [spec_ivOrder.l1])
     | succ k2 =>
      have H := HA.out
      clear HA
      simp only [spec_ivOrder.l1] at H
      rcases iteE H with ⟨c13b0, H⟩ | ⟨c13b0, H⟩
      ·obtain ⟨c14b0, H⟩ := itND H
       obtain ⟨c15b0, H⟩ := itND H
       rcases iteE H with ⟨c16b0, H⟩ | ⟨c16b0, H⟩
       ·have c17b0 := eq_true (ofd : 0 ≤ x20_2)
        obtain ⟨ji18, hji18⟩ : ∃ j_ : Int, (shl .i64 1 x20_2) = j_ := ⟨_, rfl⟩
        first | rw [hji18] at H | simp only [hji18] at H
        have hji18_ : (IntKind.i64.wrap (1 * 2 ^ min x20_2.toNat 64)) = ji18 := hji18
        have hji18z : x20_2 ≤ 64 → (IntKind.i64.wrap (1 * 2 ^ x20_2.toNat)) = ji18 := shl_small hji18
        have hji18u : (IntKind.i64.wrap (2 ^ min x20_2.toNat 64)) = ji18 := by have h_ := hji18_; rw [Int.one_mul] at h_; exact h_
        have hji18v : x20_2 ≤ 64 → (IntKind.i64.wrap (2 ^ x20_2.toNat)) = ji18 := fun hle_ => by have h_ := hji18z hle_; rw [Int.one_mul] at h_; exact h_
        have hji18y : (wrap64 (1 * 2 ^ min x20_2.toNat 64)) = ji18 := (i64_w _).symm.trans hji18_
        have hji18x : x20_2 ≤ 64 → (wrap64 (1 * 2 ^ x20_2.toNat)) = ji18 := fun h_ => (i64_w _).symm.trans (hji18z h_)
        have H' := mkA H
        clear H
        have p155 : 0 ≤ (x20_2 : Int) := ofd
        have q155 : x20_2 < (l0.length : Int) := ofd
        obtain ⟨ad155, e155, hx155_0, hx155_1⟩ := at_T39 HR0.out x20_2 p155 q155
        obtain rfl : ad153 = ad155 := (by injection e155)
        replace hx155_0 := (HB.out.cell (World.block_lt_of_cell? w _ hx155_0)).trans hx155_0
        replace hx155_1 := (HB.out.cell (World.block_lt_of_cell? w _ hx155_1)).trans hx155_1
        replace p155 := eq_true p155
        replace q155 := eq_true q155
        go_wp2_with (first | ((with_reducible refine gate_dst (N := 8) rfl ?_); refine boxG HB #[.int .i64 0, .int .i64 0] 39 ?_; intro gb156 hg w19 BK156 GE156 hb; replace HO_153001 := rB HO_153001 hb; have NB151_156 := neL7 BK151 hg; have NB156_151 := neR7 BK151 hg; replace BK151 := blkB BK151 hb; have NB152_156 := neL7 BK152 hg; have NB156_152 := neR7 BK152 hg; replace BK152 := blkB BK152 hb; have NB154_156 := neL7 BK154 hg; have NB156_154 := neR7 BK154 hg; replace BK154 := blkB BK154 hb; replace HB := bst HB hb; clear hb hg; obtain ⟨_, _, _, _⟩ := blk2 BK156; obtain ⟨_, _, _, _⟩ := blk2 BK154))
        go_roundg k2
        case measure => have := HK1.out; have := HK2.out; omega
        case rel => exact ⟨(Go.bits .or .i64 x6_2 (ji18)), (wrap64 (x20_2 + 1)), (by first | rfl | (simp; done) | (simp only [← hji18] <;> (first | rfl | simp)) | (simp [*]; done)), eqS, H', ⟨by have := HK1.out; have := HK2.out; omega⟩, ⟨Kd.R_g (Kd.R_mono (Kd.R_far (p := ⟨gb156, 1, none⟩) (Kd.R_far (p := ⟨gb156, 0, none⟩) (Kd.R_types HO_153001.out BK156.out (by decide)) (fun _ hk => hk.2) (.int .i64 ((rd_T39 l0 x20_2).f0))) (fun _ hk => hk.2) (.int .i64 ((rd_T39 l0 x20_2).f1))) (fun _ hk => trivial))⟩, ⟨blkT BK151⟩, ⟨blkT BK152⟩, ⟨blkT BK154⟩, hbg HB⟩
       ·have H' := mkA H
        clear H
        have p155 : 0 ≤ (x20_2 : Int) := ofd
        have q155 : x20_2 < (l0.length : Int) := ofd
        obtain ⟨ad155, e155, hx155_0, hx155_1⟩ := at_T39 HR0.out x20_2 p155 q155
        obtain rfl : ad153 = ad155 := (by injection e155)
        replace hx155_0 := (HB.out.cell (World.block_lt_of_cell? w _ hx155_0)).trans hx155_0
        replace hx155_1 := (HB.out.cell (World.block_lt_of_cell? w _ hx155_1)).trans hx155_1
        replace p155 := eq_true p155
        replace q155 := eq_true q155
        go_wp2_with (first | ((with_reducible refine gate_dst (N := 8) rfl ?_); refine boxG HB #[.int .i64 0, .int .i64 0] 39 ?_; intro gb156 hg w27 BK156 GE156 hb; replace HO_153001 := rB HO_153001 hb; have NB151_156 := neL7 BK151 hg; have NB156_151 := neR7 BK151 hg; replace BK151 := blkB BK151 hb; have NB152_156 := neL7 BK152 hg; have NB156_152 := neR7 BK152 hg; replace BK152 := blkB BK152 hb; have NB154_156 := neL7 BK154 hg; have NB156_154 := neR7 BK154 hg; replace BK154 := blkB BK154 hb; replace HB := bst HB hb; clear hb hg; obtain ⟨_, _, _, _⟩ := blk2 BK156; obtain ⟨_, _, _, _⟩ := blk2 BK154))
        go_roundg k2
        case measure => have := HK1.out; have := HK2.out; omega
        case rel => exact ⟨(x6_2), (wrap64 (x20_2 + 1)), eqS, eqS, H', ⟨by have := HK1.out; have := HK2.out; omega⟩, ⟨Kd.R_g (Kd.R_mono (Kd.R_far (p := ⟨gb156, 1, none⟩) (Kd.R_far (p := ⟨gb156, 0, none⟩) (Kd.R_types HO_153001.out BK156.out (by decide)) (fun _ hk => hk.2) (.int .i64 ((rd_T39 l0 x20_2).f0))) (fun _ hk => hk.2) (.int .i64 ((rd_T39 l0 x20_2).f1))) (fun _ hk => trivial))⟩, ⟨blkT BK151⟩, ⟨blkT BK152⟩, ⟨blkT BK154⟩, hbg HB⟩
      ·obtain ⟨c35, H⟩ := itNP H
       have LMc35 := mkA c35
       clear c35
       obtain ⟨y157, hy157⟩ : ∃ y_ : List Int, y_ = (x153001_1 ++ [x6_2]) := ⟨_, rfl⟩
       rw [← hy157] at H
       have Ny157 := mkA hy157
       clear hy157
       have H' := mkA H
       clear H
       obtain ⟨_, _, _, _⟩ := blk2 BK152
       go_wp2_with (first | ((with_reducible refine gate_builtin (b := .append) (xs := #[.tmp 36, .tmp 38]) rfl ?_); at_builtin; refine Kd.R_append (Kd.int .i64) (w0 := w) w.heap.size rfl (.tmp 36) (.tmp 38) 24 3 (.int .i64 0) 8 rfl Tryd.underlying24 info3 rfl (by decide) (by omega) u153001 x153001_1 x6_2 [.int .i64 x6_2] (fun _ => True) (fun _ => False) rfl rfl ?aP (fun _ hk => hk.elim) ?aF ?aO ?aB ?aS ?aL ?_; (case aP => exact rfl); (case aB => exact (bel_g HB.out)); (case aF => exact (fun _ _ => trivial)); (case aO => exact (Kd.R_g HO_153001.out)); (case aS => exact (below_size (bel_g HB.out))); (case aL => have := LMc35.out; omega); intro v158 w39 ho hb hg hat; rw [← Ny157.out] at ho; replace BK151 := mkA (blk_grown (g := gb151) (o := .cells #[.int .i64 0, .slice none 0 0] 26 (0, 0)) (blk_g BK151.out) hg (Kd.R_ne HO_153001.out BK151.out (by decide))); replace BK152 := mkA (blk_grown (g := gb152) (o := .cells #[.int .i64 (l0.length : Int), u153001] 26 (0, 0)) (blk_g BK152.out) hg (Kd.R_ne HO_153001.out BK152.out (by decide))); replace BK154 := mkA (blk_grown (g := gb154) (o := .cells #[.int .i64 ((rd_T39 l0 x14_1).f0), .int .i64 ((rd_T39 l0 x14_1).f1)] 39 (0, 0)) (blk_g BK154.out) hg (Kd.R_ne HO_153001.out BK154.out (by decide))); have HO159 := mkA (ho); replace HB := mkA (hb); clear HO_153001; clear ho hb hg hat; obtain ⟨Ao40, co40, rfl⟩ := Kd.R_slice HO159.out; obtain ⟨_, _, _, _⟩ := blk2 BK152))
       go_roundg k2
       case measure => have := HK1.out; have := HK2.out; omega
       case rel => exact ⟨(wrap64 (x14_1 + 1)), (y157), (.slice Ao40 y157.length co40), eqS, H', ⟨by have := HK1.out; have := HK2.out; omega⟩, ⟨Kd.R_g (Kd.R_mono (Kd.R_far (p := ⟨gb152, 1, none⟩) (Kd.R_types HO159.out BK152.out (by decide)) (fun _ hk => hk.2) (.slice Ao40 y157.length co40)) (fun _ hk => trivial))⟩, ⟨blkT BK151⟩, ⟨blkT BK152⟩, hbg HB⟩
   ·simp only [Option.some.injEq, Prod.mk.injEq] at H
    obtain ⟨rfl, rfl⟩ := H
    obtain ⟨_, _, _, _⟩ := blk2 BK152
    obtain ⟨_, _, _, _⟩ := blk2 BK151
    obtain ⟨Ao45, co45, rfl⟩ := Kd.R_slice HO_153001.out
    go_wp2
    refine bodyPost_ret (results_cell_row rfl _ _ gb151 26 #[.int .i64 (l0.length : Int), .slice Ao45 x153001_1.length co45] (0, 0) _ rfl (blkT BK151) Tryd.underlying26 rfl (by kernel_rfl)) rfl ?_
    exact ⟨_, eqE, Kd.R_g (Kd.R_mono (rF HO_153001 BK151) (fun _ _ => trivial)), bel_g HB.out⟩
def spec_l1Cur_one.f (s0_0 : List Int) (s0_1 : Int) (s0_2 : Int) (a1 : Int) : Option (Bool × Int × Int) := (spec_l1Cur_pick.f s0_0 s0_1 s0_2 a1).bind fun bt160 => (some ((bt160.1 == 0), bt160.2.1, bt160.2.2))
theorem spec_l1Cur_one.calls (g : Nat) (s0_0 : List Int) (s0_1 : Int) (s0_2 : Int) (a1 : Int) (r1 : Bool) (r2 : Int) (r3 : Int) (w0 w : World) (hI : IsS55 w0 w g s0_0 s0_1 s0_2) (hB : Below w0.heap.size w0 w) (h : spec_l1Cur_one.f s0_0 s0_1 s0_2 a1 = some (r1, r2, r3)) :
  Calls Tryd.prog 54 #[.pointer (some ⟨g, 0, none⟩), .int .i64 a1] w fun e w' => e = .returned (.bool r1) ∧ IsS55 w0 w' g s0_0 r2 r3 ∧ Below w0.heap.size w0 w' ∧ KeepBut w w' g none := by
 have HI0 := mkA hI
 have HK := mkA (KeepBut.refl w g none)
 have HL := mkA hB.size
 clear hI
 have HW0 := mkA hB.size
 have HB := mkA hB
 clear hB
 have H := h
 clear h
 unfold spec_l1Cur_one.f at H
 obtain ⟨⟨t160, t161, t162⟩, A3, H⟩ := obE H
 dsimp only at H
 simp only [Option.some.injEq, Prod.mk.injEq] at H
 obtain ⟨rfl, rfl, rfl⟩ := H
 go_enter Tryd.func54, Tryd.ntmps54
 go_wp2_with (first | ((with_reducible refine gate_callee (f := 69) rfl ?_); refine goesQ (some 7) Tryd.func69 #[.pointer (some ⟨g, 0, none⟩), .int .i64 a1] ?_; (with_reducible refine (spec_l1Cur_pick.calls g s0_0 s0_1 s0_2 a1 t160 t161 t162 w0 _ ?_ ?_ A3.out).mono ?_); exact st55_0 HI0.out; exact bl55_0 HB.out HI0.out; rintro e w4 ⟨rfl, hi, hb, hk⟩; refine ⟨_, rfl, ?_⟩; replace HK := kT (by exact kb55_0 HK.out) hk; replace HI0 := mkA (hi); replace HB := mkA (hb); clear hb hk hi))
 go_ret
 exact ⟨eqE, by exact st55_0 HI0.out, by exact bl55_0 HB.out HI0.out, by exact kb55_0 HK.out⟩
def spec_orHas.f (a0 : Int) (a1 : Int) : Option (Bool) := if 0 ≤ a1 then (some ((Int.tmod (shr .i64 a0 a1) 2) == 1)) else (none)
theorem spec_orHas.calls (a0 : Int) (a1 : Int) (r : Bool) (w : World) (h : spec_orHas.f a0 a1 = some r) :
  Calls Tryd.prog 60 #[.int .i64 a0, .int .i64 a1] w fun e w' => e = .returned (.bool r) ∧ Drawn0 w w' := by
 have H := h
 clear h
 unfold spec_orHas.f at H
 obtain ⟨c3b0, c3b1, H⟩ := itNQ H
 obtain ⟨ji4, hji4⟩ : ∃ j_ : Int, (shr .i64 a0 a1) = j_ := ⟨_, rfl⟩
 first | rw [hji4] at H | simp only [hji4] at H
 have hji4_ : (a0 / 2 ^ min a1.toNat 64) = ji4 := hji4
 have hji4z : a1 ≤ 64 → (a0 / 2 ^ a1.toNat) = ji4 := shr_small hji4
 obtain rfl := Option.some.inj H
 go_enter Tryd.func60, Tryd.ntmps60
 go_wp2
 go_ret
 exact ⟨by first | rfl | (simp; done) | (simp only [← hji4] <;> (first | rfl | simp)) | (simp [*]; done), by repeat (first | exact Drawn0.refl _ | apply Drawn0.step)⟩
def spec_l1All.l0 : Nat → Int → Int → List Int → Int → Int → Option (Bool)
 | 0, _, _, _, _, _ => none
 | k + 1, x1, x2, x9, x10, x11 => if x11 < x10 then (if 0 ≤ x11 then (if x11 < (x9.length : Int) then ((spec_l1In.f (rd x9 x11) x1 x2).bind fun t164 => (if t164 = true then (spec_l1All.l0 k x1 x2 x9 x10 (wrap64 (x11 + 1))) else (some false))) else (none)) else (none)) else (some true)
def spec_l1All.f (k : Nat) (l0 : List Int) (a1 : Int) (a2 : Int) : Option (Bool) := spec_l1All.l0 k a1 a2 l0 (l0.length : Int) 0
theorem spec_l1All.mono_l : ∀ k, (∀ y0 y1 y2 y3 y4, LeO (spec_l1All.l0 k y0 y1 y2 y3 y4) (spec_l1All.l0 (k + 1) y0 y1 y2 y3 y4))
 | 0 => fun _ _ _ _ _ r h => by simp [spec_l1All.l0] at h
 | k + 1 => by
  have ih0 := spec_l1All.mono_l k
  ·intro y0 y1 y2 y3 y4
   unfold spec_l1All.l0
   repeat' (with_reducible first|apply ih0|apply LeO.refl|apply LeO.none|apply LeO.ite|apply LeO.bind|intro)
theorem spec_l1All.mono : ∀ a0 a1 a2 k, LeO (spec_l1All.f k a0 a1 a2) (spec_l1All.f (k + 1) a0 a1 a2) := by
 intro a0 a1 a2 k
 have ih0 := spec_l1All.mono_l k
 unfold spec_l1All.f
 repeat' (with_reducible first|apply ih0|apply LeO.refl|apply LeO.none|apply LeO.ite|apply LeO.bind|intro)
theorem spec_l1All.calls (k : Nat) (A0 : Option Addr) (c0 : Nat) (l0 : List Int) (a1 : Int) (a2 : Int) (r : Bool) (w : World) (hr0 : Kd.C (Kd.int .i64) w A0 l0.length l0) (hc0 : l0.length ≤ c0) (h : spec_l1All.f k l0 a1 a2 = some r) :
  Calls Tryd.prog 87 #[.slice A0 l0.length c0, .int .i64 a1, .int .i64 a2] w fun e w' => e = .returned (.bool r) ∧ Drawn0 w w' := by
 have HR0 := mkA hr0
 have HC0 := mkA hc0
 clear hr0 hc0
 have H := h
 clear h
 unfold spec_l1All.f at H
 have H' := mkA H
 clear H
 go_enter Tryd.func87, Tryd.ntmps87
 go_wp2
 go_loopg [11] k (fun kq v11 w' => ∃ (x11_1 : Int), v11 = .int .i64 x11_1 ∧ Fc (spec_l1All.l0 kq a1 a2 l0 (l0.length : Int) x11_1 = some r) ∧ Fc (kq ≤ k) ∧ Drawn0 w w')
 case atStart => exact ⟨(0), eqS, H', ⟨Nat.le_refl _⟩, by repeat (first | exact Drawn0.refl _ | apply Drawn0.step)⟩
 case round =>
  clear H'
  obtain ⟨x11_1, rfl, HA, HK1, ⟨m1, rfl⟩⟩ := hrel
  cases gk with
  | zero => exact absurd HA.out (by simp [spec_l1All.l0])
  | succ k1 =>
   have H := HA.out
   clear HA
   simp only [spec_l1All.l0] at H
   rcases iteE H with ⟨c4b0, H⟩ | ⟨c4b0, H⟩
   ·obtain ⟨c5b0, H⟩ := itND H
    obtain ⟨c6b0, H⟩ := itND H
    obtain ⟨t164, A7, H⟩ := obE H
    by_cases c8 : t164 = true
    ·subst c8
     replace H := ifT H
     have H' := mkA H
     clear H
     obtain ⟨p163, q163, ad163, e163, hx163_0⟩ := atI HR0.out x11_1
     cases e163
     go_wp2_with (first | ((with_reducible refine gate_callee (f := 50) rfl ?_); refine goesQ (some 18) Tryd.func50 #[.int .i64 (rd l0 x11_1), .int .i64 a1, .int .i64 a2] ?_; (with_reducible refine (spec_l1In.calls (rd l0 x11_1) a1 a2 true _ A7.out).mono ?_); rintro e w' ⟨rfl, ⟨nd, rfl⟩⟩; refine ⟨_, rfl, ?_⟩))
     go_roundg k1
     case measure => have := HK1.out; omega
     case rel => exact ⟨(wrap64 (x11_1 + 1)), eqS, H', ⟨by have := HK1.out; omega⟩, by repeat (first | exact Drawn0.refl _ | apply Drawn0.step)⟩
    ·replace c8 := Bool.eq_false_iff.mpr c8
     subst c8
     replace H := ifF H
     obtain rfl := Option.some.inj H
     obtain ⟨p163, q163, ad163, e163, hx163_0⟩ := atI HR0.out x11_1
     cases e163
     go_wp2_with (first | ((with_reducible refine gate_callee (f := 50) rfl ?_); refine goesQ (some 18) Tryd.func50 #[.int .i64 (rd l0 x11_1), .int .i64 a1, .int .i64 a2] ?_; (with_reducible refine (spec_l1In.calls (rd l0 x11_1) a1 a2 false _ A7.out).mono ?_); rintro e w' ⟨rfl, ⟨nd, rfl⟩⟩; refine ⟨_, rfl, ?_⟩))
     go_ret
     exact ⟨eqS, drE⟩
   ·obtain rfl := Option.some.inj H
    go_wp2
    go_ret
    exact ⟨eqS, drE⟩
end Go.Proofs.YtdmheeenoklijaaDoor.Q
