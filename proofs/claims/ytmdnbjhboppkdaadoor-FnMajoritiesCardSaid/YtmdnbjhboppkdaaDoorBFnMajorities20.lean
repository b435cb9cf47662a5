import Derived.Test.YtmdnbjhboppkdaaDoorBFnMajorities15
namespace Go.Proofs.YtmdnbjhboppkdaaDoor.Q
open Go.RowKit Go.Proofs.YtmdnbjhboppkdaaDoorW.PrintWords Go.Proofs.YtmdnbjhboppkdaaDoorW.PrintLast Go.Proofs.YtmdnbjhboppkdaaDoorW.PrintMore
attribute [local go_sem] max2_int min2_int max_two min_two max_three min_three max_four min_four neB_f
set_option linter.unusedVariables false
set_option maxHeartbeats 8000000
set_option maxRecDepth 100000
set_option linter.unusedSimpArgs false
mutual
def spec_weOrder.l0 : Nat → List Int → List Int → Int → Int → Int → List Int → Option (Int × List Int)
 | 0, _, _, _, _, _, _ => none
 | k + 1, x0, x12, x13, x14, x630000, x630001 => if x14 < x13 then (if 0 ≤ x14 then (if x14 < (x12.length : Int) then (spec_weOrder.l1 k x0 (rd x12 x14) 0 x12 x13 x14 x0 (x0.length : Int) 0 x630000 x630001) else (none)) else (none)) else (some (x630000, x630001))
def spec_weOrder.l1 : Nat → List Int → Int → Int → List Int → Int → Int → List Int → Int → Int → Int → List Int → Option (Int × List Int)
 | 0, _, _, _, _, _, _, _, _, _, _, _ => none
 | k + 1, x0, x5, x6, x12, x13, x14, x18, x19, x20, x630000, x630001 => if x20 < x19 then (if 0 ≤ x20 then (if x20 < (x18.length : Int) then (if (rd x18 x20) > x5 then (spec_weOrder.l1 k x0 x5 (Go.bits .or .i64 x6 (shl .i64 1 x20)) x12 x13 x14 x18 x19 (wrap64 (x20 + 1)) x630000 x630001) else (spec_weOrder.l1 k x0 x5 x6 x12 x13 x14 x18 x19 (wrap64 (x20 + 1)) x630000 x630001)) else (none)) else (none)) else (if x630001.length < 17592186044416 then (spec_weOrder.l0 k x0 x12 x13 (wrap64 (x14 + 1)) x630000 (x630001 ++ [x6])) else (none))
end
def spec_weOrder.f (k : Nat) (l0 : List Int) : Option (Int × List Int) := spec_weOrder.l0 k l0 l0 (l0.length : Int) 0 (l0.length : Int) ([] : List Int)
theorem spec_weOrder.mono_l : ∀ k, (∀ y0 y1 y2 y3 y4 y5, LeO (spec_weOrder.l0 k y0 y1 y2 y3 y4 y5) (spec_weOrder.l0 (k + 1) y0 y1 y2 y3 y4 y5)) ∧ (∀ y0 y1 y2 y3 y4 y5 y6 y7 y8 y9 y10, LeO (spec_weOrder.l1 k y0 y1 y2 y3 y4 y5 y6 y7 y8 y9 y10) (spec_weOrder.l1 (k + 1) y0 y1 y2 y3 y4 y5 y6 y7 y8 y9 y10))
 | 0 => ⟨fun _ _ _ _ _ _ r h => by simp [spec_weOrder.l0] at h, fun _ _ _ _ _ _ _ _ _ _ _ r h => by simp [spec_weOrder.l1] at h⟩
 | k + 1 => by
  obtain ⟨ih0, ih1⟩ := spec_weOrder.mono_l k
  refine ⟨?_, ?_⟩ <;> intros
  unfold spec_weOrder.l0
  rotate_left
  unfold spec_weOrder.l1
  rotate_left
  all_goals repeat' (with_reducible first|apply ih0|apply ih1|apply LeO.refl|apply LeO.none|apply LeO.ite|apply LeO.bind|intro)
theorem spec_weOrder.mono : ∀ a0 k, LeO (spec_weOrder.f k a0) (spec_weOrder.f (k + 1) a0) := by
 intro a0 k
 obtain ⟨ih0, ih1⟩ := spec_weOrder.mono_l k
 unfold spec_weOrder.f
 repeat' (with_reducible first|apply ih0|apply ih1|apply LeO.refl|apply LeO.none|apply LeO.ite|apply LeO.bind|intro)
theorem spec_weOrder.calls (k : Nat) (A0 : Option Addr) (c0 : Nat) (l0 : List Int) (r1 : Int) (r2 : List Int) (w : World) (hr0 : Kd.C (Kd.int .i64) w A0 l0.length l0) (hc0 : l0.length ≤ c0) (h : spec_weOrder.f k l0 = some (r1, r2)) :
  Calls Tryd.prog 69 #[.slice A0 l0.length c0] w fun e w' => ∃ v1_ : Value, e = .returned (.agg #[.int .i64 r1, v1_]) ∧ Kd.R (Kd.int .i64) 3 w' w.heap.size (fun _ => True) v1_ r2 ∧ Below w.heap.size w w' := by
 have hu28 := Tryd.underlying28
 have HR0 := mkA hr0
 have HC0 := mkA hc0
 clear hr0 hc0
 have HB := mkA (Below.refl w.heap.size w)
 have H := h
 clear h
 unfold spec_weOrder.f at H
 have H' := mkA H
 clear H
 go_enter Tryd.func69, Tryd.ntmps69
 go_wp2_with (first | ((with_reducible refine gate_dst (N := 2) rfl ?_); refine boxG HB #[.int .i64 0, .slice none 0 0] 28 ?_; intro gb628 hg w2 BK628 GE628 hb; replace HB := bst HB hb; clear hb hg) | ((with_reducible refine gate_dst (N := 3) rfl ?_); refine boxG HB #[.int .i64 0, .slice none 0 0] 28 ?_; intro gb629 hg w3 BK629 GE629 hb; have NB628_629 := neL7 BK628 hg; have NB629_628 := neR7 BK628 hg; replace BK628 := blkB BK628 hb; replace HB := bst HB hb; clear hb hg; obtain ⟨_, _, _, _⟩ := blk2 BK629))
 go_loopg [14] k (fun kq v14 w' => ∃ (x14_1 : Int) (x630001_1 : List Int) (u630001 : Value), v14 = .int .i64 x14_1 ∧ Fc (spec_weOrder.l0 kq l0 l0 (l0.length : Int) x14_1 (l0.length : Int) x630001_1 = some (r1, r2)) ∧ Fc (kq ≤ k) ∧ Fc (Kd.R (Kd.int .i64) 3 w' w.heap.size (fun _ => True) u630001 x630001_1) ∧ Fc (w'.heap[gb628]? = some (.cells #[.int .i64 0, (.slice none 0 0)] 28 (0, 0))) ∧ Fc (w'.heap[gb629]? = some (.cells #[.int .i64 (l0.length : Int), u630001] 28 (0, 0))) ∧ Fc (Below w.heap.size w w'))
 case atStart => exact ⟨(0), (([] : List Int)), (.slice none 0 0), eqS, H', ⟨Nat.le_refl _⟩, ⟨nilE⟩, ⟨blkT BK628⟩, ⟨blkT BK629⟩, hbg HB⟩
 case round =>
  clear H'
  obtain ⟨x14_1, x630001_1, u630001, rfl, HA, HK1, HO_630001, BK628, BK629, HB⟩ := hrel
  cases gk with
  | zero => exact absurd HA.out (by simp [spec_weOrder.l0])
  | succ k1 =>
   have H := HA.out
   clear HA
   simp only [spec_weOrder.l0] at H
   rcases iteE H with ⟨c6b0, H⟩ | ⟨c6b0, H⟩
   ·obtain ⟨c7b0, H⟩ := itND H
    obtain ⟨c8b0, H⟩ := itND H
    have H' := mkA H
    clear H
    obtain ⟨p630, q630, ad630, e630, hx630_0⟩ := atI HR0.out x14_1
    cases e630
    replace hx630_0 := (HB.out.cell (World.block_lt_of_cell? w _ hx630_0)).trans hx630_0
    go_wp2
    go_loopg [6, 20] k1 (fun kq v6 v20 w' => ∃ (x6_2 : Int) (x20_2 : Int), v6 = .int .i64 x6_2 ∧ v20 = .int .i64 x20_2 ∧ Fc (spec_weOrder.l1 kq l0 (rd l0 x14_1) x6_2 l0 (l0.length : Int) x14_1 l0 (l0.length : Int) x20_2 (l0.length : Int) x630001_1 = some (r1, r2)) ∧ Fc (kq ≤ k1) ∧ Fc (Kd.R (Kd.int .i64) 3 w' w.heap.size (fun _ => True) u630001 x630001_1) ∧ Fc (w'.heap[gb628]? = some (.cells #[.int .i64 0, (.slice none 0 0)] 28 (0, 0))) ∧ Fc (w'.heap[gb629]? = some (.cells #[.int .i64 (l0.length : Int), u630001] 28 (0, 0))) ∧ Fc (Below w.heap.size w w'))
    case atStart => exact ⟨(0), (0), eqS, eqS, H', ⟨Nat.le_refl _⟩, rg HO_630001, bg BK628, bg BK629, hbg HB⟩
    case round =>
     clear H'
     try clear c6b0
     try clear c7
     try clear c7b0
     try clear c8
     try clear c8b0
     try clear hx630_0
     try clear p630
     try clear q630
     obtain ⟨x6_2, x20_2, rfl, rfl, HA, HK2, HO_630001, BK628, BK629, HB⟩ := hrel
     cases gk with
     | zero => exact absurd HA.out (by simp [spec_weOrder.l1])
     | succ k2 =>
      have H := HA.out
      clear HA
      simp only [spec_weOrder.l1] at H
      rcases iteE H with ⟨c9b0, H⟩ | ⟨c9b0, H⟩
      ·obtain ⟨c10b0, H⟩ := itND H
       obtain ⟨c11b0, H⟩ := itND H
       rcases iteP H with ⟨c12, H⟩ | ⟨c12, H⟩
       ·have c12b0 := decide_eq_true c12
        clear c12
        have c13b0 := eq_true (ofd : 0 ≤ x20_2)
        obtain ⟨ji14, hji14⟩ : ∃ j_ : Int, (shl .i64 1 x20_2) = j_ := ⟨_, rfl⟩
        first | rw [hji14] at H | simp only [hji14] at H
        have hji14_ : (IntKind.i64.wrap (1 * 2 ^ min x20_2.toNat 64)) = ji14 := hji14
        have hji14z : x20_2 ≤ 64 → (IntKind.i64.wrap (1 * 2 ^ x20_2.toNat)) = ji14 := shl_small hji14
        have hji14u : (IntKind.i64.wrap (2 ^ min x20_2.toNat 64)) = ji14 := by have h_ := hji14_; rw [Int.one_mul] at h_; exact h_
        have hji14v : x20_2 ≤ 64 → (IntKind.i64.wrap (2 ^ x20_2.toNat)) = ji14 := fun hle_ => by have h_ := hji14z hle_; rw [Int.one_mul] at h_; exact h_
        have hji14y : (wrap64 (1 * 2 ^ min x20_2.toNat 64)) = ji14 := (i64_w _).symm.trans hji14_
        have hji14x : x20_2 ≤ 64 → (wrap64 (1 * 2 ^ x20_2.toNat)) = ji14 := fun h_ => (i64_w _).symm.trans (hji14z h_)
        have H' := mkA H
        clear H
        obtain ⟨p631, q631, ad631, e631, hx631_0⟩ := atI HR0.out x20_2
        obtain rfl : ad630 = ad631 := (by injection e631)
        replace hx631_0 := (HB.out.cell (World.block_lt_of_cell? w _ hx631_0)).trans hx631_0
        go_wp2
        go_roundg k2
        case measure => have := HK1.out; have := HK2.out; omega
        case rel => exact ⟨(Go.bits .or .i64 x6_2 (ji14)), (wrap64 (x20_2 + 1)), (by first | rfl | (simp; done) | (simp only [← hji14] <;> (first | rfl | simp)) | (simp [*]; done)), eqS, H', ⟨by have := HK1.out; have := HK2.out; omega⟩, rg HO_630001, bg BK628, bg BK629, hbg HB⟩
       ·have c12b0 := decide_eq_false c12
        clear c12
        have H' := mkA H
        clear H
        obtain ⟨p631, q631, ad631, e631, hx631_0⟩ := atI HR0.out x20_2
        obtain rfl : ad630 = ad631 := (by injection e631)
        replace hx631_0 := (HB.out.cell (World.block_lt_of_cell? w _ hx631_0)).trans hx631_0
        go_wp2
        go_roundg k2
        case measure => have := HK1.out; have := HK2.out; omega
        case rel => exact ⟨(x6_2), (wrap64 (x20_2 + 1)), eqS, eqS, H', ⟨by have := HK1.out; have := HK2.out; omega⟩, rg HO_630001, bg BK628, bg BK629, hbg HB⟩
      ·obtain ⟨c15, H⟩ := itNP H
       have LMc15 := mkA c15
       clear c15
       obtain ⟨y632, hy632⟩ : ∃ y_ : List Int, y_ = (x630001_1 ++ [x6_2]) := ⟨_, rfl⟩
       rw [← hy632] at H
       have Ny632 := mkA hy632
       clear hy632
       have H' := mkA H
       clear H
       obtain ⟨_, _, _, _⟩ := blk2 BK629
       go_wp2_with (first | ((with_reducible refine gate_builtin (b := .append) (xs := #[.tmp 34, .tmp 36]) rfl ?_); at_builtin; refine Kd.R_append (Kd.int .i64) (w0 := w) w.heap.size rfl (.tmp 34) (.tmp 36) 26 3 (.int .i64 0) 8 rfl Tryd.underlying26 info3 rfl (by decide) (by omega) u630001 x630001_1 x6_2 [.int .i64 x6_2] (fun _ => True) (fun _ => False) rfl rfl ?aP (fun _ hk => hk.elim) ?aF ?aO ?aB ?aS ?aL ?_; (case aP => exact rfl); (case aB => exact (bel_g HB.out)); (case aF => exact (fun _ _ => trivial)); (case aO => exact (Kd.R_g HO_630001.out)); (case aS => exact (below_size (bel_g HB.out))); (case aL => have := LMc15.out; omega); intro v633 w18 ho hb hg hat; rw [← Ny632.out] at ho; replace BK628 := mkA (blk_grown (g := gb628) (o := .cells #[.int .i64 0, .slice none 0 0] 28 (0, 0)) (blk_g BK628.out) hg (Kd.R_ne HO_630001.out BK628.out (by decide))); replace BK629 := mkA (blk_grown (g := gb629) (o := .cells #[.int .i64 (l0.length : Int), u630001] 28 (0, 0)) (blk_g BK629.out) hg (Kd.R_ne HO_630001.out BK629.out (by decide))); have HO634 := mkA (ho); replace HB := mkA (hb); clear HO_630001; clear ho hb hg hat; obtain ⟨Ao19, co19, rfl⟩ := Kd.R_slice HO634.out; obtain ⟨_, _, _, _⟩ := blk2 BK629))
       go_roundg k2
       case measure => have := HK1.out; have := HK2.out; omega
       case rel => exact ⟨(wrap64 (x14_1 + 1)), (y632), (.slice Ao19 y632.length co19), eqS, H', ⟨by have := HK1.out; have := HK2.out; omega⟩, ⟨Kd.R_g (Kd.R_mono (Kd.R_far (p := ⟨gb629, 1, none⟩) (Kd.R_types HO634.out BK629.out (by decide)) (fun _ hk => hk.2) (.slice Ao19 y632.length co19)) (fun _ hk => trivial))⟩, ⟨blkT BK628⟩, ⟨blkT BK629⟩, hbg HB⟩
   ·simp only [Option.some.injEq, Prod.mk.injEq] at H
    obtain ⟨rfl, rfl⟩ := H
    obtain ⟨_, _, _, _⟩ := blk2 BK629
    obtain ⟨_, _, _, _⟩ := blk2 BK628
    obtain ⟨Ao24, co24, rfl⟩ := Kd.R_slice HO_630001.out
    go_wp2
    refine bodyPost_ret (results_cell_row rfl _ _ gb628 28 #[.int .i64 (l0.length : Int), .slice Ao24 x630001_1.length co24] (0, 0) _ rfl (blkT BK628) Tryd.underlying28 rfl (by kernel_rfl)) rfl ?_
    exact ⟨_, eqE, Kd.R_g (Kd.R_mono (rF HO_630001 BK628) (fun _ _ => trivial)), bel_g HB.out⟩
def spec_orBelow.l0 : Nat → Int → Int → List Int → Int → Int → Option (Int)
 | 0, _, _, _, _, _ => none
 | k + 1, x1, x5, x9, x10, x11 => if x11 < x10 then (if 0 ≤ x11 then (if x11 < (x9.length : Int) then ((spec_orHas.f (rd x9 x11) x1).bind fun t637 => (if t637 = true then (spec_orBelow.l0 k x1 (Go.bits .or .i64 x5 (shl .i64 1 x11)) x9 x10 (wrap64 (x11 + 1))) else (spec_orBelow.l0 k x1 x5 x9 x10 (wrap64 (x11 + 1))))) else (none)) else (none)) else (some x5)
def spec_orBelow.f (k : Nat) (a0_0 : Int) (l0_1 : List Int) (a1 : Int) : Option (Int) := spec_orBelow.l0 k a1 0 l0_1 (l0_1.length : Int) 0
theorem spec_orBelow.mono_l : ∀ k, (∀ y0 y1 y2 y3 y4, LeO (spec_orBelow.l0 k y0 y1 y2 y3 y4) (spec_orBelow.l0 (k + 1) y0 y1 y2 y3 y4))
 | 0 => fun _ _ _ _ _ r h => by simp [spec_orBelow.l0] at h
 | k + 1 => by
  have ih0 := spec_orBelow.mono_l k
  ·intro y0 y1 y2 y3 y4
   unfold spec_orBelow.l0
   repeat' (with_reducible first|apply ih0|apply LeO.refl|apply LeO.none|apply LeO.ite|apply LeO.bind|intro)
theorem spec_orBelow.mono : ∀ a0 a1 a2 k, LeO (spec_orBelow.f k a0 a1 a2) (spec_orBelow.f (k + 1) a0 a1 a2) := by
 intro a0 a1 a2 k
 have ih0 := spec_orBelow.mono_l k
 unfold spec_orBelow.f
 repeat' (with_reducible first|apply ih0|apply LeO.refl|apply LeO.none|apply LeO.ite|apply LeO.bind|intro)
theorem spec_orBelow.calls (k : Nat) (a0_0 : Int) (A0_1 : Option Addr) (c0_1 : Nat) (l0_1 : List Int) (a1 : Int) (r : Int) (w : World) (hr0_1 : Kd.C (Kd.int .i64) w A0_1 l0_1.length l0_1) (hc0_1 : l0_1.length ≤ c0_1) (h : spec_orBelow.f k a0_0 l0_1 a1 = some r) :
  Calls Tryd.prog 80 #[.agg #[.int .i64 a0_0, .slice A0_1 l0_1.length c0_1], .int .i64 a1] w fun e w' => e = .returned (.int .i64 r) ∧ Below w.heap.size w w' := by
 have hu28 := Tryd.underlying28
 have HR0_1 := mkA hr0_1
 have HC0_1 := mkA hc0_1
 clear hr0_1 hc0_1
 have HB := mkA (Below.refl w.heap.size w)
 have H := h
 clear h
 unfold spec_orBelow.f at H
 have H' := mkA H
 clear H
 go_enter Tryd.func80, Tryd.ntmps80
 go_wp2_with (first | ((with_reducible refine gate_dst (N := 2) rfl ?_); refine boxG HB #[.int .i64 a0_0, .slice A0_1 l0_1.length c0_1] 28 ?_; intro gb635 hg w3 BK635 GE635 hb; replace HB := bst HB hb; clear hb hg; obtain ⟨_, _, _, _⟩ := blk2 BK635))
 go_loopg [5, 11] k (fun kq v5 v11 w' => ∃ (x5_1 : Int) (x11_1 : Int), v5 = .int .i64 x5_1 ∧ v11 = .int .i64 x11_1 ∧ Fc (spec_orBelow.l0 kq a1 x5_1 l0_1 (l0_1.length : Int) x11_1 = some r) ∧ Fc (kq ≤ k) ∧ Fc (w'.heap[gb635]? = some (.cells #[.int .i64 a0_0, (.slice A0_1 l0_1.length c0_1)] 28 (0, 0))) ∧ Fc (Below w.heap.size w w'))
 case atStart => exact ⟨(0), (0), eqS, eqS, H', ⟨Nat.le_refl _⟩, bg BK635, hbg HB⟩
 case round =>
  clear H'
  obtain ⟨x5_1, x11_1, rfl, rfl, HA, HK1, BK635, HB⟩ := hrel
  cases gk with
  | zero => exact absurd HA.out (by simp [spec_orBelow.l0])
  | succ k1 =>
   have H := HA.out
   clear HA
   simp only [spec_orBelow.l0] at H
   rcases iteE H with ⟨c5b0, H⟩ | ⟨c5b0, H⟩
   ·obtain ⟨c6b0, H⟩ := itND H
    obtain ⟨c7b0, H⟩ := itND H
    obtain ⟨t637, A8, H⟩ := obE H
    by_cases c9 : t637 = true
    ·subst c9
     replace H := ifT H
     have c10b0 := eq_true (ofd : 0 ≤ x11_1)
     obtain ⟨ji11, hji11⟩ : ∃ j_ : Int, (shl .i64 1 x11_1) = j_ := ⟨_, rfl⟩
     first | rw [hji11] at H | simp only [hji11] at H
     (try rw [hji11] at A8)
     have hji11_ : (IntKind.i64.wrap (1 * 2 ^ min x11_1.toNat 64)) = ji11 := hji11
     have hji11z : x11_1 ≤ 64 → (IntKind.i64.wrap (1 * 2 ^ x11_1.toNat)) = ji11 := shl_small hji11
     have hji11u : (IntKind.i64.wrap (2 ^ min x11_1.toNat 64)) = ji11 := by have h_ := hji11_; rw [Int.one_mul] at h_; exact h_
     have hji11v : x11_1 ≤ 64 → (IntKind.i64.wrap (2 ^ x11_1.toNat)) = ji11 := fun hle_ => by have h_ := hji11z hle_; rw [Int.one_mul] at h_; exact h_
     have hji11y : (wrap64 (1 * 2 ^ min x11_1.toNat 64)) = ji11 := (i64_w _).symm.trans hji11_
     have hji11x : x11_1 ≤ 64 → (wrap64 (1 * 2 ^ x11_1.toNat)) = ji11 := fun h_ => (i64_w _).symm.trans (hji11z h_)
     have H' := mkA H
     clear H
     obtain ⟨p636, q636, ad636, e636, hx636_0⟩ := atI HR0_1.out x11_1
     cases e636
     replace hx636_0 := (HB.out.cell (World.block_lt_of_cell? w _ hx636_0)).trans hx636_0
     go_wp2_with (first | ((with_reducible refine gate_callee (f := 55) rfl ?_); refine goesQ (some 18) Tryd.func55 #[.int .i64 (rd l0_1 x11_1), .int .i64 a1] ?_; (with_reducible refine (spec_orHas.calls (rd l0_1 x11_1) a1 true _ A8.out).mono ?_); rintro e w' ⟨rfl, ⟨nd, rfl⟩⟩; refine ⟨_, rfl, ?_⟩))
     go_roundg k1
     case measure => have := HK1.out; omega
     case rel => exact ⟨(Go.bits .or .i64 x5_1 (ji11)), (wrap64 (x11_1 + 1)), (by first | rfl | (simp; done) | (simp only [← hji11] <;> (first | rfl | simp)) | (simp [*]; done)), eqS, H', ⟨by have := HK1.out; omega⟩, bg BK635, hbg HB⟩
    ·replace c9 := Bool.eq_false_iff.mpr c9
     subst c9
     replace H := ifF H
     have H' := mkA H
     clear H
     obtain ⟨p636, q636, ad636, e636, hx636_0⟩ := atI HR0_1.out x11_1
     cases e636
     replace hx636_0 := (HB.out.cell (World.block_lt_of_cell? w _ hx636_0)).trans hx636_0
     go_wp2_with (first | ((with_reducible refine gate_callee (f := 55) rfl ?_); refine goesQ (some 18) Tryd.func55 #[.int .i64 (rd l0_1 x11_1), .int .i64 a1] ?_; (with_reducible refine (spec_orHas.calls (rd l0_1 x11_1) a1 false _ A8.out).mono ?_); rintro e w' ⟨rfl, ⟨nd, rfl⟩⟩; refine ⟨_, rfl, ?_⟩))
     go_roundg k1
     case measure => have := HK1.out; omega
     case rel => exact ⟨(x5_1), (wrap64 (x11_1 + 1)), eqS, eqS, H', ⟨by have := HK1.out; omega⟩, bg BK635, hbg HB⟩
   ·obtain rfl := Option.some.inj H
    go_wp2
    go_ret
    exact ⟨eqE, bel_g HB.out⟩
def spec_orMirror.l0 : Nat → Int → Int → Int → List Int → Int → List Int → Option (Int × List Int)
 | 0, _, _, _, _, _, _ => none
 | k + 1, x10, x11, x639000, x639001, x641000, x641001 => if x11 < x10 then ((spec_orBelow.f k x639000 x639001 x11).bind fun t641 => (if x641001.length < 17592186044416 then (spec_orMirror.l0 k x10 (wrap64 (x11 + 1)) x639000 x639001 x641000 (x641001 ++ [t641])) else (none))) else (some (x641000, x641001))
def spec_orMirror.f (k : Nat) (a0_0 : Int) (l0_1 : List Int) : Option (Int × List Int) := spec_orMirror.l0 k (l0_1.length : Int) 0 a0_0 l0_1 a0_0 ([] : List Int)
theorem spec_orMirror.mono_l : ∀ k, (∀ y0 y1 y2 y3 y4 y5, LeO (spec_orMirror.l0 k y0 y1 y2 y3 y4 y5) (spec_orMirror.l0 (k + 1) y0 y1 y2 y3 y4 y5))
 | 0 => fun _ _ _ _ _ _ r h => by simp [spec_orMirror.l0] at h
 | k + 1 => by
  have ih0 := spec_orMirror.mono_l k
  ·intro y0 y1 y2 y3 y4 y5
   unfold spec_orMirror.l0
   repeat' (with_reducible first|apply ih0|apply spec_orBelow.mono|apply LeO.refl|apply LeO.none|apply LeO.ite|apply LeO.bind|intro)
theorem spec_orMirror.mono : ∀ a0 a1 k, LeO (spec_orMirror.f k a0 a1) (spec_orMirror.f (k + 1) a0 a1) := by
 intro a0 a1 k
 have ih0 := spec_orMirror.mono_l k
 unfold spec_orMirror.f
 repeat' (with_reducible first|apply ih0|apply spec_orBelow.mono|apply LeO.refl|apply LeO.none|apply LeO.ite|apply LeO.bind|intro)
def spec_orMirror.T5 : Bool × List (List Nat × List Nat) := (true, [([], []), ([0], [0]), ([], []), ([], []), ([2, 3], [2, 3]), ([4], [4]), ([1, 5, 4], [1, 5]), ([0, 1, 2, 3, 4, 5, 6], []), ([7, 6, 6, 0, 1, 2, 3, 4, 5, 6], [6, 7])])
def spec_orMirror.B5 : List Nat := [0, 1, 0, 0, 12, 28, 63, 127, 255]
theorem spec_orMirror.tab5 : rtab .any (opsOf Tryd.f71 5) = spec_orMirror.T5 := by kernel_rfl
theorem spec_orMirror.bits5 : waitsOk spec_orMirror.T5.2 spec_orMirror.B5 = true := by kernel_rfl
theorem spec_orMirror.calls (k : Nat) (a0_0 : Int) (A0_1 : Option Addr) (c0_1 : Nat) (l0_1 : List Int) (r1 : Int) (r2 : List Int) (w : World) (hr0_1 : Kd.C (Kd.int .i64) w A0_1 l0_1.length l0_1) (hc0_1 : l0_1.length ≤ c0_1) (h : spec_orMirror.f k a0_0 l0_1 = some (r1, r2)) :
  Calls Tryd.prog 71 #[.agg #[.int .i64 a0_0, .slice A0_1 l0_1.length c0_1]] w fun e w' => ∃ v1_ : Value, e = .returned (.agg #[.int .i64 r1, v1_]) ∧ Kd.R (Kd.int .i64) 3 w' w.heap.size (fun _ => True) v1_ r2 ∧ Below w.heap.size w w' := by
 have hu28 := Tryd.underlying28
 have HR0_1 := mkA hr0_1
 have HC0_1 := mkA hc0_1
 clear hr0_1 hc0_1
 have HB := mkA (Below.refl w.heap.size w)
 have H := h
 clear h
 unfold spec_orMirror.f at H
 have H' := mkA H
 clear H
 go_enter Tryd.func71, Tryd.ntmps71
 go_wp2_with (first | ((with_reducible refine gate_dst (N := 1) rfl ?_); refine boxG HB #[.int .i64 a0_0, .slice A0_1 l0_1.length c0_1] 28 ?_; intro gb638 hg w2 BK638 GE638 hb; replace HB := bst HB hb; clear hb hg) | ((with_reducible refine gate_dst (N := 2) rfl ?_); refine boxG HB #[.int .i64 0, .slice none 0 0] 28 ?_; intro gb639 hg w3 BK639 GE639 hb; have NB638_639 := neL7 BK638 hg; have NB639_638 := neR7 BK638 hg; replace BK638 := blkB BK638 hb; replace HB := bst HB hb; clear hb hg; obtain ⟨_, _, _, _⟩ := blk2 BK638) | ((with_reducible refine gate_dst (N := 3) rfl ?_); refine boxG HB #[.int .i64 0, .slice none 0 0] 28 ?_; intro gb640 hg w6 BK640 GE640 hb; have NB638_640 := neL7 BK638 hg; have NB640_638 := neR7 BK638 hg; replace BK638 := blkB BK638 hb; have NB639_640 := neL7 BK639 hg; have NB640_639 := neR7 BK639 hg; replace BK639 := blkB BK639 hb; replace HB := bst HB hb; clear hb hg; obtain ⟨_, _, _, _⟩ := blk2 BK640; obtain ⟨_, _, _, _⟩ := blk2 BK638))
 go_loopg [11] k (fun kq v11 w' => ∃ (x11_1 : Int) (x641001_1 : List Int) (u641001 : Value), v11 = .int .i64 x11_1 ∧ Fc (spec_orMirror.l0 kq (l0_1.length : Int) x11_1 a0_0 l0_1 a0_0 x641001_1 = some (r1, r2)) ∧ Fc (kq ≤ k) ∧ Fc (Kd.R (Kd.int .i64) 3 w' w.heap.size (fun _ => True) u641001 x641001_1) ∧ Fc (w'.heap[gb638]? = some (.cells #[.int .i64 a0_0, (.slice A0_1 l0_1.length c0_1)] 28 (0, 0))) ∧ Fc (w'.heap[gb639]? = some (.cells #[.int .i64 0, (.slice none 0 0)] 28 (0, 0))) ∧ Fc (w'.heap[gb640]? = some (.cells #[.int .i64 a0_0, u641001] 28 (0, 0))) ∧ Fc (Below w.heap.size w w'))
 case atStart => exact ⟨(0), (([] : List Int)), (.slice none 0 0), eqS, H', ⟨Nat.le_refl _⟩, ⟨nilE⟩, ⟨blkT BK638⟩, ⟨blkT BK639⟩, ⟨blkT BK640⟩, hbg HB⟩
 case round =>
  clear H'
  obtain ⟨x11_1, x641001_1, u641001, rfl, HA, HK1, HO_641001, BK638, BK639, BK640, HB⟩ := hrel
  cases gk with
  | zero => exact absurd HA.out (by simp [spec_orMirror.l0])
  | succ k1 =>
   have H := HA.out
   clear HA
   simp only [spec_orMirror.l0] at H
   rcases iteE H with ⟨c11b0, H⟩ | ⟨c11b0, H⟩
   ·obtain ⟨t641, A12, H⟩ := obE H
    obtain ⟨c13, H⟩ := itNP H
    have LMc13 := mkA c13
    clear c13
    obtain ⟨y642, hy642⟩ : ∃ y_ : List Int, y_ = (x641001_1 ++ [t641]) := ⟨_, rfl⟩
    rw [← hy642] at H
    have Ny642 := mkA hy642
    clear hy642
    have H' := mkA H
    clear H
    try go_wp2
    replace HO_641001 := mkA (Kd.R_drew HO_641001.out)
    replace BK638 := mkA (blk_drew BK638.out)
    replace BK639 := mkA (blk_drew BK639.out)
    replace BK640 := mkA (blk_drew BK640.out)
    replace HB := mkA (below_drew1 HB.out)
    refine start_ (n := 9) (S := fun w' => w'.cell? ⟨gb640, 0, none⟩ = some (.int .i64 a0_0) ∧ w'.cell? ⟨gb640, 1, none⟩ = some (u641001) ∧ w'.cell? ⟨gb638, 0, none⟩ = some (.int .i64 a0_0) ∧ w'.cell? ⟨gb638, 1, none⟩ = some (.slice A0_1 l0_1.length c0_1)) (ds := [8]) (bm 9 0) (by kernel_rfl) rfl rfl ⟨(blk_cell BK640.out 0).trans rfl, (blk_cell BK640.out 1).trans rfl, (blk_cell BK638.out 0).trans rfl, (blk_cell BK638.out 1).trans rfl⟩ (fun hHeld => ?_); refine with_tabW spec_orMirror.tab5 spec_orMirror.bits5 (fun HT_ HW_ => ?_)
    generalize wr.drew = w14 at HO_641001 BK638 BK639 BK640 HB hHeld ⊢
    refine purW 0 14 9 1 HT_ ?_
    refine purW 3 17 9 9 HT_ ?_
    refine takeW 1 (some 15) (bm 9 11) HT_ HW_ hHeld ?_
    refine takeW 2 (some 16) (bm 9 15) HT_ HW_ hHeld ?_
    refine oneW 4 (some 18) (bm 9 31) HT_ (fun K hK => ?_)
    refine goesR Tryd.func80 #[.agg #[.int .i64 a0_0, .slice A0_1 l0_1.length c0_1], .int .i64 x11_1] ?_
    with_reducible refine (spec_orBelow.calls k1 a0_0 _ _ l0_1 x11_1 t641 _ ?s1 ?s2 A12.out).mono ?_
    (case s1 => exact C_g HR0_1 HB)
    (case s2 => exact HC0_1.out)
    rintro e w15 ⟨rfl, hb⟩
    refine ⟨_, rfl, ?_⟩
    replace HO_641001 := rB HO_641001 hb
    replace BK638 := blkB BK638 hb
    replace BK639 := blkB BK639 hb
    replace BK640 := blkB BK640 hb
    replace HB := bst HB hb
    (try clear hb)
    (try clear hb2)
    (try clear hk)
    (try clear hi)
    refine hK.out _ _ ⟨(blk_cell BK640.out 0).trans rfl, (blk_cell BK640.out 1).trans rfl, (blk_cell BK638.out 0).trans rfl, (blk_cell BK638.out 1).trans rfl⟩ (fun hHeld => ?_)
    clear hK K
    refine normW 18 ?_
    refine oneW 5 (some 19) (bm 9 63) HT_ (fun K hK => ?_)
    refine value_ (w1 := ?_) (v := ?_) (by rfl) rfl ?_ ?_
    rotate_left 2
    ·go_simp
     constructor
     ·rfl
     ·rfl
    refine hK.out _ _ ⟨(blk_cell (blk_alloc BK640.out _) 0).trans rfl, (blk_cell (blk_alloc BK640.out _) 1).trans rfl, (blk_cell (blk_alloc BK638.out _) 0).trans rfl, (blk_cell (blk_alloc BK638.out _) 1).trans rfl⟩ (fun hHeld => ?_)
    clear hK K
    refine normW 19 ?_
    refine oneW 6 (some 20) (bm 9 127) HT_ (fun K hK => ?_)
    refine Kd.R_append_step (Kd.int .i64) (w0 := w) w.heap.size (by rfl) (.tmp 15) (.tmp 19) 26 3 (.int .i64 0) 8 rfl Tryd.underlying26 info3 rfl (by decide) (by omega) u641001 x641001_1 t641 [.int .i64 t641] (fun _ => True) (fun _ => False) rfl rfl ?aP (fun _ hk => hk.elim) ?aF ?aO ?aB ?aS ?aL ?_
    (case aP => exact rfl)
    (case aB => exact (bel_g HB.out))
    (case aF => exact (fun _ _ => trivial))
    (case aO => exact (Kd.R_g HO_641001.out))
    (case aS => exact (below_size (bel_g HB.out)))
    (case aL => have := LMc13.out; omega)
    intro v643 w16 ho hb hg hat
    rw [← Ny642.out] at ho
    replace BK638 := mkA (blk_grown (g := gb638) (o := .cells #[.int .i64 a0_0, .slice A0_1 l0_1.length c0_1] 28 (0, 0)) (blk_g BK638.out) hg (Kd.R_ne HO_641001.out BK638.out (by decide)))
    replace BK639 := mkA (blk_grown (g := gb639) (o := .cells #[.int .i64 0, .slice none 0 0] 28 (0, 0)) (blk_g BK639.out) hg (Kd.R_ne HO_641001.out BK639.out (by decide)))
    replace BK640 := mkA (blk_grown (g := gb640) (o := .cells #[.int .i64 a0_0, u641001] 28 (0, 0)) (blk_g BK640.out) hg (Kd.R_ne HO_641001.out BK640.out (by decide)))
    have HO644 := mkA (ho)
    replace HB := mkA (hb)
    clear HO_641001
    clear ho hb hg hat
    obtain ⟨Ao17, co17, eo17⟩ := Kd.R_slice HO644.out
    (first | subst eo17 | (injection eo17 with f1_ f2_ f3_; have f4_ := f1_.symm; have f5_ := f3_.symm; clear f1_ f2_ f3_; subst f4_; subst f5_))
    refine hK.out _ _ ⟨(blk_cell BK640.out 0).trans rfl, (blk_cell BK640.out 1).trans rfl, (blk_cell BK638.out 0).trans rfl, (blk_cell BK638.out 1).trans rfl⟩ (fun hHeld => ?_)
    clear hK K
    refine normW 20 ?_
    refine purW 7 21 9 255 HT_ ?_
    refine last_ (i := 8) (N := none) (bm 9 511) rfl rfl (one_of HT_.out (by kernel_rfl)) (by decide) (fun K hK => ?_)
    have hs18 : w16.cell? ⟨gb640, 1, none⟩ = some (u641001) := (blk_cell BK640.out 1).trans rfl
    have hfs18 := blk_frozen BK640.out 1
    refine skip_ (w1 := ?_) (by rfl) rfl ?_ ?_
    rotate_left
    ·go_simp
     rfl
    refine hK.out _ _ ?_
    clear hK K
    refine doneW HT_ ?_
    try go_wp2
    go_roundg k1
    case measure => have := HK1.out; omega
    case rel => exact ⟨(wrap64 (x11_1 + 1)), (y642), (.slice Ao17 y642.length co17), eqS, H', ⟨by have := HK1.out; omega⟩, ⟨Kd.R_g (Kd.R_mono (Kd.R_far (p := ⟨gb640, 1, none⟩) (Kd.R_types HO644.out BK640.out (by decide)) (fun _ hk => hk.2) (.slice Ao17 y642.length co17)) (fun _ hk => trivial))⟩, ⟨blkT BK638⟩, ⟨blkT BK639⟩, ⟨blkT BK640⟩, hbg HB⟩
   ·simp only [Option.some.injEq, Prod.mk.injEq] at H
    obtain ⟨rfl, rfl⟩ := H
    obtain ⟨_, _, _, _⟩ := blk2 BK640
    obtain ⟨_, _, _, _⟩ := blk2 BK639
    obtain ⟨Ao24, co24, rfl⟩ := Kd.R_slice HO_641001.out
    go_wp2
    refine bodyPost_ret (results_cell_row rfl _ _ gb639 28 #[.int .i64 a0_0, .slice Ao24 x641001_1.length co24] (0, 0) _ rfl (blkT BK639) Tryd.underlying28 rfl (by kernel_rfl)) rfl ?_
    exact ⟨_, eqE, Kd.R_g (Kd.R_mono (rF HO_641001 BK639) (fun _ _ => trivial)), bel_g HB.out⟩
end Go.Proofs.YtmdnbjhboppkdaaDoor.Q
