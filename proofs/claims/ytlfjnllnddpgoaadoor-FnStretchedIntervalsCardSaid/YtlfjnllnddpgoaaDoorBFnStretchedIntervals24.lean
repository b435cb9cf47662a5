import Derived.Test.YtlfjnllnddpgoaaDoorBFnStretchedIntervals7
import Derived.Test.YtlfjnllnddpgoaaDoorBFnStretchedIntervals23
namespace Go.Proofs.YtlfjnllnddpgoaaDoor.Q
open Go.RowKit Go.Proofs.YtlfjnllnddpgoaaDoorW.PrintWords Go.Proofs.YtlfjnllnddpgoaaDoorW.PrintLast Go.Proofs.YtlfjnllnddpgoaaDoorW.PrintMore
attribute [local go_sem] max2_int min2_int max_two min_two max_three min_three max_four min_four neB_f
set_option linter.unusedVariables false
set_option maxHeartbeats 8000000
set_option maxRecDepth 100000
set_option linter.unusedSimpArgs false
def spec_orBelow.l0 : Nat → Int → Int → List Int → Int → Int → Option (Int)
 | 0, _, _, _, _, _ => none
 | k + 1, x1, x5, x9, x10, x11 => if x11 < x10 then (if 0 ≤ x11 then (if x11 < (x9.length : Int) then ((spec_orHas.f (rd x9 x11) x1).bind fun t747 => (if t747 = true then (spec_orBelow.l0 k x1 (Go.bits .or .i64 x5 (shl .i64 1 x11)) x9 x10 (wrap64 (x11 + 1))) else (spec_orBelow.l0 k x1 x5 x9 x10 (wrap64 (x11 + 1))))) else (none)) else (none)) else (some x5)
def spec_orBelow.f (k : Nat) (a0_0 : Int) (l0_1 : List Int) (a1 : Int) : Option (Int) := spec_orBelow.l0 k a1 0 l0_1 (l0_1.length : Int) 0
theorem spec_orBelow.mono_l : ∀ k, (∀ y0 y1 y2 y3 y4, LeO (spec_orBelow.l0 k y0 y1 y2 y3 y4) (spec_orBelow.l0 (k + 1) y0 y1 y2 y3 y4))
 | 0 => fun _ _ _ _ _ r h => by simp [spec_orBelow.l0] at h
 | k + 1 => by
  have ih0 := spec_orBelow.mono_l k
  ·intro y0 y1 y2 y3 y4
   unfold spec_orBelow.l0
   repeat' (with_reducible first|apply ih0|apply LeO.refl|apply LeO.none|apply LeO.ite|apply LeO.bind|intro)
theorem spec_orBelow.mono : ∀ a0 a1 a2 k, LeO (spec_orBelow.f k a0 a1 a2) (spec_orBelow.f (k + 1) a0 a1 a2) := by
 intro a0 a1 a2 k
 have ih0 := spec_orBelow.mono_l k
 unfold spec_orBelow.f
 repeat' (with_reducible first|apply ih0|apply LeO.refl|apply LeO.none|apply LeO.ite|apply LeO.bind|intro)
theorem spec_orBelow.calls (k : Nat) (a0_0 : Int) (A0_1 : Option Addr) (c0_1 : Nat) (l0_1 : List Int) (a1 : Int) (r : Int) (w : World) (hr0_1 : Kd.C (Kd.int .i64) w A0_1 l0_1.length l0_1) (hc0_1 : l0_1.length ≤ c0_1) (h : spec_orBelow.f k a0_0 l0_1 a1 = some r) :
  Calls Tryd.prog 64 #[.agg #[.int .i64 a0_0, .slice A0_1 l0_1.length c0_1], .int .i64 a1] w fun e w' => e = .returned (.int .i64 r) ∧ Below w.heap.size w w' := by
 have hu32 := Tryd.underlying32
 have HR0_1 := mkA hr0_1
 have HC0_1 := mkA hc0_1
 clear hr0_1 hc0_1
 have HB := mkA (Below.refl w.heap.size w)
 have H := h
 clear h
 unfold spec_orBelow.f at H
 have H' := mkA H
 clear H
 go_enter Tryd.func64, Tryd.ntmps64
 go_wp2_with (first | ((with_reducible refine gate_dst (N := 2) rfl ?_); refine boxG HB #[.int .i64 a0_0, .slice A0_1 l0_1.length c0_1] 32 ?_; intro gb745 hg w3 BK745 GE745 hb; replace HB := bst HB hb; clear hb hg; obtain ⟨_, _, _, _⟩ := blk2 BK745))
 go_loopg [5, 11] k (fun kq v5 v11 w' => ∃ (x5_1 : Int) (x11_1 : Int), v5 = .int .i64 x5_1 ∧ v11 = .int .i64 x11_1 ∧ Fc (spec_orBelow.l0 kq a1 x5_1 l0_1 (l0_1.length : Int) x11_1 = some r) ∧ Fc (kq ≤ k) ∧ Fc (w'.heap[gb745]? = some (.cells #[.int .i64 a0_0, (.slice A0_1 l0_1.length c0_1)] 32 (0, 0))) ∧ Fc (Below w.heap.size w w'))
 case atStart => exact ⟨(0), (0), eqS, eqS, H', ⟨Nat.le_refl _⟩, bg BK745, hbg HB⟩
 case round =>
  clear H'
  obtain ⟨x5_1, x11_1, rfl, rfl, HA, HK1, BK745, HB⟩ := hrel
  cases gk with
  | zero => exact absurd HA.out (by simp [spec_orBelow.l0])
  | succ k1 =>
   have H := HA.out
   clear HA
   simp only [spec_orBelow.l0] at H
   rcases iteE H with ⟨c5b0, H⟩ | ⟨c5b0, H⟩
   ·obtain ⟨c6b0, H⟩ := itND H
    obtain ⟨c7b0, H⟩ := itND H
    obtain ⟨t747, A8, H⟩ := obE H
    by_cases c9 : t747 = true
    ·subst c9
     replace H := ifT H
     have c10b0 := eq_true (ofd : 0 ≤ x11_1)
     obtain ⟨ji11, hji11⟩ : ∃ j_ : Int, (shl .i64 1 x11_1) = j_ := ⟨_, rfl⟩
     first | rw [hji11] at H | simp only [hji11] at H
     (try rw [hji11] at A8)
     have hji11_ : (IntKind.i64.wrap (1 * 2 ^ min x11_1.toNat 64)) = ji11 := hji11
     have hji11z : x11_1 ≤ 64 → (IntKind.i64.wrap (1 * 2 ^ x11_1.toNat)) = ji11 := shl_small hji11
     have hji11u : (IntKind.i64.wrap (2 ^ min x11_1.toNat 64)) = ji11 := by have h_ := hji11_; rw [Int.one_mul] at h_; exact h_
     have hji11v : x11_1 ≤ 64 → (IntKind.i64.wrap (2 ^ x11_1.toNat)) = ji11 := fun hle_ => by have h_ := hji11z hle_; rw [Int.one_mul] at h_; exact h_
     have hji11y : (wrap64 (1 * 2 ^ min x11_1.toNat 64)) = ji11 := (i64_w _).symm.trans hji11_
     have hji11x : x11_1 ≤ 64 → (wrap64 (1 * 2 ^ x11_1.toNat)) = ji11 := fun h_ => (i64_w _).symm.trans (hji11z h_)
     have H' := mkA H
     clear H
     obtain ⟨p746, q746, ad746, e746, hx746_0⟩ := atI HR0_1.out x11_1
     cases e746
     replace hx746_0 := (HB.out.cell (World.block_lt_of_cell? w _ hx746_0)).trans hx746_0
     go_wp2_with (first | ((with_reducible refine gate_callee (f := 51) rfl ?_); refine goesQ (some 18) Tryd.func51 #[.int .i64 (rd l0_1 x11_1), .int .i64 a1] ?_; (with_reducible refine (spec_orHas.calls (rd l0_1 x11_1) a1 true _ A8.out).mono ?_); rintro e w' ⟨rfl, ⟨nd, rfl⟩⟩; refine ⟨_, rfl, ?_⟩))
     go_roundg k1
     case measure => have := HK1.out; omega
     case rel => exact ⟨(Go.bits .or .i64 x5_1 (ji11)), (wrap64 (x11_1 + 1)), (by first | rfl | (simp; done) | (simp only [← hji11] <;> (first | rfl | simp)) | (simp [*]; done)), eqS, H', ⟨by have := HK1.out; omega⟩, bg BK745, hbg HB⟩
    ·replace c9 := Bool.eq_false_iff.mpr c9
     subst c9
     replace H := ifF H
     have H' := mkA H
     clear H
     obtain ⟨p746, q746, ad746, e746, hx746_0⟩ := atI HR0_1.out x11_1
     cases e746
     replace hx746_0 := (HB.out.cell (World.block_lt_of_cell? w _ hx746_0)).trans hx746_0
     go_wp2_with (first | ((with_reducible refine gate_callee (f := 51) rfl ?_); refine goesQ (some 18) Tryd.func51 #[.int .i64 (rd l0_1 x11_1), .int .i64 a1] ?_; (with_reducible refine (spec_orHas.calls (rd l0_1 x11_1) a1 false _ A8.out).mono ?_); rintro e w' ⟨rfl, ⟨nd, rfl⟩⟩; refine ⟨_, rfl, ?_⟩))
     go_roundg k1
     case measure => have := HK1.out; omega
     case rel => exact ⟨(x5_1), (wrap64 (x11_1 + 1)), eqS, eqS, H', ⟨by have := HK1.out; omega⟩, bg BK745, hbg HB⟩
   ·obtain rfl := Option.some.inj H
    go_wp2
    go_ret
    exact ⟨eqE, bel_g HB.out⟩
mutual
def spec_ivLevels.l0 : Nat → List Int → Int → Int → Int → List Int → Option (List Int)
 | 0, _, _, _, _, _ => none
 | k + 1, x3, x12, x13, x749000, x749001 => if x13 < x12 then ((spec_orBelow.f k x749000 x749001 x13).bind fun t749 => ((spec_l1Put.f k x3 t749).bind fun t750 => (spec_ivLevels.l0 k t750 x12 (wrap64 (x13 + 1)) x749000 x749001))) else (spec_ivLevels.l1 k x3 ([] : List Int) (x749001.length : Int) 0 x749000 x749001)
def spec_ivLevels.l1 : Nat → List Int → List Int → Int → Int → Int → List Int → Option (List Int)
 | 0, _, _, _, _, _, _ => none
 | k + 1, x3, x5, x24, x25, x749000, x749001 => if x25 < x24 then (spec_ivLevels.l2 k x3 x5 x25 0 x24 x25 x3 (x3.length : Int) 0 x749000 x749001) else (some x5)
def spec_ivLevels.l2 : Nat → List Int → List Int → Int → Int → Int → Int → List Int → Int → Int → Int → List Int → Option (List Int)
 | 0, _, _, _, _, _, _, _, _, _, _, _ => none
 | k + 1, x3, x5, x6, x7, x24, x25, x28, x29, x30, x749000, x749001 => if x30 < x29 then (if 0 ≤ x30 then (if x30 < (x28.length : Int) then ((spec_orBelow.f k x749000 x749001 x6).bind fun t757 => (if (rd x28 x30) = t757 then (spec_ivLevels.l2 k x3 x5 x6 x7 x24 x25 x28 x29 (wrap64 (x30 + 1)) x749000 x749001) else ((spec_orBelow.f k x749000 x749001 x6).bind fun t758 => (if (Go.bits .andNot .i64 (rd x28 x30) t758) = 0 then (spec_ivLevels.l2 k x3 x5 x6 (wrap64 (x7 + 1)) x24 x25 x28 x29 (wrap64 (x30 + 1)) x749000 x749001) else (spec_ivLevels.l2 k x3 x5 x6 x7 x24 x25 x28 x29 (wrap64 (x30 + 1)) x749000 x749001))))) else (none)) else (none)) else (if x5.length < 17592186044416 then (spec_ivLevels.l1 k x3 (x5 ++ [x7]) x24 (wrap64 (x25 + 1)) x749000 x749001) else (none))
end
def spec_ivLevels.f (k : Nat) (a0_0 : Int) (l0_1 : List Int) : Option (List Int) := spec_ivLevels.l0 k ([] : List Int) (l0_1.length : Int) 0 a0_0 l0_1
theorem spec_ivLevels.mono_l : ∀ k, (∀ y0 y1 y2 y3 y4, LeO (spec_ivLevels.l0 k y0 y1 y2 y3 y4) (spec_ivLevels.l0 (k + 1) y0 y1 y2 y3 y4)) ∧ (∀ y0 y1 y2 y3 y4 y5, LeO (spec_ivLevels.l1 k y0 y1 y2 y3 y4 y5) (spec_ivLevels.l1 (k + 1) y0 y1 y2 y3 y4 y5)) ∧ (∀ y0 y1 y2 y3 y4 y5 y6 y7 y8 y9 y10, LeO (spec_ivLevels.l2 k y0 y1 y2 y3 y4 y5 y6 y7 y8 y9 y10) (spec_ivLevels.l2 (k + 1) y0 y1 y2 y3 y4 y5 y6 y7 y8 y9 y10))
 | 0 => ⟨fun _ _ _ _ _ r h => by simp [spec_ivLevels.l0] at h, fun _ _ _ _ _ _ r h => by simp [spec_ivLevels.l1] at h, fun _ _ _ _ _ _ _ _ _ _ _ r h => by simp [spec_ivLevels.l2] at h⟩
 | k + 1 => by
  obtain ⟨ih0, ih1, ih2⟩ := spec_ivLevels.mono_l k
  refine ⟨?_, ?_, ?_⟩ <;> intros
  unfold spec_ivLevels.l0
  rotate_left
  unfold spec_ivLevels.l1
  rotate_left
  unfold spec_ivLevels.l2
  rotate_left
  all_goals repeat' (with_reducible first|apply ih0|apply ih1|apply ih2|apply spec_l1Put.mono|apply spec_orBelow.mono|apply LeO.refl|apply LeO.none|apply LeO.ite|apply LeO.bind|intro)
theorem spec_ivLevels.mono : ∀ a0 a1 k, LeO (spec_ivLevels.f k a0 a1) (spec_ivLevels.f (k + 1) a0 a1) := by
 intro a0 a1 k
 obtain ⟨ih0, ih1, ih2⟩ := spec_ivLevels.mono_l k
 unfold spec_ivLevels.f
 repeat' (with_reducible first|apply ih0|apply ih1|apply ih2|apply spec_l1Put.mono|apply spec_orBelow.mono|apply LeO.refl|apply LeO.none|apply LeO.ite|apply LeO.bind|intro)
theorem spec_ivLevels.calls (k : Nat) (a0_0 : Int) (A0_1 : Option Addr) (c0_1 : Nat) (l0_1 : List Int) (r : List Int) (w : World) (hr0_1 : Kd.C (Kd.int .i64) w A0_1 l0_1.length l0_1) (hc0_1 : l0_1.length ≤ c0_1) (h : spec_ivLevels.f k a0_0 l0_1 = some r) :
  Calls Tryd.prog 50 #[.agg #[.int .i64 a0_0, .slice A0_1 l0_1.length c0_1]] w fun e w' => ∃ v0_ : Value, e = .returned (v0_) ∧ Kd.R (Kd.int .i64) 3 w' w.heap.size (fun _ => True) v0_ r ∧ Below w.heap.size w w' := by
 have hu32 := Tryd.underlying32
 have HR0_1 := mkA hr0_1
 have HC0_1 := mkA hc0_1
 clear hr0_1 hc0_1
 have HB := mkA (Below.refl w.heap.size w)
 have H := h
 clear h
 unfold spec_ivLevels.f at H
 have H' := mkA H
 clear H
 go_enter Tryd.func50, Tryd.ntmps50
 go_wp2_with (first | ((with_reducible refine gate_dst (N := 1) rfl ?_); refine boxG HB #[.int .i64 a0_0, .slice A0_1 l0_1.length c0_1] 32 ?_; intro gb748 hg w2 BK748 GE748 hb; replace HB := bst HB hb; clear hb hg; obtain ⟨_, _, _, _⟩ := blk2 BK748))
 go_loopg [3, 13] k (fun kq v3 v13 w' => ∃ (x3_1 : List Int) (x13_1 : Int), v13 = .int .i64 x13_1 ∧ Fc (spec_ivLevels.l0 kq x3_1 (l0_1.length : Int) x13_1 a0_0 l0_1 = some r) ∧ Fc (kq ≤ k) ∧ Fc (Kd.R (Kd.int .i64) 3 w' w.heap.size (fun _ => True) v3 x3_1) ∧ Fc (w'.heap[gb748]? = some (.cells #[.int .i64 a0_0, (.slice A0_1 l0_1.length c0_1)] 32 (0, 0))) ∧ Fc (Below w.heap.size w w'))
 case atStart => exact ⟨(([] : List Int)), (0), eqS, H', ⟨Nat.le_refl _⟩, ⟨nilE⟩, bg BK748, hbg HB⟩
 case round =>
  clear H'
  obtain ⟨x3_1, x13_1, rfl, HA, HK1, HO_3, BK748, HB⟩ := hrel
  cases gk with
  | zero => exact absurd HA.out (by simp [spec_ivLevels.l0])
  | succ k1 =>
   have H := HA.out
   clear HA
   simp only [spec_ivLevels.l0] at H
   rcases iteE H with ⟨c4b0, H⟩ | ⟨c4b0, H⟩
   ·obtain ⟨t749, A5, H⟩ := obE H
    obtain ⟨t750, A6, H⟩ := obE H
    have H' := mkA H
    clear H
    obtain ⟨_, _, _, _⟩ := blk2 BK748
    go_wp2_with (first | ((with_reducible refine gate_callee (f := 64) rfl ?_); refine goesQ (some 19) Tryd.func64 #[.agg #[.int .i64 a0_0, .slice A0_1 l0_1.length c0_1], .int .i64 x13_1] ?_; (with_reducible refine (spec_orBelow.calls k1 a0_0 _ _ l0_1 x13_1 t749 _ ?_ ?_ A5.out).mono ?_); exact C_g HR0_1 HB; exact HC0_1.out; rintro e w8 ⟨rfl, hb⟩; refine ⟨_, rfl, ?_⟩; replace HO_3 := rB HO_3 hb; replace BK748 := blkB BK748 hb; replace HB := bst HB hb; clear hb; obtain ⟨Ao9, co9, rfl⟩ := Kd.R_slice HO_3.out) | ((with_reducible refine gate_callee (f := 63) rfl ?_); refine goesQ (some 20) Tryd.func63 #[.slice Ao9 x3_1.length co9, .int .i64 t749] ?_; (with_reducible refine (spec_l1Put.calls k1 (fun k_ => some k_ = (.slice Ao9 x3_1.length co9 : Value).ownBlock) (.slice Ao9 x3_1.length co9) x3_1 t749 t750 w _ ?_ ?_ A6.out).mono ?_); exact bel_g HB.out; exact Kd.R_tight rfl HO_3.out; rintro e w10 ⟨v751, rfl, ho0, hb, hkp⟩; refine ⟨_, rfl, ?_⟩; replace BK748 := mkA (blk_kept (blk_g BK748.out) hkp (fun hs_ => (fun e_ => (Kd.R_ne HO_3.out BK748.out (by decide)) e_) hs_)); have HO752 := mkA (Kd.R_mono (ok' := fun k_ => True) ho0 (fun k_ hk_ => trivial)); replace HB := mkA (hb); clear HO_3; clear hb hkp ho0))
    go_roundg k1
    case measure => have := HK1.out; omega
    case rel => exact ⟨(t750), (wrap64 (x13_1 + 1)), eqS, H', ⟨by have := HK1.out; omega⟩, rg HO752, bg BK748, hbg HB⟩
   ·have H' := mkA H
    clear H
    obtain ⟨_, _, _, _⟩ := blk2 BK748
    go_wp2
    go_loopg [5, 25] k1 (fun kq v5 v25 w' => ∃ (x5_2 : List Int) (x25_2 : Int), v25 = .int .i64 x25_2 ∧ Fc (spec_ivLevels.l1 kq x3_1 x5_2 (l0_1.length : Int) x25_2 a0_0 l0_1 = some r) ∧ Fc (kq ≤ k1) ∧ Fc (Kd.R (Kd.int .i64) 3 w' w.heap.size (fun k_ => some k_ ≠ (v5 : Value).ownBlock) u3 x3_1) ∧ Fc (Kd.R (Kd.int .i64) 3 w' w.heap.size (fun k_ => some k_ ≠ (u3 : Value).ownBlock) v5 x5_2) ∧ Fc (w'.heap[gb748]? = some (.cells #[.int .i64 a0_0, (.slice A0_1 l0_1.length c0_1)] 32 (0, 0))) ∧ Fc (Below w.heap.size w w'))
    case atStart => exact ⟨(([] : List Int)), (0), eqS, H', ⟨Nat.le_refl _⟩, ⟨Kd.R_g (Kd.R_mono HO_3.out (fun _ hk => (by simp [Value.ownBlock])))⟩, ⟨nilE⟩, bg BK748, hbg HB⟩
    case round =>
     clear H'
     try clear c4b0
     obtain ⟨x5_2, x25_2, rfl, HA, HK2, HO_3, HO_5, BK748, HB⟩ := hrel
     cases gk with
     | zero => exact absurd HA.out (by simp [spec_ivLevels.l1])
     | succ k2 =>
      have H := HA.out
      clear HA
      simp only [spec_ivLevels.l1] at H
      rcases iteE H with ⟨c12b0, H⟩ | ⟨c12b0, H⟩
      ·have H' := mkA H
       clear H
       obtain ⟨Ao13, co13, rfl⟩ := Kd.R_slice HO_3.out
       go_wp2
       go_loopg [7, 30] k2 (fun kq v7 v30 w' => ∃ (x7_3 : Int) (x30_3 : Int), v7 = .int .i64 x7_3 ∧ v30 = .int .i64 x30_3 ∧ Fc (spec_ivLevels.l2 kq x3_1 x5_2 x25_2 x7_3 (l0_1.length : Int) x25_2 x3_1 (x3_1.length : Int) x30_3 a0_0 l0_1 = some r) ∧ Fc (kq ≤ k2) ∧ Fc (Kd.R (Kd.int .i64) 3 w' w.heap.size (fun k_ => some k_ ≠ (u5 : Value).ownBlock) (.slice Ao13 x3_1.length co13) x3_1) ∧ Fc (Kd.R (Kd.int .i64) 3 w' w.heap.size (fun k_ => some k_ ≠ ((.slice Ao13 x3_1.length co13) : Value).ownBlock ∧ some k_ ≠ ((.slice Ao13 x3_1.length co13) : Value).ownBlock) u5 x5_2) ∧ Fc (Kd.R (Kd.int .i64) 3 w' w.heap.size (fun k_ => some k_ ≠ (u5 : Value).ownBlock) (.slice Ao13 x3_1.length co13) x3_1) ∧ Fc (w'.heap[gb748]? = some (.cells #[.int .i64 a0_0, (.slice A0_1 l0_1.length c0_1)] 32 (0, 0))) ∧ Fc (Below w.heap.size w w'))
       case atStart => exact ⟨(0), (0), eqS, eqS, H', ⟨Nat.le_refl _⟩, rg HO_3, ⟨Kd.R_g (Kd.R_mono HO_5.out (fun _ hk => ⟨hk, hk⟩))⟩, rg HO_3, bg BK748, hbg HB⟩
       case round =>
        clear H'
        try clear c4b0
        try clear c12b0
        obtain ⟨x7_3, x30_3, rfl, rfl, HA, HK3, HO_3, HO_5, HO_28, BK748, HB⟩ := hrel
        cases gk with
        | zero => exact absurd HA.out (by simp [spec_ivLevels.l2])
        | succ k3 =>
         have H := HA.out
         clear HA
         simp only [spec_ivLevels.l2] at H
         rcases iteE H with ⟨c14b0, H⟩ | ⟨c14b0, H⟩
         ·obtain ⟨c15b0, H⟩ := itND H
          obtain ⟨c16b0, H⟩ := itND H
          obtain ⟨t757, A17, H⟩ := obE H
          rcases iteP H with ⟨c18, H⟩ | ⟨c18, H⟩
          ·have c18b0 := beq_iff_eq.mpr c18
           have c18b1 := bne_eq_false_iff_eq.mpr c18
           clear c18
           have H' := mkA H
           clear H
           obtain ⟨p756, q756, ad756, e756, hx756_0⟩ := atI (Kd.R_reads' HO_28.out).2.2 x30_3
           cases e756
           obtain ⟨_, _, _, _⟩ := blk2 BK748
           go_wp2_with (first | ((with_reducible refine gate_callee (f := 64) rfl ?_); refine goesQ (some 37) Tryd.func64 #[.agg #[.int .i64 a0_0, .slice A0_1 l0_1.length c0_1], .int .i64 x25_2] ?_; (with_reducible refine (spec_orBelow.calls k3 a0_0 _ _ l0_1 x25_2 t757 _ ?_ ?_ A17.out).mono ?_); exact C_g HR0_1 HB; exact HC0_1.out; rintro e w20 ⟨rfl, hb⟩; refine ⟨_, rfl, ?_⟩; replace HO_3 := rB HO_3 hb; replace HO_5 := rB HO_5 hb; replace HO_28 := rB HO_28 hb; replace BK748 := blkB BK748 hb; replace HB := bst HB hb; clear hb))
           go_roundg k3
           case measure => have := HK1.out; have := HK2.out; have := HK3.out; omega
           case rel => exact ⟨(x7_3), (wrap64 (x30_3 + 1)), eqS, eqS, H', ⟨by have := HK1.out; have := HK2.out; have := HK3.out; omega⟩, rg HO_3, rg HO_5, rg HO_28, bg BK748, hbg HB⟩
          ·have c18b0 := beq_eq_false_iff_ne.mpr c18
           have c18b1 := bne_iff_ne.mpr c18
           obtain ⟨t758, A21, H⟩ := obE H
           rcases iteP H with ⟨c22, H⟩ | ⟨c22, H⟩
           ·have c22b0 := beq_iff_eq.mpr c22
            have c22b1 := bne_eq_false_iff_eq.mpr c22
            clear c22
            have H' := mkA H
            clear H
            obtain ⟨p756, q756, ad756, e756, hx756_0⟩ := atI (Kd.R_reads' HO_28.out).2.2 x30_3
            cases e756
            obtain ⟨_, _, _, _⟩ := blk2 BK748
            go_wp2_with (first | ((with_reducible refine gate_callee (f := 64) rfl ?_); refine goesQ (some 37) Tryd.func64 #[.agg #[.int .i64 a0_0, .slice A0_1 l0_1.length c0_1], .int .i64 x25_2] ?_; (with_reducible refine (spec_orBelow.calls k3 a0_0 _ _ l0_1 x25_2 t757 _ ?_ ?_ A17.out).mono ?_); exact C_g HR0_1 HB; exact HC0_1.out; rintro e w24 ⟨rfl, hb⟩; refine ⟨_, rfl, ?_⟩; replace HO_3 := rB HO_3 hb; replace HO_5 := rB HO_5 hb; replace HO_28 := rB HO_28 hb; replace BK748 := blkB BK748 hb; replace HB := bst HB hb; clear hb; obtain ⟨_, _, _, _⟩ := blk2 BK748) | (go_at_call 64; (with_reducible refine (spec_orBelow.calls k3 a0_0 _ _ l0_1 x25_2 t758 _ ?_ ?_ A21.out).mono ?_); exact C_g HR0_1 HB; exact HC0_1.out; rintro e w26 ⟨rfl, hb⟩; replace HO_3 := rB HO_3 hb; replace HO_5 := rB HO_5 hb; replace HO_28 := rB HO_28 hb; replace BK748 := blkB BK748 hb; replace HB := bst HB hb; clear hb))
            go_roundg k3
            case measure => have := HK1.out; have := HK2.out; have := HK3.out; omega
            case rel => exact ⟨(wrap64 (x7_3 + 1)), (wrap64 (x30_3 + 1)), eqS, eqS, H', ⟨by have := HK1.out; have := HK2.out; have := HK3.out; omega⟩, rg HO_3, rg HO_5, rg HO_28, bg BK748, hbg HB⟩
           ·have c22b0 := beq_eq_false_iff_ne.mpr c22
            have c22b1 := bne_iff_ne.mpr c22
            have H' := mkA H
            clear H
            obtain ⟨p756, q756, ad756, e756, hx756_0⟩ := atI (Kd.R_reads' HO_28.out).2.2 x30_3
            cases e756
            obtain ⟨_, _, _, _⟩ := blk2 BK748
            go_wp2_with (first | ((with_reducible refine gate_callee (f := 64) rfl ?_); refine goesQ (some 37) Tryd.func64 #[.agg #[.int .i64 a0_0, .slice A0_1 l0_1.length c0_1], .int .i64 x25_2] ?_; (with_reducible refine (spec_orBelow.calls k3 a0_0 _ _ l0_1 x25_2 t757 _ ?_ ?_ A17.out).mono ?_); exact C_g HR0_1 HB; exact HC0_1.out; rintro e w28 ⟨rfl, hb⟩; refine ⟨_, rfl, ?_⟩; replace HO_3 := rB HO_3 hb; replace HO_5 := rB HO_5 hb; replace HO_28 := rB HO_28 hb; replace BK748 := blkB BK748 hb; replace HB := bst HB hb; clear hb; obtain ⟨_, _, _, _⟩ := blk2 BK748) | (go_at_call 64; (with_reducible refine (spec_orBelow.calls k3 a0_0 _ _ l0_1 x25_2 t758 _ ?_ ?_ A21.out).mono ?_); exact C_g HR0_1 HB; exact HC0_1.out; rintro e w30 ⟨rfl, hb⟩; replace HO_3 := rB HO_3 hb; replace HO_5 := rB HO_5 hb; replace HO_28 := rB HO_28 hb; replace BK748 := blkB BK748 hb; replace HB := bst HB hb; clear hb))
            go_roundg k3
            case measure => have := HK1.out; have := HK2.out; have := HK3.out; omega
            case rel => exact ⟨(x7_3), (wrap64 (x30_3 + 1)), eqS, eqS, H', ⟨by have := HK1.out; have := HK2.out; have := HK3.out; omega⟩, rg HO_3, rg HO_5, rg HO_28, bg BK748, hbg HB⟩
         ·obtain ⟨c31, H⟩ := itNP H
          have LMc31 := mkA c31
          clear c31
          obtain ⟨y753, hy753⟩ : ∃ y_ : List Int, y_ = (x5_2 ++ [x7_3]) := ⟨_, rfl⟩
          rw [← hy753] at H
          have Ny753 := mkA hy753
          clear hy753
          have H' := mkA H
          clear H
          go_wp2_with (first | ((with_reducible refine gate_builtin (b := .append) (xs := #[.tmp 50, .tmp 52]) rfl ?_); at_builtin; refine Kd.R_append (Kd.int .i64) (w0 := w) w.heap.size rfl (.tmp 50) (.tmp 52) 30 3 (.int .i64 0) 8 rfl Tryd.underlying30 info3 rfl (by decide) (by omega) u5 x5_2 x7_3 [.int .i64 x7_3] (fun k_ => some k_ ≠ (.slice Ao13 x3_1.length co13 : Value).ownBlock ∧ some k_ ≠ (.slice Ao13 x3_1.length co13 : Value).ownBlock) (fun _ => False) rfl rfl ?aP (fun _ hk => hk.elim) ?aF ?aO ?aB ?aS ?aL ?_; (case aP => exact rfl); (case aB => exact (bel_g HB.out)); (case aF => exact (fun k_ hk => ⟨Kd.fresh' (Kd.R_lt (Kd.R_g HO_3.out)) k_ hk, Kd.fresh' (Kd.R_lt (Kd.R_g HO_28.out)) k_ hk⟩)); (case aO => exact (Kd.R_g HO_5.out)); (case aS => exact (below_size (bel_g HB.out))); (case aL => have := LMc31.out; omega); intro v754 w32 ho hb hg hat; rw [← Ny753.out] at ho; replace HO_3 := mkA (Kd.R_after (ok := (fun _ => True)) (Kd.R_g (Kd.R_mono HO_3.out (fun _ hk => ⟨trivial, hk⟩))) hg hat); replace HO_28 := mkA (Kd.R_after (ok := (fun _ => True)) (Kd.R_g (Kd.R_mono HO_28.out (fun _ hk => ⟨trivial, hk⟩))) hg hat); replace BK748 := mkA (blk_grown (g := gb748) (o := .cells #[.int .i64 a0_0, .slice A0_1 l0_1.length c0_1] 32 (0, 0)) (blk_g BK748.out) hg (Kd.R_ne HO_5.out BK748.out (by decide))); have HO755 := mkA (ho); replace HB := mkA (hb); clear HO_5; clear ho hb hg hat))
          go_roundg k3
          case measure => have := HK1.out; have := HK2.out; have := HK3.out; omega
          case rel => exact ⟨(y753), (wrap64 (x25_2 + 1)), eqS, H', ⟨by have := HK1.out; have := HK2.out; have := HK3.out; omega⟩, ⟨Kd.R_g (Kd.R_mono HO_3.out (fun _ hk => hk.2))⟩, ⟨Kd.R_g (Kd.R_mono HO755.out (fun _ hk => hk.1))⟩, bg BK748, hbg HB⟩
      ·obtain rfl := Option.some.inj H
       go_wp2
       go_ret
       exact ⟨_, eqE, Kd.R_g (Kd.R_mono HO_5.out (fun _ hk => trivial)), bel_g HB.out⟩
def spec_l1Most.f (a0 : Int) (a1 : Int) : Option (Int) := if a0 > a1 then (some a0) else (some a1)
theorem spec_l1Most.calls (a0 : Int) (a1 : Int) (r : Int) (w : World) (h : spec_l1Most.f a0 a1 = some r) :
  Calls Tryd.prog 52 #[.int .i64 a0, .int .i64 a1] w fun e w' => e = .returned (.int .i64 r) ∧ Drawn0 w w' := by
 have H := h
 clear h
 unfold spec_l1Most.f at H
 rcases iteP H with ⟨c3, H⟩ | ⟨c3, H⟩
 ·have c3b0 := decide_eq_true c3
  clear c3
  obtain rfl := Option.some.inj H
  go_enter Tryd.func52, Tryd.ntmps52
  go_wp2
  go_ret
  exact ⟨eqS, drE⟩
 ·have c3b0 := decide_eq_false c3
  clear c3
  obtain rfl := Option.some.inj H
  go_enter Tryd.func52, Tryd.ntmps52
  go_wp2
  go_ret
  exact ⟨eqS, drE⟩
end Go.Proofs.YtlfjnllnddpgoaaDoor.Q
