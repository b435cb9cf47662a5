import Derived.Test.YtokeomcijelbmaaDoorBFnFourRefuse12
import Derived.Test.YtokeomcijelbmaaDoorBFnFourRefuse13
namespace Go.Proofs.YtokeomcijelbmaaDoor.Q
open Go.RowKit Go.Proofs.YtokeomcijelbmaaDoorW.PrintWords Go.Proofs.YtokeomcijelbmaaDoorW.PrintLast Go.Proofs.YtokeomcijelbmaaDoorW.PrintMore
attribute [local go_sem] max2_int min2_int max_two min_two max_three min_three max_four min_four neB_f
set_option linter.unusedVariables false
set_option maxHeartbeats 8000000
set_option maxRecDepth 100000
set_option linter.unusedSimpArgs false
mutual
def impl_Order_levels.l0 : Nat → List Int → List Int → List Int → Int → Int → Option (List Int)
 | 0, _, _, _, _, _ => none
 | k + 1, x3, x5, x17, x18, x19 => if x19 < x18 then (if 0 ≤ x19 then (if x19 < (x17.length : Int) then (impl_Order_levels.l1 k x3 x5 (rd x17 x19) 0 x17 x18 x19 x5 (x5.length : Int) 0) else (none)) else (none)) else (some x3)
def impl_Order_levels.l1 : Nat → List Int → List Int → Int → Int → List Int → Int → Int → List Int → Int → Int → Option (List Int)
 | 0, _, _, _, _, _, _, _, _, _, _ => none
 | k + 1, x3, x5, x7, x8, x17, x18, x19, x23, x24, x25 => if x25 < x24 then (if 0 ≤ x25 then (if x25 < (x23.length : Int) then (if (rd x23 x25) = x7 then (impl_Order_levels.l1 k x3 x5 x7 x8 x17 x18 x19 x23 x24 (wrap64 (x25 + 1))) else (if (Go.bits .andNot .i64 (rd x23 x25) x7) = 0 then (impl_Order_levels.l1 k x3 x5 x7 (wrap64 (x8 + 1)) x17 x18 x19 x23 x24 (wrap64 (x25 + 1))) else (impl_Order_levels.l1 k x3 x5 x7 x8 x17 x18 x19 x23 x24 (wrap64 (x25 + 1))))) else (none)) else (none)) else (if x3.length < 17592186044416 then (impl_Order_levels.l0 k (x3 ++ [x8]) x5 x17 x18 (wrap64 (x19 + 1))) else (none))
end
def impl_Order_levels.f (k : Nat) (a0_0 : Int) (l0_1 : List Int) : Option (List Int) := (impl_Order_mirror.f k a0_0 l0_1).bind fun bt481 => ((impl_different.f bt481.2).bind fun t485 => (impl_Order_levels.l0 k (([] : List Int)) t485 bt481.2 (bt481.2.length : Int) 0))
theorem impl_Order_levels.mono_l : ∀ k, (∀ y0 y1 y2 y3 y4, LeO (impl_Order_levels.l0 k y0 y1 y2 y3 y4) (impl_Order_levels.l0 (k + 1) y0 y1 y2 y3 y4)) ∧ (∀ y0 y1 y2 y3 y4 y5 y6 y7 y8 y9, LeO (impl_Order_levels.l1 k y0 y1 y2 y3 y4 y5 y6 y7 y8 y9) (impl_Order_levels.l1 (k + 1) y0 y1 y2 y3 y4 y5 y6 y7 y8 y9))
 | 0 => ⟨fun _ _ _ _ _ r h => by simp [impl_Order_levels.l0] at h, fun _ _ _ _ _ _ _ _ _ _ r h => by simp [impl_Order_levels.l1] at h⟩
 | k + 1 => by
  obtain ⟨ih0, ih1⟩ := impl_Order_levels.mono_l k
  refine ⟨?_, ?_⟩ <;> intros
  unfold impl_Order_levels.l0
  rotate_left
  unfold impl_Order_levels.l1
  rotate_left
  all_goals repeat' (with_reducible first|apply ih0|apply ih1|apply impl_Order_mirror.mono|apply LeO.refl|apply LeO.none|apply LeO.ite|apply LeO.bind|intro)
theorem impl_Order_levels.mono : ∀ a0 a1 k, LeO (impl_Order_levels.f k a0 a1) (impl_Order_levels.f (k + 1) a0 a1) := by
 intro a0 a1 k
 obtain ⟨ih0, ih1⟩ := impl_Order_levels.mono_l k
 unfold impl_Order_levels.f
 repeat' (with_reducible first|apply ih0|apply ih1|apply impl_Order_mirror.mono|apply LeO.refl|apply LeO.none|apply LeO.ite|apply LeO.bind|intro)
theorem impl_Order_levels.calls (k : Nat) (a0_0 : Int) (A0_1 : Option Addr) (c0_1 : Nat) (l0_1 : List Int) (r : List Int) (w : World) (hr0_1 : Kd.C (Kd.int .i64) w A0_1 l0_1.length l0_1) (hc0_1 : l0_1.length ≤ c0_1) (h : impl_Order_levels.f k a0_0 l0_1 = some r) :
  Calls Tryd.prog 22 #[.agg #[.int .i64 a0_0, .slice A0_1 l0_1.length c0_1]] w fun e w' => ∃ v0_ : Value, e = .returned (v0_) ∧ Kd.R (Kd.int .i64) 3 w' w.heap.size (fun _ => True) v0_ r ∧ Below w.heap.size w w' := by
 have hfd26_1 := fun (W_ : World) (v0_ v1_ : Value) => (show Sem.run Tryd.prog (Instr.field 26 (.agg #[v0_, v1_]) 1) W_ = .ok v1_ W_ from by simp [go_sem, Instr.field, asAgg])
 have hu26 := Tryd.underlying26
 have HR0_1 := mkA hr0_1
 have HC0_1 := mkA hc0_1
 clear hr0_1 hc0_1
 have HB := mkA (Below.refl w.heap.size w)
 have H := h
 clear h
 unfold impl_Order_levels.f at H
 obtain ⟨y478, hy478⟩ : ∃ y_ : List Int, y_ = (([] : List Int)) := ⟨_, rfl⟩
 rw [← hy478] at H
 have Ny478 := mkA hy478
 clear hy478
 obtain ⟨⟨t481, t482⟩, A2, H⟩ := obE H
 dsimp only at H
 obtain ⟨t485, A3, H⟩ := obE H
 have H' := mkA H
 clear H
 go_enter Tryd.func22, Tryd.ntmps22
 go_wp2_with (first | ((with_reducible refine gate_dst (N := 1) rfl ?_); refine boxG HB #[.int .i64 a0_0, .slice A0_1 l0_1.length c0_1] 26 ?_; intro gb477 hg w4 BK477 GE477 hb; replace HB := bst HB hb; clear hb hg) | ((with_reducible refine gate_dst (N := 11) rfl ?_); refine litE (Kd.int .i64) 3 ([] : List Int) [] ?hp ?_; (case hp => exact (Reps.none _ _)); intro v479 w5 ho6 hb hg_ hnew_; clear hg_ hnew_; (first | rw [← Ny478.out] at ho6 | (simp only [Int.reduceToNat] at ho6; rw [← Ny478.out] at ho6)); have HO480 := rLo ho6 HB; replace BK477 := blkB BK477 hb; replace HB := bst HB hb; clear hb ho6; obtain ⟨_, _, _, _⟩ := blk2 BK477) | ((with_reducible refine gate_callee (f := 38) rfl ?_); refine goesQ (some 13) Tryd.func38 #[.agg #[.int .i64 a0_0, .slice A0_1 l0_1.length c0_1]] ?_; (with_reducible refine (impl_Order_mirror.calls k a0_0 _ _ l0_1 t481 t482 _ ?_ ?_ A2.out).mono ?_); exact C_g HR0_1 HB; exact HC0_1.out; rintro e w8 ⟨v483, rfl, ho0, hb⟩; refine ⟨_, rfl, ?_⟩; have HO484 := rLo (rN ho0 HO480) HB; replace HO480 := rE HO480 ho0 hb; replace BK477 := blkB BK477 hb; replace HB := bst HB hb; clear hb ho0; obtain ⟨Ao9, co9, rfl⟩ := Kd.R_slice HO484.out) | ((with_reducible refine gate_callee (f := 39) rfl ?_); refine goesQ (some 16) Tryd.func39 #[.slice Ao9 t482.length co9] ?_; (with_reducible refine (impl_different.calls _ _ t482 t485 _ ?_ ?_ A3.out).mono ?_); exact rC HO484; exact rL HO484; rintro e w10 ⟨v486, rfl, ho0, hb⟩; refine ⟨_, rfl, ?_⟩; have HO487 := rLo (rN (rN ho0 HO480) HO484) HB; replace HO480 := rE HO480 ho0 hb; replace HO484 := rE HO484 ho0 hb; replace BK477 := blkB BK477 hb; replace HB := bst HB hb; clear hb ho0))
 go_loopg [3, 19] k (fun kq v3 v19 w' => ∃ (x3_1 : List Int) (x19_1 : Int), v19 = .int .i64 x19_1 ∧ Fc (impl_Order_levels.l0 kq x3_1 t485 t482 (t482.length : Int) x19_1 = some r) ∧ Fc (kq ≤ k) ∧ Fc (Kd.R (Kd.int .i64) 3 w' w.heap.size (fun k_ => some k_ ≠ (v486 : Value).ownBlock ∧ some k_ ≠ ((.slice Ao9 t482.length co9) : Value).ownBlock) v3 x3_1) ∧ Fc (Kd.R (Kd.int .i64) 3 w' w.heap.size (fun k_ => some k_ ≠ (v3 : Value).ownBlock ∧ some k_ ≠ ((.slice Ao9 t482.length co9) : Value).ownBlock) v486 t485) ∧ Fc (Kd.R (Kd.int .i64) 3 w' w.heap.size (fun k_ => some k_ ≠ (v3 : Value).ownBlock ∧ some k_ ≠ (v486 : Value).ownBlock) (.slice Ao9 t482.length co9) t482) ∧ Fc (w'.heap[gb477]? = some (.cells #[.int .i64 a0_0, (.slice A0_1 l0_1.length c0_1)] 26 (0, 0))) ∧ Fc (Below w.heap.size w w'))
 case atStart => exact ⟨(y478), (0), eqS, H', ⟨Nat.le_refl _⟩, ⟨Kd.R_g (Kd.R_mono HO480.out (fun _ hk => ⟨hk.2, hk.1.2⟩))⟩, ⟨Kd.R_g (Kd.R_mono HO487.out (fun _ hk => ⟨hk.1.2, hk.2⟩))⟩, ⟨Kd.R_g (Kd.R_mono HO484.out (fun _ hk => ⟨hk.1.2, hk.2⟩))⟩, bg BK477, hbg HB⟩
 case round =>
  clear H'
  obtain ⟨x3_1, x19_1, rfl, HA, HK1, HO_3, HO_5, HO_17, BK477, HB⟩ := hrel
  cases gk with
  | zero => exact absurd HA.out (by simp [impl_Order_levels.l0])
  | succ k1 =>
   have H := HA.out
   clear HA
   simp only [impl_Order_levels.l0] at H
   rcases iteE H with ⟨c11b0, H⟩ | ⟨c11b0, H⟩
   ·obtain ⟨c12b0, H⟩ := itND H
    obtain ⟨c13b0, H⟩ := itND H
    have H' := mkA H
    clear H
    obtain ⟨p488, q488, ad488, e488, hx488_0⟩ := atI (Kd.R_reads' HO_17.out).2.2 x19_1
    cases e488
    obtain ⟨Ao14, co14, rfl⟩ := Kd.R_slice HO_5.out
    go_wp2
    go_loopg [8, 25] k1 (fun kq v8 v25 w' => ∃ (x8_2 : Int) (x25_2 : Int), v8 = .int .i64 x8_2 ∧ v25 = .int .i64 x25_2 ∧ Fc (impl_Order_levels.l1 kq x3_1 t485 (rd t482 x19_1) x8_2 t482 (t482.length : Int) x19_1 t485 (t485.length : Int) x25_2 = some r) ∧ Fc (kq ≤ k1) ∧ Fc (Kd.R (Kd.int .i64) 3 w' w.heap.size (fun k_ => some k_ ≠ ((.slice Ao14 t485.length co14) : Value).ownBlock ∧ some k_ ≠ ((.slice (some ad488) t482.length co9) : Value).ownBlock ∧ some k_ ≠ ((.slice Ao14 t485.length co14) : Value).ownBlock) u3 x3_1) ∧ Fc (Kd.R (Kd.int .i64) 3 w' w.heap.size (fun k_ => some k_ ≠ (u3 : Value).ownBlock ∧ some k_ ≠ ((.slice (some ad488) t482.length co9) : Value).ownBlock) (.slice Ao14 t485.length co14) t485) ∧ Fc (Kd.R (Kd.int .i64) 3 w' w.heap.size (fun k_ => some k_ ≠ (u3 : Value).ownBlock ∧ some k_ ≠ ((.slice Ao14 t485.length co14) : Value).ownBlock ∧ some k_ ≠ ((.slice Ao14 t485.length co14) : Value).ownBlock) (.slice (some ad488) t482.length co9) t482) ∧ Fc (Kd.R (Kd.int .i64) 3 w' w.heap.size (fun k_ => some k_ ≠ (u3 : Value).ownBlock ∧ some k_ ≠ ((.slice (some ad488) t482.length co9) : Value).ownBlock) (.slice Ao14 t485.length co14) t485) ∧ Fc (w'.heap[gb477]? = some (.cells #[.int .i64 a0_0, (.slice A0_1 l0_1.length c0_1)] 26 (0, 0))) ∧ Fc (Below w.heap.size w w'))
    case atStart => exact ⟨(0), (0), eqS, eqS, H', ⟨Nat.le_refl _⟩, ⟨Kd.R_g (Kd.R_mono HO_3.out (fun _ hk => ⟨hk.1, ⟨hk.2, hk.1⟩⟩))⟩, rg HO_5, ⟨Kd.R_g (Kd.R_mono HO_17.out (fun _ hk => ⟨hk.1, ⟨hk.2, hk.2⟩⟩))⟩, rg HO_5, bg BK477, hbg HB⟩
    case round =>
     clear H'
     try clear c11b0
     try clear c12
     try clear c12b0
     try clear c13
     try clear c13b0
     try clear hx488_0
     try clear p488
     try clear q488
     obtain ⟨x8_2, x25_2, rfl, rfl, HA, HK2, HO_3, HO_5, HO_17, HO_23, BK477, HB⟩ := hrel
     cases gk with
     | zero => exact absurd HA.out (by simp [impl_Order_levels.l1])
     | succ k2 =>
      have H := HA.out
      clear HA
      simp only [impl_Order_levels.l1] at H
      rcases iteE H with ⟨c15b0, H⟩ | ⟨c15b0, H⟩
      ·obtain ⟨c16b0, H⟩ := itND H
       obtain ⟨c17b0, H⟩ := itND H
       rcases iteP H with ⟨c18, H⟩ | ⟨c18, H⟩
       ·have c18b0 := beq_iff_eq.mpr c18
        have c18b1 := bne_eq_false_iff_eq.mpr c18
        clear c18
        have H' := mkA H
        clear H
        obtain ⟨p489, q489, ad489, e489, hx489_0⟩ := atI (Kd.R_reads' HO_23.out).2.2 x25_2
        cases e489
        go_wp2
        go_roundg k2
        case measure => have := HK1.out; have := HK2.out; omega
        case rel => exact ⟨(x8_2), (wrap64 (x25_2 + 1)), eqS, eqS, H', ⟨by have := HK1.out; have := HK2.out; omega⟩, rg HO_3, rg HO_5, rg HO_17, rg HO_23, bg BK477, hbg HB⟩
       ·have c18b0 := beq_eq_false_iff_ne.mpr c18
        have c18b1 := bne_iff_ne.mpr c18
        rcases iteP H with ⟨c19, H⟩ | ⟨c19, H⟩
        ·have c19b0 := beq_iff_eq.mpr c19
         have c19b1 := bne_eq_false_iff_eq.mpr c19
         clear c19
         have H' := mkA H
         clear H
         obtain ⟨p489, q489, ad489, e489, hx489_0⟩ := atI (Kd.R_reads' HO_23.out).2.2 x25_2
         cases e489
         go_wp2
         go_roundg k2
         case measure => have := HK1.out; have := HK2.out; omega
         case rel => exact ⟨(wrap64 (x8_2 + 1)), (wrap64 (x25_2 + 1)), eqS, eqS, H', ⟨by have := HK1.out; have := HK2.out; omega⟩, rg HO_3, rg HO_5, rg HO_17, rg HO_23, bg BK477, hbg HB⟩
        ·have c19b0 := beq_eq_false_iff_ne.mpr c19
         have c19b1 := bne_iff_ne.mpr c19
         have H' := mkA H
         clear H
         obtain ⟨p489, q489, ad489, e489, hx489_0⟩ := atI (Kd.R_reads' HO_23.out).2.2 x25_2
         cases e489
         go_wp2
         go_roundg k2
         case measure => have := HK1.out; have := HK2.out; omega
         case rel => exact ⟨(x8_2), (wrap64 (x25_2 + 1)), eqS, eqS, H', ⟨by have := HK1.out; have := HK2.out; omega⟩, rg HO_3, rg HO_5, rg HO_17, rg HO_23, bg BK477, hbg HB⟩
      ·obtain ⟨c20, H⟩ := itNP H
       have LMc20 := mkA c20
       clear c20
       obtain ⟨y490, hy490⟩ : ∃ y_ : List Int, y_ = (x3_1 ++ [x8_2]) := ⟨_, rfl⟩
       rw [← hy490] at H
       have Ny490 := mkA hy490
       clear hy490
       have H' := mkA H
       clear H
       go_wp2_with (first | ((with_reducible refine gate_builtin (b := .append) (xs := #[.tmp 41, .tmp 43]) rfl ?_); at_builtin; refine Kd.R_append (Kd.int .i64) (w0 := w) w.heap.size rfl (.tmp 41) (.tmp 43) 24 3 (.int .i64 0) 8 rfl Tryd.underlying24 info3 rfl (by decide) (by omega) u3 x3_1 x8_2 [.int .i64 x8_2] (fun k_ => some k_ ≠ (.slice Ao14 t485.length co14 : Value).ownBlock ∧ some k_ ≠ (.slice (some ad488) t482.length co9 : Value).ownBlock ∧ some k_ ≠ (.slice Ao14 t485.length co14 : Value).ownBlock) (fun _ => False) rfl rfl ?aP (fun _ hk => hk.elim) ?aF ?aO ?aB ?aS ?aL ?_; (case aP => exact rfl); (case aB => exact (bel_g HB.out)); (case aF => exact (fun k_ hk => ⟨Kd.fresh' (Kd.R_lt (Kd.R_g HO_5.out)) k_ hk, Kd.fresh' (Kd.R_lt (Kd.R_g HO_17.out)) k_ hk, Kd.fresh' (Kd.R_lt (Kd.R_g HO_23.out)) k_ hk⟩)); (case aO => exact (Kd.R_g HO_3.out)); (case aS => exact (below_size (bel_g HB.out))); (case aL => have := LMc20.out; omega); intro v491 w21 ho hb hg hat; rw [← Ny490.out] at ho; replace HO_5 := mkA (Kd.R_after (ok := (fun k_ => some k_ ≠ (.slice (some ad488) t482.length co9 : Value).ownBlock)) (Kd.R_g (Kd.R_mono HO_5.out (fun _ hk => ⟨hk.2, hk.1⟩))) hg hat); replace HO_17 := mkA (Kd.R_after (ok := (fun k_ => some k_ ≠ (.slice Ao14 t485.length co14 : Value).ownBlock ∧ some k_ ≠ (.slice Ao14 t485.length co14 : Value).ownBlock)) (Kd.R_g (Kd.R_mono HO_17.out (fun _ hk => ⟨⟨hk.2.1, hk.2.2⟩, hk.1⟩))) hg hat); replace HO_23 := mkA (Kd.R_after (ok := (fun k_ => some k_ ≠ (.slice (some ad488) t482.length co9 : Value).ownBlock)) (Kd.R_g (Kd.R_mono HO_23.out (fun _ hk => ⟨hk.2, hk.1⟩))) hg hat); replace BK477 := mkA (blk_grown (g := gb477) (o := .cells #[.int .i64 a0_0, .slice A0_1 l0_1.length c0_1] 26 (0, 0)) (blk_g BK477.out) hg (Kd.R_ne HO_3.out BK477.out (by decide))); have HO492 := mkA (ho); replace HB := mkA (hb); clear HO_3; clear ho hb hg hat))
       go_roundg k2
       case measure => have := HK1.out; have := HK2.out; omega
       case rel => exact ⟨(y490), (wrap64 (x19_1 + 1)), eqS, H', ⟨by have := HK1.out; have := HK2.out; omega⟩, ⟨Kd.R_g (Kd.R_mono HO492.out (fun _ hk => ⟨hk.1, hk.2.1⟩))⟩, ⟨Kd.R_g (Kd.R_mono HO_5.out (fun _ hk => ⟨hk.2, hk.1⟩))⟩, ⟨Kd.R_g (Kd.R_mono HO_17.out (fun _ hk => ⟨hk.2, hk.1.1⟩))⟩, bg BK477, hbg HB⟩
   ·obtain rfl := Option.some.inj H
    go_wp2
    go_ret
    exact ⟨_, eqE, Kd.R_g (Kd.R_mono HO_3.out (fun _ hk => trivial)), bel_g HB.out⟩
def impl_LowerLevels.f (k : Nat) (a0_0 : Int) (l0_1 : List Int) : Option (List Int × Bool) := (impl_isInterval.f k a0_0 l0_1).bind fun t494 => (if t494 = true then ((impl_Order_levels.f k a0_0 l0_1).bind fun t495 => (some (t495, true))) else (some (([] : List Int), false)))
theorem impl_LowerLevels.mono : ∀ a0 a1 k, LeO (impl_LowerLevels.f k a0 a1) (impl_LowerLevels.f (k + 1) a0 a1) := by
 intro a0 a1 k
 unfold impl_LowerLevels.f
 repeat' (with_reducible first|apply impl_Order_levels.mono|apply impl_isInterval.mono|apply LeO.refl|apply LeO.none|apply LeO.ite|apply LeO.bind|intro)
theorem impl_LowerLevels.calls (k : Nat) (a0_0 : Int) (A0_1 : Option Addr) (c0_1 : Nat) (l0_1 : List Int) (r1 : List Int) (r2 : Bool) (w : World) (hr0_1 : Kd.C (Kd.int .i64) w A0_1 l0_1.length l0_1) (hc0_1 : l0_1.length ≤ c0_1) (hTAB : Tab w) (h : impl_LowerLevels.f k a0_0 l0_1 = some (r1, r2)) :
  Calls Tryd.prog 10 #[.agg #[.int .i64 a0_0, .slice A0_1 l0_1.length c0_1]] w fun e w' => ∃ v0_ : Value, e = .returned (.tuple #[v0_, .bool r2]) ∧ Kd.R (Kd.int .i64) 3 w' w.heap.size (fun _ => True) v0_ r1 ∧ Below w.heap.size w w' := by
 have HTAB := mkA hTAB
 clear hTAB
 have hu26 := Tryd.underlying26
 have HR0_1 := mkA hr0_1
 have HC0_1 := mkA hc0_1
 clear hr0_1 hc0_1
 have HB := mkA (Below.refl w.heap.size w)
 have H := h
 clear h
 unfold impl_LowerLevels.f at H
 obtain ⟨t494, A2, H⟩ := obE H
 by_cases c3 : t494 = true
 ·subst c3
  replace H := ifT H
  obtain ⟨t495, A4, H⟩ := obE H
  simp only [Option.some.injEq, Prod.mk.injEq] at H
  obtain ⟨rfl, rfl⟩ := H
  go_enter Tryd.func10, Tryd.ntmps10
  go_wp2_with (first | ((with_reducible refine gate_dst (N := 1) rfl ?_); refine boxG HB #[.int .i64 a0_0, .slice A0_1 l0_1.length c0_1] 26 ?_; intro gb493 hg w5 BK493 GE493 hb; replace HB := bst HB hb; clear hb hg; obtain ⟨_, _, _, _⟩ := blk2 BK493) | ((with_reducible refine gate_callee (f := 21) rfl ?_); refine goesQ (some 5) Tryd.func21 #[.agg #[.int .i64 a0_0, .slice A0_1 l0_1.length c0_1]] ?_; (with_reducible refine (impl_isInterval.calls k a0_0 _ _ l0_1 true _ ?_ ?_ ?_ A2.out).mono ?_); exact C_g HR0_1 HB; exact HC0_1.out; exact Tab.below HTAB.out (bel_g HB.out); rintro e w7 ⟨rfl, hb⟩; refine ⟨_, rfl, ?_⟩; replace BK493 := blkB BK493 hb; replace HB := bst HB hb; clear hb; obtain ⟨_, _, _, _⟩ := blk2 BK493) | ((with_reducible refine gate_callee (f := 22) rfl ?_); refine goesQ (some 8) Tryd.func22 #[.agg #[.int .i64 a0_0, .slice A0_1 l0_1.length c0_1]] ?_; (with_reducible refine (impl_Order_levels.calls k a0_0 _ _ l0_1 t495 _ ?_ ?_ A4.out).mono ?_); exact C_g HR0_1 HB; exact HC0_1.out; rintro e w9 ⟨v496, rfl, ho0, hb⟩; refine ⟨_, rfl, ?_⟩; have HO497 := rLo ho0 HB; replace BK493 := blkB BK493 hb; replace HB := bst HB hb; clear hb ho0))
  go_ret2
  exact ⟨_, eqE, Kd.R_g HO497.out, bel_g HB.out⟩
 ·replace c3 := Bool.eq_false_iff.mpr c3
  subst c3
  replace H := ifF H
  simp only [Option.some.injEq, Prod.mk.injEq] at H
  obtain ⟨rfl, rfl⟩ := H
  go_enter Tryd.func10, Tryd.ntmps10
  go_wp2_with (first | ((with_reducible refine gate_dst (N := 1) rfl ?_); refine boxG HB #[.int .i64 a0_0, .slice A0_1 l0_1.length c0_1] 26 ?_; intro gb493 hg w10 BK493 GE493 hb; replace HB := bst HB hb; clear hb hg; obtain ⟨_, _, _, _⟩ := blk2 BK493) | ((with_reducible refine gate_callee (f := 21) rfl ?_); refine goesQ (some 5) Tryd.func21 #[.agg #[.int .i64 a0_0, .slice A0_1 l0_1.length c0_1]] ?_; (with_reducible refine (impl_isInterval.calls k a0_0 _ _ l0_1 false _ ?_ ?_ ?_ A2.out).mono ?_); exact C_g HR0_1 HB; exact HC0_1.out; exact Tab.below HTAB.out (bel_g HB.out); rintro e w12 ⟨rfl, hb⟩; refine ⟨_, rfl, ?_⟩; replace BK493 := blkB BK493 hb; replace HB := bst HB hb; clear hb))
  go_ret2
  exact ⟨_, eqE, nilE, bel_g HB.out⟩
end Go.Proofs.YtokeomcijelbmaaDoor.Q
