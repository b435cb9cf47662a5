import Derived.Test.YtgbdjchdfcodcaaGreatDoorBFnWeakOrders15
namespace Go.Proofs.YtgbdjchdfcodcaaGreatDoor.Q
open Go.RowKit Go.Proofs.YtgbdjchdfcodcaaGreatDoorW.PrintWords Go.Proofs.YtgbdjchdfcodcaaGreatDoorW.PrintLast Go.Proofs.YtgbdjchdfcodcaaGreatDoorW.PrintMore
attribute [local go_sem] max2_int min2_int max_two min_two max_three min_three max_four min_four neB_f
set_option linter.unusedVariables false
set_option maxHeartbeats 8000000
set_option maxRecDepth 100000
set_option linter.unusedSimpArgs false
mutual
def impl_Order_levels.l0 : Nat → List Int → List Int → List Int → Int → Int → Option (List Int)
 | 0, _, _, _, _, _ => none
 | k + 1, x3, x5, x17, x18, x19 => if x19 < x18 then (if 0 ≤ x19 then (if x19 < (x17.length : Int) then (impl_Order_levels.l1 k x3 x5 (rd x17 x19) 0 x17 x18 x19 x5 (x5.length : Int) 0) else (none)) else (none)) else (some x3)
def impl_Order_levels.l1 : Nat → List Int → List Int → Int → Int → List Int → Int → Int → List Int → Int → Int → Option (List Int)
 | 0, _, _, _, _, _, _, _, _, _, _ => none
 | k + 1, x3, x5, x7, x8, x17, x18, x19, x23, x24, x25 => if x25 < x24 then (if 0 ≤ x25 then (if x25 < (x23.length : Int) then (if (rd x23 x25) = x7 then (impl_Order_levels.l1 k x3 x5 x7 x8 x17 x18 x19 x23 x24 (wrap64 (x25 + 1))) else (if (Go.bits .andNot .i64 (rd x23 x25) x7) = 0 then (impl_Order_levels.l1 k x3 x5 x7 (wrap64 (x8 + 1)) x17 x18 x19 x23 x24 (wrap64 (x25 + 1))) else (impl_Order_levels.l1 k x3 x5 x7 x8 x17 x18 x19 x23 x24 (wrap64 (x25 + 1))))) else (none)) else (none)) else (if x3.length < 17592186044416 then (impl_Order_levels.l0 k (x3 ++ [x8]) x5 x17 x18 (wrap64 (x19 + 1))) else (none))
end
def impl_Order_levels.f (k : Nat) (a0_0 : Int) (l0_1 : List Int) : Option (List Int) := (impl_Order_mirror.f k a0_0 l0_1).bind fun bt560 => ((impl_different.f bt560.2).bind fun t564 => (impl_Order_levels.l0 k (([] : List Int)) t564 bt560.2 (bt560.2.length : Int) 0))
theorem impl_Order_levels.mono_l : ∀ k, (∀ y0 y1 y2 y3 y4, LeO (impl_Order_levels.l0 k y0 y1 y2 y3 y4) (impl_Order_levels.l0 (k + 1) y0 y1 y2 y3 y4)) ∧ (∀ y0 y1 y2 y3 y4 y5 y6 y7 y8 y9, LeO (impl_Order_levels.l1 k y0 y1 y2 y3 y4 y5 y6 y7 y8 y9) (impl_Order_levels.l1 (k + 1) y0 y1 y2 y3 y4 y5 y6 y7 y8 y9))
 | 0 => ⟨fun _ _ _ _ _ r h => by simp [impl_Order_levels.l0] at h, fun _ _ _ _ _ _ _ _ _ _ r h => by simp [impl_Order_levels.l1] at h⟩
 | k + 1 => by
  obtain ⟨ih0, ih1⟩ := impl_Order_levels.mono_l k
  refine ⟨?_, ?_⟩ <;> intros
  unfold impl_Order_levels.l0
  rotate_left
  unfold impl_Order_levels.l1
  rotate_left
  all_goals repeat' (with_reducible first|apply ih0|apply ih1|apply impl_Order_mirror.mono|apply LeO.refl|apply LeO.none|apply LeO.ite|apply LeO.bind|intro)
theorem impl_Order_levels.mono : ∀ a0 a1 k, LeO (impl_Order_levels.f k a0 a1) (impl_Order_levels.f (k + 1) a0 a1) := by
 intro a0 a1 k
 obtain ⟨ih0, ih1⟩ := impl_Order_levels.mono_l k
 unfold impl_Order_levels.f
 repeat' (with_reducible first|apply ih0|apply ih1|apply impl_Order_mirror.mono|apply LeO.refl|apply LeO.none|apply LeO.ite|apply LeO.bind|intro)
theorem impl_Order_levels.calls (k : Nat) (a0_0 : Int) (A0_1 : Option Addr) (c0_1 : Nat) (l0_1 : List Int) (r : List Int) (w : World) (hr0_1 : Kd.C (Kd.int .i64) w A0_1 l0_1.length l0_1) (hc0_1 : l0_1.length ≤ c0_1) (h : impl_Order_levels.f k a0_0 l0_1 = some r) :
  Calls Tryz.prog 24 #[.agg #[.int .i64 a0_0, .slice A0_1 l0_1.length c0_1]] w fun e w' => ∃ v0_ : Value, e = .returned (v0_) ∧ Kd.R (Kd.int .i64) 3 w' w.heap.size (fun _ => True) v0_ r ∧ Below w.heap.size w w' := by
 have hfd26_1 := fun (W_ : World) (v0_ v1_ : Value) => (show Sem.run Tryz.prog (Instr.field 26 (.agg #[v0_, v1_]) 1) W_ = .ok v1_ W_ from by simp [go_sem, Instr.field, asAgg])
 have hu26 := Tryz.underlying26
 have HR0_1 := mkA hr0_1
 have HC0_1 := mkA hc0_1
 clear hr0_1 hc0_1
 have HB := mkA (Below.refl w.heap.size w)
 have H := h
 clear h
 unfold impl_Order_levels.f at H
 obtain ⟨y557, hy557⟩ : ∃ y_ : List Int, y_ = (([] : List Int)) := ⟨_, rfl⟩
 rw [← hy557] at H
 have Ny557 := mkA hy557
 clear hy557
 obtain ⟨⟨t560, t561⟩, A2, H⟩ := obE H
 dsimp only at H
 obtain ⟨t564, A3, H⟩ := obE H
 have H' := mkA H
 clear H
 go_enter Tryz.func24, Tryz.ntmps24
 go_wp2_with (first | ((with_reducible refine gate_dst (N := 1) rfl ?_); refine boxG HB #[.int .i64 a0_0, .slice A0_1 l0_1.length c0_1] 26 ?_; intro gb556 hg w4 BK556 GE556 hb; replace HB := bst HB hb; clear hb hg) | ((with_reducible refine gate_dst (N := 11) rfl ?_); refine litE (Kd.int .i64) 3 ([] : List Int) [] ?hp ?_; (case hp => exact (Reps.none _ _)); intro v558 w5 ho6 hb hg_ hnew_; clear hg_ hnew_; (first | rw [← Ny557.out] at ho6 | (simp only [Int.reduceToNat] at ho6; rw [← Ny557.out] at ho6)); have HO559 := rLo ho6 HB; replace BK556 := blkB BK556 hb; replace HB := bst HB hb; clear hb ho6; obtain ⟨_, _, _, _⟩ := blk2 BK556) | ((with_reducible refine gate_callee (f := 35) rfl ?_); refine goesQ (some 13) Tryz.func35 #[.agg #[.int .i64 a0_0, .slice A0_1 l0_1.length c0_1]] ?_; (with_reducible refine (impl_Order_mirror.calls k a0_0 _ _ l0_1 t560 t561 _ ?_ ?_ A2.out).mono ?_); exact C_g HR0_1 HB; exact HC0_1.out; rintro e w8 ⟨v562, rfl, ho0, hb⟩; refine ⟨_, rfl, ?_⟩; have HO563 := rLo (rN ho0 HO559) HB; replace HO559 := rE HO559 ho0 hb; replace BK556 := blkB BK556 hb; replace HB := bst HB hb; clear hb ho0; obtain ⟨Ao9, co9, rfl⟩ := Kd.R_slice HO563.out) | ((with_reducible refine gate_callee (f := 41) rfl ?_); refine goesQ (some 16) Tryz.func41 #[.slice Ao9 t561.length co9] ?_; (with_reducible refine (impl_different.calls _ _ t561 t564 _ ?_ ?_ A3.out).mono ?_); exact rC HO563; exact rL HO563; rintro e w10 ⟨v565, rfl, ho0, hb⟩; refine ⟨_, rfl, ?_⟩; have HO566 := rLo (rN (rN ho0 HO559) HO563) HB; replace HO559 := rE HO559 ho0 hb; replace HO563 := rE HO563 ho0 hb; replace BK556 := blkB BK556 hb; replace HB := bst HB hb; clear hb ho0))
 go_loopg [3, 19] k (fun kq v3 v19 w' => ∃ (x3_1 : List Int) (x19_1 : Int), v19 = .int .i64 x19_1 ∧ Fc (impl_Order_levels.l0 kq x3_1 t564 t561 (t561.length : Int) x19_1 = some r) ∧ Fc (kq ≤ k) ∧ Fc (Kd.R (Kd.int .i64) 3 w' w.heap.size (fun k_ => some k_ ≠ (v565 : Value).ownBlock ∧ some k_ ≠ ((.slice Ao9 t561.length co9) : Value).ownBlock) v3 x3_1) ∧ Fc (Kd.R (Kd.int .i64) 3 w' w.heap.size (fun k_ => some k_ ≠ (v3 : Value).ownBlock ∧ some k_ ≠ ((.slice Ao9 t561.length co9) : Value).ownBlock) v565 t564) ∧ Fc (Kd.R (Kd.int .i64) 3 w' w.heap.size (fun k_ => some k_ ≠ (v3 : Value).ownBlock ∧ some k_ ≠ (v565 : Value).ownBlock) (.slice Ao9 t561.length co9) t561) ∧ Fc (w'.heap[gb556]? = some (.cells #[.int .i64 a0_0, (.slice A0_1 l0_1.length c0_1)] 26 (0, 0))) ∧ Fc (Below w.heap.size w w'))
 case atStart => exact ⟨(y557), (0), eqS, H', ⟨Nat.le_refl _⟩, ⟨Kd.R_g (Kd.R_mono HO559.out (fun _ hk => ⟨hk.2, hk.1.2⟩))⟩, ⟨Kd.R_g (Kd.R_mono HO566.out (fun _ hk => ⟨hk.1.2, hk.2⟩))⟩, ⟨Kd.R_g (Kd.R_mono HO563.out (fun _ hk => ⟨hk.1.2, hk.2⟩))⟩, bg BK556, hbg HB⟩
 case round =>
  clear H'
  obtain ⟨x3_1, x19_1, rfl, HA, HK1, HO_3, HO_5, HO_17, BK556, HB⟩ := hrel
  cases gk with
  | zero => exact absurd HA.out (by simp [impl_Order_levels.l0])
  | succ k1 =>
   have H := HA.out
   clear HA
   simp only [impl_Order_levels.l0] at H
   rcases iteE H with ⟨c11b0, H⟩ | ⟨c11b0, H⟩
   ·obtain ⟨c12b0, H⟩ := itND H
    obtain ⟨c13b0, H⟩ := itND H
    have H' := mkA H
    clear H
    obtain ⟨p567, q567, ad567, e567, hx567_0⟩ := atI (Kd.R_reads' HO_17.out).2.2 x19_1
    cases e567
    obtain ⟨Ao14, co14, rfl⟩ := Kd.R_slice HO_5.out
    go_wp2
    go_loopg [8, 25] k1 (fun kq v8 v25 w' => ∃ (x8_2 : Int) (x25_2 : Int), v8 = .int .i64 x8_2 ∧ v25 = .int .i64 x25_2 ∧ Fc (impl_Order_levels.l1 kq x3_1 t564 (rd t561 x19_1) x8_2 t561 (t561.length : Int) x19_1 t564 (t564.length : Int) x25_2 = some r) ∧ Fc (kq ≤ k1) ∧ Fc (Kd.R (Kd.int .i64) 3 w' w.heap.size (fun k_ => some k_ ≠ ((.slice Ao14 t564.length co14) : Value).ownBlock ∧ some k_ ≠ ((.slice (some ad567) t561.length co9) : Value).ownBlock ∧ some k_ ≠ ((.slice Ao14 t564.length co14) : Value).ownBlock) u3 x3_1) ∧ Fc (Kd.R (Kd.int .i64) 3 w' w.heap.size (fun k_ => some k_ ≠ (u3 : Value).ownBlock ∧ some k_ ≠ ((.slice (some ad567) t561.length co9) : Value).ownBlock) (.slice Ao14 t564.length co14) t564) ∧ Fc (Kd.R (Kd.int .i64) 3 w' w.heap.size (fun k_ => some k_ ≠ (u3 : Value).ownBlock ∧ some k_ ≠ ((.slice Ao14 t564.length co14) : Value).ownBlock ∧ some k_ ≠ ((.slice Ao14 t564.length co14) : Value).ownBlock) (.slice (some ad567) t561.length co9) t561) ∧ Fc (Kd.R (Kd.int .i64) 3 w' w.heap.size (fun k_ => some k_ ≠ (u3 : Value).ownBlock ∧ some k_ ≠ ((.slice (some ad567) t561.length co9) : Value).ownBlock) (.slice Ao14 t564.length co14) t564) ∧ Fc (w'.heap[gb556]? = some (.cells #[.int .i64 a0_0, (.slice A0_1 l0_1.length c0_1)] 26 (0, 0))) ∧ Fc (Below w.heap.size w w'))
    case atStart => exact ⟨(0), (0), eqS, eqS, H', ⟨Nat.le_refl _⟩, ⟨Kd.R_g (Kd.R_mono HO_3.out (fun _ hk => ⟨hk.1, ⟨hk.2, hk.1⟩⟩))⟩, rg HO_5, ⟨Kd.R_g (Kd.R_mono HO_17.out (fun _ hk => ⟨hk.1, ⟨hk.2, hk.2⟩⟩))⟩, rg HO_5, bg BK556, hbg HB⟩
    case round =>
     clear H'
     try clear c11b0
     try clear c12
     try clear c12b0
     try clear c13
     try clear c13b0
     try clear hx567_0
     try clear p567
     try clear q567
     obtain ⟨x8_2, x25_2, rfl, rfl, HA, HK2, HO_3, HO_5, HO_17, HO_23, BK556, HB⟩ := hrel
     cases gk with
     | zero => exact absurd HA.out (by simp [impl_Order_levels.l1])
     | succ k2 =>
      have H := HA.out
      clear HA
      simp only [impl_Order_levels.l1] at H
      rcases iteE H with ⟨c15b0, H⟩ | ⟨c15b0, H⟩
      ·obtain ⟨c16b0, H⟩ := itND H
       obtain ⟨c17b0, H⟩ := itND H
       rcases iteP H with ⟨c18, H⟩ | ⟨c18, H⟩
       ·have c18b0 := beq_iff_eq.mpr c18
        have c18b1 := bne_eq_false_iff_eq.mpr c18
        clear c18
        have H' := mkA H
        clear H
        obtain ⟨p568, q568, ad568, e568, hx568_0⟩ := atI (Kd.R_reads' HO_23.out).2.2 x25_2
        cases e568
        go_wp2
        go_roundg k2
        case measure => have := HK1.out; have := HK2.out; omega
        case rel => exact ⟨(x8_2), (wrap64 (x25_2 + 1)), eqS, eqS, H', ⟨by have := HK1.out; have := HK2.out; omega⟩, rg HO_3, rg HO_5, rg HO_17, rg HO_23, bg BK556, hbg HB⟩
       ·have c18b0 := beq_eq_false_iff_ne.mpr c18
        have c18b1 := bne_iff_ne.mpr c18
        rcases iteP H with ⟨c19, H⟩ | ⟨c19, H⟩
        ·have c19b0 := beq_iff_eq.mpr c19
         have c19b1 := bne_eq_false_iff_eq.mpr c19
         clear c19
         have H' := mkA H
         clear H
         obtain ⟨p568, q568, ad568, e568, hx568_0⟩ := atI (Kd.R_reads' HO_23.out).2.2 x25_2
         cases e568
         go_wp2
         go_roundg k2
         case measure => have := HK1.out; have := HK2.out; omega
         case rel => exact ⟨(wrap64 (x8_2 + 1)), (wrap64 (x25_2 + 1)), eqS, eqS, H', ⟨by have := HK1.out; have := HK2.out; omega⟩, rg HO_3, rg HO_5, rg HO_17, rg HO_23, bg BK556, hbg HB⟩
        ·have c19b0 := beq_eq_false_iff_ne.mpr c19
         have c19b1 := bne_iff_ne.mpr c19
         have H' := mkA H
         clear H
         obtain ⟨p568, q568, ad568, e568, hx568_0⟩ := atI (Kd.R_reads' HO_23.out).2.2 x25_2
         cases e568
         go_wp2
         go_roundg k2
         case measure => have := HK1.out; have := HK2.out; omega
         case rel => exact ⟨(x8_2), (wrap64 (x25_2 + 1)), eqS, eqS, H', ⟨by have := HK1.out; have := HK2.out; omega⟩, rg HO_3, rg HO_5, rg HO_17, rg HO_23, bg BK556, hbg HB⟩
      ·obtain ⟨c20, H⟩ := itNP H
       have LMc20 := mkA c20
       clear c20
       obtain ⟨y569, hy569⟩ : ∃ y_ : List Int, y_ = (x3_1 ++ [x8_2]) := ⟨_, rfl⟩
       rw [← hy569] at H
       have Ny569 := mkA hy569
       clear hy569
       have H' := mkA H
       clear H
       go_wp2_with (first | ((with_reducible refine gate_builtin (b := .append) (xs := #[.tmp 41, .tmp 43]) rfl ?_); at_builtin; refine Kd.R_append (Kd.int .i64) (w0 := w) w.heap.size rfl (.tmp 41) (.tmp 43) 24 3 (.int .i64 0) 8 rfl Tryz.underlying24 info3 rfl (by decide) (by omega) u3 x3_1 x8_2 [.int .i64 x8_2] (fun k_ => some k_ ≠ (.slice Ao14 t564.length co14 : Value).ownBlock ∧ some k_ ≠ (.slice (some ad567) t561.length co9 : Value).ownBlock ∧ some k_ ≠ (.slice Ao14 t564.length co14 : Value).ownBlock) (fun _ => False) rfl rfl ?aP (fun _ hk => hk.elim) ?aF ?aO ?aB ?aS ?aL ?_; (case aP => exact rfl); (case aB => exact (bel_g HB.out)); (case aF => exact (fun k_ hk => ⟨Kd.fresh' (Kd.R_lt (Kd.R_g HO_5.out)) k_ hk, Kd.fresh' (Kd.R_lt (Kd.R_g HO_17.out)) k_ hk, Kd.fresh' (Kd.R_lt (Kd.R_g HO_23.out)) k_ hk⟩)); (case aO => exact (Kd.R_g HO_3.out)); (case aS => exact (below_size (bel_g HB.out))); (case aL => have := LMc20.out; omega); intro v570 w21 ho hb hg hat; rw [← Ny569.out] at ho; replace HO_5 := mkA (Kd.R_after (ok := (fun k_ => some k_ ≠ (.slice (some ad567) t561.length co9 : Value).ownBlock)) (Kd.R_g (Kd.R_mono HO_5.out (fun _ hk => ⟨hk.2, hk.1⟩))) hg hat); replace HO_17 := mkA (Kd.R_after (ok := (fun k_ => some k_ ≠ (.slice Ao14 t564.length co14 : Value).ownBlock ∧ some k_ ≠ (.slice Ao14 t564.length co14 : Value).ownBlock)) (Kd.R_g (Kd.R_mono HO_17.out (fun _ hk => ⟨⟨hk.2.1, hk.2.2⟩, hk.1⟩))) hg hat); replace HO_23 := mkA (Kd.R_after (ok := (fun k_ => some k_ ≠ (.slice (some ad567) t561.length co9 : Value).ownBlock)) (Kd.R_g (Kd.R_mono HO_23.out (fun _ hk => ⟨hk.2, hk.1⟩))) hg hat); replace BK556 := mkA (blk_grown (g := gb556) (o := .cells #[.int .i64 a0_0, .slice A0_1 l0_1.length c0_1] 26 (0, 0)) (blk_g BK556.out) hg (Kd.R_ne HO_3.out BK556.out (by decide))); have HO571 := mkA (ho); replace HB := mkA (hb); clear HO_3; clear ho hb hg hat))
       go_roundg k2
       case measure => have := HK1.out; have := HK2.out; omega
       case rel => exact ⟨(y569), (wrap64 (x19_1 + 1)), eqS, H', ⟨by have := HK1.out; have := HK2.out; omega⟩, ⟨Kd.R_g (Kd.R_mono HO571.out (fun _ hk => ⟨hk.1, hk.2.1⟩))⟩, ⟨Kd.R_g (Kd.R_mono HO_5.out (fun _ hk => ⟨hk.2, hk.1⟩))⟩, ⟨Kd.R_g (Kd.R_mono HO_17.out (fun _ hk => ⟨hk.2, hk.1.1⟩))⟩, bg BK556, hbg HB⟩
   ·obtain rfl := Option.some.inj H
    go_wp2
    go_ret
    exact ⟨_, eqE, Kd.R_g (Kd.R_mono HO_3.out (fun _ hk => trivial)), bel_g HB.out⟩
theorem impl_WeakLevels.nilEql_ {P : Program} (W : World) {t e : TypeId} {A : Option Addr} {n c : Nat} {xs : List Int} {Z : Nat → Nat → Prop} (hu : P.underlying t = some (.slice e)) (h : xs = [] → Value.slice A n c = .slice none 0 0) (h2 : 0 < xs.length → ∃ g c', Value.slice A n c = .slice (some ⟨g, 0, none⟩) xs.length c' ∧ Z g c') :
  (binOp .eql t (.slice A n c) (.slice none 0 0)).run P W = .ok (.bool (xs == ([] : List Int))) W := by
 rw [Lib.run_eql_slice_nil W t e A n c 0 0 hu]
 cases xs with
 | nil => injection h rfl with h1 _ _; subst h1; rfl
 | cons x l => obtain ⟨g, c', h1, _⟩ := h2 (by simp); injection h1 with h1 _ _; subst h1; rfl
theorem impl_WeakLevels.nilNeq_ {P : Program} (W : World) {t e : TypeId} {A : Option Addr} {n c : Nat} {xs : List Int} {Z : Nat → Nat → Prop} (hu : P.underlying t = some (.slice e)) (h : xs = [] → Value.slice A n c = .slice none 0 0) (h2 : 0 < xs.length → ∃ g c', Value.slice A n c = .slice (some ⟨g, 0, none⟩) xs.length c' ∧ Z g c') :
  (binOp .neq t (.slice A n c) (.slice none 0 0)).run P W = .ok (.bool (xs != ([] : List Int))) W := by
 rw [run_neq_slice_nil_any W t e A n c 0 0 hu]
 cases xs with
 | nil => injection h rfl with h1 _ _; subst h1; rfl
 | cons x l => obtain ⟨g, c', h1, _⟩ := h2 (by simp); injection h1 with h1 _ _; subst h1; rfl
def impl_WeakLevels.f (k : Nat) (a0_0 : Int) (l0_1 : List Int) : Option (List Int × Bool) := (impl_IsOrder.f k a0_0 l0_1).bind fun t573 => (if t573 = true then ((impl_Order_twoOne.f k a0_0 l0_1).bind fun t574 => (if t574 = ([] : List Int) then ((impl_Order_levels.f k a0_0 l0_1).bind fun t577 => (some (t577, true))) else (some (([] : List Int), false)))) else (some (([] : List Int), false)))
theorem impl_WeakLevels.mono : ∀ a0 a1 k, LeO (impl_WeakLevels.f k a0 a1) (impl_WeakLevels.f (k + 1) a0 a1) := by
 intro a0 a1 k
 unfold impl_WeakLevels.f
 repeat' (with_reducible first|apply impl_IsOrder.mono|apply impl_Order_levels.mono|apply impl_Order_twoOne.mono|apply LeO.refl|apply LeO.none|apply LeO.ite|apply LeO.bind|intro)
theorem impl_WeakLevels.calls (k : Nat) (a0_0 : Int) (A0_1 : Option Addr) (c0_1 : Nat) (l0_1 : List Int) (r1 : List Int) (r2 : Bool) (w : World) (hr0_1 : Kd.C (Kd.int .i64) w A0_1 l0_1.length l0_1) (hc0_1 : l0_1.length ≤ c0_1) (hTAB : Tab w) (h : impl_WeakLevels.f k a0_0 l0_1 = some (r1, r2)) :
  Calls Tryz.prog 6 #[.agg #[.int .i64 a0_0, .slice A0_1 l0_1.length c0_1]] w fun e w' => ∃ v0_ : Value, e = .returned (.tuple #[v0_, .bool r2]) ∧ Kd.R (Kd.int .i64) 3 w' w.heap.size (fun _ => True) v0_ r1 ∧ Below w.heap.size w w' := by
 have HTAB := mkA hTAB
 clear hTAB
 have hu26 := Tryz.underlying26
 have HR0_1 := mkA hr0_1
 have HC0_1 := mkA hc0_1
 clear hr0_1 hc0_1
 have HB := mkA (Below.refl w.heap.size w)
 have H := h
 clear h
 unfold impl_WeakLevels.f at H
 obtain ⟨t573, A2, H⟩ := obE H
 by_cases c3 : t573 = true
 ·subst c3
  replace H := ifT H
  obtain ⟨t574, A4, H⟩ := obE H
  rcases iteP H with ⟨c5, H⟩ | ⟨c5, H⟩
  ·have c5b0 := beq_iff_eq.mpr c5
   have c5b1 := bne_eq_false_iff_eq.mpr c5
   clear c5
   obtain ⟨t577, A6, H⟩ := obE H
   simp only [Option.some.injEq, Prod.mk.injEq] at H
   obtain ⟨rfl, rfl⟩ := H
   go_enter Tryz.func6, Tryz.ntmps6
   go_wp2_with (first | ((with_reducible refine gate_dst (N := 1) rfl ?_); refine boxG HB #[.int .i64 a0_0, .slice A0_1 l0_1.length c0_1] 26 ?_; intro gb572 hg w7 BK572 GE572 hb; replace HB := bst HB hb; clear hb hg; obtain ⟨_, _, _, _⟩ := blk2 BK572) | ((with_reducible refine gate_callee (f := 12) rfl ?_); refine goesQ (some 5) Tryz.func12 #[.agg #[.int .i64 a0_0, .slice A0_1 l0_1.length c0_1]] ?_; (with_reducible refine (impl_IsOrder.calls k a0_0 _ _ l0_1 true _ ?_ ?_ ?_ A2.out).mono ?_); exact C_g HR0_1 HB; exact HC0_1.out; exact Tab.below HTAB.out (bel_g HB.out); rintro e w9 ⟨rfl, hb⟩; refine ⟨_, rfl, ?_⟩; replace BK572 := blkB BK572 hb; replace HB := bst HB hb; clear hb; obtain ⟨_, _, _, _⟩ := blk2 BK572) | (go_at_call 23; (with_reducible refine (impl_Order_twoOne.calls k a0_0 _ _ l0_1 t574 _ ?_ ?_ ?_ A4.out).mono ?_); exact C_g HR0_1 HB; exact HC0_1.out; exact Tab.below HTAB.out (bel_g HB.out); rintro e w11 ⟨v575, rfl, ho0, hb, hnl0⟩; have HO576 := rLo ho0 HB; replace BK572 := blkB BK572 hb; replace HB := bst HB hb; clear hb ho0; have NL_HO576 := mkA hnl0; clear hnl0; obtain ⟨Ao12, co12, rfl⟩ := Kd.R_slice HO576.out; have nq13 := fun (W_ : World) => impl_WeakLevels.nilNeq_ (P := Tryz.prog) W_ (t := 24) (e := 3) (c := co12) Tryz.underlying24 NL_HO576.out (fun h_ => Kd.R_form HO576.out h_); obtain ⟨_, _, _, _⟩ := blk2 BK572) | ((with_reducible refine gate_callee (f := 24) rfl ?_); refine goesQ (some 13) Tryz.func24 #[.agg #[.int .i64 a0_0, .slice A0_1 l0_1.length c0_1]] ?_; (with_reducible refine (impl_Order_levels.calls k a0_0 _ _ l0_1 t577 _ ?_ ?_ A6.out).mono ?_); exact C_g HR0_1 HB; exact HC0_1.out; rintro e w15 ⟨v578, rfl, ho0, hb⟩; refine ⟨_, rfl, ?_⟩; have HO579 := rLo (rN ho0 HO576) HB; replace HO576 := rE HO576 ho0 hb; replace BK572 := blkB BK572 hb; replace HB := bst HB hb; clear hb ho0))
   go_ret2
   exact ⟨_, eqE, Kd.R_g (Kd.R_mono HO579.out (fun _ hk => trivial)), bel_g HB.out⟩
  ·have c5b0 := beq_eq_false_iff_ne.mpr c5
   have c5b1 := bne_iff_ne.mpr c5
   simp only [Option.some.injEq, Prod.mk.injEq] at H
   obtain ⟨rfl, rfl⟩ := H
   go_enter Tryz.func6, Tryz.ntmps6
   go_wp2_with (first | ((with_reducible refine gate_dst (N := 1) rfl ?_); refine boxG HB #[.int .i64 a0_0, .slice A0_1 l0_1.length c0_1] 26 ?_; intro gb572 hg w16 BK572 GE572 hb; replace HB := bst HB hb; clear hb hg; obtain ⟨_, _, _, _⟩ := blk2 BK572) | ((with_reducible refine gate_callee (f := 12) rfl ?_); refine goesQ (some 5) Tryz.func12 #[.agg #[.int .i64 a0_0, .slice A0_1 l0_1.length c0_1]] ?_; (with_reducible refine (impl_IsOrder.calls k a0_0 _ _ l0_1 true _ ?_ ?_ ?_ A2.out).mono ?_); exact C_g HR0_1 HB; exact HC0_1.out; exact Tab.below HTAB.out (bel_g HB.out); rintro e w18 ⟨rfl, hb⟩; refine ⟨_, rfl, ?_⟩; replace BK572 := blkB BK572 hb; replace HB := bst HB hb; clear hb; obtain ⟨_, _, _, _⟩ := blk2 BK572) | (go_at_call 23; (with_reducible refine (impl_Order_twoOne.calls k a0_0 _ _ l0_1 t574 _ ?_ ?_ ?_ A4.out).mono ?_); exact C_g HR0_1 HB; exact HC0_1.out; exact Tab.below HTAB.out (bel_g HB.out); rintro e w20 ⟨v575, rfl, ho0, hb, hnl0⟩; have HO576 := rLo ho0 HB; replace BK572 := blkB BK572 hb; replace HB := bst HB hb; clear hb ho0; have NL_HO576 := mkA hnl0; clear hnl0; obtain ⟨Ao21, co21, rfl⟩ := Kd.R_slice HO576.out; have nq22 := fun (W_ : World) => impl_WeakLevels.nilNeq_ (P := Tryz.prog) W_ (t := 24) (e := 3) (c := co21) Tryz.underlying24 NL_HO576.out (fun h_ => Kd.R_form HO576.out h_)))
   go_ret2
   exact ⟨_, eqE, nilE, bel_g HB.out⟩
 ·replace c3 := Bool.eq_false_iff.mpr c3
  subst c3
  replace H := ifF H
  simp only [Option.some.injEq, Prod.mk.injEq] at H
  obtain ⟨rfl, rfl⟩ := H
  go_enter Tryz.func6, Tryz.ntmps6
  go_wp2_with (first | ((with_reducible refine gate_dst (N := 1) rfl ?_); refine boxG HB #[.int .i64 a0_0, .slice A0_1 l0_1.length c0_1] 26 ?_; intro gb572 hg w23 BK572 GE572 hb; replace HB := bst HB hb; clear hb hg; obtain ⟨_, _, _, _⟩ := blk2 BK572) | ((with_reducible refine gate_callee (f := 12) rfl ?_); refine goesQ (some 5) Tryz.func12 #[.agg #[.int .i64 a0_0, .slice A0_1 l0_1.length c0_1]] ?_; (with_reducible refine (impl_IsOrder.calls k a0_0 _ _ l0_1 false _ ?_ ?_ ?_ A2.out).mono ?_); exact C_g HR0_1 HB; exact HC0_1.out; exact Tab.below HTAB.out (bel_g HB.out); rintro e w25 ⟨rfl, hb⟩; refine ⟨_, rfl, ?_⟩; replace BK572 := blkB BK572 hb; replace HB := bst HB hb; clear hb))
  go_ret2
  exact ⟨_, eqE, nilE, bel_g HB.out⟩
def spec_orList.l0 : Nat → Int → List Int → Int → Option (List Int)
 | 0, _, _, _ => none
 | k + 1, x0, x3, x4 => if 0 ≤ x4 then (if (shr .i64 x0 x4) > 0 then ((spec_orHas.f x0 x4).bind fun t580 => (if t580 = true then (if x3.length < 17592186044416 then (spec_orList.l0 k x0 (x3 ++ [x4]) (wrap64 (x4 + 1))) else (none)) else (spec_orList.l0 k x0 x3 (wrap64 (x4 + 1))))) else (some x3)) else (none)
def spec_orList.f (k : Nat) (a0 : Int) : Option (List Int) := spec_orList.l0 k a0 ([] : List Int) 0
theorem spec_orList.mono_l : ∀ k, (∀ y0 y1 y2, LeO (spec_orList.l0 k y0 y1 y2) (spec_orList.l0 (k + 1) y0 y1 y2))
 | 0 => fun _ _ _ r h => by simp [spec_orList.l0] at h
 | k + 1 => by
  have ih0 := spec_orList.mono_l k
  ·intro y0 y1 y2
   unfold spec_orList.l0
   repeat' (with_reducible first|apply ih0|apply LeO.refl|apply LeO.none|apply LeO.ite|apply LeO.bind|intro)
theorem spec_orList.mono : ∀ a0 k, LeO (spec_orList.f k a0) (spec_orList.f (k + 1) a0) := by
 intro a0 k
 have ih0 := spec_orList.mono_l k
 unfold spec_orList.f
 repeat' (with_reducible first|apply ih0|apply LeO.refl|apply LeO.none|apply LeO.ite|apply LeO.bind|intro)
theorem spec_orList.calls (k : Nat) (a0 : Int) (r : List Int) (w : World) (h : spec_orList.f k a0 = some r) :
  Calls Tryz.prog 28 #[.int .i64 a0] w fun e w' => ∃ v0_ : Value, e = .returned (v0_) ∧ Kd.R (Kd.int .i64) 3 w' w.heap.size (fun _ => True) v0_ r ∧ Below w.heap.size w w' := by
 have HB := mkA (Below.refl w.heap.size w)
 have H := h
 clear h
 unfold spec_orList.f at H
 have H' := mkA H
 clear H
 go_enter Tryz.func28, Tryz.ntmps28
 go_wp2
 go_loopg [3, 4] k (fun kq v3 v4 w' => ∃ (x3_1 : List Int) (x4_1 : Int), v4 = .int .i64 x4_1 ∧ Fc (spec_orList.l0 kq a0 x3_1 x4_1 = some r) ∧ Fc (kq ≤ k) ∧ Fc (Kd.R (Kd.int .i64) 3 w' w.heap.size (fun _ => True) v3 x3_1) ∧ Fc (Below w.heap.size w w'))
 case atStart => exact ⟨(([] : List Int)), (0), eqS, H', ⟨Nat.le_refl _⟩, ⟨nilE⟩, hbg HB⟩
 case round =>
  clear H'
  obtain ⟨x3_1, x4_1, rfl, HA, HK1, HO_3, HB⟩ := hrel
  cases gk with
  | zero => exact absurd HA.out (by simp [spec_orList.l0])
  | succ k1 =>
   have H := HA.out
   clear HA
   simp only [spec_orList.l0] at H
   obtain ⟨c2b0, c2b1, H⟩ := itNQ H
   obtain ⟨ji3, hji3⟩ : ∃ j_ : Int, (shr .i64 a0 x4_1) = j_ := ⟨_, rfl⟩
   first | rw [hji3] at H | simp only [hji3] at H
   have hji3_ : (a0 / 2 ^ min x4_1.toNat 64) = ji3 := hji3
   have hji3z : x4_1 ≤ 64 → (a0 / 2 ^ x4_1.toNat) = ji3 := shr_small hji3
   rcases iteP H with ⟨c4, H⟩ | ⟨c4, H⟩
   ·have c4b0 := decide_eq_true c4
    clear c4
    obtain ⟨t580, A5, H⟩ := obE H
    by_cases c6 : t580 = true
    ·subst c6
     replace H := ifT H
     obtain ⟨c7, H⟩ := itNP H
     have LMc7 := mkA c7
     clear c7
     obtain ⟨y581, hy581⟩ : ∃ y_ : List Int, y_ = (x3_1 ++ [x4_1]) := ⟨_, rfl⟩
     rw [← hy581] at H
     have Ny581 := mkA hy581
     clear hy581
     have H' := mkA H
     clear H
     go_wp2_with (first | ((with_reducible refine gate_callee (f := 51) rfl ?_); refine goesQ (some 13) Tryz.func51 #[.int .i64 a0, .int .i64 x4_1] ?_; (with_reducible refine (spec_orHas.calls a0 x4_1 true _ A5.out).mono ?_); rintro e w' ⟨rfl, ⟨nd, rfl⟩⟩; refine ⟨_, rfl, ?_⟩) | ((with_reducible refine gate_builtin (b := .append) (xs := #[.tmp 14, .tmp 16]) rfl ?_); at_builtin; refine Kd.R_append (Kd.int .i64) (w0 := w) w.heap.size rfl (.tmp 14) (.tmp 16) 24 3 (.int .i64 0) 8 rfl Tryz.underlying24 info3 rfl (by decide) (by omega) u3 x3_1 x4_1 [.int .i64 x4_1] (fun _ => True) (fun _ => False) rfl rfl ?aP (fun _ hk => hk.elim) ?aF ?aO ?aB ?aS ?aL ?_; (case aP => exact rfl); (case aB => exact (bel_g HB.out)); (case aF => exact (fun _ _ => trivial)); (case aO => exact (Kd.R_g HO_3.out)); (case aS => exact (below_size (bel_g HB.out))); (case aL => have := LMc7.out; omega); intro v582 w8 ho hb hg hat; rw [← Ny581.out] at ho; have HO583 := mkA (ho); replace HB := mkA (hb); clear HO_3; clear ho hb hg hat))
     go_roundg k1
     case measure => have := HK1.out; omega
     case rel => exact ⟨(y581), (wrap64 (x4_1 + 1)), eqS, H', ⟨by have := HK1.out; omega⟩, rg HO583, hbg HB⟩
    ·replace c6 := Bool.eq_false_iff.mpr c6
     subst c6
     replace H := ifF H
     have H' := mkA H
     clear H
     go_wp2_with (first | ((with_reducible refine gate_callee (f := 51) rfl ?_); refine goesQ (some 13) Tryz.func51 #[.int .i64 a0, .int .i64 x4_1] ?_; (with_reducible refine (spec_orHas.calls a0 x4_1 false _ A5.out).mono ?_); rintro e w' ⟨rfl, ⟨nd, rfl⟩⟩; refine ⟨_, rfl, ?_⟩))
     go_roundg k1
     case measure => have := HK1.out; omega
     case rel => exact ⟨(x3_1), (wrap64 (x4_1 + 1)), eqS, H', ⟨by have := HK1.out; omega⟩, rg HO_3, hbg HB⟩
   ·have c4b0 := decide_eq_false c4
    clear c4
    obtain rfl := Option.some.inj H
    go_wp2
    go_ret
    exact ⟨_, by first | rfl | (simp [errW_none, errW_some] <;> rfl) | (simp only [← hji3]; first | rfl | (simp [errW_none, errW_some] <;> rfl)) | (simp [*, errW_none, errW_some] <;> rfl), Kd.R_g HO_3.out, bel_g HB.out⟩
end Go.Proofs.YtgbdjchdfcodcaaGreatDoor.Q
