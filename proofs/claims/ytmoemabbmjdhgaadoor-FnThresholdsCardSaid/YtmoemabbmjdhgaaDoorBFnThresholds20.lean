import Derived.Test.YtmoemabbmjdhgaaDoorBFnThresholds19
namespace Go.Proofs.YtmoemabbmjdhgaaDoor.Q
open Go.RowKit Go.Proofs.YtmoemabbmjdhgaaDoorW.PrintWords Go.Proofs.YtmoemabbmjdhgaaDoorW.PrintLast Go.Proofs.YtmoemabbmjdhgaaDoorW.PrintMore
attribute [local go_sem] max2_int min2_int max_two min_two max_three min_three max_four min_four neB_f
set_option linter.unusedVariables false
set_option maxHeartbeats 8000000
set_option maxRecDepth 100000
set_option linter.unusedSimpArgs false
mutual
def spec_seTwoTwo.l0 : Nat → Int → Int → List Int → Option (Bool)
 | 0, _, _, _ => none
 | k + 1, x3, x484000, x484001 => if x3 < x484000 then (if 0 ≤ x3 then (if x3 < (x484001.length : Int) then ((spec_orList.f k (rd x484001 x3)).bind fun t485 => (spec_seTwoTwo.l1 k x3 t485 (t485.length : Int) 0 x484000 x484001)) else (none)) else (none)) else (some false)
def spec_seTwoTwo.l1 : Nat → Int → List Int → Int → Int → Int → List Int → Option (Bool)
 | 0, _, _, _, _, _, _ => none
 | k + 1, x3, x20, x21, x22, x484000, x484001 => if x22 < x21 then (if 0 ≤ x22 then (if x22 < (x20.length : Int) then (spec_seTwoTwo.l2 k x3 (rd x20 x22) 0 x20 x21 x22 x484000 x484001) else (none)) else (none)) else (spec_seTwoTwo.l0 k (wrap64 (x3 + 1)) x484000 x484001)
def spec_seTwoTwo.l2 : Nat → Int → Int → Int → List Int → Int → Int → Int → List Int → Option (Bool)
 | 0, _, _, _, _, _, _, _, _ => none
 | k + 1, x3, x5, x6, x20, x21, x22, x484000, x484001 => if x6 < x484000 then (if 0 ≤ x6 then (if x6 < (x484001.length : Int) then ((spec_orList.f k (rd x484001 x6)).bind fun t490 => (spec_seTwoTwo.l3 k x3 x5 x6 x20 x21 x22 t490 (t490.length : Int) 0 x484000 x484001)) else (none)) else (none)) else (spec_seTwoTwo.l1 k x3 x20 x21 (wrap64 (x22 + 1)) x484000 x484001)
def spec_seTwoTwo.l3 : Nat → Int → Int → Int → List Int → Int → Int → List Int → Int → Int → Int → List Int → Option (Bool)
 | 0, _, _, _, _, _, _, _, _, _, _, _ => none
 | k + 1, x3, x5, x6, x20, x21, x22, x37, x38, x39, x484000, x484001 => if x39 < x38 then (if 0 ≤ x39 then (if x39 < (x37.length : Int) then ((spec_seIndifferent.f k x484000 x484001 x3 (rd x37 x39)).bind fun t494 => (if t494 = true then ((spec_seIndifferent.f k x484000 x484001 x6 x5).bind fun t495 => (if t495 = true then (some true) else (spec_seTwoTwo.l3 k x3 x5 x6 x20 x21 x22 x37 x38 (wrap64 (x39 + 1)) x484000 x484001))) else (spec_seTwoTwo.l3 k x3 x5 x6 x20 x21 x22 x37 x38 (wrap64 (x39 + 1)) x484000 x484001))) else (none)) else (none)) else (spec_seTwoTwo.l2 k x3 x5 (wrap64 (x6 + 1)) x20 x21 x22 x484000 x484001)
end
def spec_seTwoTwo.f (k : Nat) (a0_0 : Int) (l0_1 : List Int) : Option (Bool) := spec_seTwoTwo.l0 k 0 a0_0 l0_1
theorem spec_seTwoTwo.mono_l : ∀ k, (∀ y0 y1 y2, LeO (spec_seTwoTwo.l0 k y0 y1 y2) (spec_seTwoTwo.l0 (k + 1) y0 y1 y2)) ∧ (∀ y0 y1 y2 y3 y4 y5, LeO (spec_seTwoTwo.l1 k y0 y1 y2 y3 y4 y5) (spec_seTwoTwo.l1 (k + 1) y0 y1 y2 y3 y4 y5)) ∧ (∀ y0 y1 y2 y3 y4 y5 y6 y7, LeO (spec_seTwoTwo.l2 k y0 y1 y2 y3 y4 y5 y6 y7) (spec_seTwoTwo.l2 (k + 1) y0 y1 y2 y3 y4 y5 y6 y7)) ∧ (∀ y0 y1 y2 y3 y4 y5 y6 y7 y8 y9 y10, LeO (spec_seTwoTwo.l3 k y0 y1 y2 y3 y4 y5 y6 y7 y8 y9 y10) (spec_seTwoTwo.l3 (k + 1) y0 y1 y2 y3 y4 y5 y6 y7 y8 y9 y10))
 | 0 => ⟨fun _ _ _ r h => by simp [spec_seTwoTwo.l0] at h, fun _ _ _ _ _ _ r h => by simp [spec_seTwoTwo.l1] at h, fun _ _ _ _ _ _ _ _ r h => by simp [spec_seTwoTwo.l2] at h, fun _ _ _ _ _ _ _ _ _ _ _ r h => by simp [spec_seTwoTwo.l3] at h⟩
 | k + 1 => by
  obtain ⟨ih0, ih1, ih2, ih3⟩ := spec_seTwoTwo.mono_l k
  refine ⟨?_, ?_, ?_, ?_⟩ <;> intros
  unfold spec_seTwoTwo.l0
  rotate_left
  unfold spec_seTwoTwo.l1
  rotate_left
  unfold spec_seTwoTwo.l2
  rotate_left
  unfold spec_seTwoTwo.l3
  rotate_left
  all_goals repeat' (with_reducible first|apply ih0|apply ih1|apply ih2|apply ih3|apply spec_orList.mono|apply spec_seIndifferent.mono|apply LeO.refl|apply LeO.none|apply LeO.ite|apply LeO.bind|intro)
theorem spec_seTwoTwo.mono : ∀ a0 a1 k, LeO (spec_seTwoTwo.f k a0 a1) (spec_seTwoTwo.f (k + 1) a0 a1) := by
 intro a0 a1 k
 obtain ⟨ih0, ih1, ih2, ih3⟩ := spec_seTwoTwo.mono_l k
 unfold spec_seTwoTwo.f
 repeat' (with_reducible first|apply ih0|apply ih1|apply ih2|apply ih3|apply spec_orList.mono|apply spec_seIndifferent.mono|apply LeO.refl|apply LeO.none|apply LeO.ite|apply LeO.bind|intro)
theorem spec_seTwoTwo.calls (k : Nat) (a0_0 : Int) (A0_1 : Option Addr) (c0_1 : Nat) (l0_1 : List Int) (r : Bool) (w : World) (hr0_1 : Kd.C (Kd.int .i64) w A0_1 l0_1.length l0_1) (hc0_1 : l0_1.length ≤ c0_1) (h : spec_seTwoTwo.f k a0_0 l0_1 = some r) :
  Calls Tryd.prog 40 #[.agg #[.int .i64 a0_0, .slice A0_1 l0_1.length c0_1]] w fun e w' => e = .returned (.bool r) ∧ Below w.heap.size w w' := by
 have hu26 := Tryd.underlying26
 have HR0_1 := mkA hr0_1
 have HC0_1 := mkA hc0_1
 clear hr0_1 hc0_1
 have HB := mkA (Below.refl w.heap.size w)
 have H := h
 clear h
 unfold spec_seTwoTwo.f at H
 have H' := mkA H
 clear H
 go_enter Tryd.func40, Tryd.ntmps40
 go_wp2_with (first | ((with_reducible refine gate_dst (N := 1) rfl ?_); refine boxG HB #[.int .i64 a0_0, .slice A0_1 l0_1.length c0_1] 26 ?_; intro gb483 hg w2 BK483 GE483 hb; replace HB := bst HB hb; clear hb hg))
 go_loopg [3] k (fun kq v3 w' => ∃ (x3_1 : Int), v3 = .int .i64 x3_1 ∧ Fc (spec_seTwoTwo.l0 kq x3_1 a0_0 l0_1 = some r) ∧ Fc (kq ≤ k) ∧ Fc (w'.heap[gb483]? = some (.cells #[.int .i64 a0_0, (.slice A0_1 l0_1.length c0_1)] 26 (0, 0))) ∧ Fc (Below w.heap.size w w'))
 case atStart => exact ⟨(0), eqS, H', ⟨Nat.le_refl _⟩, bg BK483, hbg HB⟩
 case round =>
  clear H'
  obtain ⟨x3_1, rfl, HA, HK1, BK483, HB⟩ := hrel
  cases gk with
  | zero => exact absurd HA.out (by simp [spec_seTwoTwo.l0])
  | succ k1 =>
   have H := HA.out
   clear HA
   simp only [spec_seTwoTwo.l0] at H
   rcases iteE H with ⟨c3b0, H⟩ | ⟨c3b0, H⟩
   ·obtain ⟨c4b0, H⟩ := itND H
    obtain ⟨c5b0, H⟩ := itND H
    obtain ⟨t485, A6, H⟩ := obE H
    have H' := mkA H
    clear H
    obtain ⟨_, _, _, _⟩ := blk2 BK483
    obtain ⟨p484, q484, ad484, e484, hx484_0⟩ := atI HR0_1.out x3_1
    cases e484
    replace hx484_0 := (HB.out.cell (World.block_lt_of_cell? w _ hx484_0)).trans hx484_0
    go_wp2_with (first | ((with_reducible refine gate_callee (f := 28) rfl ?_); refine goesQ (some 20) Tryd.func28 #[.int .i64 (rd l0_1 x3_1)] ?_; (with_reducible refine (spec_orList.calls k1 (rd l0_1 x3_1) t485 _ A6.out).mono ?_); rintro e w8 ⟨v486, rfl, ho0, hb⟩; refine ⟨_, rfl, ?_⟩; have HO487 := rLo ho0 HB; replace BK483 := blkB BK483 hb; replace HB := bst HB hb; clear hb ho0; obtain ⟨Ao9, co9, rfl⟩ := Kd.R_slice HO487.out))
    go_loopg [22] k1 (fun kq v22 w' => ∃ (x22_2 : Int), v22 = .int .i64 x22_2 ∧ Fc (spec_seTwoTwo.l1 kq x3_1 t485 (t485.length : Int) x22_2 a0_0 l0_1 = some r) ∧ Fc (kq ≤ k1) ∧ Fc (Kd.R (Kd.int .i64) 3 w' w.heap.size (fun _ => True) (.slice Ao9 t485.length co9) t485) ∧ Fc (w'.heap[gb483]? = some (.cells #[.int .i64 a0_0, (.slice (some ad484) l0_1.length c0_1)] 26 (0, 0))) ∧ Fc (Below w.heap.size w w'))
    case atStart => exact ⟨(0), eqS, H', ⟨Nat.le_refl _⟩, rg HO487, bg BK483, hbg HB⟩
    case round =>
     clear H'
     try clear c3b0
     try clear c4
     try clear c4b0
     try clear c5
     try clear c5b0
     try clear hx484_0
     try clear p484
     try clear q484
     obtain ⟨x22_2, rfl, HA, HK2, HO_20, BK483, HB⟩ := hrel
     cases gk with
     | zero => exact absurd HA.out (by simp [spec_seTwoTwo.l1])
     | succ k2 =>
      have H := HA.out
      clear HA
      simp only [spec_seTwoTwo.l1] at H
      rcases iteE H with ⟨c10b0, H⟩ | ⟨c10b0, H⟩
      ·obtain ⟨c11b0, H⟩ := itND H
       obtain ⟨c12b0, H⟩ := itND H
       have H' := mkA H
       clear H
       obtain ⟨p488, q488, ad488, e488, hx488_0⟩ := atI (Kd.R_reads' HO_20.out).2.2 x22_2
       cases e488
       go_wp2
       go_loopg [6] k2 (fun kq v6 w' => ∃ (x6_3 : Int), v6 = .int .i64 x6_3 ∧ Fc (spec_seTwoTwo.l2 kq x3_1 (rd t485 x22_2) x6_3 t485 (t485.length : Int) x22_2 a0_0 l0_1 = some r) ∧ Fc (kq ≤ k2) ∧ Fc (Kd.R (Kd.int .i64) 3 w' w.heap.size (fun _ => True) (.slice (some ad488) t485.length co9) t485) ∧ Fc (w'.heap[gb483]? = some (.cells #[.int .i64 a0_0, (.slice (some ad484) l0_1.length c0_1)] 26 (0, 0))) ∧ Fc (Below w.heap.size w w'))
       case atStart => exact ⟨(0), eqS, H', ⟨Nat.le_refl _⟩, rg HO_20, bg BK483, hbg HB⟩
       case round =>
        clear H'
        try clear c3b0
        try clear c4
        try clear c4b0
        try clear c5
        try clear c5b0
        try clear c10b0
        try clear c11
        try clear c11b0
        try clear c12
        try clear c12b0
        try clear hx484_0
        try clear hx488_0
        try clear p484
        try clear p488
        try clear q484
        try clear q488
        obtain ⟨x6_3, rfl, HA, HK3, HO_20, BK483, HB⟩ := hrel
        cases gk with
        | zero => exact absurd HA.out (by simp [spec_seTwoTwo.l2])
        | succ k3 =>
         have H := HA.out
         clear HA
         simp only [spec_seTwoTwo.l2] at H
         rcases iteE H with ⟨c13b0, H⟩ | ⟨c13b0, H⟩
         ·obtain ⟨c14b0, H⟩ := itND H
          obtain ⟨c15b0, H⟩ := itND H
          obtain ⟨t490, A16, H⟩ := obE H
          have H' := mkA H
          clear H
          obtain ⟨_, _, _, _⟩ := blk2 BK483
          obtain ⟨p489, q489, ad489, e489, hx489_0⟩ := atI HR0_1.out x6_3
          obtain rfl : ad484 = ad489 := (by injection e489)
          replace hx489_0 := (HB.out.cell (World.block_lt_of_cell? w _ hx489_0)).trans hx489_0
          go_wp2_with (first | ((with_reducible refine gate_callee (f := 28) rfl ?_); refine goesQ (some 37) Tryd.func28 #[.int .i64 (rd l0_1 x6_3)] ?_; (with_reducible refine (spec_orList.calls k3 (rd l0_1 x6_3) t490 _ A16.out).mono ?_); rintro e w18 ⟨v491, rfl, ho0, hb⟩; refine ⟨_, rfl, ?_⟩; have HO492 := rLo (rN ho0 HO_20) HB; replace HO_20 := rE HO_20 ho0 hb; replace BK483 := blkB BK483 hb; replace HB := bst HB hb; clear hb ho0; obtain ⟨Ao19, co19, rfl⟩ := Kd.R_slice HO492.out))
          go_loopg [39] k3 (fun kq v39 w' => ∃ (x39_4 : Int), v39 = .int .i64 x39_4 ∧ Fc (spec_seTwoTwo.l3 kq x3_1 (rd t485 x22_2) x6_3 t485 (t485.length : Int) x22_2 t490 (t490.length : Int) x39_4 a0_0 l0_1 = some r) ∧ Fc (kq ≤ k3) ∧ Fc (Kd.R (Kd.int .i64) 3 w' w.heap.size (fun k_ => some k_ ≠ ((.slice Ao19 t490.length co19) : Value).ownBlock) (.slice (some ad488) t485.length co9) t485) ∧ Fc (Kd.R (Kd.int .i64) 3 w' w.heap.size (fun k_ => some k_ ≠ ((.slice (some ad488) t485.length co9) : Value).ownBlock) (.slice Ao19 t490.length co19) t490) ∧ Fc (w'.heap[gb483]? = some (.cells #[.int .i64 a0_0, (.slice (some ad484) l0_1.length c0_1)] 26 (0, 0))) ∧ Fc (Below w.heap.size w w'))
          case atStart => exact ⟨(0), eqS, H', ⟨Nat.le_refl _⟩, ⟨Kd.R_g (Kd.R_mono HO_20.out (fun _ hk => hk.2))⟩, ⟨Kd.R_g (Kd.R_mono HO492.out (fun _ hk => hk.2))⟩, bg BK483, hbg HB⟩
          case round =>
           clear H'
           try clear c3b0
           try clear c4
           try clear c4b0
           try clear c5
           try clear c5b0
           try clear c10b0
           try clear c11
           try clear c11b0
           try clear c12
           try clear c12b0
           try clear c13b0
           try clear c14
           try clear c14b0
           try clear c15
           try clear c15b0
           try clear hx484_0
           try clear hx488_0
           try clear hx489_0
           try clear p484
           try clear p488
           try clear p489
           try clear q484
           try clear q488
           try clear q489
           obtain ⟨x39_4, rfl, HA, HK4, HO_20, HO_37, BK483, HB⟩ := hrel
           cases gk with
           | zero => exact absurd HA.out (by simp [spec_seTwoTwo.l3])
           | succ k4 =>
            have H := HA.out
            clear HA
            simp only [spec_seTwoTwo.l3] at H
            rcases iteE H with ⟨c20b0, H⟩ | ⟨c20b0, H⟩
            ·obtain ⟨c21b0, H⟩ := itND H
             obtain ⟨c22b0, H⟩ := itND H
             obtain ⟨t494, A23, H⟩ := obE H
             by_cases c24 : t494 = true
             ·subst c24
              replace H := ifT H
              obtain ⟨t495, A25, H⟩ := obE H
              by_cases c26 : t495 = true
              ·subst c26
               replace H := ifT H
               obtain rfl := Option.some.inj H
               obtain ⟨p493, q493, ad493, e493, hx493_0⟩ := atI (Kd.R_reads' HO_37.out).2.2 x39_4
               cases e493
               obtain ⟨_, _, _, _⟩ := blk2 BK483
               go_wp2_with (first | ((with_reducible refine gate_callee (f := 55) rfl ?_); refine goesQ (some 46) Tryd.func55 #[.agg #[.int .i64 a0_0, .slice (some ad484) l0_1.length c0_1], .int .i64 x3_1, .int .i64 (rd t490 x39_4)] ?_; (with_reducible refine (spec_seIndifferent.calls k4 a0_0 _ _ l0_1 x3_1 (rd t490 x39_4) true _ ?_ ?_ A23.out).mono ?_); exact C_g HR0_1 HB; exact HC0_1.out; rintro e w28 ⟨rfl, hb⟩; refine ⟨_, rfl, ?_⟩; replace HO_20 := rB HO_20 hb; replace HO_37 := rB HO_37 hb; replace BK483 := blkB BK483 hb; replace HB := bst HB hb; clear hb; obtain ⟨_, _, _, _⟩ := blk2 BK483) | (go_at_call 55; (with_reducible refine (spec_seIndifferent.calls k4 a0_0 _ _ l0_1 x6_3 (rd t485 x22_2) true _ ?_ ?_ A25.out).mono ?_); exact C_g HR0_1 HB; exact HC0_1.out; rintro e w30 ⟨rfl, hb⟩; replace HO_20 := rB HO_20 hb; replace HO_37 := rB HO_37 hb; replace BK483 := blkB BK483 hb; replace HB := bst HB hb; clear hb))
               go_ret
               exact ⟨eqE, bel_g HB.out⟩
              ·replace c26 := Bool.eq_false_iff.mpr c26
               subst c26
               replace H := ifF H
               have H' := mkA H
               clear H
               obtain ⟨p493, q493, ad493, e493, hx493_0⟩ := atI (Kd.R_reads' HO_37.out).2.2 x39_4
               cases e493
               obtain ⟨_, _, _, _⟩ := blk2 BK483
               go_wp2_with (first | ((with_reducible refine gate_callee (f := 55) rfl ?_); refine goesQ (some 46) Tryd.func55 #[.agg #[.int .i64 a0_0, .slice (some ad484) l0_1.length c0_1], .int .i64 x3_1, .int .i64 (rd t490 x39_4)] ?_; (with_reducible refine (spec_seIndifferent.calls k4 a0_0 _ _ l0_1 x3_1 (rd t490 x39_4) true _ ?_ ?_ A23.out).mono ?_); exact C_g HR0_1 HB; exact HC0_1.out; rintro e w32 ⟨rfl, hb⟩; refine ⟨_, rfl, ?_⟩; replace HO_20 := rB HO_20 hb; replace HO_37 := rB HO_37 hb; replace BK483 := blkB BK483 hb; replace HB := bst HB hb; clear hb; obtain ⟨_, _, _, _⟩ := blk2 BK483) | (go_at_call 55; (with_reducible refine (spec_seIndifferent.calls k4 a0_0 _ _ l0_1 x6_3 (rd t485 x22_2) false _ ?_ ?_ A25.out).mono ?_); exact C_g HR0_1 HB; exact HC0_1.out; rintro e w34 ⟨rfl, hb⟩; replace HO_20 := rB HO_20 hb; replace HO_37 := rB HO_37 hb; replace BK483 := blkB BK483 hb; replace HB := bst HB hb; clear hb))
               go_roundg k4
               case measure => have := HK1.out; have := HK2.out; have := HK3.out; have := HK4.out; omega
               case rel => exact ⟨(wrap64 (x39_4 + 1)), eqS, H', ⟨by have := HK1.out; have := HK2.out; have := HK3.out; have := HK4.out; omega⟩, rg HO_20, rg HO_37, bg BK483, hbg HB⟩
             ·replace c24 := Bool.eq_false_iff.mpr c24
              subst c24
              replace H := ifF H
              have H' := mkA H
              clear H
              obtain ⟨p493, q493, ad493, e493, hx493_0⟩ := atI (Kd.R_reads' HO_37.out).2.2 x39_4
              cases e493
              obtain ⟨_, _, _, _⟩ := blk2 BK483
              go_wp2_with (first | ((with_reducible refine gate_callee (f := 55) rfl ?_); refine goesQ (some 46) Tryd.func55 #[.agg #[.int .i64 a0_0, .slice (some ad484) l0_1.length c0_1], .int .i64 x3_1, .int .i64 (rd t490 x39_4)] ?_; (with_reducible refine (spec_seIndifferent.calls k4 a0_0 _ _ l0_1 x3_1 (rd t490 x39_4) false _ ?_ ?_ A23.out).mono ?_); exact C_g HR0_1 HB; exact HC0_1.out; rintro e w36 ⟨rfl, hb⟩; refine ⟨_, rfl, ?_⟩; replace HO_20 := rB HO_20 hb; replace HO_37 := rB HO_37 hb; replace BK483 := blkB BK483 hb; replace HB := bst HB hb; clear hb))
              go_roundg k4
              case measure => have := HK1.out; have := HK2.out; have := HK3.out; have := HK4.out; omega
              case rel => exact ⟨(wrap64 (x39_4 + 1)), eqS, H', ⟨by have := HK1.out; have := HK2.out; have := HK3.out; have := HK4.out; omega⟩, rg HO_20, rg HO_37, bg BK483, hbg HB⟩
            ·have H' := mkA H
             clear H
             go_wp2
             go_roundg k4
             case measure => have := HK1.out; have := HK2.out; have := HK3.out; have := HK4.out; omega
             case rel => exact ⟨(wrap64 (x6_3 + 1)), eqS, H', ⟨by have := HK1.out; have := HK2.out; have := HK3.out; have := HK4.out; omega⟩, ⟨Kd.R_g (Kd.R_mono HO_20.out (fun _ hk => trivial))⟩, bg BK483, hbg HB⟩
         ·have H' := mkA H
          clear H
          obtain ⟨_, _, _, _⟩ := blk2 BK483
          go_wp2
          go_roundg k3
          case measure => have := HK1.out; have := HK2.out; have := HK3.out; omega
          case rel => exact ⟨(wrap64 (x22_2 + 1)), eqS, H', ⟨by have := HK1.out; have := HK2.out; have := HK3.out; omega⟩, rg HO_20, bg BK483, hbg HB⟩
      ·have H' := mkA H
       clear H
       go_wp2
       go_roundg k2
       case measure => have := HK1.out; have := HK2.out; omega
       case rel => exact ⟨(wrap64 (x3_1 + 1)), eqS, H', ⟨by have := HK1.out; have := HK2.out; omega⟩, bg BK483, hbg HB⟩
   ·obtain rfl := Option.some.inj H
    obtain ⟨_, _, _, _⟩ := blk2 BK483
    go_wp2
    go_ret
    exact ⟨eqE, bel_g HB.out⟩
def spec_seGood.f (k : Nat) (a0_0 : Int) (l0_1 : List Int) : Option (Bool) := (spec_ThreeOneOf.f k a0_0 l0_1).bind fun bt497 => ((spec_orGood.f k a0_0 l0_1).bind fun t501 => (if t501 = true then (if bt497.2 = true then (some false) else ((spec_seTwoTwo.f k a0_0 l0_1).bind fun t502 => (some (!t502)))) else (some false)))
theorem spec_seGood.mono : ∀ a0 a1 k, LeO (spec_seGood.f k a0 a1) (spec_seGood.f (k + 1) a0 a1) := by
 intro a0 a1 k
 unfold spec_seGood.f
 repeat' (with_reducible first|apply spec_ThreeOneOf.mono|apply spec_orGood.mono|apply spec_seTwoTwo.mono|apply LeO.refl|apply LeO.none|apply LeO.ite|apply LeO.bind|intro)
theorem spec_seGood.calls (k : Nat) (a0_0 : Int) (A0_1 : Option Addr) (c0_1 : Nat) (l0_1 : List Int) (r : Bool) (w : World) (hr0_1 : Kd.C (Kd.int .i64) w A0_1 l0_1.length l0_1) (hc0_1 : l0_1.length ≤ c0_1) (h : spec_seGood.f k a0_0 l0_1 = some r) :
  Calls Tryd.prog 23 #[.agg #[.int .i64 a0_0, .slice A0_1 l0_1.length c0_1]] w fun e w' => e = .returned (.bool r) ∧ Below w.heap.size w w' := by
 have hu26 := Tryd.underlying26
 have HR0_1 := mkA hr0_1
 have HC0_1 := mkA hc0_1
 clear hr0_1 hc0_1
 have HB := mkA (Below.refl w.heap.size w)
 have H := h
 clear h
 unfold spec_seGood.f at H
 obtain ⟨⟨t497, t500⟩, A2, H⟩ := obE H
 dsimp only at H
 obtain ⟨t501, A3, H⟩ := obE H
 by_cases c4 : t501 = true
 ·subst c4
  replace H := ifT H
  by_cases c5 : t500 = true
  ·subst c5
   replace H := ifT H
   obtain rfl := Option.some.inj H
   go_enter Tryd.func23, Tryd.ntmps23
   go_wp2_with (first | ((with_reducible refine gate_dst (N := 1) rfl ?_); refine boxG HB #[.int .i64 a0_0, .slice A0_1 l0_1.length c0_1] 26 ?_; intro gb496 hg w6 BK496 GE496 hb; replace HB := bst HB hb; clear hb hg; obtain ⟨_, _, _, _⟩ := blk2 BK496) | ((with_reducible refine gate_callee (f := 12) rfl ?_); refine goesQ (some 7) Tryd.func12 #[.agg #[.int .i64 a0_0, .slice A0_1 l0_1.length c0_1]] ?_; (with_reducible refine (spec_ThreeOneOf.calls k a0_0 _ _ l0_1 t497 true _ ?_ ?_ A2.out).mono ?_); exact C_g HR0_1 HB; exact HC0_1.out; rintro e w8 ⟨v498, rfl, ho0, hb⟩; refine ⟨_, rfl, ?_⟩; have HO499 := rLo ho0 HB; replace BK496 := blkB BK496 hb; replace HB := bst HB hb; clear hb ho0; obtain ⟨_, _, _, _⟩ := blk2 BK496) | ((with_reducible refine gate_callee (f := 20) rfl ?_); refine goesQ (some 11) Tryd.func20 #[.agg #[.int .i64 a0_0, .slice A0_1 l0_1.length c0_1]] ?_; (with_reducible refine (spec_orGood.calls k a0_0 _ _ l0_1 true _ ?_ ?_ A3.out).mono ?_); exact C_g HR0_1 HB; exact HC0_1.out; rintro e w10 ⟨rfl, hb⟩; refine ⟨_, rfl, ?_⟩; replace HO499 := rB HO499 hb; replace BK496 := blkB BK496 hb; replace HB := bst HB hb; clear hb))
   go_ret
   exact ⟨eqE, bel_g HB.out⟩
  ·replace c5 := Bool.eq_false_iff.mpr c5
   subst c5
   replace H := ifF H
   obtain ⟨t502, A11, H⟩ := obE H
   obtain rfl := Option.some.inj H
   go_enter Tryd.func23, Tryd.ntmps23
   go_wp2_with (first | ((with_reducible refine gate_dst (N := 1) rfl ?_); refine boxG HB #[.int .i64 a0_0, .slice A0_1 l0_1.length c0_1] 26 ?_; intro gb496 hg w12 BK496 GE496 hb; replace HB := bst HB hb; clear hb hg; obtain ⟨_, _, _, _⟩ := blk2 BK496) | ((with_reducible refine gate_callee (f := 12) rfl ?_); refine goesQ (some 7) Tryd.func12 #[.agg #[.int .i64 a0_0, .slice A0_1 l0_1.length c0_1]] ?_; (with_reducible refine (spec_ThreeOneOf.calls k a0_0 _ _ l0_1 t497 false _ ?_ ?_ A2.out).mono ?_); exact C_g HR0_1 HB; exact HC0_1.out; rintro e w14 ⟨v498, rfl, ho0, hb⟩; refine ⟨_, rfl, ?_⟩; have HO499 := rLo ho0 HB; replace BK496 := blkB BK496 hb; replace HB := bst HB hb; clear hb ho0; obtain ⟨_, _, _, _⟩ := blk2 BK496) | ((with_reducible refine gate_callee (f := 20) rfl ?_); refine goesQ (some 11) Tryd.func20 #[.agg #[.int .i64 a0_0, .slice A0_1 l0_1.length c0_1]] ?_; (with_reducible refine (spec_orGood.calls k a0_0 _ _ l0_1 true _ ?_ ?_ A3.out).mono ?_); exact C_g HR0_1 HB; exact HC0_1.out; rintro e w16 ⟨rfl, hb⟩; refine ⟨_, rfl, ?_⟩; replace HO499 := rB HO499 hb; replace BK496 := blkB BK496 hb; replace HB := bst HB hb; clear hb; obtain ⟨_, _, _, _⟩ := blk2 BK496) | (go_at_call 40; (with_reducible refine (spec_seTwoTwo.calls k a0_0 _ _ l0_1 t502 _ ?_ ?_ A11.out).mono ?_); exact C_g HR0_1 HB; exact HC0_1.out; rintro e w18 ⟨rfl, hb⟩; replace HO499 := rB HO499 hb; replace BK496 := blkB BK496 hb; replace HB := bst HB hb; clear hb))
   go_ret
   exact ⟨eqE, bel_g HB.out⟩
 ·replace c4 := Bool.eq_false_iff.mpr c4
  subst c4
  replace H := ifF H
  obtain rfl := Option.some.inj H
  go_enter Tryd.func23, Tryd.ntmps23
  go_wp2_with (first | ((with_reducible refine gate_dst (N := 1) rfl ?_); refine boxG HB #[.int .i64 a0_0, .slice A0_1 l0_1.length c0_1] 26 ?_; intro gb496 hg w19 BK496 GE496 hb; replace HB := bst HB hb; clear hb hg; obtain ⟨_, _, _, _⟩ := blk2 BK496) | ((with_reducible refine gate_callee (f := 12) rfl ?_); refine goesQ (some 7) Tryd.func12 #[.agg #[.int .i64 a0_0, .slice A0_1 l0_1.length c0_1]] ?_; (with_reducible refine (spec_ThreeOneOf.calls k a0_0 _ _ l0_1 t497 t500 _ ?_ ?_ A2.out).mono ?_); exact C_g HR0_1 HB; exact HC0_1.out; rintro e w21 ⟨v498, rfl, ho0, hb⟩; refine ⟨_, rfl, ?_⟩; have HO499 := rLo ho0 HB; replace BK496 := blkB BK496 hb; replace HB := bst HB hb; clear hb ho0; obtain ⟨_, _, _, _⟩ := blk2 BK496) | ((with_reducible refine gate_callee (f := 20) rfl ?_); refine goesQ (some 11) Tryd.func20 #[.agg #[.int .i64 a0_0, .slice A0_1 l0_1.length c0_1]] ?_; (with_reducible refine (spec_orGood.calls k a0_0 _ _ l0_1 false _ ?_ ?_ A3.out).mono ?_); exact C_g HR0_1 HB; exact HC0_1.out; rintro e w23 ⟨rfl, hb⟩; refine ⟨_, rfl, ?_⟩; replace HO499 := rB HO499 hb; replace BK496 := blkB BK496 hb; replace HB := bst HB hb; clear hb))
  go_ret
  exact ⟨eqE, bel_g HB.out⟩
def spec_IsSemiorder.f (k : Nat) (a0_0 : Int) (l0_1 : List Int) : Option (Bool × Bool) := (spec_orGood.f k a0_0 l0_1).bind fun t504 => (if t504 = true then ((spec_seGood.f k a0_0 l0_1).bind fun t505 => (some (t505, true))) else (some (false, false)))
theorem spec_IsSemiorder.mono : ∀ a0 a1 k, LeO (spec_IsSemiorder.f k a0 a1) (spec_IsSemiorder.f (k + 1) a0 a1) := by
 intro a0 a1 k
 unfold spec_IsSemiorder.f
 repeat' (with_reducible first|apply spec_orGood.mono|apply spec_seGood.mono|apply LeO.refl|apply LeO.none|apply LeO.ite|apply LeO.bind|intro)
theorem spec_IsSemiorder.calls (k : Nat) (a0_0 : Int) (A0_1 : Option Addr) (c0_1 : Nat) (l0_1 : List Int) (r1 : Bool) (r2 : Bool) (w : World) (hr0_1 : Kd.C (Kd.int .i64) w A0_1 l0_1.length l0_1) (hc0_1 : l0_1.length ≤ c0_1) (h : spec_IsSemiorder.f k a0_0 l0_1 = some (r1, r2)) :
  Calls Tryd.prog 9 #[.agg #[.int .i64 a0_0, .slice A0_1 l0_1.length c0_1]] w fun e w' => e = .returned (.tuple #[.bool r1, .bool r2]) ∧ Below w.heap.size w w' := by
 have hu26 := Tryd.underlying26
 have HR0_1 := mkA hr0_1
 have HC0_1 := mkA hc0_1
 clear hr0_1 hc0_1
 have HB := mkA (Below.refl w.heap.size w)
 have H := h
 clear h
 unfold spec_IsSemiorder.f at H
 obtain ⟨t504, A2, H⟩ := obE H
 by_cases c3 : t504 = true
 ·subst c3
  replace H := ifT H
  obtain ⟨t505, A4, H⟩ := obE H
  simp only [Option.some.injEq, Prod.mk.injEq] at H
  obtain ⟨rfl, rfl⟩ := H
  go_enter Tryd.func9, Tryd.ntmps9
  go_wp2_with (first | ((with_reducible refine gate_dst (N := 1) rfl ?_); refine boxG HB #[.int .i64 a0_0, .slice A0_1 l0_1.length c0_1] 26 ?_; intro gb503 hg w5 BK503 GE503 hb; replace HB := bst HB hb; clear hb hg; obtain ⟨_, _, _, _⟩ := blk2 BK503) | ((with_reducible refine gate_callee (f := 20) rfl ?_); refine goesQ (some 5) Tryd.func20 #[.agg #[.int .i64 a0_0, .slice A0_1 l0_1.length c0_1]] ?_; (with_reducible refine (spec_orGood.calls k a0_0 _ _ l0_1 true _ ?_ ?_ A2.out).mono ?_); exact C_g HR0_1 HB; exact HC0_1.out; rintro e w7 ⟨rfl, hb⟩; refine ⟨_, rfl, ?_⟩; replace BK503 := blkB BK503 hb; replace HB := bst HB hb; clear hb; obtain ⟨_, _, _, _⟩ := blk2 BK503) | ((with_reducible refine gate_callee (f := 23) rfl ?_); refine goesQ (some 8) Tryd.func23 #[.agg #[.int .i64 a0_0, .slice A0_1 l0_1.length c0_1]] ?_; (with_reducible refine (spec_seGood.calls k a0_0 _ _ l0_1 t505 _ ?_ ?_ A4.out).mono ?_); exact C_g HR0_1 HB; exact HC0_1.out; rintro e w9 ⟨rfl, hb⟩; refine ⟨_, rfl, ?_⟩; replace BK503 := blkB BK503 hb; replace HB := bst HB hb; clear hb))
  go_ret2
  exact ⟨eqE, bel_g HB.out⟩
 ·replace c3 := Bool.eq_false_iff.mpr c3
  subst c3
  replace H := ifF H
  simp only [Option.some.injEq, Prod.mk.injEq] at H
  obtain ⟨rfl, rfl⟩ := H
  go_enter Tryd.func9, Tryd.ntmps9
  go_wp2_with (first | ((with_reducible refine gate_dst (N := 1) rfl ?_); refine boxG HB #[.int .i64 a0_0, .slice A0_1 l0_1.length c0_1] 26 ?_; intro gb503 hg w10 BK503 GE503 hb; replace HB := bst HB hb; clear hb hg; obtain ⟨_, _, _, _⟩ := blk2 BK503) | ((with_reducible refine gate_callee (f := 20) rfl ?_); refine goesQ (some 5) Tryd.func20 #[.agg #[.int .i64 a0_0, .slice A0_1 l0_1.length c0_1]] ?_; (with_reducible refine (spec_orGood.calls k a0_0 _ _ l0_1 false _ ?_ ?_ A2.out).mono ?_); exact C_g HR0_1 HB; exact HC0_1.out; rintro e w12 ⟨rfl, hb⟩; refine ⟨_, rfl, ?_⟩; replace BK503 := blkB BK503 hb; replace HB := bst HB hb; clear hb))
  go_ret2
  exact ⟨eqE, bel_g HB.out⟩
end Go.Proofs.YtmoemabbmjdhgaaDoor.Q
