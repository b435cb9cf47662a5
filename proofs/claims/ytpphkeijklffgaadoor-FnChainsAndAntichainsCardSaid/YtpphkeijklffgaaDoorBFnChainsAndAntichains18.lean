import Derived.Test.YtpphkeijklffgaaDoorBFnChainsAndAntichains17
namespace Go.Proofs.YtpphkeijklffgaaDoor.Q
open Go.RowKit Go.Proofs.YtpphkeijklffgaaDoorW.PrintWords Go.Proofs.YtpphkeijklffgaaDoorW.PrintLast Go.Proofs.YtpphkeijklffgaaDoorW.PrintMore
attribute [local go_sem] max2_int min2_int max_two min_two max_three min_three max_four min_four neB_f
set_option linter.unusedVariables false
set_option maxHeartbeats 8000000
set_option maxRecDepth 100000
set_option linter.unusedSimpArgs false
mutual
def spec_orNumbers.l0 : Nat → List Int → Int → Int → Int → Int → List Int → Option (List Int × Bool)
 | 0, _, _, _, _, _, _ => none
 | k + 1, x1, x2, x8, x9, x419000, x419001 => if x9 < x2 then (spec_orNumbers.l1 k x1 x2 x8 x9 true x1 (x1.length : Int) 0 x419000 x419001) else (some (([] : List Int), false))
def spec_orNumbers.l1 : Nat → List Int → Int → Int → Int → Bool → List Int → Int → Int → Int → List Int → Option (List Int × Bool)
 | 0, _, _, _, _, _, _, _, _, _, _ => none
 | k + 1, x1, x2, x8, x9, x10, x27, x28, x29, x419000, x419001 => if x29 < x28 then (if 0 ≤ x29 then (if x29 < (x27.length : Int) then (if x10 = true then (if (rd x27 x29) = x9 then ((spec_orFree.f k x419000 x419001 x8).bind fun t420 => ((spec_orHas.f t420 x29).bind fun t421 => (spec_orNumbers.l1 k x1 x2 x8 x9 (!t421) x27 x28 (wrap64 (x29 + 1)) x419000 x419001))) else (spec_orNumbers.l1 k x1 x2 x8 x9 true x27 x28 (wrap64 (x29 + 1)) x419000 x419001)) else (spec_orNumbers.l1 k x1 x2 x8 x9 false x27 x28 (wrap64 (x29 + 1)) x419000 x419001)) else (none)) else (none)) else (if x10 = true then ((spec_l1Own.f x1).bind fun t422 => ((some (([x9] : List Int) : List Int)).bind fun y425 => (if t422.length + y425.length < 17592186044416 then ((spec_orNumbers.f k x419000 x419001 (t422 ++ y425) x2).bind fun bt431 => (if bt431.2 = true then (some (bt431.1, true)) else (spec_orNumbers.l0 k x1 x2 x8 (wrap64 (x9 + 1)) x419000 x419001))) else (none)))) else (spec_orNumbers.l0 k x1 x2 x8 (wrap64 (x9 + 1)) x419000 x419001))
def spec_orNumbers.f : Nat → Int → List Int → List Int → Int → Option (List Int × Bool)
 | 0, _, _, _, _ => none
 | k + 1, a0_0, l0_1, l1, a2 => if (l1.length : Int) = a0_0 then (some (l1, true)) else (spec_orNumbers.l0 k l1 a2 (l1.length : Int) 0 a0_0 l0_1)
end
theorem spec_orNumbers.mono_l : ∀ k, (∀ y0 y1 y2 y3, LeO (spec_orNumbers.f k y0 y1 y2 y3) (spec_orNumbers.f (k + 1) y0 y1 y2 y3)) ∧ (∀ y0 y1 y2 y3 y4 y5, LeO (spec_orNumbers.l0 k y0 y1 y2 y3 y4 y5) (spec_orNumbers.l0 (k + 1) y0 y1 y2 y3 y4 y5)) ∧ (∀ y0 y1 y2 y3 y4 y5 y6 y7 y8 y9, LeO (spec_orNumbers.l1 k y0 y1 y2 y3 y4 y5 y6 y7 y8 y9) (spec_orNumbers.l1 (k + 1) y0 y1 y2 y3 y4 y5 y6 y7 y8 y9))
 | 0 => ⟨fun _ _ _ _ r h => by simp [spec_orNumbers.f] at h, fun _ _ _ _ _ _ r h => by simp [spec_orNumbers.l0] at h, fun _ _ _ _ _ _ _ _ _ _ r h => by simp [spec_orNumbers.l1] at h⟩
 | k + 1 => by
  obtain ⟨ih0, ih1, ih2⟩ := spec_orNumbers.mono_l k
  refine ⟨?_, ?_, ?_⟩ <;> intros
  unfold spec_orNumbers.f
  rotate_left
  unfold spec_orNumbers.l0
  rotate_left
  unfold spec_orNumbers.l1
  rotate_left
  all_goals repeat' (with_reducible first|apply ih0|apply ih1|apply ih2|apply spec_orFree.mono|apply LeO.refl|apply LeO.none|apply LeO.ite|apply LeO.bind|intro)
theorem spec_orNumbers.mono : ∀ a0 a1 a2 a3 k, LeO (spec_orNumbers.f k a0 a1 a2 a3) (spec_orNumbers.f (k + 1) a0 a1 a2 a3) := by
 intro a0 a1 a2 a3 k
 obtain ⟨ih0, ih1, ih2⟩ := spec_orNumbers.mono_l k
 exact ih0 a0 a1 a2 a3
def spec_orNumbers.T14 : Bool × List (List Nat × List Nat) := (true, [([], []), ([], []), ([1], [1]), ([], []), ([3], [3]), ([2, 4, 2], [2, 4]), ([], []), ([0, 5, 6, 5], [0, 5, 6]), ([7], [7]), ([8], [8]), ([8], [8]), ([9, 7, 0, 1, 2, 3, 4, 5, 6, 7, 8, 9], [9]), ([10, 11, 0, 1, 2, 3, 4, 5, 6, 7, 8, 9, 10, 11], [10])])
def spec_orNumbers.B14 : List Nat := [0, 0, 2, 0, 8, 30, 0, 127, 255, 511, 511, 1023, 4095]
theorem spec_orNumbers.tab14 : rtab .any (opsOf Tryd.f25 14) = spec_orNumbers.T14 := by kernel_rfl
theorem spec_orNumbers.bits14 : waitsOk spec_orNumbers.T14.2 spec_orNumbers.B14 = true := by kernel_rfl
theorem spec_orNumbers.calls (k : Nat) : ∀ (a0_0 : Int) (A0_1 : Option Addr) (c0_1 : Nat) (l0_1 : List Int) (P1_ : Nat → Prop) (u9000_ : Value) (l1 : List Int) (a2 : Int) (r1 : List Int) (r2 : Bool) (w0 w : World) (hB : Below w0.heap.size w0 w) (hr0_1 : ∀ W_, Kept w W_ (fun k_ => P1_ k_) → Kd.C (Kd.int .i64) W_ A0_1 l0_1.length l0_1) (hc0_1 : l0_1.length ≤ c0_1) (ho1 : Kd.R (Kd.int .i64) 3 w w0.heap.size P1_ u9000_ l1) (h : spec_orNumbers.f k a0_0 l0_1 l1 a2 = some (r1, r2)),
  Calls Tryd.prog 25 #[.agg #[.int .i64 a0_0, .slice A0_1 l0_1.length c0_1], u9000_, .int .i64 a2] w fun e w' => ∃ v0_ : Value, e = .returned (.tuple #[v0_, .bool r2]) ∧ Kd.R (Kd.int .i64) 3 w' w0.heap.size (fun k_ => (P1_ k_ ∨ w.heap.size ≤ k_)) v0_ r1 ∧ Below w0.heap.size w0 w' ∧ Kept w w' (fun k_ => P1_ k_) := by
 induction k using Nat.strongRecOn with
 | _ k ih =>
 intro a0_0 A0_1 c0_1 l0_1 P1_ u9000_ l1 a2 r1 r2 w0 w hB hr0_1 hc0_1 ho1 h
 cases k with
 | zero => exact absurd h (by simp [spec_orNumbers.f])
 | succ k =>
 simp only [spec_orNumbers.f] at h
 have hu26 := Tryd.underlying26
 have HR0_1 := mkA hr0_1
 have HC0_1 := mkA hc0_1
 clear hr0_1 hc0_1
 have HO1 := mkA (show Kd.R (Kd.int .i64) 3 w w0.heap.size (fun k_ => (P1_ k_ ∨ w.heap.size ≤ k_)) u9000_ l1 from Kd.R_mono ho1 (fun k_ hk => (.inl hk)))
 have HK := mkA (Kept.refl w (fun k_ => P1_ k_))
 have HW0 := mkA hB.size
 have HB := mkA hB
 clear hB
 have H := h
 clear h
 unfold spec_orNumbers.f at H
 rcases iteP H with ⟨c4, H⟩ | ⟨c4, H⟩
 ·have c4b0 := beq_iff_eq.mpr c4
  have c4b1 := bne_eq_false_iff_eq.mpr c4
  clear c4
  simp only [Option.some.injEq, Prod.mk.injEq] at H
  obtain ⟨rfl, rfl⟩ := H
  go_enter Tryd.func25, Tryd.ntmps25
  go_wp2_with (first | ((with_reducible refine gate_dst (N := 3) rfl ?_); refine boxE (N := 3) (cs := #[.int .i64 a0_0, .slice A0_1 l0_1.length c0_1]) (t := 26) ?_; intro gb418 hg w5 hbox hb; replace HO1 := rB HO1 hb; have BK418 := mkA (hbox); have GW418 := mkA ((by rw [hg]; exact (by first | exact HK.out.1 | exact (show Kept w _ (fun k_ => P1_ k_) from by repeat (first | (with_reducible first | exact HK.out | apply Kept.alloc | apply Kept.drewN | apply Kept.drew) | exact HK.out)).1) : w.heap.size ≤ gb418)); replace HK := mkA (Kept.below (S := (fun k_ => P1_ k_)) (by repeat (first | (with_reducible first | exact HK.out | apply Kept.alloc | apply Kept.drewN | apply Kept.drew) | exact HK.out)) hb); have GE418 := geB HB hg; replace HB := bst HB hb; clear hb hbox hg; obtain ⟨Ao6, co6, rfl⟩ := Kd.R_slice HO1.out; obtain ⟨_, _, _, _⟩ := blk2 BK418))
  go_ret2
  exact ⟨_, eqE, Kd.R_g HO1.out, bel_g HB.out, by repeat (first | (with_reducible first | exact HK.out | apply Kept.alloc | apply Kept.drewN | apply Kept.drew | refine Kept.setCell ?_ (.inr GW418.out) _) | exact HK.out)⟩
 ·have c4b0 := beq_eq_false_iff_ne.mpr c4
  have c4b1 := bne_iff_ne.mpr c4
  have H' := mkA H
  clear H
  go_enter Tryd.func25, Tryd.ntmps25
  go_wp2_with (first | ((with_reducible refine gate_dst (N := 3) rfl ?_); refine boxE (N := 3) (cs := #[.int .i64 a0_0, .slice A0_1 l0_1.length c0_1]) (t := 26) ?_; intro gb418 hg w8 hbox hb; replace HO1 := rB HO1 hb; have BK418 := mkA (hbox); have GW418 := mkA ((by rw [hg]; exact (by first | exact HK.out.1 | exact (show Kept w _ (fun k_ => P1_ k_) from by repeat (first | (with_reducible first | exact HK.out | apply Kept.alloc | apply Kept.drewN | apply Kept.drew) | exact HK.out)).1) : w.heap.size ≤ gb418)); replace HK := mkA (Kept.below (S := (fun k_ => P1_ k_)) (by repeat (first | (with_reducible first | exact HK.out | apply Kept.alloc | apply Kept.drewN | apply Kept.drew) | exact HK.out)) hb); have GE418 := geB HB hg; replace HB := bst HB hb; clear hb hbox hg; obtain ⟨Ao9, co9, rfl⟩ := Kd.R_slice HO1.out; obtain ⟨_, _, _, _⟩ := blk2 BK418))
  go_loopg [9] k (fun kq v9 w' => ∃ (x9_1 : Int), v9 = .int .i64 x9_1 ∧ Fc (spec_orNumbers.l0 kq l1 a2 (l1.length : Int) x9_1 a0_0 l0_1 = some (r1, r2)) ∧ Fc (kq ≤ k) ∧ Fc (Kd.R (Kd.int .i64) 3 w' w0.heap.size (fun k_ => (P1_ k_ ∨ w.heap.size ≤ k_)) (.slice Ao9 l1.length co9) l1) ∧ Fc (w'.heap[gb418]? = some (.cells #[.int .i64 a0_0, (.slice A0_1 l0_1.length c0_1)] 26 (0, 0))) ∧ Fc (Kept w w' (fun k_ => P1_ k_)) ∧ Fc (Below w0.heap.size w0 w'))
  case atStart => exact ⟨(0), eqS, H', ⟨Nat.le_refl _⟩, rg HO1, bg BK418, ⟨by repeat (first | (with_reducible first | exact HK.out | apply Kept.alloc | apply Kept.drewN | apply Kept.drew | refine Kept.setCell ?_ (.inr GW418.out) _) | exact HK.out)⟩, hbg HB⟩
  case round =>
   clear H'
   try clear c4
   try clear c4b0
   try clear c4b1
   obtain ⟨x9_1, rfl, HA, HK1, HO_1, BK418, HK, HB⟩ := hrel
   cases gk with
   | zero => exact absurd HA.out (by simp [spec_orNumbers.l0])
   | succ k1 =>
    have H := HA.out
    clear HA
    simp only [spec_orNumbers.l0] at H
    rcases iteE H with ⟨c11b0, H⟩ | ⟨c11b0, H⟩
    ·have H' := mkA H
     clear H
     go_wp2
     go_loopg [10, 29] k1 (fun kq v10 v29 w' => ∃ (x10_2 : Bool) (x29_2 : Int), v10 = .bool x10_2 ∧ v29 = .int .i64 x29_2 ∧ Fc (spec_orNumbers.l1 kq l1 a2 (l1.length : Int) x9_1 x10_2 l1 (l1.length : Int) x29_2 a0_0 l0_1 = some (r1, r2)) ∧ Fc (kq ≤ k1) ∧ Fc (Kd.R (Kd.int .i64) 3 w' w0.heap.size (fun k_ => (P1_ k_ ∨ w.heap.size ≤ k_)) (.slice Ao9 l1.length co9) l1) ∧ Fc (Kd.R (Kd.int .i64) 3 w' w0.heap.size (fun k_ => (P1_ k_ ∨ w.heap.size ≤ k_)) (.slice Ao9 l1.length co9) l1) ∧ Fc (w'.heap[gb418]? = some (.cells #[.int .i64 a0_0, (.slice A0_1 l0_1.length c0_1)] 26 (0, 0))) ∧ Fc (Kept w w' (fun k_ => P1_ k_)) ∧ Fc (Below w0.heap.size w0 w'))
     case atStart => exact ⟨(true), (0), eqS, eqS, H', ⟨Nat.le_refl _⟩, rg HO_1, rg HO_1, bg BK418, ⟨by repeat (first | (with_reducible first | exact HK.out | apply Kept.alloc | apply Kept.drewN | apply Kept.drew | refine Kept.setCell ?_ (.inr GW418.out) _) | exact HK.out)⟩, hbg HB⟩
     case round =>
      clear H'
      try clear c4
      try clear c4b0
      try clear c4b1
      try clear c11b0
      obtain ⟨x10_2, x29_2, rfl, rfl, HA, HK2, HO_1, HO_27, BK418, HK, HB⟩ := hrel
      cases gk with
      | zero => exact absurd HA.out (by simp [spec_orNumbers.l1])
      | succ k2 =>
       have H := HA.out
       clear HA
       simp only [spec_orNumbers.l1] at H
       rcases iteE H with ⟨c12b0, H⟩ | ⟨c12b0, H⟩
       ·obtain ⟨c13b0, H⟩ := itND H
        obtain ⟨c14b0, H⟩ := itND H
        by_cases c15 : x10_2 = true
        ·subst c15
         replace H := ifT H
         rcases iteP H with ⟨c16, H⟩ | ⟨c16, H⟩
         ·have c16b0 := beq_iff_eq.mpr c16
          have c16b1 := bne_eq_false_iff_eq.mpr c16
          clear c16
          obtain ⟨t420, A17, H⟩ := obE H
          obtain ⟨t421, A18, H⟩ := obE H
          have H' := mkA H
          clear H
          obtain ⟨p419, q419, ad419, e419, hx419_0⟩ := atI (Kd.R_reads' HO_27.out).2.2 x29_2
          cases e419
          obtain ⟨_, _, _, _⟩ := blk2 BK418
          go_wp2_with (first | (go_at_call 47; (with_reducible refine (spec_orFree.calls k2 a0_0 _ _ l0_1 (l1.length : Int) t420 _ ?s1 ?s2 A17.out).mono ?_); (case s1 => exact Kd.C_kept_now HR0_1.out (by repeat (first | (with_reducible first | exact HK.out | apply Kept.alloc | apply Kept.drewN | apply Kept.drew | refine Kept.setCell ?_ (.inr GW418.out) _) | exact HK.out))); (case s2 => exact HC0_1.out); rintro e w20 ⟨rfl, hb⟩; replace HO_1 := rB HO_1 hb; replace HO_27 := rB HO_27 hb; replace BK418 := blkB BK418 hb; replace HK := mkA (Kept.below (S := (fun k_ => P1_ k_)) (by repeat (first | (with_reducible first | exact HK.out | apply Kept.alloc | apply Kept.drewN | apply Kept.drew | refine Kept.setCell ?_ (.inr GW418.out) _) | exact HK.out)) hb); replace HB := bst HB hb; (try clear hb); (try clear hk)) | (go_at_call 35; (with_reducible refine (spec_orHas.calls t420 x29_2 t421 _ A18.out).mono ?_); rintro e w' ⟨rfl, ⟨nd, rfl⟩⟩))
          go_roundg k2
          case measure => have := HK1.out; have := HK2.out; omega
          case rel => exact ⟨(!t421), (wrap64 (x29_2 + 1)), eqS, eqS, H', ⟨by have := HK1.out; have := HK2.out; omega⟩, rg HO_1, rg HO_27, bg BK418, ⟨by repeat (first | (with_reducible first | exact HK.out | apply Kept.alloc | apply Kept.drewN | apply Kept.drew | refine Kept.setCell ?_ (.inr GW418.out) _) | exact HK.out)⟩, hbg HB⟩
         ·have c16b0 := beq_eq_false_iff_ne.mpr c16
          have c16b1 := bne_iff_ne.mpr c16
          have H' := mkA H
          clear H
          obtain ⟨p419, q419, ad419, e419, hx419_0⟩ := atI (Kd.R_reads' HO_27.out).2.2 x29_2
          cases e419
          go_wp2
          go_roundg k2
          case measure => have := HK1.out; have := HK2.out; omega
          case rel => exact ⟨(true), (wrap64 (x29_2 + 1)), eqS, eqS, H', ⟨by have := HK1.out; have := HK2.out; omega⟩, rg HO_1, rg HO_27, bg BK418, ⟨by repeat (first | (with_reducible first | exact HK.out | apply Kept.alloc | apply Kept.drewN | apply Kept.drew | refine Kept.setCell ?_ (.inr GW418.out) _) | exact HK.out)⟩, hbg HB⟩
        ·replace c15 := Bool.eq_false_iff.mpr c15
         subst c15
         replace H := ifF H
         have H' := mkA H
         clear H
         obtain ⟨p419, q419, ad419, e419, hx419_0⟩ := atI (Kd.R_reads' HO_27.out).2.2 x29_2
         cases e419
         go_wp2
         go_roundg k2
         case measure => have := HK1.out; have := HK2.out; omega
         case rel => exact ⟨(false), (wrap64 (x29_2 + 1)), eqS, eqS, H', ⟨by have := HK1.out; have := HK2.out; omega⟩, rg HO_1, rg HO_27, bg BK418, ⟨by repeat (first | (with_reducible first | exact HK.out | apply Kept.alloc | apply Kept.drewN | apply Kept.drew | refine Kept.setCell ?_ (.inr GW418.out) _) | exact HK.out)⟩, hbg HB⟩
       ·by_cases c21 : x10_2 = true
        ·subst c21
         replace H := ifT H
         obtain ⟨t422, A22, H⟩ := obE H
         obtain ⟨y425, Ny425, H⟩ := nmE H
         obtain ⟨c23, H⟩ := itNP H
         have LMc23 := mkA c23
         clear c23
         obtain ⟨y428, hy428⟩ : ∃ y_ : List Int, y_ = (t422 ++ y425) := ⟨_, rfl⟩
         rw [← hy428] at H
         have Ny428 := mkA hy428
         clear hy428
         obtain ⟨⟨t431, t434⟩, A24, H⟩ := obE H
         dsimp only at H
         by_cases c25 : t434 = true
         ·subst c25
          replace H := ifT H
          simp only [Option.some.injEq, Prod.mk.injEq] at H
          obtain ⟨rfl, rfl⟩ := H
          try go_wp2
          replace HO_1 := mkA (Kd.R_drew HO_1.out)
          replace HO_27 := mkA (Kd.R_drew HO_27.out)
          replace BK418 := mkA (blk_drew BK418.out)
          replace HK := mkA (Kept.drew HK.out)
          replace HB := mkA (below_drew1 HB.out)
          refine start_ (n := 13) (S := fun w' => w'.cell? ⟨gb418, 0, none⟩ = some (.int .i64 a0_0) ∧ w'.cell? ⟨gb418, 1, none⟩ = some (.slice A0_1 l0_1.length c0_1)) (ds := []) (bm 13 0) (by kernel_rfl) rfl (by kernel_rfl) ⟨(blk_cell BK418.out 0).trans rfl, (blk_cell BK418.out 1).trans rfl⟩ (fun hHeld => ?_); refine with_tabW spec_orNumbers.tab14 spec_orNumbers.bits14 (fun HT_ HW_ => ?_)
          generalize wr.drew = w26 at HO_1 HO_27 BK418 HK HB hHeld ⊢
          refine purW 1 53 13 2 HT_ ?_
          refine purW 3 55 13 10 HT_ ?_
          refine purW 6 58 13 74 HT_ ?_
          refine takeW 0 (some 52) (bm 13 75) HT_ HW_ hHeld ?_
          refine join_ (σ := Value × Value) 7 (bm 13 95) (fun s_ => [(54, s_.1), (56, s_.2)]) (fun s_ w' => (w'.cell? ⟨gb418, 0, none⟩ = some (.int .i64 a0_0) ∧ w'.cell? ⟨gb418, 1, none⟩ = some (.slice A0_1 l0_1.length c0_1)) ∧ (Kd.R (Kd.int .i64) 3 w' w0.heap.size (fun k_ => (P1_ k_ ∨ w.heap.size ≤ k_) ∧ some k_ ≠ (s_.2 : Value).ownBlock ∧ some k_ ≠ (.slice Ao9 l1.length co9 : Value).ownBlock ∧ some k_ ≠ (.slice Ao9 l1.length co9 : Value).ownBlock) s_.1 t422) ∧ (Kd.R (Kd.int .i64) 3 w' w0.heap.size (fun k_ => (P1_ k_ ∨ w.heap.size ≤ k_) ∧ some k_ ≠ (s_.1 : Value).ownBlock ∧ some k_ ≠ (.slice Ao9 l1.length co9 : Value).ownBlock ∧ some k_ ≠ (.slice Ao9 l1.length co9 : Value).ownBlock) s_.2 y425) ∧ (Kd.R (Kd.int .i64) 3 w' w0.heap.size (fun k_ => (P1_ k_ ∨ w.heap.size ≤ k_) ∧ some k_ ≠ (s_.1 : Value).ownBlock ∧ some k_ ≠ (s_.2 : Value).ownBlock) (.slice Ao9 l1.length co9) l1) ∧ (Kd.R (Kd.int .i64) 3 w' w0.heap.size (fun k_ => (P1_ k_ ∨ w.heap.size ≤ k_) ∧ some k_ ≠ (s_.1 : Value).ownBlock ∧ some k_ ≠ (s_.2 : Value).ownBlock) (.slice Ao9 l1.length co9) l1) ∧ (w'.heap[gb418]? = some (.cells #[.int .i64 a0_0, .slice A0_1 l0_1.length c0_1] 26 (0, 0))) ∧ (Kept w w' (fun k_ => P1_ k_)) ∧ (Below w0.heap.size w0 w')) ?_ ?_
          rotate_left
          ·intro hCont
           refine two_ (i := 2) (j := 4) (Ni := some 54) (Nj := some 56) (bm 13 79) (bm 13 91) rfl rfl rfl rfl (two_of HT_.out (by kernel_rfl)) (by decide) (by decide) (fun K hK => ?_) (fun K hK => ?_)
           ·skip
            refine goesR Tryd.func48 #[.slice Ao9 l1.length co9] ?_
            with_reducible refine (spec_l1Own.calls _ _ l1 t422 _ ?s1 ?s2 A22.out).mono ?_
            (case s1 => exact rC HO_1)
            (case s2 => exact rL HO_1)
            rintro e w27 ⟨v423, rfl, ho0, hb⟩
            refine ⟨_, rfl, ?_⟩
            have HO424 := rLo (rN (rN (Kd.R_newM (M := fun k_ => (P1_ k_ ∨ w.heap.size ≤ k_)) ho0 (by first | exact HK.out.1 | exact (show Kept w _ (fun k_ => P1_ k_) from by repeat (first | (with_reducible first | exact HK.out | apply Kept.alloc | apply Kept.drewN | apply Kept.drew | refine Kept.setCell ?_ (.inr GW418.out) _) | exact HK.out)).1) (fun k_ h_ => .inr h_)) HO_1) HO_27) HB
            replace HO_1 := rE HO_1 ho0 hb
            replace HO_27 := rE HO_27 ho0 hb
            replace BK418 := blkB BK418 hb
            replace HK := mkA (Kept.below (S := (fun k_ => P1_ k_)) (by repeat (first | (with_reducible first | exact HK.out | apply Kept.alloc | apply Kept.drewN | apply Kept.drew | refine Kept.setCell ?_ (.inr GW418.out) _) | exact HK.out)) hb)
            replace HB := bst HB hb
            (try clear hb)
            (try clear hb2)
            (try clear hk)
            (try clear hi)
            (try clear ho0)
            refine hK.out _ _ ⟨(blk_cell BK418.out 0).trans rfl, (blk_cell BK418.out 1).trans rfl⟩ (fun hHeld => ?_)
            clear hK K
            refine normW 54 ?_
            refine oneW 4 (some 56) (bm 13 95) HT_ (fun K hK => ?_)
            refine Kd.R_lit_step (Kd.int .i64) _ 3 ?hg (N := 56) ?hd (xs := ([x9_1] : List Int)) (inner := [.int .i64 x9_1]) (ok := fun _ => True) (okp := fun _ => True) ?hr ?hp (fun _ hk => hk) trivial (Below.refl _ _) (Nat.le_refl _) (by simp) ?_; (case hd => rfl); (case hg => rfl); (case hr => first | (go_simp; done) | (go_simp; rfl)); (case hp => exact (Reps.one (show Kd.M (Kd.int .i64) _ _ _ x9_1 [.int .i64 x9_1] from rfl) (Reps.none _ _)))
            intro v426 w28 ho29 hb hg_ hnew_
            clear hg_ hnew_
            (first | rw [← Ny425.out] at ho29 | (simp only [Int.reduceToNat] at ho29; rw [← Ny425.out] at ho29))
            have HO427 := rLo (rN (rN (rN (Kd.R_newM (M := fun k_ => (P1_ k_ ∨ w.heap.size ≤ k_)) ho29 (by first | exact HK.out.1 | exact (show Kept w _ (fun k_ => P1_ k_) from by repeat (first | (with_reducible first | exact HK.out | apply Kept.alloc | apply Kept.drewN | apply Kept.drew | refine Kept.setCell ?_ (.inr GW418.out) _) | exact HK.out)).1) (fun k_ h_ => .inr h_)) HO_1) HO_27) HO424) HB
            replace HO_1 := rE HO_1 ho29 hb
            replace HO_27 := rE HO_27 ho29 hb
            replace HO424 := rE HO424 ho29 hb
            replace BK418 := blkB BK418 hb
            replace HK := mkA (Kept.below (S := (fun k_ => P1_ k_)) (by repeat (first | (with_reducible first | exact HK.out | apply Kept.alloc | apply Kept.drewN | apply Kept.drew | refine Kept.setCell ?_ (.inr GW418.out) _) | exact HK.out)) hb)
            replace HB := bst HB hb
            clear hb ho29
            refine hK.out _ _ ⟨(blk_cell BK418.out 0).trans rfl, (blk_cell BK418.out 1).trans rfl⟩ (fun hHeld => ?_)
            clear hK K
            refine normW 56 ?_
            exact norm_ (by simp only [putAll, Act.put, List.setIfInBounds_toArray, List.set_cons_zero, List.set_cons_succ]) (hCont (v423, v426) _ ⟨hHeld, (Kd.R_g (Kd.R_mono HO424.out (fun _ hk => ⟨hk.1.1.1.1, ⟨hk.2, ⟨hk.1.1.2, hk.1.2⟩⟩⟩))), (Kd.R_g (Kd.R_mono HO427.out (fun _ hk => ⟨hk.1.1.1.1, ⟨hk.2, ⟨hk.1.1.2, hk.1.2⟩⟩⟩))), (Kd.R_g (Kd.R_mono HO_1.out (fun _ hk => ⟨hk.1.1, ⟨hk.1.2, hk.2⟩⟩))), (Kd.R_g (Kd.R_mono HO_27.out (fun _ hk => ⟨hk.1.1, ⟨hk.1.2, hk.2⟩⟩))), (blk_g BK418.out), (by repeat (first | (with_reducible first | exact HK.out | apply Kept.alloc | apply Kept.drewN | apply Kept.drew | refine Kept.setCell ?_ (.inr GW418.out) _) | exact HK.out)), (bel_g HB.out)⟩)
           ·skip
            refine Kd.R_lit_step (Kd.int .i64) _ 3 ?hg (N := 56) ?hd (xs := ([x9_1] : List Int)) (inner := [.int .i64 x9_1]) (ok := fun _ => True) (okp := fun _ => True) ?hr ?hp (fun _ hk => hk) trivial (Below.refl _ _) (Nat.le_refl _) (by simp) ?_; (case hd => rfl); (case hg => rfl); (case hr => first | (go_simp; done) | (go_simp; rfl)); (case hp => exact (Reps.one (show Kd.M (Kd.int .i64) _ _ _ x9_1 [.int .i64 x9_1] from rfl) (Reps.none _ _)))
            intro v426 w27 ho28 hb hg_ hnew_
            clear hg_ hnew_
            (first | rw [← Ny425.out] at ho28 | (simp only [Int.reduceToNat] at ho28; rw [← Ny425.out] at ho28))
            have HO427 := rLo (rN (rN (Kd.R_newM (M := fun k_ => (P1_ k_ ∨ w.heap.size ≤ k_)) ho28 (by first | exact HK.out.1 | exact (show Kept w _ (fun k_ => P1_ k_) from by repeat (first | (with_reducible first | exact HK.out | apply Kept.alloc | apply Kept.drewN | apply Kept.drew | refine Kept.setCell ?_ (.inr GW418.out) _) | exact HK.out)).1) (fun k_ h_ => .inr h_)) HO_1) HO_27) HB
            replace HO_1 := rE HO_1 ho28 hb
            replace HO_27 := rE HO_27 ho28 hb
            replace BK418 := blkB BK418 hb
            replace HK := mkA (Kept.below (S := (fun k_ => P1_ k_)) (by repeat (first | (with_reducible first | exact HK.out | apply Kept.alloc | apply Kept.drewN | apply Kept.drew | refine Kept.setCell ?_ (.inr GW418.out) _) | exact HK.out)) hb)
            replace HB := bst HB hb
            clear hb ho28
            refine hK.out _ _ ⟨(blk_cell BK418.out 0).trans rfl, (blk_cell BK418.out 1).trans rfl⟩ (fun hHeld => ?_)
            clear hK K
            refine normW 56 ?_
            refine oneW 2 (some 54) (bm 13 95) HT_ (fun K hK => ?_)
            refine goesR Tryd.func48 #[.slice Ao9 l1.length co9] ?_
            with_reducible refine (spec_l1Own.calls _ _ l1 t422 _ ?s1 ?s2 A22.out).mono ?_
            (case s1 => exact rC HO_1)
            (case s2 => exact rL HO_1)
            rintro e w29 ⟨v423, rfl, ho0, hb⟩
            refine ⟨_, rfl, ?_⟩
            have HO424 := rLo (rN (rN (rN (Kd.R_newM (M := fun k_ => (P1_ k_ ∨ w.heap.size ≤ k_)) ho0 (by first | exact HK.out.1 | exact (show Kept w _ (fun k_ => P1_ k_) from by repeat (first | (with_reducible first | exact HK.out | apply Kept.alloc | apply Kept.drewN | apply Kept.drew | refine Kept.setCell ?_ (.inr GW418.out) _) | exact HK.out)).1) (fun k_ h_ => .inr h_)) HO_1) HO_27) HO427) HB
            replace HO_1 := rE HO_1 ho0 hb
            replace HO_27 := rE HO_27 ho0 hb
            replace HO427 := rE HO427 ho0 hb
            replace BK418 := blkB BK418 hb
            replace HK := mkA (Kept.below (S := (fun k_ => P1_ k_)) (by repeat (first | (with_reducible first | exact HK.out | apply Kept.alloc | apply Kept.drewN | apply Kept.drew | refine Kept.setCell ?_ (.inr GW418.out) _) | exact HK.out)) hb)
            replace HB := bst HB hb
            (try clear hb)
            (try clear hb2)
            (try clear hk)
            (try clear hi)
            (try clear ho0)
            refine hK.out _ _ ⟨(blk_cell BK418.out 0).trans rfl, (blk_cell BK418.out 1).trans rfl⟩ (fun hHeld => ?_)
            clear hK K
            refine normW 54 ?_
            exact norm_ (by simp only [putAll, Act.put, List.setIfInBounds_toArray, List.set_cons_zero, List.set_cons_succ]) (hCont (v423, v426) _ ⟨hHeld, (Kd.R_g (Kd.R_mono HO424.out (fun _ hk => ⟨hk.1.1.1.1, ⟨hk.2, ⟨hk.1.1.2, hk.1.2⟩⟩⟩))), (Kd.R_g (Kd.R_mono HO427.out (fun _ hk => ⟨hk.1.1.1.1, ⟨hk.2, ⟨hk.1.1.2, hk.1.2⟩⟩⟩))), (Kd.R_g (Kd.R_mono HO_1.out (fun _ hk => ⟨hk.1.1, ⟨hk.2, hk.1.2⟩⟩))), (Kd.R_g (Kd.R_mono HO_27.out (fun _ hk => ⟨hk.1.1, ⟨hk.2, hk.1.2⟩⟩))), (blk_g BK418.out), (by repeat (first | (with_reducible first | exact HK.out | apply Kept.alloc | apply Kept.drewN | apply Kept.drew | refine Kept.setCell ?_ (.inr GW418.out) _) | exact HK.out)), (bel_g HB.out)⟩)
          rintro ⟨v423, v426⟩ w30 ⟨hS_, h0_, h1_, h2_, h3_, h4_, h5_, h6_⟩
          have n0_ : Fc (Kd.R (Kd.int .i64) 3 w30 w0.heap.size (fun k_ => (P1_ k_ ∨ w.heap.size ≤ k_) ∧ some k_ ≠ (v426 : Value).ownBlock ∧ some k_ ≠ (.slice Ao9 l1.length co9 : Value).ownBlock ∧ some k_ ≠ (.slice Ao9 l1.length co9 : Value).ownBlock) v423 t422) := ⟨h0_⟩
          have n1_ : Fc (Kd.R (Kd.int .i64) 3 w30 w0.heap.size (fun k_ => (P1_ k_ ∨ w.heap.size ≤ k_) ∧ some k_ ≠ (v423 : Value).ownBlock ∧ some k_ ≠ (.slice Ao9 l1.length co9 : Value).ownBlock ∧ some k_ ≠ (.slice Ao9 l1.length co9 : Value).ownBlock) v426 y425) := ⟨h1_⟩
          have n2_ : Fc (Kd.R (Kd.int .i64) 3 w30 w0.heap.size (fun k_ => (P1_ k_ ∨ w.heap.size ≤ k_) ∧ some k_ ≠ (v423 : Value).ownBlock ∧ some k_ ≠ (v426 : Value).ownBlock) (.slice Ao9 l1.length co9) l1) := ⟨h2_⟩
          have n3_ : Fc (Kd.R (Kd.int .i64) 3 w30 w0.heap.size (fun k_ => (P1_ k_ ∨ w.heap.size ≤ k_) ∧ some k_ ≠ (v423 : Value).ownBlock ∧ some k_ ≠ (v426 : Value).ownBlock) (.slice Ao9 l1.length co9) l1) := ⟨h3_⟩
          have n4_ : Fc (w30.heap[gb418]? = some (.cells #[.int .i64 a0_0, .slice A0_1 l0_1.length c0_1] 26 (0, 0))) := ⟨h4_⟩
          have n5_ : Fc (Kept w w30 (fun k_ => P1_ k_)) := ⟨h5_⟩
          have n6_ : Fc (Below w0.heap.size w0 w30) := ⟨h6_⟩
          clear HO_1
          clear HO_27
          clear BK418
          clear HK
          clear HB
          clear h0_ h1_ h2_ h3_ h4_ h5_ h6_
          have HO424 := n0_
          have HO427 := n1_
          have HO_1 := n2_
          have HO_27 := n3_
          have BK418 := n4_
          have HK := n5_
          have HB := n6_
          clear n0_ n1_ n2_ n3_ n4_ n5_ n6_
          have hHeld : w30.cell? ⟨gb418, 0, none⟩ = some (.int .i64 a0_0) ∧ w30.cell? ⟨gb418, 1, none⟩ = some (.slice A0_1 l0_1.length c0_1) := hS_
          obtain ⟨Ao32, co32, eo32⟩ := Kd.R_slice HO427.out
          (first | subst eo32 | (injection eo32 with f1_ f2_ f3_; have f4_ := f1_.symm; have f5_ := f3_.symm; clear f1_ f2_ f3_; subst f4_; subst f5_))
          refine norm_ (a' := ?_) ?_ ?_
          rotate_left
          ·simp only [putAll, Act.put, List.setIfInBounds_toArray, List.set_cons_zero, List.set_cons_succ]
           rfl
          refine oneW 5 (some 57) (bm 13 127) HT_ (fun K hK => ?_)
          refine Kd.R_append_rows_step (Kd.int .i64) (w0 := w0) w0.heap.size (by rfl) (.tmp 54) (.tmp 56) 24 3 (.int .i64 0) 8 rfl Tryd.underlying24 info3 rfl (by decide) (by omega) v423 t422 y425 _ _ _ (fun k_ => (P1_ k_ ∨ w.heap.size ≤ k_) ∧ some k_ ≠ (.slice Ao9 l1.length co9 : Value).ownBlock ∧ some k_ ≠ (.slice Ao9 l1.length co9 : Value).ownBlock ∧ some k_ ≠ (.slice Ao32 y425.length co32 : Value).ownBlock) (fun _ => False) rfl rfl ?aO ?aR (fun _ _ h => h) (fun _ h => h.elim) ?aF ?aB ?aS ?aL ?_
          (case aR => repeat (first | exact (Kd.R_reads' HO427.out).2.2 | (with_reducible refine Kd.C_alloc ?_ _) | (with_reducible refine Kd.C_drewN ?_ _) | (with_reducible refine Kd.C_drew ?_)))
          (case aB => exact (bel_g HB.out))
          (case aF => exact (fun k_ hk => ⟨(.inr (Nat.le_trans (by first | exact HK.out.1 | exact (show Kept w _ (fun k_ => P1_ k_) from by repeat (first | (with_reducible first | exact HK.out | apply Kept.alloc | apply Kept.drewN | apply Kept.drew | refine Kept.setCell ?_ (.inr GW418.out) _) | exact HK.out)).1) hk)), Kd.fresh' (Kd.R_lt (Kd.R_g HO_1.out)) k_ hk, Kd.fresh' (Kd.R_lt (Kd.R_g HO_27.out)) k_ hk, Kd.fresh' (Kd.R_lt (Kd.R_g HO427.out)) k_ hk⟩))
          (case aO => exact (Kd.R_g (Kd.R_mono HO424.out (fun _ hk => ⟨hk.1, ⟨hk.2.2.1, ⟨hk.2.2.2, hk.2.1⟩⟩⟩))))
          (case aS => exact (below_size (bel_g HB.out)))
          (case aL => have := LMc23.out; omega)
          intro v429 w31 ho hb hg hat
          rw [← Ny428.out] at ho
          replace HO_1 := mkA (Kd.R_after (ok := (fun k_ => (P1_ k_ ∨ w.heap.size ≤ k_) ∧ some k_ ≠ (.slice Ao32 y425.length co32 : Value).ownBlock)) (Kd.R_g (Kd.R_mono HO_1.out (fun _ hk => ⟨⟨hk.1, hk.2.2⟩, hk.2.1⟩))) hg hat)
          replace HO_27 := mkA (Kd.R_after (ok := (fun k_ => (P1_ k_ ∨ w.heap.size ≤ k_) ∧ some k_ ≠ (.slice Ao32 y425.length co32 : Value).ownBlock)) (Kd.R_g (Kd.R_mono HO_27.out (fun _ hk => ⟨⟨hk.1, hk.2.2⟩, hk.2.1⟩))) hg hat)
          replace BK418 := mkA (blk_grown (g := gb418) (o := .cells #[.int .i64 a0_0, .slice A0_1 l0_1.length c0_1] 26 (0, 0)) (blk_g BK418.out) hg (Kd.R_ne HO424.out BK418.out (by decide)))
          replace HO427 := mkA (Kd.R_after (ok := (fun k_ => (P1_ k_ ∨ w.heap.size ≤ k_) ∧ some k_ ≠ (.slice Ao9 l1.length co9 : Value).ownBlock ∧ some k_ ≠ (.slice Ao9 l1.length co9 : Value).ownBlock)) (Kd.R_g (Kd.R_mono HO427.out (fun _ hk => ⟨⟨hk.1, ⟨hk.2.2.1, hk.2.2.2⟩⟩, hk.2.1⟩))) hg hat)
          replace HK := mkA (Kept.of_grown (S := (fun k_ => P1_ k_)) hg (by repeat (first | (with_reducible first | exact HK.out | apply Kept.alloc | apply Kept.drewN | apply Kept.drew | refine Kept.setCell ?_ (.inr GW418.out) _) | exact HK.out)) (fun k_ e_ => (HO424.out.1 k_ e_).1))
          have HO430 := mkA (ho)
          replace HB := mkA (hb)
          clear HO424
          clear ho hb hg hat
          obtain ⟨Ao33, co33, eo33⟩ := Kd.R_slice HO430.out
          (first | subst eo33 | (injection eo33 with f1_ f2_ f3_; have f4_ := f1_.symm; have f5_ := f3_.symm; clear f1_ f2_ f3_; subst f4_; subst f5_))
          refine hK.out _ _ ⟨(blk_cell BK418.out 0).trans rfl, (blk_cell BK418.out 1).trans rfl⟩ (fun hHeld => ?_)
          clear hK K
          refine normW 57 ?_
          refine oneW 7 (some 59) (bm 13 255) HT_ (fun K hK => ?_)
          refine goesR Tryd.func25 #[.agg #[.int .i64 a0_0, .slice A0_1 l0_1.length c0_1], .slice Ao33 y428.length co33, .int .i64 a2] ?_
          with_reducible refine (ih k2 (by have := HK1.out; have := HK2.out; omega) a0_0 _ _ l0_1 (fun k_ => some k_ = (.slice Ao33 y428.length co33 : Value).ownBlock) (.slice Ao33 y428.length co33) y428 a2 t431 true w0 _ ?s1 ?s2 ?s3 ?s4 A24.out).mono ?_
          (case s1 => exact bel_g HB.out)
          (case s2 => exact Kd.C_kept_call HR0_1.out (by repeat (first | (with_reducible first | exact HK.out | apply Kept.alloc | apply Kept.drewN | apply Kept.drew | refine Kept.setCell ?_ (.inr GW418.out) _) | exact HK.out)) (fun k_ hs_ => (fun e_ => (HO430.out.1 k_ e_.symm).1) hs_))
          (case s3 => exact HC0_1.out)
          (case s4 => exact Kd.R_tight rfl HO430.out)
          rintro e w34 ⟨v432, rfl, ho0, hb, hkp⟩
          refine ⟨_, rfl, ?_⟩
          replace BK418 := mkA (blk_kept (blk_g BK418.out) hkp (fun hs_ => (fun e_ => (Kd.R_ne HO430.out BK418.out (by decide)) e_) hs_))
          have HO433 := mkA (Kd.R_mono (ok' := fun k_ => (P1_ k_ ∨ w.heap.size ≤ k_) ∧ some k_ ≠ (.slice Ao9 l1.length co9 : Value).ownBlock ∧ some k_ ≠ (.slice Ao9 l1.length co9 : Value).ownBlock ∧ some k_ ≠ (.slice Ao32 y425.length co32 : Value).ownBlock) ho0 (fun k_ hk_ => ⟨Or.elim hk_ (fun hs_ => (HO430.out.1 k_ (hs_).symm).1) (fun hn_ => (.inr (Nat.le_trans (by first | exact HK.out.1 | exact (show Kept w _ (fun k_ => P1_ k_) from by repeat (first | (with_reducible first | exact HK.out | apply Kept.alloc | apply Kept.drewN | apply Kept.drew | refine Kept.setCell ?_ (.inr GW418.out) _) | exact HK.out)).1) hn_))), Or.elim hk_ (fun hs_ => fun e_ => (((HO_1.out).1 k_ e_.symm).2) hs_) (fun hn_ => (Kd.fresh' (Kd.R_lt (Kd.R_g HO_1.out)) k_ hn_)), Or.elim hk_ (fun hs_ => fun e_ => (((HO_27.out).1 k_ e_.symm).2) hs_) (fun hn_ => (Kd.fresh' (Kd.R_lt (Kd.R_g HO_27.out)) k_ hn_)), Or.elim hk_ (fun hs_ => fun e_ => (((HO427.out).1 k_ e_.symm).2) hs_) (fun hn_ => (Kd.fresh' (Kd.R_lt (Kd.R_g HO427.out)) k_ hn_))⟩))
          replace HO_1 := mkA (Kd.R_mono (ok' := fun k_ => (P1_ k_ ∨ w.heap.size ≤ k_) ∧ some k_ ≠ (.slice Ao32 y425.length co32 : Value).ownBlock ∧ some k_ ≠ (v432 : Value).ownBlock) (Kd.R_keptB (HO_1.out) hkp (fun k_ hk_ hs_ => (hk_.2) hs_)) (fun k_ hk_ => ⟨hk_.1.1.1, hk_.1.1.2, fun e_ => Or.elim (ho0.1 k_ e_.symm) (fun hs_ => hk_.2.1 hs_) (fun hn_ => Nat.not_le.2 hk_.2.2 hn_)⟩))
          replace HO_27 := mkA (Kd.R_mono (ok' := fun k_ => (P1_ k_ ∨ w.heap.size ≤ k_) ∧ some k_ ≠ (.slice Ao32 y425.length co32 : Value).ownBlock ∧ some k_ ≠ (v432 : Value).ownBlock) (Kd.R_keptB (HO_27.out) hkp (fun k_ hk_ hs_ => (hk_.2) hs_)) (fun k_ hk_ => ⟨hk_.1.1.1, hk_.1.1.2, fun e_ => Or.elim (ho0.1 k_ e_.symm) (fun hs_ => hk_.2.1 hs_) (fun hn_ => Nat.not_le.2 hk_.2.2 hn_)⟩))
          replace HO427 := mkA (Kd.R_mono (ok' := fun k_ => (P1_ k_ ∨ w.heap.size ≤ k_) ∧ some k_ ≠ (.slice Ao9 l1.length co9 : Value).ownBlock ∧ some k_ ≠ (.slice Ao9 l1.length co9 : Value).ownBlock ∧ some k_ ≠ (v432 : Value).ownBlock) (Kd.R_keptB (HO427.out) hkp (fun k_ hk_ hs_ => (hk_.2) hs_)) (fun k_ hk_ => ⟨hk_.1.1.1, hk_.1.1.2.1, hk_.1.1.2.2, fun e_ => Or.elim (ho0.1 k_ e_.symm) (fun hs_ => hk_.2.1 hs_) (fun hn_ => Nat.not_le.2 hk_.2.2 hn_)⟩))
          replace HK := mkA (Kept.then_ (S := (fun k_ => P1_ k_)) (by repeat (first | (with_reducible first | exact HK.out | apply Kept.alloc | apply Kept.drewN | apply Kept.drew | refine Kept.setCell ?_ (.inr GW418.out) _) | exact HK.out)) hkp (fun k_ hs_ => (fun e_ => (HO430.out.1 k_ e_.symm).1) hs_))
          replace HB := mkA (hb)
          clear HO430
          (try clear hb)
          (try clear hkp)
          (try clear ho0)
          refine hK.out _ _ ⟨(blk_cell BK418.out 0).trans rfl, (blk_cell BK418.out 1).trans rfl⟩ (fun hHeld => ?_)
          clear hK K
          refine normW 59 ?_
          refine purW 8 51 13 511 HT_ ?_
          refine purW 9 60 13 1023 HT_ ?_
          refine purW 10 61 13 2047 HT_ ?_
          refine purW 11 13 13 4095 HT_ ?_
          refine purW 12 14 13 8191 HT_ ?_
          refine doneW HT_ ?_
          try go_wp2
          go_ret2
          exact ⟨_, eqE, Kd.R_g (Kd.R_mono HO433.out (fun _ hk => hk.1)), bel_g HB.out, by repeat (first | (with_reducible first | exact HK.out | apply Kept.alloc | apply Kept.drewN | apply Kept.drew | refine Kept.setCell ?_ (.inr GW418.out) _) | exact HK.out)⟩
         ·replace c25 := Bool.eq_false_iff.mpr c25
          subst c25
          replace H := ifF H
          have H' := mkA H
          clear H
          try go_wp2
          replace HO_1 := mkA (Kd.R_drew HO_1.out)
          replace HO_27 := mkA (Kd.R_drew HO_27.out)
          replace BK418 := mkA (blk_drew BK418.out)
          replace HK := mkA (Kept.drew HK.out)
          replace HB := mkA (below_drew1 HB.out)
          refine start_ (n := 13) (S := fun w' => w'.cell? ⟨gb418, 0, none⟩ = some (.int .i64 a0_0) ∧ w'.cell? ⟨gb418, 1, none⟩ = some (.slice A0_1 l0_1.length c0_1)) (ds := []) (bm 13 0) (by kernel_rfl) rfl (by kernel_rfl) ⟨(blk_cell BK418.out 0).trans rfl, (blk_cell BK418.out 1).trans rfl⟩ (fun hHeld => ?_); refine with_tabW spec_orNumbers.tab14 spec_orNumbers.bits14 (fun HT_ HW_ => ?_)
          generalize wr.drew = w35 at HO_1 HO_27 BK418 HK HB hHeld ⊢
          refine purW 1 53 13 2 HT_ ?_
          refine purW 3 55 13 10 HT_ ?_
          refine purW 6 58 13 74 HT_ ?_
          refine takeW 0 (some 52) (bm 13 75) HT_ HW_ hHeld ?_
          refine join_ (σ := Value × Value) 7 (bm 13 95) (fun s_ => [(54, s_.1), (56, s_.2)]) (fun s_ w' => (w'.cell? ⟨gb418, 0, none⟩ = some (.int .i64 a0_0) ∧ w'.cell? ⟨gb418, 1, none⟩ = some (.slice A0_1 l0_1.length c0_1)) ∧ (Kd.R (Kd.int .i64) 3 w' w0.heap.size (fun k_ => (P1_ k_ ∨ w.heap.size ≤ k_) ∧ some k_ ≠ (s_.2 : Value).ownBlock ∧ some k_ ≠ (.slice Ao9 l1.length co9 : Value).ownBlock ∧ some k_ ≠ (.slice Ao9 l1.length co9 : Value).ownBlock) s_.1 t422) ∧ (Kd.R (Kd.int .i64) 3 w' w0.heap.size (fun k_ => (P1_ k_ ∨ w.heap.size ≤ k_) ∧ some k_ ≠ (s_.1 : Value).ownBlock ∧ some k_ ≠ (.slice Ao9 l1.length co9 : Value).ownBlock ∧ some k_ ≠ (.slice Ao9 l1.length co9 : Value).ownBlock) s_.2 y425) ∧ (Kd.R (Kd.int .i64) 3 w' w0.heap.size (fun k_ => (P1_ k_ ∨ w.heap.size ≤ k_) ∧ some k_ ≠ (s_.1 : Value).ownBlock ∧ some k_ ≠ (s_.2 : Value).ownBlock) (.slice Ao9 l1.length co9) l1) ∧ (Kd.R (Kd.int .i64) 3 w' w0.heap.size (fun k_ => (P1_ k_ ∨ w.heap.size ≤ k_) ∧ some k_ ≠ (s_.1 : Value).ownBlock ∧ some k_ ≠ (s_.2 : Value).ownBlock) (.slice Ao9 l1.length co9) l1) ∧ (w'.heap[gb418]? = some (.cells #[.int .i64 a0_0, .slice A0_1 l0_1.length c0_1] 26 (0, 0))) ∧ (Kept w w' (fun k_ => P1_ k_)) ∧ (Below w0.heap.size w0 w')) ?_ ?_
          rotate_left
          ·intro hCont
           refine two_ (i := 2) (j := 4) (Ni := some 54) (Nj := some 56) (bm 13 79) (bm 13 91) rfl rfl rfl rfl (two_of HT_.out (by kernel_rfl)) (by decide) (by decide) (fun K hK => ?_) (fun K hK => ?_)
           ·skip
            refine goesR Tryd.func48 #[.slice Ao9 l1.length co9] ?_
            with_reducible refine (spec_l1Own.calls _ _ l1 t422 _ ?s1 ?s2 A22.out).mono ?_
            (case s1 => exact rC HO_1)
            (case s2 => exact rL HO_1)
            rintro e w36 ⟨v423, rfl, ho0, hb⟩
            refine ⟨_, rfl, ?_⟩
            have HO424 := rLo (rN (rN (Kd.R_newM (M := fun k_ => (P1_ k_ ∨ w.heap.size ≤ k_)) ho0 (by first | exact HK.out.1 | exact (show Kept w _ (fun k_ => P1_ k_) from by repeat (first | (with_reducible first | exact HK.out | apply Kept.alloc | apply Kept.drewN | apply Kept.drew | refine Kept.setCell ?_ (.inr GW418.out) _) | exact HK.out)).1) (fun k_ h_ => .inr h_)) HO_1) HO_27) HB
            replace HO_1 := rE HO_1 ho0 hb
            replace HO_27 := rE HO_27 ho0 hb
            replace BK418 := blkB BK418 hb
            replace HK := mkA (Kept.below (S := (fun k_ => P1_ k_)) (by repeat (first | (with_reducible first | exact HK.out | apply Kept.alloc | apply Kept.drewN | apply Kept.drew | refine Kept.setCell ?_ (.inr GW418.out) _) | exact HK.out)) hb)
            replace HB := bst HB hb
            (try clear hb)
            (try clear hb2)
            (try clear hk)
            (try clear hi)
            (try clear ho0)
            refine hK.out _ _ ⟨(blk_cell BK418.out 0).trans rfl, (blk_cell BK418.out 1).trans rfl⟩ (fun hHeld => ?_)
            clear hK K
            refine normW 54 ?_
            refine oneW 4 (some 56) (bm 13 95) HT_ (fun K hK => ?_)
            refine Kd.R_lit_step (Kd.int .i64) _ 3 ?hg (N := 56) ?hd (xs := ([x9_1] : List Int)) (inner := [.int .i64 x9_1]) (ok := fun _ => True) (okp := fun _ => True) ?hr ?hp (fun _ hk => hk) trivial (Below.refl _ _) (Nat.le_refl _) (by simp) ?_; (case hd => rfl); (case hg => rfl); (case hr => first | (go_simp; done) | (go_simp; rfl)); (case hp => exact (Reps.one (show Kd.M (Kd.int .i64) _ _ _ x9_1 [.int .i64 x9_1] from rfl) (Reps.none _ _)))
            intro v426 w37 ho38 hb hg_ hnew_
            clear hg_ hnew_
            (first | rw [← Ny425.out] at ho38 | (simp only [Int.reduceToNat] at ho38; rw [← Ny425.out] at ho38))
            have HO427 := rLo (rN (rN (rN (Kd.R_newM (M := fun k_ => (P1_ k_ ∨ w.heap.size ≤ k_)) ho38 (by first | exact HK.out.1 | exact (show Kept w _ (fun k_ => P1_ k_) from by repeat (first | (with_reducible first | exact HK.out | apply Kept.alloc | apply Kept.drewN | apply Kept.drew | refine Kept.setCell ?_ (.inr GW418.out) _) | exact HK.out)).1) (fun k_ h_ => .inr h_)) HO_1) HO_27) HO424) HB
            replace HO_1 := rE HO_1 ho38 hb
            replace HO_27 := rE HO_27 ho38 hb
            replace HO424 := rE HO424 ho38 hb
            replace BK418 := blkB BK418 hb
            replace HK := mkA (Kept.below (S := (fun k_ => P1_ k_)) (by repeat (first | (with_reducible first | exact HK.out | apply Kept.alloc | apply Kept.drewN | apply Kept.drew | refine Kept.setCell ?_ (.inr GW418.out) _) | exact HK.out)) hb)
            replace HB := bst HB hb
            clear hb ho38
            refine hK.out _ _ ⟨(blk_cell BK418.out 0).trans rfl, (blk_cell BK418.out 1).trans rfl⟩ (fun hHeld => ?_)
            clear hK K
            refine normW 56 ?_
            exact norm_ (by simp only [putAll, Act.put, List.setIfInBounds_toArray, List.set_cons_zero, List.set_cons_succ]) (hCont (v423, v426) _ ⟨hHeld, (Kd.R_g (Kd.R_mono HO424.out (fun _ hk => ⟨hk.1.1.1.1, ⟨hk.2, ⟨hk.1.1.2, hk.1.2⟩⟩⟩))), (Kd.R_g (Kd.R_mono HO427.out (fun _ hk => ⟨hk.1.1.1.1, ⟨hk.2, ⟨hk.1.1.2, hk.1.2⟩⟩⟩))), (Kd.R_g (Kd.R_mono HO_1.out (fun _ hk => ⟨hk.1.1, ⟨hk.1.2, hk.2⟩⟩))), (Kd.R_g (Kd.R_mono HO_27.out (fun _ hk => ⟨hk.1.1, ⟨hk.1.2, hk.2⟩⟩))), (blk_g BK418.out), (by repeat (first | (with_reducible first | exact HK.out | apply Kept.alloc | apply Kept.drewN | apply Kept.drew | refine Kept.setCell ?_ (.inr GW418.out) _) | exact HK.out)), (bel_g HB.out)⟩)
           ·skip
            refine Kd.R_lit_step (Kd.int .i64) _ 3 ?hg (N := 56) ?hd (xs := ([x9_1] : List Int)) (inner := [.int .i64 x9_1]) (ok := fun _ => True) (okp := fun _ => True) ?hr ?hp (fun _ hk => hk) trivial (Below.refl _ _) (Nat.le_refl _) (by simp) ?_; (case hd => rfl); (case hg => rfl); (case hr => first | (go_simp; done) | (go_simp; rfl)); (case hp => exact (Reps.one (show Kd.M (Kd.int .i64) _ _ _ x9_1 [.int .i64 x9_1] from rfl) (Reps.none _ _)))
            intro v426 w36 ho37 hb hg_ hnew_
            clear hg_ hnew_
            (first | rw [← Ny425.out] at ho37 | (simp only [Int.reduceToNat] at ho37; rw [← Ny425.out] at ho37))
            have HO427 := rLo (rN (rN (Kd.R_newM (M := fun k_ => (P1_ k_ ∨ w.heap.size ≤ k_)) ho37 (by first | exact HK.out.1 | exact (show Kept w _ (fun k_ => P1_ k_) from by repeat (first | (with_reducible first | exact HK.out | apply Kept.alloc | apply Kept.drewN | apply Kept.drew | refine Kept.setCell ?_ (.inr GW418.out) _) | exact HK.out)).1) (fun k_ h_ => .inr h_)) HO_1) HO_27) HB
            replace HO_1 := rE HO_1 ho37 hb
            replace HO_27 := rE HO_27 ho37 hb
            replace BK418 := blkB BK418 hb
            replace HK := mkA (Kept.below (S := (fun k_ => P1_ k_)) (by repeat (first | (with_reducible first | exact HK.out | apply Kept.alloc | apply Kept.drewN | apply Kept.drew | refine Kept.setCell ?_ (.inr GW418.out) _) | exact HK.out)) hb)
            replace HB := bst HB hb
            clear hb ho37
            refine hK.out _ _ ⟨(blk_cell BK418.out 0).trans rfl, (blk_cell BK418.out 1).trans rfl⟩ (fun hHeld => ?_)
            clear hK K
            refine normW 56 ?_
            refine oneW 2 (some 54) (bm 13 95) HT_ (fun K hK => ?_)
            refine goesR Tryd.func48 #[.slice Ao9 l1.length co9] ?_
            with_reducible refine (spec_l1Own.calls _ _ l1 t422 _ ?s1 ?s2 A22.out).mono ?_
            (case s1 => exact rC HO_1)
            (case s2 => exact rL HO_1)
            rintro e w38 ⟨v423, rfl, ho0, hb⟩
            refine ⟨_, rfl, ?_⟩
            have HO424 := rLo (rN (rN (rN (Kd.R_newM (M := fun k_ => (P1_ k_ ∨ w.heap.size ≤ k_)) ho0 (by first | exact HK.out.1 | exact (show Kept w _ (fun k_ => P1_ k_) from by repeat (first | (with_reducible first | exact HK.out | apply Kept.alloc | apply Kept.drewN | apply Kept.drew | refine Kept.setCell ?_ (.inr GW418.out) _) | exact HK.out)).1) (fun k_ h_ => .inr h_)) HO_1) HO_27) HO427) HB
            replace HO_1 := rE HO_1 ho0 hb
            replace HO_27 := rE HO_27 ho0 hb
            replace HO427 := rE HO427 ho0 hb
            replace BK418 := blkB BK418 hb
            replace HK := mkA (Kept.below (S := (fun k_ => P1_ k_)) (by repeat (first | (with_reducible first | exact HK.out | apply Kept.alloc | apply Kept.drewN | apply Kept.drew | refine Kept.setCell ?_ (.inr GW418.out) _) | exact HK.out)) hb)
            replace HB := bst HB hb
            (try clear hb)
            (try clear hb2)
            (try clear hk)
            (try clear hi)
            (try clear ho0)
            refine hK.out _ _ ⟨(blk_cell BK418.out 0).trans rfl, (blk_cell BK418.out 1).trans rfl⟩ (fun hHeld => ?_)
            clear hK K
            refine normW 54 ?_
            exact norm_ (by simp only [putAll, Act.put, List.setIfInBounds_toArray, List.set_cons_zero, List.set_cons_succ]) (hCont (v423, v426) _ ⟨hHeld, (Kd.R_g (Kd.R_mono HO424.out (fun _ hk => ⟨hk.1.1.1.1, ⟨hk.2, ⟨hk.1.1.2, hk.1.2⟩⟩⟩))), (Kd.R_g (Kd.R_mono HO427.out (fun _ hk => ⟨hk.1.1.1.1, ⟨hk.2, ⟨hk.1.1.2, hk.1.2⟩⟩⟩))), (Kd.R_g (Kd.R_mono HO_1.out (fun _ hk => ⟨hk.1.1, ⟨hk.2, hk.1.2⟩⟩))), (Kd.R_g (Kd.R_mono HO_27.out (fun _ hk => ⟨hk.1.1, ⟨hk.2, hk.1.2⟩⟩))), (blk_g BK418.out), (by repeat (first | (with_reducible first | exact HK.out | apply Kept.alloc | apply Kept.drewN | apply Kept.drew | refine Kept.setCell ?_ (.inr GW418.out) _) | exact HK.out)), (bel_g HB.out)⟩)
          rintro ⟨v423, v426⟩ w39 ⟨hS_, h0_, h1_, h2_, h3_, h4_, h5_, h6_⟩
          have n0_ : Fc (Kd.R (Kd.int .i64) 3 w39 w0.heap.size (fun k_ => (P1_ k_ ∨ w.heap.size ≤ k_) ∧ some k_ ≠ (v426 : Value).ownBlock ∧ some k_ ≠ (.slice Ao9 l1.length co9 : Value).ownBlock ∧ some k_ ≠ (.slice Ao9 l1.length co9 : Value).ownBlock) v423 t422) := ⟨h0_⟩
          have n1_ : Fc (Kd.R (Kd.int .i64) 3 w39 w0.heap.size (fun k_ => (P1_ k_ ∨ w.heap.size ≤ k_) ∧ some k_ ≠ (v423 : Value).ownBlock ∧ some k_ ≠ (.slice Ao9 l1.length co9 : Value).ownBlock ∧ some k_ ≠ (.slice Ao9 l1.length co9 : Value).ownBlock) v426 y425) := ⟨h1_⟩
          have n2_ : Fc (Kd.R (Kd.int .i64) 3 w39 w0.heap.size (fun k_ => (P1_ k_ ∨ w.heap.size ≤ k_) ∧ some k_ ≠ (v423 : Value).ownBlock ∧ some k_ ≠ (v426 : Value).ownBlock) (.slice Ao9 l1.length co9) l1) := ⟨h2_⟩
          have n3_ : Fc (Kd.R (Kd.int .i64) 3 w39 w0.heap.size (fun k_ => (P1_ k_ ∨ w.heap.size ≤ k_) ∧ some k_ ≠ (v423 : Value).ownBlock ∧ some k_ ≠ (v426 : Value).ownBlock) (.slice Ao9 l1.length co9) l1) := ⟨h3_⟩
          have n4_ : Fc (w39.heap[gb418]? = some (.cells #[.int .i64 a0_0, .slice A0_1 l0_1.length c0_1] 26 (0, 0))) := ⟨h4_⟩
          have n5_ : Fc (Kept w w39 (fun k_ => P1_ k_)) := ⟨h5_⟩
          have n6_ : Fc (Below w0.heap.size w0 w39) := ⟨h6_⟩
          clear HO_1
          clear HO_27
          clear BK418
          clear HK
          clear HB
          clear h0_ h1_ h2_ h3_ h4_ h5_ h6_
          have HO424 := n0_
          have HO427 := n1_
          have HO_1 := n2_
          have HO_27 := n3_
          have BK418 := n4_
          have HK := n5_
          have HB := n6_
          clear n0_ n1_ n2_ n3_ n4_ n5_ n6_
          have hHeld : w39.cell? ⟨gb418, 0, none⟩ = some (.int .i64 a0_0) ∧ w39.cell? ⟨gb418, 1, none⟩ = some (.slice A0_1 l0_1.length c0_1) := hS_
          obtain ⟨Ao41, co41, eo41⟩ := Kd.R_slice HO427.out
          (first | subst eo41 | (injection eo41 with f1_ f2_ f3_; have f4_ := f1_.symm; have f5_ := f3_.symm; clear f1_ f2_ f3_; subst f4_; subst f5_))
          refine norm_ (a' := ?_) ?_ ?_
          rotate_left
          ·simp only [putAll, Act.put, List.setIfInBounds_toArray, List.set_cons_zero, List.set_cons_succ]
           rfl
          refine oneW 5 (some 57) (bm 13 127) HT_ (fun K hK => ?_)
          refine Kd.R_append_rows_step (Kd.int .i64) (w0 := w0) w0.heap.size (by rfl) (.tmp 54) (.tmp 56) 24 3 (.int .i64 0) 8 rfl Tryd.underlying24 info3 rfl (by decide) (by omega) v423 t422 y425 _ _ _ (fun k_ => (P1_ k_ ∨ w.heap.size ≤ k_) ∧ some k_ ≠ (.slice Ao9 l1.length co9 : Value).ownBlock ∧ some k_ ≠ (.slice Ao9 l1.length co9 : Value).ownBlock ∧ some k_ ≠ (.slice Ao41 y425.length co41 : Value).ownBlock) (fun _ => False) rfl rfl ?aO ?aR (fun _ _ h => h) (fun _ h => h.elim) ?aF ?aB ?aS ?aL ?_
          (case aR => repeat (first | exact (Kd.R_reads' HO427.out).2.2 | (with_reducible refine Kd.C_alloc ?_ _) | (with_reducible refine Kd.C_drewN ?_ _) | (with_reducible refine Kd.C_drew ?_)))
          (case aB => exact (bel_g HB.out))
          (case aF => exact (fun k_ hk => ⟨(.inr (Nat.le_trans (by first | exact HK.out.1 | exact (show Kept w _ (fun k_ => P1_ k_) from by repeat (first | (with_reducible first | exact HK.out | apply Kept.alloc | apply Kept.drewN | apply Kept.drew | refine Kept.setCell ?_ (.inr GW418.out) _) | exact HK.out)).1) hk)), Kd.fresh' (Kd.R_lt (Kd.R_g HO_1.out)) k_ hk, Kd.fresh' (Kd.R_lt (Kd.R_g HO_27.out)) k_ hk, Kd.fresh' (Kd.R_lt (Kd.R_g HO427.out)) k_ hk⟩))
          (case aO => exact (Kd.R_g (Kd.R_mono HO424.out (fun _ hk => ⟨hk.1, ⟨hk.2.2.1, ⟨hk.2.2.2, hk.2.1⟩⟩⟩))))
          (case aS => exact (below_size (bel_g HB.out)))
          (case aL => have := LMc23.out; omega)
          intro v429 w40 ho hb hg hat
          rw [← Ny428.out] at ho
          replace HO_1 := mkA (Kd.R_after (ok := (fun k_ => (P1_ k_ ∨ w.heap.size ≤ k_) ∧ some k_ ≠ (.slice Ao41 y425.length co41 : Value).ownBlock)) (Kd.R_g (Kd.R_mono HO_1.out (fun _ hk => ⟨⟨hk.1, hk.2.2⟩, hk.2.1⟩))) hg hat)
          replace HO_27 := mkA (Kd.R_after (ok := (fun k_ => (P1_ k_ ∨ w.heap.size ≤ k_) ∧ some k_ ≠ (.slice Ao41 y425.length co41 : Value).ownBlock)) (Kd.R_g (Kd.R_mono HO_27.out (fun _ hk => ⟨⟨hk.1, hk.2.2⟩, hk.2.1⟩))) hg hat)
          replace BK418 := mkA (blk_grown (g := gb418) (o := .cells #[.int .i64 a0_0, .slice A0_1 l0_1.length c0_1] 26 (0, 0)) (blk_g BK418.out) hg (Kd.R_ne HO424.out BK418.out (by decide)))
          replace HO427 := mkA (Kd.R_after (ok := (fun k_ => (P1_ k_ ∨ w.heap.size ≤ k_) ∧ some k_ ≠ (.slice Ao9 l1.length co9 : Value).ownBlock ∧ some k_ ≠ (.slice Ao9 l1.length co9 : Value).ownBlock)) (Kd.R_g (Kd.R_mono HO427.out (fun _ hk => ⟨⟨hk.1, ⟨hk.2.2.1, hk.2.2.2⟩⟩, hk.2.1⟩))) hg hat)
          replace HK := mkA (Kept.of_grown (S := (fun k_ => P1_ k_)) hg (by repeat (first | (with_reducible first | exact HK.out | apply Kept.alloc | apply Kept.drewN | apply Kept.drew | refine Kept.setCell ?_ (.inr GW418.out) _) | exact HK.out)) (fun k_ e_ => (HO424.out.1 k_ e_).1))
          have HO430 := mkA (ho)
          replace HB := mkA (hb)
          clear HO424
          clear ho hb hg hat
          obtain ⟨Ao42, co42, eo42⟩ := Kd.R_slice HO430.out
          (first | subst eo42 | (injection eo42 with f1_ f2_ f3_; have f4_ := f1_.symm; have f5_ := f3_.symm; clear f1_ f2_ f3_; subst f4_; subst f5_))
          refine hK.out _ _ ⟨(blk_cell BK418.out 0).trans rfl, (blk_cell BK418.out 1).trans rfl⟩ (fun hHeld => ?_)
          clear hK K
          refine normW 57 ?_
          refine oneW 7 (some 59) (bm 13 255) HT_ (fun K hK => ?_)
          refine goesR Tryd.func25 #[.agg #[.int .i64 a0_0, .slice A0_1 l0_1.length c0_1], .slice Ao42 y428.length co42, .int .i64 a2] ?_
          with_reducible refine (ih k2 (by have := HK1.out; have := HK2.out; omega) a0_0 _ _ l0_1 (fun k_ => some k_ = (.slice Ao42 y428.length co42 : Value).ownBlock) (.slice Ao42 y428.length co42) y428 a2 t431 false w0 _ ?s1 ?s2 ?s3 ?s4 A24.out).mono ?_
          (case s1 => exact bel_g HB.out)
          (case s2 => exact Kd.C_kept_call HR0_1.out (by repeat (first | (with_reducible first | exact HK.out | apply Kept.alloc | apply Kept.drewN | apply Kept.drew | refine Kept.setCell ?_ (.inr GW418.out) _) | exact HK.out)) (fun k_ hs_ => (fun e_ => (HO430.out.1 k_ e_.symm).1) hs_))
          (case s3 => exact HC0_1.out)
          (case s4 => exact Kd.R_tight rfl HO430.out)
          rintro e w43 ⟨v432, rfl, ho0, hb, hkp⟩
          refine ⟨_, rfl, ?_⟩
          replace BK418 := mkA (blk_kept (blk_g BK418.out) hkp (fun hs_ => (fun e_ => (Kd.R_ne HO430.out BK418.out (by decide)) e_) hs_))
          have HO433 := mkA (Kd.R_mono (ok' := fun k_ => (P1_ k_ ∨ w.heap.size ≤ k_) ∧ some k_ ≠ (.slice Ao9 l1.length co9 : Value).ownBlock ∧ some k_ ≠ (.slice Ao9 l1.length co9 : Value).ownBlock ∧ some k_ ≠ (.slice Ao41 y425.length co41 : Value).ownBlock) ho0 (fun k_ hk_ => ⟨Or.elim hk_ (fun hs_ => (HO430.out.1 k_ (hs_).symm).1) (fun hn_ => (.inr (Nat.le_trans (by first | exact HK.out.1 | exact (show Kept w _ (fun k_ => P1_ k_) from by repeat (first | (with_reducible first | exact HK.out | apply Kept.alloc | apply Kept.drewN | apply Kept.drew | refine Kept.setCell ?_ (.inr GW418.out) _) | exact HK.out)).1) hn_))), Or.elim hk_ (fun hs_ => fun e_ => (((HO_1.out).1 k_ e_.symm).2) hs_) (fun hn_ => (Kd.fresh' (Kd.R_lt (Kd.R_g HO_1.out)) k_ hn_)), Or.elim hk_ (fun hs_ => fun e_ => (((HO_27.out).1 k_ e_.symm).2) hs_) (fun hn_ => (Kd.fresh' (Kd.R_lt (Kd.R_g HO_27.out)) k_ hn_)), Or.elim hk_ (fun hs_ => fun e_ => (((HO427.out).1 k_ e_.symm).2) hs_) (fun hn_ => (Kd.fresh' (Kd.R_lt (Kd.R_g HO427.out)) k_ hn_))⟩))
          replace HO_1 := mkA (Kd.R_mono (ok' := fun k_ => (P1_ k_ ∨ w.heap.size ≤ k_) ∧ some k_ ≠ (.slice Ao41 y425.length co41 : Value).ownBlock ∧ some k_ ≠ (v432 : Value).ownBlock) (Kd.R_keptB (HO_1.out) hkp (fun k_ hk_ hs_ => (hk_.2) hs_)) (fun k_ hk_ => ⟨hk_.1.1.1, hk_.1.1.2, fun e_ => Or.elim (ho0.1 k_ e_.symm) (fun hs_ => hk_.2.1 hs_) (fun hn_ => Nat.not_le.2 hk_.2.2 hn_)⟩))
          replace HO_27 := mkA (Kd.R_mono (ok' := fun k_ => (P1_ k_ ∨ w.heap.size ≤ k_) ∧ some k_ ≠ (.slice Ao41 y425.length co41 : Value).ownBlock ∧ some k_ ≠ (v432 : Value).ownBlock) (Kd.R_keptB (HO_27.out) hkp (fun k_ hk_ hs_ => (hk_.2) hs_)) (fun k_ hk_ => ⟨hk_.1.1.1, hk_.1.1.2, fun e_ => Or.elim (ho0.1 k_ e_.symm) (fun hs_ => hk_.2.1 hs_) (fun hn_ => Nat.not_le.2 hk_.2.2 hn_)⟩))
          replace HO427 := mkA (Kd.R_mono (ok' := fun k_ => (P1_ k_ ∨ w.heap.size ≤ k_) ∧ some k_ ≠ (.slice Ao9 l1.length co9 : Value).ownBlock ∧ some k_ ≠ (.slice Ao9 l1.length co9 : Value).ownBlock ∧ some k_ ≠ (v432 : Value).ownBlock) (Kd.R_keptB (HO427.out) hkp (fun k_ hk_ hs_ => (hk_.2) hs_)) (fun k_ hk_ => ⟨hk_.1.1.1, hk_.1.1.2.1, hk_.1.1.2.2, fun e_ => Or.elim (ho0.1 k_ e_.symm) (fun hs_ => hk_.2.1 hs_) (fun hn_ => Nat.not_le.2 hk_.2.2 hn_)⟩))
          replace HK := mkA (Kept.then_ (S := (fun k_ => P1_ k_)) (by repeat (first | (with_reducible first | exact HK.out | apply Kept.alloc | apply Kept.drewN | apply Kept.drew | refine Kept.setCell ?_ (.inr GW418.out) _) | exact HK.out)) hkp (fun k_ hs_ => (fun e_ => (HO430.out.1 k_ e_.symm).1) hs_))
          replace HB := mkA (hb)
          clear HO430
          (try clear hb)
          (try clear hkp)
          (try clear ho0)
          refine hK.out _ _ ⟨(blk_cell BK418.out 0).trans rfl, (blk_cell BK418.out 1).trans rfl⟩ (fun hHeld => ?_)
          clear hK K
          refine normW 59 ?_
          refine purW 8 51 13 511 HT_ ?_
          refine purW 9 60 13 1023 HT_ ?_
          refine purW 10 61 13 2047 HT_ ?_
          refine purW 11 13 13 4095 HT_ ?_
          refine purW 12 14 13 8191 HT_ ?_
          refine doneW HT_ ?_
          try go_wp2
          go_roundg k2
          case measure => have := HK1.out; have := HK2.out; omega
          case rel => exact ⟨(wrap64 (x9_1 + 1)), eqS, H', ⟨by have := HK1.out; have := HK2.out; omega⟩, ⟨Kd.R_g (Kd.R_mono HO_1.out (fun _ hk => hk.1))⟩, bg BK418, ⟨by repeat (first | (with_reducible first | exact HK.out | apply Kept.alloc | apply Kept.drewN | apply Kept.drew | refine Kept.setCell ?_ (.inr GW418.out) _) | exact HK.out)⟩, hbg HB⟩
        ·replace c21 := Bool.eq_false_iff.mpr c21
         subst c21
         replace H := ifF H
         have H' := mkA H
         clear H
         go_wp2
         go_roundg k2
         case measure => have := HK1.out; have := HK2.out; omega
         case rel => exact ⟨(wrap64 (x9_1 + 1)), eqS, H', ⟨by have := HK1.out; have := HK2.out; omega⟩, rg HO_1, bg BK418, ⟨by repeat (first | (with_reducible first | exact HK.out | apply Kept.alloc | apply Kept.drewN | apply Kept.drew | refine Kept.setCell ?_ (.inr GW418.out) _) | exact HK.out)⟩, hbg HB⟩
    ·simp only [Option.some.injEq, Prod.mk.injEq] at H
     obtain ⟨rfl, rfl⟩ := H
     go_wp2
     go_ret2
     exact ⟨_, eqE, nilE, bel_g HB.out, by repeat (first | (with_reducible first | exact HK.out | apply Kept.alloc | apply Kept.drewN | apply Kept.drew | refine Kept.setCell ?_ (.inr GW418.out) _) | exact HK.out)⟩
end Go.Proofs.YtpphkeijklffgaaDoor.Q
