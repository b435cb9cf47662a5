import Derived.Test.YtdpmoehmbjmkpaaDoorBFnPatterns14
namespace Go.Proofs.YtdpmoehmbjmkpaaDoor.Q
open Go.RowKit Go.Proofs.YtdpmoehmbjmkpaaDoorW.PrintWords Go.Proofs.YtdpmoehmbjmkpaaDoorW.PrintLast Go.Proofs.YtdpmoehmbjmkpaaDoorW.PrintMore
attribute [local go_sem] max2_int min2_int max_two min_two max_three min_three max_four min_four neB_f
set_option linter.unusedVariables false
set_option maxHeartbeats 8000000
set_option maxRecDepth 100000
set_option linter.unusedSimpArgs false
mutual
def spec_orFind.l0 : Nat → List Int → Int → Int → List Int → Int → List Int → Option (List Int × Bool)
 | 0, _, _, _, _, _, _ => none
 | k + 1, x2, x8, x378000, x378001, x379000, x379001 => if x8 < x378000 then ((spec_orFits.f k x378000 x378001 x379000 x379001 x2 x8).bind fun t379 => (if t379 = true then ((spec_l1Own.f x2).bind fun t380 => ((some (([x8] : List Int) : List Int)).bind fun y383 => (if t380.length + y383.length < 17592186044416 then ((spec_orFind.f k x378000 x378001 x379000 x379001 (t380 ++ y383)).bind fun bt389 => (if bt389.2 = true then (some (bt389.1, true)) else (spec_orFind.l0 k x2 (wrap64 (x8 + 1)) x378000 x378001 x379000 x379001))) else (none)))) else (spec_orFind.l0 k x2 (wrap64 (x8 + 1)) x378000 x378001 x379000 x379001))) else (some (([] : List Int), false))
def spec_orFind.f : Nat → Int → List Int → Int → List Int → List Int → Option (List Int × Bool)
 | 0, _, _, _, _, _ => none
 | k + 1, a0_0, l0_1, a1_0, l1_1, l2 => if (l2.length : Int) = a1_0 then (some (l2, true)) else (spec_orFind.l0 k l2 0 a0_0 l0_1 a1_0 l1_1)
end
theorem spec_orFind.mono_l : ∀ k, (∀ y0 y1 y2 y3 y4, LeO (spec_orFind.f k y0 y1 y2 y3 y4) (spec_orFind.f (k + 1) y0 y1 y2 y3 y4)) ∧ (∀ y0 y1 y2 y3 y4 y5, LeO (spec_orFind.l0 k y0 y1 y2 y3 y4 y5) (spec_orFind.l0 (k + 1) y0 y1 y2 y3 y4 y5))
 | 0 => ⟨fun _ _ _ _ _ r h => by simp [spec_orFind.f] at h, fun _ _ _ _ _ _ r h => by simp [spec_orFind.l0] at h⟩
 | k + 1 => by
  obtain ⟨ih0, ih1⟩ := spec_orFind.mono_l k
  refine ⟨?_, ?_⟩ <;> intros
  unfold spec_orFind.f
  rotate_left
  unfold spec_orFind.l0
  rotate_left
  all_goals repeat' (with_reducible first|apply ih0|apply ih1|apply spec_orFits.mono|apply LeO.refl|apply LeO.none|apply LeO.ite|apply LeO.bind|intro)
theorem spec_orFind.mono : ∀ a0 a1 a2 a3 a4 k, LeO (spec_orFind.f k a0 a1 a2 a3 a4) (spec_orFind.f (k + 1) a0 a1 a2 a3 a4) := by
 intro a0 a1 a2 a3 a4 k
 obtain ⟨ih0, ih1⟩ := spec_orFind.mono_l k
 exact ih0 a0 a1 a2 a3 a4
def spec_orFind.T7 : Bool × List (List Nat × List Nat) := (true, [([], []), ([], []), ([], []), ([2], [2]), ([], []), ([4], [4]), ([3, 5, 3], [3, 5]), ([0, 1, 6, 6], [0, 1, 6]), ([7], [7]), ([8], [8]), ([8], [8]), ([9, 7, 0, 1, 2, 3, 4, 5, 6, 7, 8, 9], [9]), ([10, 11, 0, 1, 2, 3, 4, 5, 6, 7, 8, 9, 10, 11], [10])])
def spec_orFind.B7 : List Nat := [0, 0, 0, 4, 0, 16, 60, 127, 255, 511, 511, 1023, 4095]
theorem spec_orFind.tab7 : rtab .any (opsOf Tryd.f25 7) = spec_orFind.T7 := by kernel_rfl
theorem spec_orFind.bits7 : waitsOk spec_orFind.T7.2 spec_orFind.B7 = true := by kernel_rfl
theorem spec_orFind.calls (k : Nat) : ∀ (a0_0 : Int) (A0_1 : Option Addr) (c0_1 : Nat) (l0_1 : List Int) (a1_0 : Int) (A1_1 : Option Addr) (c1_1 : Nat) (l1_1 : List Int) (P2_ : Nat → Prop) (u9000_ : Value) (l2 : List Int) (r1 : List Int) (r2 : Bool) (w0 w : World) (hB : Below w0.heap.size w0 w) (hr0_1 : ∀ W_, Kept w W_ (fun k_ => P2_ k_) → Kd.C (Kd.int .i64) W_ A0_1 l0_1.length l0_1) (hc0_1 : l0_1.length ≤ c0_1) (hr1_1 : ∀ W_, Kept w W_ (fun k_ => P2_ k_) → Kd.C (Kd.int .i64) W_ A1_1 l1_1.length l1_1) (hc1_1 : l1_1.length ≤ c1_1) (ho2 : Kd.R (Kd.int .i64) 3 w w0.heap.size P2_ u9000_ l2) (h : spec_orFind.f k a0_0 l0_1 a1_0 l1_1 l2 = some (r1, r2)),
  Calls Tryd.prog 25 #[.agg #[.int .i64 a0_0, .slice A0_1 l0_1.length c0_1], .agg #[.int .i64 a1_0, .slice A1_1 l1_1.length c1_1], u9000_] w fun e w' => ∃ v0_ : Value, e = .returned (.tuple #[v0_, .bool r2]) ∧ Kd.R (Kd.int .i64) 3 w' w0.heap.size (fun k_ => (P2_ k_ ∨ w.heap.size ≤ k_)) v0_ r1 ∧ Below w0.heap.size w0 w' ∧ Kept w w' (fun k_ => P2_ k_) := by
 induction k using Nat.strongRecOn with
 | _ k ih =>
 intro a0_0 A0_1 c0_1 l0_1 a1_0 A1_1 c1_1 l1_1 P2_ u9000_ l2 r1 r2 w0 w hB hr0_1 hc0_1 hr1_1 hc1_1 ho2 h
 cases k with
 | zero => exact absurd h (by simp [spec_orFind.f])
 | succ k =>
 simp only [spec_orFind.f] at h
 have hu26 := Tryd.underlying26
 have HR0_1 := mkA hr0_1
 have HC0_1 := mkA hc0_1
 clear hr0_1 hc0_1
 have HR1_1 := mkA hr1_1
 have HC1_1 := mkA hc1_1
 clear hr1_1 hc1_1
 have HO2 := mkA (show Kd.R (Kd.int .i64) 3 w w0.heap.size (fun k_ => (P2_ k_ ∨ w.heap.size ≤ k_)) u9000_ l2 from Kd.R_mono ho2 (fun k_ hk => (.inl hk)))
 have HK := mkA (Kept.refl w (fun k_ => P2_ k_))
 have HW0 := mkA hB.size
 have HB := mkA hB
 clear hB
 have H := h
 clear h
 unfold spec_orFind.f at H
 rcases iteP H with ⟨c4, H⟩ | ⟨c4, H⟩
 ·have c4b0 := beq_iff_eq.mpr c4
  have c4b1 := bne_eq_false_iff_eq.mpr c4
  clear c4
  simp only [Option.some.injEq, Prod.mk.injEq] at H
  obtain ⟨rfl, rfl⟩ := H
  go_enter Tryd.func25, Tryd.ntmps25
  go_wp2_with (first | ((with_reducible refine gate_dst (N := 3) rfl ?_); refine boxE (N := 3) (cs := #[.int .i64 a0_0, .slice A0_1 l0_1.length c0_1]) (t := 26) ?_; intro gb377 hg w5 hbox hb; replace HO2 := rB HO2 hb; have BK377 := mkA (hbox); have GW377 := mkA ((by rw [hg]; exact (by first | exact HK.out.1 | exact (show Kept w _ (fun k_ => P2_ k_) from by repeat (first | (with_reducible first | exact HK.out | apply Kept.alloc | apply Kept.drewN | apply Kept.drew) | exact HK.out)).1) : w.heap.size ≤ gb377)); replace HK := mkA (Kept.below (S := (fun k_ => P2_ k_)) (by repeat (first | (with_reducible first | exact HK.out | apply Kept.alloc | apply Kept.drewN | apply Kept.drew) | exact HK.out)) hb); have GE377 := geB HB hg; replace HB := bst HB hb; clear hb hbox hg) | ((with_reducible refine gate_dst (N := 4) rfl ?_); refine boxE (N := 4) (cs := #[.int .i64 a1_0, .slice A1_1 l1_1.length c1_1]) (t := 26) ?_; intro gb378 hg w6 hbox hb; replace HO2 := rB HO2 hb; have BK378 := mkA (hbox); have GW378 := mkA ((by rw [hg]; exact (by first | exact HK.out.1 | exact (show Kept w _ (fun k_ => P2_ k_) from by repeat (first | (with_reducible first | exact HK.out | apply Kept.alloc | apply Kept.drewN | apply Kept.drew | refine Kept.setCell ?_ (.inr GW377.out) _) | exact HK.out)).1) : w.heap.size ≤ gb378)); replace HK := mkA (Kept.below (S := (fun k_ => P2_ k_)) (by repeat (first | (with_reducible first | exact HK.out | apply Kept.alloc | apply Kept.drewN | apply Kept.drew | refine Kept.setCell ?_ (.inr GW377.out) _) | exact HK.out)) hb); have GE378 := geB HB hg; have NB377_378 := neL7 BK377 hg; have NB378_377 := neR7 BK377 hg; replace BK377 := blkB BK377 hb; replace HB := bst HB hb; clear hb hbox hg; obtain ⟨Ao7, co7, rfl⟩ := Kd.R_slice HO2.out; obtain ⟨_, _, _, _⟩ := blk2 BK378))
  go_ret2
  exact ⟨_, eqE, Kd.R_g HO2.out, bel_g HB.out, by repeat (first | (with_reducible first | exact HK.out | apply Kept.alloc | apply Kept.drewN | apply Kept.drew | refine Kept.setCell ?_ (.inr GW377.out) _ | refine Kept.setCell ?_ (.inr GW378.out) _) | exact HK.out)⟩
 ·have c4b0 := beq_eq_false_iff_ne.mpr c4
  have c4b1 := bne_iff_ne.mpr c4
  have H' := mkA H
  clear H
  go_enter Tryd.func25, Tryd.ntmps25
  go_wp2_with (first | ((with_reducible refine gate_dst (N := 3) rfl ?_); refine boxE (N := 3) (cs := #[.int .i64 a0_0, .slice A0_1 l0_1.length c0_1]) (t := 26) ?_; intro gb377 hg w10 hbox hb; replace HO2 := rB HO2 hb; have BK377 := mkA (hbox); have GW377 := mkA ((by rw [hg]; exact (by first | exact HK.out.1 | exact (show Kept w _ (fun k_ => P2_ k_) from by repeat (first | (with_reducible first | exact HK.out | apply Kept.alloc | apply Kept.drewN | apply Kept.drew) | exact HK.out)).1) : w.heap.size ≤ gb377)); replace HK := mkA (Kept.below (S := (fun k_ => P2_ k_)) (by repeat (first | (with_reducible first | exact HK.out | apply Kept.alloc | apply Kept.drewN | apply Kept.drew) | exact HK.out)) hb); have GE377 := geB HB hg; replace HB := bst HB hb; clear hb hbox hg) | ((with_reducible refine gate_dst (N := 4) rfl ?_); refine boxE (N := 4) (cs := #[.int .i64 a1_0, .slice A1_1 l1_1.length c1_1]) (t := 26) ?_; intro gb378 hg w11 hbox hb; replace HO2 := rB HO2 hb; have BK378 := mkA (hbox); have GW378 := mkA ((by rw [hg]; exact (by first | exact HK.out.1 | exact (show Kept w _ (fun k_ => P2_ k_) from by repeat (first | (with_reducible first | exact HK.out | apply Kept.alloc | apply Kept.drewN | apply Kept.drew | refine Kept.setCell ?_ (.inr GW377.out) _) | exact HK.out)).1) : w.heap.size ≤ gb378)); replace HK := mkA (Kept.below (S := (fun k_ => P2_ k_)) (by repeat (first | (with_reducible first | exact HK.out | apply Kept.alloc | apply Kept.drewN | apply Kept.drew | refine Kept.setCell ?_ (.inr GW377.out) _) | exact HK.out)) hb); have GE378 := geB HB hg; have NB377_378 := neL7 BK377 hg; have NB378_377 := neR7 BK377 hg; replace BK377 := blkB BK377 hb; replace HB := bst HB hb; clear hb hbox hg; obtain ⟨Ao12, co12, rfl⟩ := Kd.R_slice HO2.out; obtain ⟨_, _, _, _⟩ := blk2 BK378))
  go_loopg [8] k (fun kq v8 w' => ∃ (x8_1 : Int), v8 = .int .i64 x8_1 ∧ Fc (spec_orFind.l0 kq l2 x8_1 a0_0 l0_1 a1_0 l1_1 = some (r1, r2)) ∧ Fc (kq ≤ k) ∧ Fc (Kd.R (Kd.int .i64) 3 w' w0.heap.size (fun k_ => (P2_ k_ ∨ w.heap.size ≤ k_)) (.slice Ao12 l2.length co12) l2) ∧ Fc (w'.heap[gb377]? = some (.cells #[.int .i64 a0_0, (.slice A0_1 l0_1.length c0_1)] 26 (0, 0))) ∧ Fc (w'.heap[gb378]? = some (.cells #[.int .i64 a1_0, (.slice A1_1 l1_1.length c1_1)] 26 (0, 0))) ∧ Fc (Kept w w' (fun k_ => P2_ k_)) ∧ Fc (Below w0.heap.size w0 w'))
  case atStart => exact ⟨(0), eqS, H', ⟨Nat.le_refl _⟩, rg HO2, bg BK377, bg BK378, ⟨by repeat (first | (with_reducible first | exact HK.out | apply Kept.alloc | apply Kept.drewN | apply Kept.drew | refine Kept.setCell ?_ (.inr GW377.out) _ | refine Kept.setCell ?_ (.inr GW378.out) _) | exact HK.out)⟩, hbg HB⟩
  case round =>
   clear H'
   try clear c4
   try clear c4b0
   try clear c4b1
   obtain ⟨x8_1, rfl, HA, HK1, HO_2, BK377, BK378, HK, HB⟩ := hrel
   cases gk with
   | zero => exact absurd HA.out (by simp [spec_orFind.l0])
   | succ k1 =>
    have H := HA.out
    clear HA
    simp only [spec_orFind.l0] at H
    rcases iteE H with ⟨c15b0, H⟩ | ⟨c15b0, H⟩
    ·obtain ⟨t379, A16, H⟩ := obE H
     by_cases c17 : t379 = true
     ·subst c17
      replace H := ifT H
      obtain ⟨t380, A18, H⟩ := obE H
      obtain ⟨y383, Ny383, H⟩ := nmE H
      obtain ⟨c19, H⟩ := itNP H
      have LMc19 := mkA c19
      clear c19
      obtain ⟨y386, hy386⟩ : ∃ y_ : List Int, y_ = (t380 ++ y383) := ⟨_, rfl⟩
      rw [← hy386] at H
      have Ny386 := mkA hy386
      clear hy386
      obtain ⟨⟨t389, t392⟩, A20, H⟩ := obE H
      dsimp only at H
      by_cases c21 : t392 = true
      ·subst c21
       replace H := ifT H
       simp only [Option.some.injEq, Prod.mk.injEq] at H
       obtain ⟨rfl, rfl⟩ := H
       obtain ⟨_, _, _, _⟩ := blk2 BK377
       obtain ⟨_, _, _, _⟩ := blk2 BK378
       try go_wp2_with (first | ((with_reducible refine gate_callee (f := 45) rfl ?_); refine goesQ (some 27) Tryd.func45 #[.agg #[.int .i64 a0_0, .slice A0_1 l0_1.length c0_1], .agg #[.int .i64 a1_0, .slice A1_1 l1_1.length c1_1], .slice Ao12 l2.length co12, .int .i64 x8_1] ?_; (with_reducible refine (spec_orFits.calls k1 a0_0 _ _ l0_1 a1_0 _ _ l1_1 _ _ l2 x8_1 true _ ?s1 ?s2 ?s3 ?s4 ?s5 ?s6 A16.out).mono ?_); (case s1 => exact Kd.C_kept_now HR0_1.out (by repeat (first | (with_reducible first | exact HK.out | apply Kept.alloc | apply Kept.drewN | apply Kept.drew | refine Kept.setCell ?_ (.inr GW377.out) _ | refine Kept.setCell ?_ (.inr GW378.out) _) | exact HK.out))); (case s2 => exact HC0_1.out); (case s3 => exact Kd.C_kept_now HR1_1.out (by repeat (first | (with_reducible first | exact HK.out | apply Kept.alloc | apply Kept.drewN | apply Kept.drew | refine Kept.setCell ?_ (.inr GW377.out) _ | refine Kept.setCell ?_ (.inr GW378.out) _) | exact HK.out))); (case s4 => exact HC1_1.out); (case s5 => exact rC HO_2); (case s6 => exact rL HO_2); rintro e w25 ⟨rfl, hb⟩; refine ⟨_, rfl, ?_⟩; replace HO_2 := rB HO_2 hb; replace BK377 := blkB BK377 hb; replace BK378 := blkB BK378 hb; replace HK := mkA (Kept.below (S := (fun k_ => P2_ k_)) (by repeat (first | (with_reducible first | exact HK.out | apply Kept.alloc | apply Kept.drewN | apply Kept.drew | refine Kept.setCell ?_ (.inr GW377.out) _ | refine Kept.setCell ?_ (.inr GW378.out) _) | exact HK.out)) hb); replace HB := bst HB hb; (try clear hb); (try clear hk)))
       replace HO_2 := mkA (Kd.R_drew HO_2.out)
       replace BK377 := mkA (blk_drew BK377.out)
       replace BK378 := mkA (blk_drew BK378.out)
       replace HK := mkA (Kept.drew HK.out)
       replace HB := mkA (below_drew1 HB.out)
       refine start_ (n := 13) (S := fun w' => w'.cell? ⟨gb377, 0, none⟩ = some (.int .i64 a0_0) ∧ w'.cell? ⟨gb377, 1, none⟩ = some (.slice A0_1 l0_1.length c0_1) ∧ w'.cell? ⟨gb378, 0, none⟩ = some (.int .i64 a1_0) ∧ w'.cell? ⟨gb378, 1, none⟩ = some (.slice A1_1 l1_1.length c1_1)) (ds := []) (bm 13 0) (by kernel_rfl) rfl (by kernel_rfl) ⟨(blk_cell BK377.out 0).trans rfl, (blk_cell BK377.out 1).trans rfl, (blk_cell BK378.out 0).trans rfl, (blk_cell BK378.out 1).trans rfl⟩ (fun hHeld => ?_); refine with_tabW spec_orFind.tab7 spec_orFind.bits7 (fun HT_ HW_ => ?_)
       generalize w25.drew = w26 at HO_2 BK377 BK378 HK HB hHeld ⊢
       refine purW 2 32 13 4 HT_ ?_
       refine purW 4 34 13 20 HT_ ?_
       refine takeW 0 (some 30) (bm 13 21) HT_ HW_ hHeld ?_
       refine takeW 1 (some 31) (bm 13 23) HT_ HW_ hHeld ?_
       refine join_ (σ := Value × Value) 7 (bm 13 63) (fun s_ => [(33, s_.1), (35, s_.2)]) (fun s_ w' => (w'.cell? ⟨gb377, 0, none⟩ = some (.int .i64 a0_0) ∧ w'.cell? ⟨gb377, 1, none⟩ = some (.slice A0_1 l0_1.length c0_1) ∧ w'.cell? ⟨gb378, 0, none⟩ = some (.int .i64 a1_0) ∧ w'.cell? ⟨gb378, 1, none⟩ = some (.slice A1_1 l1_1.length c1_1)) ∧ (Kd.R (Kd.int .i64) 3 w' w0.heap.size (fun k_ => (P2_ k_ ∨ w.heap.size ≤ k_) ∧ some k_ ≠ (s_.2 : Value).ownBlock ∧ some k_ ≠ (.slice Ao12 l2.length co12 : Value).ownBlock) s_.1 t380) ∧ (Kd.R (Kd.int .i64) 3 w' w0.heap.size (fun k_ => (P2_ k_ ∨ w.heap.size ≤ k_) ∧ some k_ ≠ (s_.1 : Value).ownBlock ∧ some k_ ≠ (.slice Ao12 l2.length co12 : Value).ownBlock) s_.2 y383) ∧ (Kd.R (Kd.int .i64) 3 w' w0.heap.size (fun k_ => (P2_ k_ ∨ w.heap.size ≤ k_) ∧ some k_ ≠ (s_.1 : Value).ownBlock ∧ some k_ ≠ (s_.2 : Value).ownBlock) (.slice Ao12 l2.length co12) l2) ∧ (w'.heap[gb377]? = some (.cells #[.int .i64 a0_0, .slice A0_1 l0_1.length c0_1] 26 (0, 0))) ∧ (w'.heap[gb378]? = some (.cells #[.int .i64 a1_0, .slice A1_1 l1_1.length c1_1] 26 (0, 0))) ∧ (Kept w w' (fun k_ => P2_ k_)) ∧ (Below w0.heap.size w0 w')) ?_ ?_
       rotate_left
       ·intro hCont
        refine two_ (i := 3) (j := 5) (Ni := some 33) (Nj := some 35) (bm 13 31) (bm 13 55) rfl rfl rfl rfl (two_of HT_.out (by kernel_rfl)) (by decide) (by decide) (fun K hK => ?_) (fun K hK => ?_)
        ·skip
         refine goesR Tryd.func46 #[.slice Ao12 l2.length co12] ?_
         with_reducible refine (spec_l1Own.calls _ _ l2 t380 _ ?s1 ?s2 A18.out).mono ?_
         (case s1 => exact rC HO_2)
         (case s2 => exact rL HO_2)
         rintro e w27 ⟨v381, rfl, ho0, hb⟩
         refine ⟨_, rfl, ?_⟩
         have HO382 := rLo (rN (Kd.R_newM (M := fun k_ => (P2_ k_ ∨ w.heap.size ≤ k_)) ho0 (by first | exact HK.out.1 | exact (show Kept w _ (fun k_ => P2_ k_) from by repeat (first | (with_reducible first | exact HK.out | apply Kept.alloc | apply Kept.drewN | apply Kept.drew | refine Kept.setCell ?_ (.inr GW377.out) _ | refine Kept.setCell ?_ (.inr GW378.out) _) | exact HK.out)).1) (fun k_ h_ => .inr h_)) HO_2) HB
         replace HO_2 := rE HO_2 ho0 hb
         replace BK377 := blkB BK377 hb
         replace BK378 := blkB BK378 hb
         replace HK := mkA (Kept.below (S := (fun k_ => P2_ k_)) (by repeat (first | (with_reducible first | exact HK.out | apply Kept.alloc | apply Kept.drewN | apply Kept.drew | refine Kept.setCell ?_ (.inr GW377.out) _ | refine Kept.setCell ?_ (.inr GW378.out) _) | exact HK.out)) hb)
         replace HB := bst HB hb
         (try clear hb)
         (try clear hb2)
         (try clear hk)
         (try clear hi)
         (try clear ho0)
         refine hK.out _ _ ⟨(blk_cell BK377.out 0).trans rfl, (blk_cell BK377.out 1).trans rfl, (blk_cell BK378.out 0).trans rfl, (blk_cell BK378.out 1).trans rfl⟩ (fun hHeld => ?_)
         clear hK K
         refine normW 33 ?_
         refine oneW 5 (some 35) (bm 13 63) HT_ (fun K hK => ?_)
         refine Kd.R_lit_step (Kd.int .i64) _ 3 ?hg (N := 35) ?hd (xs := ([x8_1] : List Int)) (inner := [.int .i64 x8_1]) (ok := fun _ => True) (okp := fun _ => True) ?hr ?hp (fun _ hk => hk) trivial (Below.refl _ _) (Nat.le_refl _) (by simp) ?_; (case hd => rfl); (case hg => rfl); (case hr => first | (go_simp; done) | (go_simp; rfl)); (case hp => exact (Reps.one (show Kd.M (Kd.int .i64) _ _ _ x8_1 [.int .i64 x8_1] from rfl) (Reps.none _ _)))
         intro v384 w28 ho29 hb hg_ hnew_
         clear hg_ hnew_
         (first | rw [← Ny383.out] at ho29 | (simp only [Int.reduceToNat] at ho29; rw [← Ny383.out] at ho29))
         have HO385 := rLo (rN (rN (Kd.R_newM (M := fun k_ => (P2_ k_ ∨ w.heap.size ≤ k_)) ho29 (by first | exact HK.out.1 | exact (show Kept w _ (fun k_ => P2_ k_) from by repeat (first | (with_reducible first | exact HK.out | apply Kept.alloc | apply Kept.drewN | apply Kept.drew | refine Kept.setCell ?_ (.inr GW377.out) _ | refine Kept.setCell ?_ (.inr GW378.out) _) | exact HK.out)).1) (fun k_ h_ => .inr h_)) HO_2) HO382) HB
         replace HO_2 := rE HO_2 ho29 hb
         replace HO382 := rE HO382 ho29 hb
         replace BK377 := blkB BK377 hb
         replace BK378 := blkB BK378 hb
         replace HK := mkA (Kept.below (S := (fun k_ => P2_ k_)) (by repeat (first | (with_reducible first | exact HK.out | apply Kept.alloc | apply Kept.drewN | apply Kept.drew | refine Kept.setCell ?_ (.inr GW377.out) _ | refine Kept.setCell ?_ (.inr GW378.out) _) | exact HK.out)) hb)
         replace HB := bst HB hb
         clear hb ho29
         refine hK.out _ _ ⟨(blk_cell BK377.out 0).trans rfl, (blk_cell BK377.out 1).trans rfl, (blk_cell BK378.out 0).trans rfl, (blk_cell BK378.out 1).trans rfl⟩ (fun hHeld => ?_)
         clear hK K
         refine normW 35 ?_
         exact norm_ (by simp only [putAll, Act.put, List.setIfInBounds_toArray, List.set_cons_zero, List.set_cons_succ]) (hCont (v381, v384) _ ⟨hHeld, (Kd.R_g (Kd.R_mono HO382.out (fun _ hk => ⟨hk.1.1.1, ⟨hk.2, hk.1.2⟩⟩))), (Kd.R_g (Kd.R_mono HO385.out (fun _ hk => ⟨hk.1.1.1, ⟨hk.2, hk.1.2⟩⟩))), (Kd.R_g (Kd.R_mono HO_2.out (fun _ hk => ⟨hk.1.1, ⟨hk.1.2, hk.2⟩⟩))), (blk_g BK377.out), (blk_g BK378.out), (by repeat (first | (with_reducible first | exact HK.out | apply Kept.alloc | apply Kept.drewN | apply Kept.drew | refine Kept.setCell ?_ (.inr GW377.out) _ | refine Kept.setCell ?_ (.inr GW378.out) _) | exact HK.out)), (bel_g HB.out)⟩)
        ·skip
         refine Kd.R_lit_step (Kd.int .i64) _ 3 ?hg (N := 35) ?hd (xs := ([x8_1] : List Int)) (inner := [.int .i64 x8_1]) (ok := fun _ => True) (okp := fun _ => True) ?hr ?hp (fun _ hk => hk) trivial (Below.refl _ _) (Nat.le_refl _) (by simp) ?_; (case hd => rfl); (case hg => rfl); (case hr => first | (go_simp; done) | (go_simp; rfl)); (case hp => exact (Reps.one (show Kd.M (Kd.int .i64) _ _ _ x8_1 [.int .i64 x8_1] from rfl) (Reps.none _ _)))
         intro v384 w27 ho28 hb hg_ hnew_
         clear hg_ hnew_
         (first | rw [← Ny383.out] at ho28 | (simp only [Int.reduceToNat] at ho28; rw [← Ny383.out] at ho28))
         have HO385 := rLo (rN (Kd.R_newM (M := fun k_ => (P2_ k_ ∨ w.heap.size ≤ k_)) ho28 (by first | exact HK.out.1 | exact (show Kept w _ (fun k_ => P2_ k_) from by repeat (first | (with_reducible first | exact HK.out | apply Kept.alloc | apply Kept.drewN | apply Kept.drew | refine Kept.setCell ?_ (.inr GW377.out) _ | refine Kept.setCell ?_ (.inr GW378.out) _) | exact HK.out)).1) (fun k_ h_ => .inr h_)) HO_2) HB
         replace HO_2 := rE HO_2 ho28 hb
         replace BK377 := blkB BK377 hb
         replace BK378 := blkB BK378 hb
         replace HK := mkA (Kept.below (S := (fun k_ => P2_ k_)) (by repeat (first | (with_reducible first | exact HK.out | apply Kept.alloc | apply Kept.drewN | apply Kept.drew | refine Kept.setCell ?_ (.inr GW377.out) _ | refine Kept.setCell ?_ (.inr GW378.out) _) | exact HK.out)) hb)
         replace HB := bst HB hb
         clear hb ho28
         refine hK.out _ _ ⟨(blk_cell BK377.out 0).trans rfl, (blk_cell BK377.out 1).trans rfl, (blk_cell BK378.out 0).trans rfl, (blk_cell BK378.out 1).trans rfl⟩ (fun hHeld => ?_)
         clear hK K
         refine normW 35 ?_
         refine oneW 3 (some 33) (bm 13 63) HT_ (fun K hK => ?_)
         refine goesR Tryd.func46 #[.slice Ao12 l2.length co12] ?_
         with_reducible refine (spec_l1Own.calls _ _ l2 t380 _ ?s1 ?s2 A18.out).mono ?_
         (case s1 => exact rC HO_2)
         (case s2 => exact rL HO_2)
         rintro e w29 ⟨v381, rfl, ho0, hb⟩
         refine ⟨_, rfl, ?_⟩
         have HO382 := rLo (rN (rN (Kd.R_newM (M := fun k_ => (P2_ k_ ∨ w.heap.size ≤ k_)) ho0 (by first | exact HK.out.1 | exact (show Kept w _ (fun k_ => P2_ k_) from by repeat (first | (with_reducible first | exact HK.out | apply Kept.alloc | apply Kept.drewN | apply Kept.drew | refine Kept.setCell ?_ (.inr GW377.out) _ | refine Kept.setCell ?_ (.inr GW378.out) _) | exact HK.out)).1) (fun k_ h_ => .inr h_)) HO_2) HO385) HB
         replace HO_2 := rE HO_2 ho0 hb
         replace HO385 := rE HO385 ho0 hb
         replace BK377 := blkB BK377 hb
         replace BK378 := blkB BK378 hb
         replace HK := mkA (Kept.below (S := (fun k_ => P2_ k_)) (by repeat (first | (with_reducible first | exact HK.out | apply Kept.alloc | apply Kept.drewN | apply Kept.drew | refine Kept.setCell ?_ (.inr GW377.out) _ | refine Kept.setCell ?_ (.inr GW378.out) _) | exact HK.out)) hb)
         replace HB := bst HB hb
         (try clear hb)
         (try clear hb2)
         (try clear hk)
         (try clear hi)
         (try clear ho0)
         refine hK.out _ _ ⟨(blk_cell BK377.out 0).trans rfl, (blk_cell BK377.out 1).trans rfl, (blk_cell BK378.out 0).trans rfl, (blk_cell BK378.out 1).trans rfl⟩ (fun hHeld => ?_)
         clear hK K
         refine normW 33 ?_
         exact norm_ (by simp only [putAll, Act.put, List.setIfInBounds_toArray, List.set_cons_zero, List.set_cons_succ]) (hCont (v381, v384) _ ⟨hHeld, (Kd.R_g (Kd.R_mono HO382.out (fun _ hk => ⟨hk.1.1.1, ⟨hk.2, hk.1.2⟩⟩))), (Kd.R_g (Kd.R_mono HO385.out (fun _ hk => ⟨hk.1.1.1, ⟨hk.2, hk.1.2⟩⟩))), (Kd.R_g (Kd.R_mono HO_2.out (fun _ hk => ⟨hk.1.1, ⟨hk.2, hk.1.2⟩⟩))), (blk_g BK377.out), (blk_g BK378.out), (by repeat (first | (with_reducible first | exact HK.out | apply Kept.alloc | apply Kept.drewN | apply Kept.drew | refine Kept.setCell ?_ (.inr GW377.out) _ | refine Kept.setCell ?_ (.inr GW378.out) _) | exact HK.out)), (bel_g HB.out)⟩)
       rintro ⟨v381, v384⟩ w30 ⟨hS_, h0_, h1_, h2_, h3_, h4_, h5_, h6_⟩
       have n0_ : Fc (Kd.R (Kd.int .i64) 3 w30 w0.heap.size (fun k_ => (P2_ k_ ∨ w.heap.size ≤ k_) ∧ some k_ ≠ (v384 : Value).ownBlock ∧ some k_ ≠ (.slice Ao12 l2.length co12 : Value).ownBlock) v381 t380) := ⟨h0_⟩
       have n1_ : Fc (Kd.R (Kd.int .i64) 3 w30 w0.heap.size (fun k_ => (P2_ k_ ∨ w.heap.size ≤ k_) ∧ some k_ ≠ (v381 : Value).ownBlock ∧ some k_ ≠ (.slice Ao12 l2.length co12 : Value).ownBlock) v384 y383) := ⟨h1_⟩
       have n2_ : Fc (Kd.R (Kd.int .i64) 3 w30 w0.heap.size (fun k_ => (P2_ k_ ∨ w.heap.size ≤ k_) ∧ some k_ ≠ (v381 : Value).ownBlock ∧ some k_ ≠ (v384 : Value).ownBlock) (.slice Ao12 l2.length co12) l2) := ⟨h2_⟩
       have n3_ : Fc (w30.heap[gb377]? = some (.cells #[.int .i64 a0_0, .slice A0_1 l0_1.length c0_1] 26 (0, 0))) := ⟨h3_⟩
       have n4_ : Fc (w30.heap[gb378]? = some (.cells #[.int .i64 a1_0, .slice A1_1 l1_1.length c1_1] 26 (0, 0))) := ⟨h4_⟩
       have n5_ : Fc (Kept w w30 (fun k_ => P2_ k_)) := ⟨h5_⟩
       have n6_ : Fc (Below w0.heap.size w0 w30) := ⟨h6_⟩
       clear HO_2
       clear BK377
       clear BK378
       clear HK
       clear HB
       clear h0_ h1_ h2_ h3_ h4_ h5_ h6_
       have HO382 := n0_
       have HO385 := n1_
       have HO_2 := n2_
       have BK377 := n3_
       have BK378 := n4_
       have HK := n5_
       have HB := n6_
       clear n0_ n1_ n2_ n3_ n4_ n5_ n6_
       have hHeld : w30.cell? ⟨gb377, 0, none⟩ = some (.int .i64 a0_0) ∧ w30.cell? ⟨gb377, 1, none⟩ = some (.slice A0_1 l0_1.length c0_1) ∧ w30.cell? ⟨gb378, 0, none⟩ = some (.int .i64 a1_0) ∧ w30.cell? ⟨gb378, 1, none⟩ = some (.slice A1_1 l1_1.length c1_1) := hS_
       obtain ⟨Ao32, co32, eo32⟩ := Kd.R_slice HO385.out
       (first | subst eo32 | (injection eo32 with f1_ f2_ f3_; have f4_ := f1_.symm; have f5_ := f3_.symm; clear f1_ f2_ f3_; subst f4_; subst f5_))
       refine norm_ (a' := ?_) ?_ ?_
       rotate_left
       ·simp only [putAll, Act.put, List.setIfInBounds_toArray, List.set_cons_zero, List.set_cons_succ]
        rfl
       refine oneW 6 (some 36) (bm 13 127) HT_ (fun K hK => ?_)
       refine Kd.R_append_rows_step (Kd.int .i64) (w0 := w0) w0.heap.size (by rfl) (.tmp 33) (.tmp 35) 24 3 (.int .i64 0) 8 rfl Tryd.underlying24 info3 rfl (by decide) (by omega) v381 t380 y383 _ _ _ (fun k_ => (P2_ k_ ∨ w.heap.size ≤ k_) ∧ some k_ ≠ (.slice Ao12 l2.length co12 : Value).ownBlock ∧ some k_ ≠ (.slice Ao32 y383.length co32 : Value).ownBlock) (fun _ => False) rfl rfl ?aO ?aR (fun _ _ h => h) (fun _ h => h.elim) ?aF ?aB ?aS ?aL ?_
       (case aR => repeat (first | exact (Kd.R_reads' HO385.out).2.2 | (with_reducible refine Kd.C_alloc ?_ _) | (with_reducible refine Kd.C_drewN ?_ _) | (with_reducible refine Kd.C_drew ?_)))
       (case aB => exact (bel_g HB.out))
       (case aF => exact (fun k_ hk => ⟨(.inr (Nat.le_trans (by first | exact HK.out.1 | exact (show Kept w _ (fun k_ => P2_ k_) from by repeat (first | (with_reducible first | exact HK.out | apply Kept.alloc | apply Kept.drewN | apply Kept.drew | refine Kept.setCell ?_ (.inr GW377.out) _ | refine Kept.setCell ?_ (.inr GW378.out) _) | exact HK.out)).1) hk)), Kd.fresh' (Kd.R_lt (Kd.R_g HO_2.out)) k_ hk, Kd.fresh' (Kd.R_lt (Kd.R_g HO385.out)) k_ hk⟩))
       (case aO => exact (Kd.R_g (Kd.R_mono HO382.out (fun _ hk => ⟨hk.1, ⟨hk.2.2, hk.2.1⟩⟩))))
       (case aS => exact (below_size (bel_g HB.out)))
       (case aL => have := LMc19.out; omega)
       intro v387 w31 ho hb hg hat
       rw [← Ny386.out] at ho
       replace HO_2 := mkA (Kd.R_after (ok := (fun k_ => (P2_ k_ ∨ w.heap.size ≤ k_) ∧ some k_ ≠ (.slice Ao32 y383.length co32 : Value).ownBlock)) (Kd.R_g (Kd.R_mono HO_2.out (fun _ hk => ⟨⟨hk.1, hk.2.2⟩, hk.2.1⟩))) hg hat)
       replace BK377 := mkA (blk_grown (g := gb377) (o := .cells #[.int .i64 a0_0, .slice A0_1 l0_1.length c0_1] 26 (0, 0)) (blk_g BK377.out) hg (Kd.R_ne HO382.out BK377.out (by decide)))
       replace BK378 := mkA (blk_grown (g := gb378) (o := .cells #[.int .i64 a1_0, .slice A1_1 l1_1.length c1_1] 26 (0, 0)) (blk_g BK378.out) hg (Kd.R_ne HO382.out BK378.out (by decide)))
       replace HO385 := mkA (Kd.R_after (ok := (fun k_ => (P2_ k_ ∨ w.heap.size ≤ k_) ∧ some k_ ≠ (.slice Ao12 l2.length co12 : Value).ownBlock)) (Kd.R_g (Kd.R_mono HO385.out (fun _ hk => ⟨⟨hk.1, hk.2.2⟩, hk.2.1⟩))) hg hat)
       replace HK := mkA (Kept.of_grown (S := (fun k_ => P2_ k_)) hg (by repeat (first | (with_reducible first | exact HK.out | apply Kept.alloc | apply Kept.drewN | apply Kept.drew | refine Kept.setCell ?_ (.inr GW377.out) _ | refine Kept.setCell ?_ (.inr GW378.out) _) | exact HK.out)) (fun k_ e_ => (HO382.out.1 k_ e_).1))
       have HO388 := mkA (ho)
       replace HB := mkA (hb)
       clear HO382
       clear ho hb hg hat
       obtain ⟨Ao33, co33, eo33⟩ := Kd.R_slice HO388.out
       (first | subst eo33 | (injection eo33 with f1_ f2_ f3_; have f4_ := f1_.symm; have f5_ := f3_.symm; clear f1_ f2_ f3_; subst f4_; subst f5_))
       refine hK.out _ _ ⟨(blk_cell BK377.out 0).trans rfl, (blk_cell BK377.out 1).trans rfl, (blk_cell BK378.out 0).trans rfl, (blk_cell BK378.out 1).trans rfl⟩ (fun hHeld => ?_)
       clear hK K
       refine normW 36 ?_
       refine oneW 7 (some 37) (bm 13 255) HT_ (fun K hK => ?_)
       refine goesR Tryd.func25 #[.agg #[.int .i64 a0_0, .slice A0_1 l0_1.length c0_1], .agg #[.int .i64 a1_0, .slice A1_1 l1_1.length c1_1], .slice Ao33 y386.length co33] ?_
       with_reducible refine (ih k1 (by have := HK1.out; omega) a0_0 _ _ l0_1 a1_0 _ _ l1_1 (fun k_ => some k_ = (.slice Ao33 y386.length co33 : Value).ownBlock) (.slice Ao33 y386.length co33) y386 t389 true w0 _ ?s1 ?s2 ?s3 ?s4 ?s5 ?s6 A20.out).mono ?_
       (case s1 => exact bel_g HB.out)
       (case s2 => exact Kd.C_kept_call HR0_1.out (by repeat (first | (with_reducible first | exact HK.out | apply Kept.alloc | apply Kept.drewN | apply Kept.drew | refine Kept.setCell ?_ (.inr GW377.out) _ | refine Kept.setCell ?_ (.inr GW378.out) _) | exact HK.out)) (fun k_ hs_ => (fun e_ => (HO388.out.1 k_ e_.symm).1) hs_))
       (case s3 => exact HC0_1.out)
       (case s4 => exact Kd.C_kept_call HR1_1.out (by repeat (first | (with_reducible first | exact HK.out | apply Kept.alloc | apply Kept.drewN | apply Kept.drew | refine Kept.setCell ?_ (.inr GW377.out) _ | refine Kept.setCell ?_ (.inr GW378.out) _) | exact HK.out)) (fun k_ hs_ => (fun e_ => (HO388.out.1 k_ e_.symm).1) hs_))
       (case s5 => exact HC1_1.out)
       (case s6 => exact Kd.R_tight rfl HO388.out)
       rintro e w34 ⟨v390, rfl, ho0, hb, hkp⟩
       refine ⟨_, rfl, ?_⟩
       replace BK377 := mkA (blk_kept (blk_g BK377.out) hkp (fun hs_ => (fun e_ => (Kd.R_ne HO388.out BK377.out (by decide)) e_) hs_))
       replace BK378 := mkA (blk_kept (blk_g BK378.out) hkp (fun hs_ => (fun e_ => (Kd.R_ne HO388.out BK378.out (by decide)) e_) hs_))
       have HO391 := mkA (Kd.R_mono (ok' := fun k_ => (P2_ k_ ∨ w.heap.size ≤ k_) ∧ some k_ ≠ (.slice Ao12 l2.length co12 : Value).ownBlock ∧ some k_ ≠ (.slice Ao32 y383.length co32 : Value).ownBlock) ho0 (fun k_ hk_ => ⟨Or.elim hk_ (fun hs_ => (HO388.out.1 k_ (hs_).symm).1) (fun hn_ => (.inr (Nat.le_trans (by first | exact HK.out.1 | exact (show Kept w _ (fun k_ => P2_ k_) from by repeat (first | (with_reducible first | exact HK.out | apply Kept.alloc | apply Kept.drewN | apply Kept.drew | refine Kept.setCell ?_ (.inr GW377.out) _ | refine Kept.setCell ?_ (.inr GW378.out) _) | exact HK.out)).1) hn_))), Or.elim hk_ (fun hs_ => fun e_ => (((HO_2.out).1 k_ e_.symm).2) hs_) (fun hn_ => (Kd.fresh' (Kd.R_lt (Kd.R_g HO_2.out)) k_ hn_)), Or.elim hk_ (fun hs_ => fun e_ => (((HO385.out).1 k_ e_.symm).2) hs_) (fun hn_ => (Kd.fresh' (Kd.R_lt (Kd.R_g HO385.out)) k_ hn_))⟩))
       replace HO_2 := mkA (Kd.R_mono (ok' := fun k_ => (P2_ k_ ∨ w.heap.size ≤ k_) ∧ some k_ ≠ (.slice Ao32 y383.length co32 : Value).ownBlock ∧ some k_ ≠ (v390 : Value).ownBlock) (Kd.R_keptB (HO_2.out) hkp (fun k_ hk_ hs_ => (hk_.2) hs_)) (fun k_ hk_ => ⟨hk_.1.1.1, hk_.1.1.2, fun e_ => Or.elim (ho0.1 k_ e_.symm) (fun hs_ => hk_.2.1 hs_) (fun hn_ => Nat.not_le.2 hk_.2.2 hn_)⟩))
       replace HO385 := mkA (Kd.R_mono (ok' := fun k_ => (P2_ k_ ∨ w.heap.size ≤ k_) ∧ some k_ ≠ (.slice Ao12 l2.length co12 : Value).ownBlock ∧ some k_ ≠ (v390 : Value).ownBlock) (Kd.R_keptB (HO385.out) hkp (fun k_ hk_ hs_ => (hk_.2) hs_)) (fun k_ hk_ => ⟨hk_.1.1.1, hk_.1.1.2, fun e_ => Or.elim (ho0.1 k_ e_.symm) (fun hs_ => hk_.2.1 hs_) (fun hn_ => Nat.not_le.2 hk_.2.2 hn_)⟩))
       replace HK := mkA (Kept.then_ (S := (fun k_ => P2_ k_)) (by repeat (first | (with_reducible first | exact HK.out | apply Kept.alloc | apply Kept.drewN | apply Kept.drew | refine Kept.setCell ?_ (.inr GW377.out) _ | refine Kept.setCell ?_ (.inr GW378.out) _) | exact HK.out)) hkp (fun k_ hs_ => (fun e_ => (HO388.out.1 k_ e_.symm).1) hs_))
       replace HB := mkA (hb)
       clear HO388
       (try clear hb)
       (try clear hkp)
       (try clear ho0)
       refine hK.out _ _ ⟨(blk_cell BK377.out 0).trans rfl, (blk_cell BK377.out 1).trans rfl, (blk_cell BK378.out 0).trans rfl, (blk_cell BK378.out 1).trans rfl⟩ (fun hHeld => ?_)
       clear hK K
       refine normW 37 ?_
       refine purW 8 29 13 511 HT_ ?_
       refine purW 9 38 13 1023 HT_ ?_
       refine purW 10 39 13 2047 HT_ ?_
       refine purW 11 9 13 4095 HT_ ?_
       refine purW 12 10 13 8191 HT_ ?_
       refine doneW HT_ ?_
       try go_wp2
       go_ret2
       exact ⟨_, eqE, Kd.R_g (Kd.R_mono HO391.out (fun _ hk => hk.1)), bel_g HB.out, by repeat (first | (with_reducible first | exact HK.out | apply Kept.alloc | apply Kept.drewN | apply Kept.drew | refine Kept.setCell ?_ (.inr GW377.out) _ | refine Kept.setCell ?_ (.inr GW378.out) _) | exact HK.out)⟩
      ·replace c21 := Bool.eq_false_iff.mpr c21
       subst c21
       replace H := ifF H
       have H' := mkA H
       clear H
       obtain ⟨_, _, _, _⟩ := blk2 BK377
       obtain ⟨_, _, _, _⟩ := blk2 BK378
       try go_wp2_with (first | ((with_reducible refine gate_callee (f := 45) rfl ?_); refine goesQ (some 27) Tryd.func45 #[.agg #[.int .i64 a0_0, .slice A0_1 l0_1.length c0_1], .agg #[.int .i64 a1_0, .slice A1_1 l1_1.length c1_1], .slice Ao12 l2.length co12, .int .i64 x8_1] ?_; (with_reducible refine (spec_orFits.calls k1 a0_0 _ _ l0_1 a1_0 _ _ l1_1 _ _ l2 x8_1 true _ ?s1 ?s2 ?s3 ?s4 ?s5 ?s6 A16.out).mono ?_); (case s1 => exact Kd.C_kept_now HR0_1.out (by repeat (first | (with_reducible first | exact HK.out | apply Kept.alloc | apply Kept.drewN | apply Kept.drew | refine Kept.setCell ?_ (.inr GW377.out) _ | refine Kept.setCell ?_ (.inr GW378.out) _) | exact HK.out))); (case s2 => exact HC0_1.out); (case s3 => exact Kd.C_kept_now HR1_1.out (by repeat (first | (with_reducible first | exact HK.out | apply Kept.alloc | apply Kept.drewN | apply Kept.drew | refine Kept.setCell ?_ (.inr GW377.out) _ | refine Kept.setCell ?_ (.inr GW378.out) _) | exact HK.out))); (case s4 => exact HC1_1.out); (case s5 => exact rC HO_2); (case s6 => exact rL HO_2); rintro e w38 ⟨rfl, hb⟩; refine ⟨_, rfl, ?_⟩; replace HO_2 := rB HO_2 hb; replace BK377 := blkB BK377 hb; replace BK378 := blkB BK378 hb; replace HK := mkA (Kept.below (S := (fun k_ => P2_ k_)) (by repeat (first | (with_reducible first | exact HK.out | apply Kept.alloc | apply Kept.drewN | apply Kept.drew | refine Kept.setCell ?_ (.inr GW377.out) _ | refine Kept.setCell ?_ (.inr GW378.out) _) | exact HK.out)) hb); replace HB := bst HB hb; (try clear hb); (try clear hk)))
       replace HO_2 := mkA (Kd.R_drew HO_2.out)
       replace BK377 := mkA (blk_drew BK377.out)
       replace BK378 := mkA (blk_drew BK378.out)
       replace HK := mkA (Kept.drew HK.out)
       replace HB := mkA (below_drew1 HB.out)
       refine start_ (n := 13) (S := fun w' => w'.cell? ⟨gb377, 0, none⟩ = some (.int .i64 a0_0) ∧ w'.cell? ⟨gb377, 1, none⟩ = some (.slice A0_1 l0_1.length c0_1) ∧ w'.cell? ⟨gb378, 0, none⟩ = some (.int .i64 a1_0) ∧ w'.cell? ⟨gb378, 1, none⟩ = some (.slice A1_1 l1_1.length c1_1)) (ds := []) (bm 13 0) (by kernel_rfl) rfl (by kernel_rfl) ⟨(blk_cell BK377.out 0).trans rfl, (blk_cell BK377.out 1).trans rfl, (blk_cell BK378.out 0).trans rfl, (blk_cell BK378.out 1).trans rfl⟩ (fun hHeld => ?_); refine with_tabW spec_orFind.tab7 spec_orFind.bits7 (fun HT_ HW_ => ?_)
       generalize w38.drew = w39 at HO_2 BK377 BK378 HK HB hHeld ⊢
       refine purW 2 32 13 4 HT_ ?_
       refine purW 4 34 13 20 HT_ ?_
       refine takeW 0 (some 30) (bm 13 21) HT_ HW_ hHeld ?_
       refine takeW 1 (some 31) (bm 13 23) HT_ HW_ hHeld ?_
       refine join_ (σ := Value × Value) 7 (bm 13 63) (fun s_ => [(33, s_.1), (35, s_.2)]) (fun s_ w' => (w'.cell? ⟨gb377, 0, none⟩ = some (.int .i64 a0_0) ∧ w'.cell? ⟨gb377, 1, none⟩ = some (.slice A0_1 l0_1.length c0_1) ∧ w'.cell? ⟨gb378, 0, none⟩ = some (.int .i64 a1_0) ∧ w'.cell? ⟨gb378, 1, none⟩ = some (.slice A1_1 l1_1.length c1_1)) ∧ (Kd.R (Kd.int .i64) 3 w' w0.heap.size (fun k_ => (P2_ k_ ∨ w.heap.size ≤ k_) ∧ some k_ ≠ (s_.2 : Value).ownBlock ∧ some k_ ≠ (.slice Ao12 l2.length co12 : Value).ownBlock) s_.1 t380) ∧ (Kd.R (Kd.int .i64) 3 w' w0.heap.size (fun k_ => (P2_ k_ ∨ w.heap.size ≤ k_) ∧ some k_ ≠ (s_.1 : Value).ownBlock ∧ some k_ ≠ (.slice Ao12 l2.length co12 : Value).ownBlock) s_.2 y383) ∧ (Kd.R (Kd.int .i64) 3 w' w0.heap.size (fun k_ => (P2_ k_ ∨ w.heap.size ≤ k_) ∧ some k_ ≠ (s_.1 : Value).ownBlock ∧ some k_ ≠ (s_.2 : Value).ownBlock) (.slice Ao12 l2.length co12) l2) ∧ (w'.heap[gb377]? = some (.cells #[.int .i64 a0_0, .slice A0_1 l0_1.length c0_1] 26 (0, 0))) ∧ (w'.heap[gb378]? = some (.cells #[.int .i64 a1_0, .slice A1_1 l1_1.length c1_1] 26 (0, 0))) ∧ (Kept w w' (fun k_ => P2_ k_)) ∧ (Below w0.heap.size w0 w')) ?_ ?_
       rotate_left
       ·intro hCont
        refine two_ (i := 3) (j := 5) (Ni := some 33) (Nj := some 35) (bm 13 31) (bm 13 55) rfl rfl rfl rfl (two_of HT_.out (by kernel_rfl)) (by decide) (by decide) (fun K hK => ?_) (fun K hK => ?_)
        ·skip
         refine goesR Tryd.func46 #[.slice Ao12 l2.length co12] ?_
         with_reducible refine (spec_l1Own.calls _ _ l2 t380 _ ?s1 ?s2 A18.out).mono ?_
         (case s1 => exact rC HO_2)
         (case s2 => exact rL HO_2)
         rintro e w40 ⟨v381, rfl, ho0, hb⟩
         refine ⟨_, rfl, ?_⟩
         have HO382 := rLo (rN (Kd.R_newM (M := fun k_ => (P2_ k_ ∨ w.heap.size ≤ k_)) ho0 (by first | exact HK.out.1 | exact (show Kept w _ (fun k_ => P2_ k_) from by repeat (first | (with_reducible first | exact HK.out | apply Kept.alloc | apply Kept.drewN | apply Kept.drew | refine Kept.setCell ?_ (.inr GW377.out) _ | refine Kept.setCell ?_ (.inr GW378.out) _) | exact HK.out)).1) (fun k_ h_ => .inr h_)) HO_2) HB
         replace HO_2 := rE HO_2 ho0 hb
         replace BK377 := blkB BK377 hb
         replace BK378 := blkB BK378 hb
         replace HK := mkA (Kept.below (S := (fun k_ => P2_ k_)) (by repeat (first | (with_reducible first | exact HK.out | apply Kept.alloc | apply Kept.drewN | apply Kept.drew | refine Kept.setCell ?_ (.inr GW377.out) _ | refine Kept.setCell ?_ (.inr GW378.out) _) | exact HK.out)) hb)
         replace HB := bst HB hb
         (try clear hb)
         (try clear hb2)
         (try clear hk)
         (try clear hi)
         (try clear ho0)
         refine hK.out _ _ ⟨(blk_cell BK377.out 0).trans rfl, (blk_cell BK377.out 1).trans rfl, (blk_cell BK378.out 0).trans rfl, (blk_cell BK378.out 1).trans rfl⟩ (fun hHeld => ?_)
         clear hK K
         refine normW 33 ?_
         refine oneW 5 (some 35) (bm 13 63) HT_ (fun K hK => ?_)
         refine Kd.R_lit_step (Kd.int .i64) _ 3 ?hg (N := 35) ?hd (xs := ([x8_1] : List Int)) (inner := [.int .i64 x8_1]) (ok := fun _ => True) (okp := fun _ => True) ?hr ?hp (fun _ hk => hk) trivial (Below.refl _ _) (Nat.le_refl _) (by simp) ?_; (case hd => rfl); (case hg => rfl); (case hr => first | (go_simp; done) | (go_simp; rfl)); (case hp => exact (Reps.one (show Kd.M (Kd.int .i64) _ _ _ x8_1 [.int .i64 x8_1] from rfl) (Reps.none _ _)))
         intro v384 w41 ho42 hb hg_ hnew_
         clear hg_ hnew_
         (first | rw [← Ny383.out] at ho42 | (simp only [Int.reduceToNat] at ho42; rw [← Ny383.out] at ho42))
         have HO385 := rLo (rN (rN (Kd.R_newM (M := fun k_ => (P2_ k_ ∨ w.heap.size ≤ k_)) ho42 (by first | exact HK.out.1 | exact (show Kept w _ (fun k_ => P2_ k_) from by repeat (first | (with_reducible first | exact HK.out | apply Kept.alloc | apply Kept.drewN | apply Kept.drew | refine Kept.setCell ?_ (.inr GW377.out) _ | refine Kept.setCell ?_ (.inr GW378.out) _) | exact HK.out)).1) (fun k_ h_ => .inr h_)) HO_2) HO382) HB
         replace HO_2 := rE HO_2 ho42 hb
         replace HO382 := rE HO382 ho42 hb
         replace BK377 := blkB BK377 hb
         replace BK378 := blkB BK378 hb
         replace HK := mkA (Kept.below (S := (fun k_ => P2_ k_)) (by repeat (first | (with_reducible first | exact HK.out | apply Kept.alloc | apply Kept.drewN | apply Kept.drew | refine Kept.setCell ?_ (.inr GW377.out) _ | refine Kept.setCell ?_ (.inr GW378.out) _) | exact HK.out)) hb)
         replace HB := bst HB hb
         clear hb ho42
         refine hK.out _ _ ⟨(blk_cell BK377.out 0).trans rfl, (blk_cell BK377.out 1).trans rfl, (blk_cell BK378.out 0).trans rfl, (blk_cell BK378.out 1).trans rfl⟩ (fun hHeld => ?_)
         clear hK K
         refine normW 35 ?_
         exact norm_ (by simp only [putAll, Act.put, List.setIfInBounds_toArray, List.set_cons_zero, List.set_cons_succ]) (hCont (v381, v384) _ ⟨hHeld, (Kd.R_g (Kd.R_mono HO382.out (fun _ hk => ⟨hk.1.1.1, ⟨hk.2, hk.1.2⟩⟩))), (Kd.R_g (Kd.R_mono HO385.out (fun _ hk => ⟨hk.1.1.1, ⟨hk.2, hk.1.2⟩⟩))), (Kd.R_g (Kd.R_mono HO_2.out (fun _ hk => ⟨hk.1.1, ⟨hk.1.2, hk.2⟩⟩))), (blk_g BK377.out), (blk_g BK378.out), (by repeat (first | (with_reducible first | exact HK.out | apply Kept.alloc | apply Kept.drewN | apply Kept.drew | refine Kept.setCell ?_ (.inr GW377.out) _ | refine Kept.setCell ?_ (.inr GW378.out) _) | exact HK.out)), (bel_g HB.out)⟩)
        ·skip
         refine Kd.R_lit_step (Kd.int .i64) _ 3 ?hg (N := 35) ?hd (xs := ([x8_1] : List Int)) (inner := [.int .i64 x8_1]) (ok := fun _ => True) (okp := fun _ => True) ?hr ?hp (fun _ hk => hk) trivial (Below.refl _ _) (Nat.le_refl _) (by simp) ?_; (case hd => rfl); (case hg => rfl); (case hr => first | (go_simp; done) | (go_simp; rfl)); (case hp => exact (Reps.one (show Kd.M (Kd.int .i64) _ _ _ x8_1 [.int .i64 x8_1] from rfl) (Reps.none _ _)))
         intro v384 w40 ho41 hb hg_ hnew_
         clear hg_ hnew_
         (first | rw [← Ny383.out] at ho41 | (simp only [Int.reduceToNat] at ho41; rw [← Ny383.out] at ho41))
         have HO385 := rLo (rN (Kd.R_newM (M := fun k_ => (P2_ k_ ∨ w.heap.size ≤ k_)) ho41 (by first | exact HK.out.1 | exact (show Kept w _ (fun k_ => P2_ k_) from by repeat (first | (with_reducible first | exact HK.out | apply Kept.alloc | apply Kept.drewN | apply Kept.drew | refine Kept.setCell ?_ (.inr GW377.out) _ | refine Kept.setCell ?_ (.inr GW378.out) _) | exact HK.out)).1) (fun k_ h_ => .inr h_)) HO_2) HB
         replace HO_2 := rE HO_2 ho41 hb
         replace BK377 := blkB BK377 hb
         replace BK378 := blkB BK378 hb
         replace HK := mkA (Kept.below (S := (fun k_ => P2_ k_)) (by repeat (first | (with_reducible first | exact HK.out | apply Kept.alloc | apply Kept.drewN | apply Kept.drew | refine Kept.setCell ?_ (.inr GW377.out) _ | refine Kept.setCell ?_ (.inr GW378.out) _) | exact HK.out)) hb)
         replace HB := bst HB hb
         clear hb ho41
         refine hK.out _ _ ⟨(blk_cell BK377.out 0).trans rfl, (blk_cell BK377.out 1).trans rfl, (blk_cell BK378.out 0).trans rfl, (blk_cell BK378.out 1).trans rfl⟩ (fun hHeld => ?_)
         clear hK K
         refine normW 35 ?_
         refine oneW 3 (some 33) (bm 13 63) HT_ (fun K hK => ?_)
         refine goesR Tryd.func46 #[.slice Ao12 l2.length co12] ?_
         with_reducible refine (spec_l1Own.calls _ _ l2 t380 _ ?s1 ?s2 A18.out).mono ?_
         (case s1 => exact rC HO_2)
         (case s2 => exact rL HO_2)
         rintro e w42 ⟨v381, rfl, ho0, hb⟩
         refine ⟨_, rfl, ?_⟩
         have HO382 := rLo (rN (rN (Kd.R_newM (M := fun k_ => (P2_ k_ ∨ w.heap.size ≤ k_)) ho0 (by first | exact HK.out.1 | exact (show Kept w _ (fun k_ => P2_ k_) from by repeat (first | (with_reducible first | exact HK.out | apply Kept.alloc | apply Kept.drewN | apply Kept.drew | refine Kept.setCell ?_ (.inr GW377.out) _ | refine Kept.setCell ?_ (.inr GW378.out) _) | exact HK.out)).1) (fun k_ h_ => .inr h_)) HO_2) HO385) HB
         replace HO_2 := rE HO_2 ho0 hb
         replace HO385 := rE HO385 ho0 hb
         replace BK377 := blkB BK377 hb
         replace BK378 := blkB BK378 hb
         replace HK := mkA (Kept.below (S := (fun k_ => P2_ k_)) (by repeat (first | (with_reducible first | exact HK.out | apply Kept.alloc | apply Kept.drewN | apply Kept.drew | refine Kept.setCell ?_ (.inr GW377.out) _ | refine Kept.setCell ?_ (.inr GW378.out) _) | exact HK.out)) hb)
         replace HB := bst HB hb
         (try clear hb)
         (try clear hb2)
         (try clear hk)
         (try clear hi)
         (try clear ho0)
         refine hK.out _ _ ⟨(blk_cell BK377.out 0).trans rfl, (blk_cell BK377.out 1).trans rfl, (blk_cell BK378.out 0).trans rfl, (blk_cell BK378.out 1).trans rfl⟩ (fun hHeld => ?_)
         clear hK K
         refine normW 33 ?_
         exact norm_ (by simp only [putAll, Act.put, List.setIfInBounds_toArray, List.set_cons_zero, List.set_cons_succ]) (hCont (v381, v384) _ ⟨hHeld, (Kd.R_g (Kd.R_mono HO382.out (fun _ hk => ⟨hk.1.1.1, ⟨hk.2, hk.1.2⟩⟩))), (Kd.R_g (Kd.R_mono HO385.out (fun _ hk => ⟨hk.1.1.1, ⟨hk.2, hk.1.2⟩⟩))), (Kd.R_g (Kd.R_mono HO_2.out (fun _ hk => ⟨hk.1.1, ⟨hk.2, hk.1.2⟩⟩))), (blk_g BK377.out), (blk_g BK378.out), (by repeat (first | (with_reducible first | exact HK.out | apply Kept.alloc | apply Kept.drewN | apply Kept.drew | refine Kept.setCell ?_ (.inr GW377.out) _ | refine Kept.setCell ?_ (.inr GW378.out) _) | exact HK.out)), (bel_g HB.out)⟩)
       rintro ⟨v381, v384⟩ w43 ⟨hS_, h0_, h1_, h2_, h3_, h4_, h5_, h6_⟩
       have n0_ : Fc (Kd.R (Kd.int .i64) 3 w43 w0.heap.size (fun k_ => (P2_ k_ ∨ w.heap.size ≤ k_) ∧ some k_ ≠ (v384 : Value).ownBlock ∧ some k_ ≠ (.slice Ao12 l2.length co12 : Value).ownBlock) v381 t380) := ⟨h0_⟩
       have n1_ : Fc (Kd.R (Kd.int .i64) 3 w43 w0.heap.size (fun k_ => (P2_ k_ ∨ w.heap.size ≤ k_) ∧ some k_ ≠ (v381 : Value).ownBlock ∧ some k_ ≠ (.slice Ao12 l2.length co12 : Value).ownBlock) v384 y383) := ⟨h1_⟩
       have n2_ : Fc (Kd.R (Kd.int .i64) 3 w43 w0.heap.size (fun k_ => (P2_ k_ ∨ w.heap.size ≤ k_) ∧ some k_ ≠ (v381 : Value).ownBlock ∧ some k_ ≠ (v384 : Value).ownBlock) (.slice Ao12 l2.length co12) l2) := ⟨h2_⟩
       have n3_ : Fc (w43.heap[gb377]? = some (.cells #[.int .i64 a0_0, .slice A0_1 l0_1.length c0_1] 26 (0, 0))) := ⟨h3_⟩
       have n4_ : Fc (w43.heap[gb378]? = some (.cells #[.int .i64 a1_0, .slice A1_1 l1_1.length c1_1] 26 (0, 0))) := ⟨h4_⟩
       have n5_ : Fc (Kept w w43 (fun k_ => P2_ k_)) := ⟨h5_⟩
       have n6_ : Fc (Below w0.heap.size w0 w43) := ⟨h6_⟩
       clear HO_2
       clear BK377
       clear BK378
       clear HK
       clear HB
       clear h0_ h1_ h2_ h3_ h4_ h5_ h6_
       have HO382 := n0_
       have HO385 := n1_
       have HO_2 := n2_
       have BK377 := n3_
       have BK378 := n4_
       have HK := n5_
       have HB := n6_
       clear n0_ n1_ n2_ n3_ n4_ n5_ n6_
       have hHeld : w43.cell? ⟨gb377, 0, none⟩ = some (.int .i64 a0_0) ∧ w43.cell? ⟨gb377, 1, none⟩ = some (.slice A0_1 l0_1.length c0_1) ∧ w43.cell? ⟨gb378, 0, none⟩ = some (.int .i64 a1_0) ∧ w43.cell? ⟨gb378, 1, none⟩ = some (.slice A1_1 l1_1.length c1_1) := hS_
       obtain ⟨Ao45, co45, eo45⟩ := Kd.R_slice HO385.out
       (first | subst eo45 | (injection eo45 with f1_ f2_ f3_; have f4_ := f1_.symm; have f5_ := f3_.symm; clear f1_ f2_ f3_; subst f4_; subst f5_))
       refine norm_ (a' := ?_) ?_ ?_
       rotate_left
       ·simp only [putAll, Act.put, List.setIfInBounds_toArray, List.set_cons_zero, List.set_cons_succ]
        rfl
       refine oneW 6 (some 36) (bm 13 127) HT_ (fun K hK => ?_)
       refine Kd.R_append_rows_step (Kd.int .i64) (w0 := w0) w0.heap.size (by rfl) (.tmp 33) (.tmp 35) 24 3 (.int .i64 0) 8 rfl Tryd.underlying24 info3 rfl (by decide) (by omega) v381 t380 y383 _ _ _ (fun k_ => (P2_ k_ ∨ w.heap.size ≤ k_) ∧ some k_ ≠ (.slice Ao12 l2.length co12 : Value).ownBlock ∧ some k_ ≠ (.slice Ao45 y383.length co45 : Value).ownBlock) (fun _ => False) rfl rfl ?aO ?aR (fun _ _ h => h) (fun _ h => h.elim) ?aF ?aB ?aS ?aL ?_
       (case aR => repeat (first | exact (Kd.R_reads' HO385.out).2.2 | (with_reducible refine Kd.C_alloc ?_ _) | (with_reducible refine Kd.C_drewN ?_ _) | (with_reducible refine Kd.C_drew ?_)))
       (case aB => exact (bel_g HB.out))
       (case aF => exact (fun k_ hk => ⟨(.inr (Nat.le_trans (by first | exact HK.out.1 | exact (show Kept w _ (fun k_ => P2_ k_) from by repeat (first | (with_reducible first | exact HK.out | apply Kept.alloc | apply Kept.drewN | apply Kept.drew | refine Kept.setCell ?_ (.inr GW377.out) _ | refine Kept.setCell ?_ (.inr GW378.out) _) | exact HK.out)).1) hk)), Kd.fresh' (Kd.R_lt (Kd.R_g HO_2.out)) k_ hk, Kd.fresh' (Kd.R_lt (Kd.R_g HO385.out)) k_ hk⟩))
       (case aO => exact (Kd.R_g (Kd.R_mono HO382.out (fun _ hk => ⟨hk.1, ⟨hk.2.2, hk.2.1⟩⟩))))
       (case aS => exact (below_size (bel_g HB.out)))
       (case aL => have := LMc19.out; omega)
       intro v387 w44 ho hb hg hat
       rw [← Ny386.out] at ho
       replace HO_2 := mkA (Kd.R_after (ok := (fun k_ => (P2_ k_ ∨ w.heap.size ≤ k_) ∧ some k_ ≠ (.slice Ao45 y383.length co45 : Value).ownBlock)) (Kd.R_g (Kd.R_mono HO_2.out (fun _ hk => ⟨⟨hk.1, hk.2.2⟩, hk.2.1⟩))) hg hat)
       replace BK377 := mkA (blk_grown (g := gb377) (o := .cells #[.int .i64 a0_0, .slice A0_1 l0_1.length c0_1] 26 (0, 0)) (blk_g BK377.out) hg (Kd.R_ne HO382.out BK377.out (by decide)))
       replace BK378 := mkA (blk_grown (g := gb378) (o := .cells #[.int .i64 a1_0, .slice A1_1 l1_1.length c1_1] 26 (0, 0)) (blk_g BK378.out) hg (Kd.R_ne HO382.out BK378.out (by decide)))
       replace HO385 := mkA (Kd.R_after (ok := (fun k_ => (P2_ k_ ∨ w.heap.size ≤ k_) ∧ some k_ ≠ (.slice Ao12 l2.length co12 : Value).ownBlock)) (Kd.R_g (Kd.R_mono HO385.out (fun _ hk => ⟨⟨hk.1, hk.2.2⟩, hk.2.1⟩))) hg hat)
       replace HK := mkA (Kept.of_grown (S := (fun k_ => P2_ k_)) hg (by repeat (first | (with_reducible first | exact HK.out | apply Kept.alloc | apply Kept.drewN | apply Kept.drew | refine Kept.setCell ?_ (.inr GW377.out) _ | refine Kept.setCell ?_ (.inr GW378.out) _) | exact HK.out)) (fun k_ e_ => (HO382.out.1 k_ e_).1))
       have HO388 := mkA (ho)
       replace HB := mkA (hb)
       clear HO382
       clear ho hb hg hat
       obtain ⟨Ao46, co46, eo46⟩ := Kd.R_slice HO388.out
       (first | subst eo46 | (injection eo46 with f1_ f2_ f3_; have f4_ := f1_.symm; have f5_ := f3_.symm; clear f1_ f2_ f3_; subst f4_; subst f5_))
       refine hK.out _ _ ⟨(blk_cell BK377.out 0).trans rfl, (blk_cell BK377.out 1).trans rfl, (blk_cell BK378.out 0).trans rfl, (blk_cell BK378.out 1).trans rfl⟩ (fun hHeld => ?_)
       clear hK K
       refine normW 36 ?_
       refine oneW 7 (some 37) (bm 13 255) HT_ (fun K hK => ?_)
       refine goesR Tryd.func25 #[.agg #[.int .i64 a0_0, .slice A0_1 l0_1.length c0_1], .agg #[.int .i64 a1_0, .slice A1_1 l1_1.length c1_1], .slice Ao46 y386.length co46] ?_
       with_reducible refine (ih k1 (by have := HK1.out; omega) a0_0 _ _ l0_1 a1_0 _ _ l1_1 (fun k_ => some k_ = (.slice Ao46 y386.length co46 : Value).ownBlock) (.slice Ao46 y386.length co46) y386 t389 false w0 _ ?s1 ?s2 ?s3 ?s4 ?s5 ?s6 A20.out).mono ?_
       (case s1 => exact bel_g HB.out)
       (case s2 => exact Kd.C_kept_call HR0_1.out (by repeat (first | (with_reducible first | exact HK.out | apply Kept.alloc | apply Kept.drewN | apply Kept.drew | refine Kept.setCell ?_ (.inr GW377.out) _ | refine Kept.setCell ?_ (.inr GW378.out) _) | exact HK.out)) (fun k_ hs_ => (fun e_ => (HO388.out.1 k_ e_.symm).1) hs_))
       (case s3 => exact HC0_1.out)
       (case s4 => exact Kd.C_kept_call HR1_1.out (by repeat (first | (with_reducible first | exact HK.out | apply Kept.alloc | apply Kept.drewN | apply Kept.drew | refine Kept.setCell ?_ (.inr GW377.out) _ | refine Kept.setCell ?_ (.inr GW378.out) _) | exact HK.out)) (fun k_ hs_ => (fun e_ => (HO388.out.1 k_ e_.symm).1) hs_))
       (case s5 => exact HC1_1.out)
       (case s6 => exact Kd.R_tight rfl HO388.out)
       rintro e w47 ⟨v390, rfl, ho0, hb, hkp⟩
       refine ⟨_, rfl, ?_⟩
       replace BK377 := mkA (blk_kept (blk_g BK377.out) hkp (fun hs_ => (fun e_ => (Kd.R_ne HO388.out BK377.out (by decide)) e_) hs_))
       replace BK378 := mkA (blk_kept (blk_g BK378.out) hkp (fun hs_ => (fun e_ => (Kd.R_ne HO388.out BK378.out (by decide)) e_) hs_))
       have HO391 := mkA (Kd.R_mono (ok' := fun k_ => (P2_ k_ ∨ w.heap.size ≤ k_) ∧ some k_ ≠ (.slice Ao12 l2.length co12 : Value).ownBlock ∧ some k_ ≠ (.slice Ao45 y383.length co45 : Value).ownBlock) ho0 (fun k_ hk_ => ⟨Or.elim hk_ (fun hs_ => (HO388.out.1 k_ (hs_).symm).1) (fun hn_ => (.inr (Nat.le_trans (by first | exact HK.out.1 | exact (show Kept w _ (fun k_ => P2_ k_) from by repeat (first | (with_reducible first | exact HK.out | apply Kept.alloc | apply Kept.drewN | apply Kept.drew | refine Kept.setCell ?_ (.inr GW377.out) _ | refine Kept.setCell ?_ (.inr GW378.out) _) | exact HK.out)).1) hn_))), Or.elim hk_ (fun hs_ => fun e_ => (((HO_2.out).1 k_ e_.symm).2) hs_) (fun hn_ => (Kd.fresh' (Kd.R_lt (Kd.R_g HO_2.out)) k_ hn_)), Or.elim hk_ (fun hs_ => fun e_ => (((HO385.out).1 k_ e_.symm).2) hs_) (fun hn_ => (Kd.fresh' (Kd.R_lt (Kd.R_g HO385.out)) k_ hn_))⟩))
       replace HO_2 := mkA (Kd.R_mono (ok' := fun k_ => (P2_ k_ ∨ w.heap.size ≤ k_) ∧ some k_ ≠ (.slice Ao45 y383.length co45 : Value).ownBlock ∧ some k_ ≠ (v390 : Value).ownBlock) (Kd.R_keptB (HO_2.out) hkp (fun k_ hk_ hs_ => (hk_.2) hs_)) (fun k_ hk_ => ⟨hk_.1.1.1, hk_.1.1.2, fun e_ => Or.elim (ho0.1 k_ e_.symm) (fun hs_ => hk_.2.1 hs_) (fun hn_ => Nat.not_le.2 hk_.2.2 hn_)⟩))
       replace HO385 := mkA (Kd.R_mono (ok' := fun k_ => (P2_ k_ ∨ w.heap.size ≤ k_) ∧ some k_ ≠ (.slice Ao12 l2.length co12 : Value).ownBlock ∧ some k_ ≠ (v390 : Value).ownBlock) (Kd.R_keptB (HO385.out) hkp (fun k_ hk_ hs_ => (hk_.2) hs_)) (fun k_ hk_ => ⟨hk_.1.1.1, hk_.1.1.2, fun e_ => Or.elim (ho0.1 k_ e_.symm) (fun hs_ => hk_.2.1 hs_) (fun hn_ => Nat.not_le.2 hk_.2.2 hn_)⟩))
       replace HK := mkA (Kept.then_ (S := (fun k_ => P2_ k_)) (by repeat (first | (with_reducible first | exact HK.out | apply Kept.alloc | apply Kept.drewN | apply Kept.drew | refine Kept.setCell ?_ (.inr GW377.out) _ | refine Kept.setCell ?_ (.inr GW378.out) _) | exact HK.out)) hkp (fun k_ hs_ => (fun e_ => (HO388.out.1 k_ e_.symm).1) hs_))
       replace HB := mkA (hb)
       clear HO388
       (try clear hb)
       (try clear hkp)
       (try clear ho0)
       refine hK.out _ _ ⟨(blk_cell BK377.out 0).trans rfl, (blk_cell BK377.out 1).trans rfl, (blk_cell BK378.out 0).trans rfl, (blk_cell BK378.out 1).trans rfl⟩ (fun hHeld => ?_)
       clear hK K
       refine normW 37 ?_
       refine purW 8 29 13 511 HT_ ?_
       refine purW 9 38 13 1023 HT_ ?_
       refine purW 10 39 13 2047 HT_ ?_
       refine purW 11 9 13 4095 HT_ ?_
       refine purW 12 10 13 8191 HT_ ?_
       refine doneW HT_ ?_
       try go_wp2
       go_roundg k1
       case measure => have := HK1.out; omega
       case rel => exact ⟨(wrap64 (x8_1 + 1)), eqS, H', ⟨by have := HK1.out; omega⟩, ⟨Kd.R_g (Kd.R_mono HO_2.out (fun _ hk => hk.1))⟩, bg BK377, bg BK378, ⟨by repeat (first | (with_reducible first | exact HK.out | apply Kept.alloc | apply Kept.drewN | apply Kept.drew | refine Kept.setCell ?_ (.inr GW377.out) _ | refine Kept.setCell ?_ (.inr GW378.out) _) | exact HK.out)⟩, hbg HB⟩
     ·replace c17 := Bool.eq_false_iff.mpr c17
      subst c17
      replace H := ifF H
      have H' := mkA H
      clear H
      obtain ⟨_, _, _, _⟩ := blk2 BK377
      obtain ⟨_, _, _, _⟩ := blk2 BK378
      go_wp2_with (first | ((with_reducible refine gate_callee (f := 45) rfl ?_); refine goesQ (some 27) Tryd.func45 #[.agg #[.int .i64 a0_0, .slice A0_1 l0_1.length c0_1], .agg #[.int .i64 a1_0, .slice A1_1 l1_1.length c1_1], .slice Ao12 l2.length co12, .int .i64 x8_1] ?_; (with_reducible refine (spec_orFits.calls k1 a0_0 _ _ l0_1 a1_0 _ _ l1_1 _ _ l2 x8_1 false _ ?s1 ?s2 ?s3 ?s4 ?s5 ?s6 A16.out).mono ?_); (case s1 => exact Kd.C_kept_now HR0_1.out (by repeat (first | (with_reducible first | exact HK.out | apply Kept.alloc | apply Kept.drewN | apply Kept.drew | refine Kept.setCell ?_ (.inr GW377.out) _ | refine Kept.setCell ?_ (.inr GW378.out) _) | exact HK.out))); (case s2 => exact HC0_1.out); (case s3 => exact Kd.C_kept_now HR1_1.out (by repeat (first | (with_reducible first | exact HK.out | apply Kept.alloc | apply Kept.drewN | apply Kept.drew | refine Kept.setCell ?_ (.inr GW377.out) _ | refine Kept.setCell ?_ (.inr GW378.out) _) | exact HK.out))); (case s4 => exact HC1_1.out); (case s5 => exact rC HO_2); (case s6 => exact rL HO_2); rintro e w51 ⟨rfl, hb⟩; refine ⟨_, rfl, ?_⟩; replace HO_2 := rB HO_2 hb; replace BK377 := blkB BK377 hb; replace BK378 := blkB BK378 hb; replace HK := mkA (Kept.below (S := (fun k_ => P2_ k_)) (by repeat (first | (with_reducible first | exact HK.out | apply Kept.alloc | apply Kept.drewN | apply Kept.drew | refine Kept.setCell ?_ (.inr GW377.out) _ | refine Kept.setCell ?_ (.inr GW378.out) _) | exact HK.out)) hb); replace HB := bst HB hb; (try clear hb); (try clear hk)))
      go_roundg k1
      case measure => have := HK1.out; omega
      case rel => exact ⟨(wrap64 (x8_1 + 1)), eqS, H', ⟨by have := HK1.out; omega⟩, rg HO_2, bg BK377, bg BK378, ⟨by repeat (first | (with_reducible first | exact HK.out | apply Kept.alloc | apply Kept.drewN | apply Kept.drew | refine Kept.setCell ?_ (.inr GW377.out) _ | refine Kept.setCell ?_ (.inr GW378.out) _) | exact HK.out)⟩, hbg HB⟩
    ·simp only [Option.some.injEq, Prod.mk.injEq] at H
     obtain ⟨rfl, rfl⟩ := H
     obtain ⟨_, _, _, _⟩ := blk2 BK377
     go_wp2
     go_ret2
     exact ⟨_, eqE, nilE, bel_g HB.out, by repeat (first | (with_reducible first | exact HK.out | apply Kept.alloc | apply Kept.drewN | apply Kept.drew | refine Kept.setCell ?_ (.inr GW377.out) _ | refine Kept.setCell ?_ (.inr GW378.out) _) | exact HK.out)⟩
end Go.Proofs.YtdpmoehmbjmkpaaDoor.Q
