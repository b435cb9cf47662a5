import Derived.Test.YtdpmoehmbjmkpaaDoorBFnPatterns6
import Derived.Test.YtdpmoehmbjmkpaaDoorBFnPatterns8
import Derived.Test.YtdpmoehmbjmkpaaDoorBFnPatterns15
namespace Go.Proofs.YtdpmoehmbjmkpaaDoor.Q
open Go.RowKit Go.Proofs.YtdpmoehmbjmkpaaDoorW.PrintWords Go.Proofs.YtdpmoehmbjmkpaaDoorW.PrintLast Go.Proofs.YtdpmoehmbjmkpaaDoorW.PrintMore
attribute [local go_sem] max2_int min2_int max_two min_two max_three min_three max_four min_four neB_f
set_option linter.unusedVariables false
set_option maxHeartbeats 8000000
set_option maxRecDepth 100000
set_option linter.unusedSimpArgs false
def spec_FindPattern.f (k : Nat) (a0_0 : Int) (l0_1 : List Int) (a1_0 : Int) (l1_1 : List Int) : Option (List Int × Bool) := (spec_orRelation.f k a0_0 l0_1).bind fun t395 => (if t395 = true then ((spec_orRelation.f k a1_0 l1_1).bind fun t396 => (if t396 = true then (if a1_0 > 6 then (some (([] : List Int), false)) else ((spec_orFind.f k a0_0 l0_1 a1_0 l1_1 ([] : List Int)).bind fun bt397 => (some (bt397.1, bt397.2)))) else (some (([] : List Int), false)))) else (some (([] : List Int), false)))
theorem spec_FindPattern.mono : ∀ a0 a1 a2 a3 k, LeO (spec_FindPattern.f k a0 a1 a2 a3) (spec_FindPattern.f (k + 1) a0 a1 a2 a3) := by
 intro a0 a1 a2 a3 k
 unfold spec_FindPattern.f
 repeat' (with_reducible first|apply spec_orFind.mono|apply spec_orRelation.mono|apply LeO.refl|apply LeO.none|apply LeO.ite|apply LeO.bind|intro)
theorem spec_FindPattern.calls (k : Nat) (a0_0 : Int) (A0_1 : Option Addr) (c0_1 : Nat) (l0_1 : List Int) (a1_0 : Int) (A1_1 : Option Addr) (c1_1 : Nat) (l1_1 : List Int) (r1 : List Int) (r2 : Bool) (w : World) (hr0_1 : Kd.C (Kd.int .i64) w A0_1 l0_1.length l0_1) (hc0_1 : l0_1.length ≤ c0_1) (hr1_1 : Kd.C (Kd.int .i64) w A1_1 l1_1.length l1_1) (hc1_1 : l1_1.length ≤ c1_1) (h : spec_FindPattern.f k a0_0 l0_1 a1_0 l1_1 = some (r1, r2)) :
  Calls Tryd.prog 7 #[.agg #[.int .i64 a0_0, .slice A0_1 l0_1.length c0_1], .agg #[.int .i64 a1_0, .slice A1_1 l1_1.length c1_1]] w fun e w' => ∃ v0_ : Value, e = .returned (.tuple #[v0_, .bool r2]) ∧ Kd.R (Kd.int .i64) 3 w' w.heap.size (fun _ => True) v0_ r1 ∧ Below w.heap.size w w' := by
 have hu26 := Tryd.underlying26
 have HR0_1 := mkA hr0_1
 have HC0_1 := mkA hc0_1
 clear hr0_1 hc0_1
 have HR1_1 := mkA hr1_1
 have HC1_1 := mkA hc1_1
 clear hr1_1 hc1_1
 have HB := mkA (Below.refl w.heap.size w)
 have H := h
 clear h
 unfold spec_FindPattern.f at H
 obtain ⟨t395, A3, H⟩ := obE H
 by_cases c4 : t395 = true
 ·subst c4
  replace H := ifT H
  obtain ⟨t396, A5, H⟩ := obE H
  by_cases c6 : t396 = true
  ·subst c6
   replace H := ifT H
   rcases iteP H with ⟨c7, H⟩ | ⟨c7, H⟩
   ·have c7b0 := decide_eq_true c7
    clear c7
    simp only [Option.some.injEq, Prod.mk.injEq] at H
    obtain ⟨rfl, rfl⟩ := H
    go_enter Tryd.func7, Tryd.ntmps7
    go_wp2_with (first | ((with_reducible refine gate_dst (N := 2) rfl ?_); refine boxG HB #[.int .i64 a0_0, .slice A0_1 l0_1.length c0_1] 26 ?_; intro gb393 hg w8 BK393 GE393 hb; replace HB := bst HB hb; clear hb hg) | ((with_reducible refine gate_dst (N := 3) rfl ?_); refine boxG HB #[.int .i64 a1_0, .slice A1_1 l1_1.length c1_1] 26 ?_; intro gb394 hg w9 BK394 GE394 hb; have NB393_394 := neL7 BK393 hg; have NB394_393 := neR7 BK393 hg; replace BK393 := blkB BK393 hb; replace HB := bst HB hb; clear hb hg; obtain ⟨_, _, _, _⟩ := blk2 BK393) | ((with_reducible refine gate_callee (f := 16) rfl ?_); refine goesQ (some 7) Tryd.func16 #[.agg #[.int .i64 a0_0, .slice A0_1 l0_1.length c0_1]] ?_; (with_reducible refine (spec_orRelation.calls k a0_0 _ _ l0_1 true _ ?_ ?_ A3.out).mono ?_); exact C_g HR0_1 HB; exact HC0_1.out; rintro e w12 ⟨rfl, hb⟩; refine ⟨_, rfl, ?_⟩; replace BK393 := blkB BK393 hb; replace BK394 := blkB BK394 hb; replace HB := bst HB hb; clear hb; obtain ⟨_, _, _, _⟩ := blk2 BK394) | (go_at_call 16; (with_reducible refine (spec_orRelation.calls k a1_0 _ _ l1_1 true _ ?_ ?_ A5.out).mono ?_); exact C_g HR1_1 HB; exact HC1_1.out; rintro e w14 ⟨rfl, hb⟩; replace BK393 := blkB BK393 hb; replace BK394 := blkB BK394 hb; replace HB := bst HB hb; clear hb; obtain ⟨_, _, _, _⟩ := blk2 BK394))
    go_ret2
    exact ⟨_, eqE, nilE, bel_g HB.out⟩
   ·have c7b0 := decide_eq_false c7
    clear c7
    obtain ⟨⟨t397, t400⟩, A16, H⟩ := obE H
    dsimp only at H
    simp only [Option.some.injEq, Prod.mk.injEq] at H
    obtain ⟨rfl, rfl⟩ := H
    go_enter Tryd.func7, Tryd.ntmps7
    go_wp2_with (first | ((with_reducible refine gate_dst (N := 2) rfl ?_); refine boxG HB #[.int .i64 a0_0, .slice A0_1 l0_1.length c0_1] 26 ?_; intro gb393 hg w17 BK393 GE393 hb; replace HB := bst HB hb; clear hb hg) | ((with_reducible refine gate_dst (N := 3) rfl ?_); refine boxG HB #[.int .i64 a1_0, .slice A1_1 l1_1.length c1_1] 26 ?_; intro gb394 hg w18 BK394 GE394 hb; have NB393_394 := neL7 BK393 hg; have NB394_393 := neR7 BK393 hg; replace BK393 := blkB BK393 hb; replace HB := bst HB hb; clear hb hg; obtain ⟨_, _, _, _⟩ := blk2 BK393) | ((with_reducible refine gate_callee (f := 16) rfl ?_); refine goesQ (some 7) Tryd.func16 #[.agg #[.int .i64 a0_0, .slice A0_1 l0_1.length c0_1]] ?_; (with_reducible refine (spec_orRelation.calls k a0_0 _ _ l0_1 true _ ?_ ?_ A3.out).mono ?_); exact C_g HR0_1 HB; exact HC0_1.out; rintro e w21 ⟨rfl, hb⟩; refine ⟨_, rfl, ?_⟩; replace BK393 := blkB BK393 hb; replace BK394 := blkB BK394 hb; replace HB := bst HB hb; clear hb; obtain ⟨_, _, _, _⟩ := blk2 BK394) | (go_at_call 16; (with_reducible refine (spec_orRelation.calls k a1_0 _ _ l1_1 true _ ?_ ?_ A5.out).mono ?_); exact C_g HR1_1 HB; exact HC1_1.out; rintro e w23 ⟨rfl, hb⟩; replace BK393 := blkB BK393 hb; replace BK394 := blkB BK394 hb; replace HB := bst HB hb; clear hb; obtain ⟨_, _, _, _⟩ := blk2 BK394; obtain ⟨_, _, _, _⟩ := blk2 BK393) | ((with_reducible refine gate_callee (f := 25) rfl ?_); refine goesQ (some 21) Tryd.func25 #[.agg #[.int .i64 a0_0, .slice A0_1 l0_1.length c0_1], .agg #[.int .i64 a1_0, .slice A1_1 l1_1.length c1_1], .slice none 0 0] ?_; (refine (spec_orFind.calls k a0_0 _ _ l0_1 a1_0 _ _ l1_1 (fun k_ => some k_ = (.slice none 0 0 : Value).ownBlock) (.slice none 0 0) ([] : List Int) t397 t400 w _ ?_ ?_ ?_ ?_ ?_ ?_ A16.out).mono ?_); exact bel_g HB.out; exact Kd.C_kept_came (Kd.heap_int .i64) HR0_1.out (bel_g HB.out) (fun k_ hs_ => (fun e_ => by simp [Value.ownBlock] at e_) hs_); exact HC0_1.out; exact Kd.C_kept_came (Kd.heap_int .i64) HR1_1.out (bel_g HB.out) (fun k_ hs_ => (fun e_ => by simp [Value.ownBlock] at e_) hs_); exact HC1_1.out; exact Kd.R_nil _ _ _ _ _; rintro e w26 ⟨v398, rfl, ho0, hb, hkp⟩; refine ⟨_, rfl, ?_⟩; replace BK393 := mkA (blk_kept (blk_g BK393.out) hkp (fun hs_ => (fun e_ => by simp [Value.ownBlock] at e_) hs_)); replace BK394 := mkA (blk_kept (blk_g BK394.out) hkp (fun hs_ => (fun e_ => by simp [Value.ownBlock] at e_) hs_)); have HO399 := mkA (Kd.R_mono (ok' := fun k_ => True) ho0 (fun k_ hk_ => trivial)); replace HB := mkA (hb); clear hb hkp ho0))
    go_ret2
    exact ⟨_, eqE, Kd.R_g HO399.out, bel_g HB.out⟩
  ·replace c6 := Bool.eq_false_iff.mpr c6
   subst c6
   replace H := ifF H
   simp only [Option.some.injEq, Prod.mk.injEq] at H
   obtain ⟨rfl, rfl⟩ := H
   go_enter Tryd.func7, Tryd.ntmps7
   go_wp2_with (first | ((with_reducible refine gate_dst (N := 2) rfl ?_); refine boxG HB #[.int .i64 a0_0, .slice A0_1 l0_1.length c0_1] 26 ?_; intro gb393 hg w27 BK393 GE393 hb; replace HB := bst HB hb; clear hb hg) | ((with_reducible refine gate_dst (N := 3) rfl ?_); refine boxG HB #[.int .i64 a1_0, .slice A1_1 l1_1.length c1_1] 26 ?_; intro gb394 hg w28 BK394 GE394 hb; have NB393_394 := neL7 BK393 hg; have NB394_393 := neR7 BK393 hg; replace BK393 := blkB BK393 hb; replace HB := bst HB hb; clear hb hg; obtain ⟨_, _, _, _⟩ := blk2 BK393) | ((with_reducible refine gate_callee (f := 16) rfl ?_); refine goesQ (some 7) Tryd.func16 #[.agg #[.int .i64 a0_0, .slice A0_1 l0_1.length c0_1]] ?_; (with_reducible refine (spec_orRelation.calls k a0_0 _ _ l0_1 true _ ?_ ?_ A3.out).mono ?_); exact C_g HR0_1 HB; exact HC0_1.out; rintro e w31 ⟨rfl, hb⟩; refine ⟨_, rfl, ?_⟩; replace BK393 := blkB BK393 hb; replace BK394 := blkB BK394 hb; replace HB := bst HB hb; clear hb; obtain ⟨_, _, _, _⟩ := blk2 BK394) | (go_at_call 16; (with_reducible refine (spec_orRelation.calls k a1_0 _ _ l1_1 false _ ?_ ?_ A5.out).mono ?_); exact C_g HR1_1 HB; exact HC1_1.out; rintro e w33 ⟨rfl, hb⟩; replace BK393 := blkB BK393 hb; replace BK394 := blkB BK394 hb; replace HB := bst HB hb; clear hb))
   go_ret2
   exact ⟨_, eqE, nilE, bel_g HB.out⟩
 ·replace c4 := Bool.eq_false_iff.mpr c4
  subst c4
  replace H := ifF H
  simp only [Option.some.injEq, Prod.mk.injEq] at H
  obtain ⟨rfl, rfl⟩ := H
  go_enter Tryd.func7, Tryd.ntmps7
  go_wp2_with (first | ((with_reducible refine gate_dst (N := 2) rfl ?_); refine boxG HB #[.int .i64 a0_0, .slice A0_1 l0_1.length c0_1] 26 ?_; intro gb393 hg w34 BK393 GE393 hb; replace HB := bst HB hb; clear hb hg) | ((with_reducible refine gate_dst (N := 3) rfl ?_); refine boxG HB #[.int .i64 a1_0, .slice A1_1 l1_1.length c1_1] 26 ?_; intro gb394 hg w35 BK394 GE394 hb; have NB393_394 := neL7 BK393 hg; have NB394_393 := neR7 BK393 hg; replace BK393 := blkB BK393 hb; replace HB := bst HB hb; clear hb hg; obtain ⟨_, _, _, _⟩ := blk2 BK393) | ((with_reducible refine gate_callee (f := 16) rfl ?_); refine goesQ (some 7) Tryd.func16 #[.agg #[.int .i64 a0_0, .slice A0_1 l0_1.length c0_1]] ?_; (with_reducible refine (spec_orRelation.calls k a0_0 _ _ l0_1 false _ ?_ ?_ A3.out).mono ?_); exact C_g HR0_1 HB; exact HC0_1.out; rintro e w38 ⟨rfl, hb⟩; refine ⟨_, rfl, ?_⟩; replace BK393 := blkB BK393 hb; replace BK394 := blkB BK394 hb; replace HB := bst HB hb; clear hb))
  go_ret2
  exact ⟨_, eqE, nilE, bel_g HB.out⟩
def laws_pSame.l0 : Nat → List Int → List Int → Int → Int → Option (Bool)
 | 0, _, _, _, _ => none
 | k + 1, x0, x1, x12, x13 => if x13 < x12 then (if 0 ≤ x13 then (if x13 < (x0.length : Int) then (if x13 < (x1.length : Int) then (if (rd x0 x13) = (rd x1 x13) then (laws_pSame.l0 k x0 x1 x12 (wrap64 (x13 + 1))) else (some false)) else (none)) else (none)) else (none)) else (some true)
def laws_pSame.f (k : Nat) (l0 : List Int) (l1 : List Int) : Option (Bool) := if (l0.length : Int) = (l1.length : Int) then (laws_pSame.l0 k l0 l1 (l0.length : Int) 0) else (some false)
theorem laws_pSame.mono_l : ∀ k, (∀ y0 y1 y2 y3, LeO (laws_pSame.l0 k y0 y1 y2 y3) (laws_pSame.l0 (k + 1) y0 y1 y2 y3))
 | 0 => fun _ _ _ _ r h => by simp [laws_pSame.l0] at h
 | k + 1 => by
  have ih0 := laws_pSame.mono_l k
  ·intro y0 y1 y2 y3
   unfold laws_pSame.l0
   repeat' (with_reducible first|apply ih0|apply LeO.refl|apply LeO.none|apply LeO.ite|apply LeO.bind|intro)
theorem laws_pSame.mono : ∀ a0 a1 k, LeO (laws_pSame.f k a0 a1) (laws_pSame.f (k + 1) a0 a1) := by
 intro a0 a1 k
 have ih0 := laws_pSame.mono_l k
 unfold laws_pSame.f
 repeat' (with_reducible first|apply ih0|apply LeO.refl|apply LeO.none|apply LeO.ite|apply LeO.bind|intro)
theorem laws_pSame.calls (k : Nat) (A0 : Option Addr) (c0 : Nat) (l0 : List Int) (A1 : Option Addr) (c1 : Nat) (l1 : List Int) (r : Bool) (w : World) (hr0 : Kd.C (Kd.int .i64) w A0 l0.length l0) (hc0 : l0.length ≤ c0) (hr1 : Kd.C (Kd.int .i64) w A1 l1.length l1) (hc1 : l1.length ≤ c1) (h : laws_pSame.f k l0 l1 = some r) :
  Calls Tryd.prog 8 #[.slice A0 l0.length c0, .slice A1 l1.length c1] w fun e w' => e = .returned (.bool r) ∧ Drawn0 w w' := by
 have HR0 := mkA hr0
 have HC0 := mkA hc0
 clear hr0 hc0
 have HR1 := mkA hr1
 have HC1 := mkA hc1
 clear hr1 hc1
 have H := h
 clear h
 unfold laws_pSame.f at H
 rcases iteP H with ⟨c3, H⟩ | ⟨c3, H⟩
 ·have c3b0 := beq_iff_eq.mpr c3
  have c3b1 := bne_eq_false_iff_eq.mpr c3
  have c3b2 : (l0.length == l1.length) = true := by first | simpa using c3 | (simp at c3 ⊢; omega)
  clear c3
  have H' := mkA H
  clear H
  go_enter Tryd.func8, Tryd.ntmps8
  go_wp2
  repeat (go_quiet (fail); try go_wp2)
  go_loopg [13] k (fun kq v13 w' => ∃ (x13_1 : Int), v13 = .int .i64 x13_1 ∧ Fc (laws_pSame.l0 kq l0 l1 (l0.length : Int) x13_1 = some r) ∧ Fc (kq ≤ k) ∧ Drawn0 w w')
  case atStart => exact ⟨(0), eqS, H', ⟨Nat.le_refl _⟩, by repeat (first | exact Drawn0.refl _ | apply Drawn0.step)⟩
  case round =>
   clear H'
   try clear c1
   try clear c3
   try clear c3b0
   try clear c3b1
   try clear c3b2
   obtain ⟨x13_1, rfl, HA, HK1, ⟨m1, rfl⟩⟩ := hrel
   cases gk with
   | zero => exact absurd HA.out (by simp [laws_pSame.l0])
   | succ k1 =>
    have H := HA.out
    clear HA
    simp only [laws_pSame.l0] at H
    rcases iteE H with ⟨c4b0, H⟩ | ⟨c4b0, H⟩
    ·obtain ⟨c5b0, H⟩ := itND H
     obtain ⟨c6b0, H⟩ := itND H
     obtain ⟨c7b0, H⟩ := itND H
     rcases iteP H with ⟨c8, H⟩ | ⟨c8, H⟩
     ·have c8b0 := beq_iff_eq.mpr c8
      have c8b1 := bne_eq_false_iff_eq.mpr c8
      clear c8
      have H' := mkA H
      clear H
      obtain ⟨p401, q401, ad401, e401, hx401_0⟩ := atI HR0.out x13_1
      cases e401
      obtain ⟨p402, q402, ad402, e402, hx402_0⟩ := atI HR1.out x13_1
      cases e402
      go_wp2
      repeat (go_quiet (fail); try go_wp2)
      go_roundg k1
      case measure => have := HK1.out; omega
      case rel => exact ⟨(wrap64 (x13_1 + 1)), eqS, H', ⟨by have := HK1.out; omega⟩, by repeat (first | exact Drawn0.refl _ | apply Drawn0.step)⟩
     ·have c8b0 := beq_eq_false_iff_ne.mpr c8
      have c8b1 := bne_iff_ne.mpr c8
      obtain rfl := Option.some.inj H
      obtain ⟨p401, q401, ad401, e401, hx401_0⟩ := atI HR0.out x13_1
      cases e401
      obtain ⟨p402, q402, ad402, e402, hx402_0⟩ := atI HR1.out x13_1
      cases e402
      go_wp2
      repeat (go_quiet (fail); try go_wp2)
      go_ret
      exact ⟨eqS, drE⟩
    ·obtain rfl := Option.some.inj H
     go_wp2
     repeat (go_quiet (fail); try go_wp2)
     go_ret
     exact ⟨eqS, drE⟩
 ·have c3b0 := beq_eq_false_iff_ne.mpr c3
  have c3b1 := bne_iff_ne.mpr c3
  have c3b2 : (l0.length == l1.length) = false := by first | simpa using c3 | (simp at c3 ⊢; omega)
  obtain rfl := Option.some.inj H
  go_enter Tryd.func8, Tryd.ntmps8
  go_wp2
  repeat (go_quiet (fail); try go_wp2)
  go_ret
  exact ⟨eqS, drE⟩
def laws_pIn.f (a0 : Int) (a1 : Int) : Option (Bool) := if 0 ≤ a1 then (some ((Int.tmod (shr .i64 a0 a1) 2) == 1)) else (none)
theorem laws_pIn.calls (a0 : Int) (a1 : Int) (r : Bool) (w : World) (h : laws_pIn.f a0 a1 = some r) :
  Calls Tryd.prog 9 #[.int .i64 a0, .int .i64 a1] w fun e w' => e = .returned (.bool r) ∧ Drawn0 w w' := by
 have H := h
 clear h
 unfold laws_pIn.f at H
 obtain ⟨c3b0, c3b1, H⟩ := itNQ H
 obtain ⟨ji4, hji4⟩ : ∃ j_ : Int, (shr .i64 a0 a1) = j_ := ⟨_, rfl⟩
 first | rw [hji4] at H | simp only [hji4] at H
 have hji4_ : (a0 / 2 ^ min a1.toNat 64) = ji4 := hji4
 have hji4z : a1 ≤ 64 → (a0 / 2 ^ a1.toNat) = ji4 := shr_small hji4
 obtain rfl := Option.some.inj H
 go_enter Tryd.func9, Tryd.ntmps9
 go_wp2
 go_ret
 exact ⟨by first | rfl | (simp; done) | (simp only [← hji4] <;> (first | rfl | simp)) | (simp [*]; done), by repeat (first | exact Drawn0.refl _ | apply Drawn0.step)⟩
def spec_l1Most.f (a0 : Int) (a1 : Int) : Option (Int) := if a0 > a1 then (some a0) else (some a1)
theorem spec_l1Most.calls (a0 : Int) (a1 : Int) (r : Int) (w : World) (h : spec_l1Most.f a0 a1 = some r) :
  Calls Tryd.prog 26 #[.int .i64 a0, .int .i64 a1] w fun e w' => e = .returned (.int .i64 r) ∧ Drawn0 w w' := by
 have H := h
 clear h
 unfold spec_l1Most.f at H
 rcases iteP H with ⟨c3, H⟩ | ⟨c3, H⟩
 ·have c3b0 := decide_eq_true c3
  clear c3
  obtain rfl := Option.some.inj H
  go_enter Tryd.func26, Tryd.ntmps26
  go_wp2
  go_ret
  exact ⟨eqS, drE⟩
 ·have c3b0 := decide_eq_false c3
  clear c3
  obtain rfl := Option.some.inj H
  go_enter Tryd.func26, Tryd.ntmps26
  go_wp2
  go_ret
  exact ⟨eqS, drE⟩
def spec_DrawRenameOf.f (k : Nat) (l0 : List Int) : Option (Int × List Int × List Int) := (spec_l1Cur_anyOrder.f k l0 0 0 6).bind fun bt405 => ((spec_l1Most.f 0 bt405.1).bind fun t412 => ((spec_l1Cur_names.f k l0 bt405.2.2.1 bt405.2.2.2 t412).bind fun bt413 => (some (bt405.1, bt405.2.1, bt413.1))))
theorem spec_DrawRenameOf.mono : ∀ a0 k, LeO (spec_DrawRenameOf.f k a0) (spec_DrawRenameOf.f (k + 1) a0) := by
 intro a0 k
 unfold spec_DrawRenameOf.f
 repeat' (with_reducible first|apply spec_l1Cur_anyOrder.mono|apply spec_l1Cur_names.mono|apply LeO.refl|apply LeO.none|apply LeO.ite|apply LeO.bind|intro)
def spec_DrawRenameOf.T3 : Bool × List (List Nat × List Nat) := (true, [([], []), ([], []), ([], []), ([2], [2]), ([3], [3]), ([1, 4, 4], [1, 4]), ([0, 5, 0], [0]), ([5, 6, 0, 1, 2, 3, 4, 5, 6], [5])])
def spec_DrawRenameOf.B3 : List Nat := [0, 0, 0, 4, 12, 30, 63, 127]
theorem spec_DrawRenameOf.tab3 : rtab .any (opsOf Tryd.f10 3) = spec_DrawRenameOf.T3 := by kernel_rfl
theorem spec_DrawRenameOf.bits3 : waitsOk spec_DrawRenameOf.T3.2 spec_DrawRenameOf.B3 = true := by kernel_rfl
theorem spec_DrawRenameOf.calls (k : Nat) (A0 : Option Addr) (c0 : Nat) (l0 : List Int) (r1 : Int) (r2 : List Int) (r3 : List Int) (w : World) (hr0 : Kd.C (Kd.int .u8) w A0 l0.length l0) (hc0 : l0.length ≤ c0) (h : spec_DrawRenameOf.f k l0 = some (r1, r2, r3)) :
  Calls Tryd.prog 10 #[.slice A0 l0.length c0] w fun e w' => ∃ v1_ v2_ : Value, e = .returned (.tuple #[.agg #[.int .i64 r1, v1_], v2_]) ∧ Kd.R (Kd.int .i64) 3 w' w.heap.size (fun k_ => some k_ ≠ (v2_ : Value).ownBlock) v1_ r2 ∧ Kd.R (Kd.int .i64) 3 w' w.heap.size (fun k_ => some k_ ≠ (v1_ : Value).ownBlock) v2_ r3 ∧ Below w.heap.size w w' := by
 have hu26 := Tryd.underlying26
 have hu43 := Tryd.underlying43
 have HR0 := mkA hr0
 have HC0 := mkA hc0
 clear hr0 hc0
 have HB := mkA (Below.refl w.heap.size w)
 have H := h
 clear h
 unfold spec_DrawRenameOf.f at H
 obtain ⟨⟨t405, t406, t409, t410⟩, A2, H⟩ := obE H
 dsimp only at H
 obtain ⟨t412, A3, H⟩ := obE H
 obtain ⟨⟨t413, t416, t417⟩, A4, H⟩ := obE H
 dsimp only at H
 simp only [Option.some.injEq, Prod.mk.injEq] at H
 obtain ⟨rfl, rfl, rfl⟩ := H
 go_enter Tryd.func10, Tryd.ntmps10
 try go_wp2_with (first | ((with_reducible refine gate_dst (N := 2) rfl ?_); refine boxG HB #[.int .i64 0, .slice none 0 0] 26 ?_; intro gb403 hg w5 BK403 GE403 hb; replace HB := bst HB hb; clear hb hg) | ((with_reducible refine gate_dst (N := 8) rfl ?_); refine boxE (N := 8) (cs := #[.slice A0 l0.length c0, .int .i64 0, .int .u64 0]) (t := 43) ?_; intro gb404 hg w6 hbox hb; have HI404 := mkA ((⟨_, _, hbox, (by rw [hg]; exact (below_size (bel_g HB.out))), HR0.out⟩ : IsS43 w w6 gb404 l0 0 0)); have GE404 := geB HB hg; have NB403_404 := neL7 BK403 hg; have NB404_403 := neR7 BK403 hg; replace BK403 := blkB BK403 hb; replace HB := bst HB hb; clear hb hbox hg) | ((with_reducible refine gate_callee (f := 15) rfl ?_); refine goesQ (some 10) Tryd.func15 #[.pointer (some ⟨gb404, 0, none⟩), .int .i64 6] ?_; (with_reducible refine (spec_l1Cur_anyOrder.calls k gb404 l0 0 0 6 t405 t406 t409 t410 w _ ?_ ?_ A2.out).mono ?_); exact st43_1 HI404.out NB404_403.out; exact bl43_1 HB.out HI404.out GE403.out; rintro e w7 ⟨v407, rfl, ho0, hi, hb, hk⟩; refine ⟨_, rfl, ?_⟩; replace BK403 := kB hk BK403; have HO408 := mkA (Kd.R_lower ho0 (below_size (by exact bl43_1 HB.out HI404.out GE403.out))); replace HI404 := mkA (hi); replace HB := mkA (hb); clear hb hk hi ho0) | ((with_reducible refine gate_dst (N := 5) rfl ?_); refine boxE (N := 5) (cs := #[.int .i64 0, .slice none 0 0]) (t := 26) ?_; intro gb411 hg w8 hbox hb; replace HO408 := rB HO408 hb; have BK411 := mkA (hbox); have GW411 := mkA ((by rw [hg]; exact (below_size (by exact bl43_1 HB.out HI404.out GE403.out)) : w.heap.size ≤ gb411)); have GE411 := mkA ((by rw [hg]; exact (below_size (by exact bl43_1 HB.out HI404.out GE403.out)) : w.heap.size ≤ gb411)); have NB403_411 := neL7 BK403 hg; have NB411_403 := neR7 BK403 hg; replace BK403 := blkB BK403 hb; have NB404_411 : NeB _ _ := ⟨(by rw [hg]; exact Nat.ne_of_lt (IsS43.lt (show IsS43 w _ gb404 l0 t409 t410 from by exact st43_1 HI404.out NB404_403.out)) : gb404 ≠ gb411)⟩; have NB411_404 : NeB _ _ := ⟨(by rw [hg]; exact Nat.ne_of_gt (IsS43.lt (show IsS43 w _ gb404 l0 t409 t410 from by exact st43_1 HI404.out NB404_403.out)) : gb411 ≠ gb404)⟩; replace HB := mkA (below_step (by exact bl43_1 HB.out HI404.out GE403.out) hb); replace HI404 := mkA (IsS43.below (by exact st43_1 HI404.out NB404_403.out) hb); clear hb hbox hg; obtain ⟨_, _, _, _⟩ := blk2 BK411; obtain ⟨Ao12, co12, rfl⟩ := Kd.R_slice HO408.out))
 have n0_ : Fc (Kd.R (Kd.int .i64) 3 ((w8.setCell ⟨gb411, 0, none⟩ (.int .i64 t405)).setCell ⟨gb411, 1, none⟩ (.slice Ao12 t406.length co12)) w.heap.size (fun _ => True) (.slice Ao12 t406.length co12) t406) := ⟨Kd.R_g (Kd.R_mono (rF HO408 BK411) (fun _ _ => trivial))⟩
 have n1_ : Fc (((w8.setCell ⟨gb411, 0, none⟩ (.int .i64 t405)).setCell ⟨gb411, 1, none⟩ (.slice Ao12 t406.length co12)).heap[gb403]? = some (.cells #[.int .i64 0, .slice none 0 0] 26 (0, 0))) := ⟨blkT BK403⟩
 have n2_ : Fc (((w8.setCell ⟨gb411, 0, none⟩ (.int .i64 t405)).setCell ⟨gb411, 1, none⟩ (.slice Ao12 t406.length co12)).heap[gb411]? = some (.cells #[.int .i64 t405, .slice Ao12 t406.length co12] 26 (0, 0))) := ⟨blkT BK411⟩
 have n3_ : Fc (IsS43 w ((w8.setCell ⟨gb411, 0, none⟩ (.int .i64 t405)).setCell ⟨gb411, 1, none⟩ (.slice Ao12 t406.length co12)) gb404 l0 t409 t410) := ⟨by exact st43_2 HI404.out NB404_403.out NB404_411.out⟩
 have n4_ : Fc (Below w.heap.size w ((w8.setCell ⟨gb411, 0, none⟩ (.int .i64 t405)).setCell ⟨gb411, 1, none⟩ (.slice Ao12 t406.length co12))) := ⟨by exact bl43_2 HB.out HI404.out GE403.out GE411.out⟩
 (try clear HO408)
 (try clear BK403)
 (try clear BK411)
 (try clear HI404)
 (try clear HB)
 generalize ((w8.setCell ⟨gb411, 0, none⟩ (.int .i64 t405)).setCell ⟨gb411, 1, none⟩ (.slice Ao12 t406.length co12)) = w13 at n0_ n1_ n2_ n3_ n4_ ⊢
 have HO408 := n0_
 have BK403 := n1_
 have BK411 := n2_
 have HI404 := n3_
 have HB := n4_
 clear n0_ n1_ n2_ n3_ n4_
 replace HO408 := mkA (Kd.R_drew HO408.out)
 replace BK403 := mkA (blk_drew BK403.out)
 replace BK411 := mkA (blk_drew BK411.out)
 replace HI404 := mkA (IsS43.drew HI404.out)
 replace HB := mkA (below_drew1 HB.out)
 refine start_ (n := 8) (S := fun w' => w'.cell? ⟨gb411, 0, none⟩ = some (.int .i64 t405) ∧ w'.cell? ⟨gb411, 1, none⟩ = some (.slice Ao12 t406.length co12)) (ds := []) (bm 8 0) (by kernel_rfl) rfl (by kernel_rfl) ⟨(blk_cell BK411.out 0).trans rfl, (blk_cell BK411.out 1).trans rfl⟩ (fun hHeld => ?_); refine with_tabW spec_DrawRenameOf.tab3 spec_DrawRenameOf.bits3 (fun HT_ HW_ => ?_)
 generalize w13.drew = w14 at HO408 BK403 BK411 HI404 HB hHeld ⊢
 refine purW 1 12 8 2 HT_ ?_
 refine purW 2 13 8 6 HT_ ?_
 refine takeW 0 (some 11) (bm 8 7) HT_ HW_ hHeld ?_
 refine takeW 3 (some 14) (bm 8 15) HT_ HW_ hHeld ?_
 refine oneW 4 (some 15) (bm 8 31) HT_ (fun K hK => ?_)
 refine goesR Tryd.func26 #[.int .i64 0, .int .i64 t405] ?_
 with_reducible refine (spec_l1Most.calls 0 t405 t412 _ A3.out).mono ?_
 rintro e w' ⟨rfl, ⟨nd, rfl⟩⟩
 refine ⟨_, rfl, ?_⟩
 refine hK.out _ _ ⟨(blk_cell BK411.out 0).trans rfl, (blk_cell BK411.out 1).trans rfl⟩ (fun hHeld => ?_)
 clear hK K
 refine normW 15 ?_
 refine oneW 5 (some 16) (bm 8 63) HT_ (fun K hK => ?_)
 refine goesR Tryd.func18 #[.pointer (some ⟨gb404, 0, none⟩), .int .i64 t412] ?_
 with_reducible refine (spec_l1Cur_names.calls k gb404 l0 t409 t410 t412 t413 t416 t417 w _ ?s1 ?s2 A4.out).mono ?_
 (case s1 => exact st43_2 HI404.out NB404_403.out NB404_411.out)
 (case s2 => exact bl43_2 HB.out HI404.out GE403.out GE411.out)
 rintro e w15 ⟨v414, rfl, ho0, hi, hb, hk⟩
 refine ⟨_, rfl, ?_⟩
 replace BK403 := kB hk BK403
 replace BK411 := kB hk BK411
 have HO415 := mkA (Kd.R_lower (rN ho0 HO408) (below_size (by exact bl43_2 HB.out HI404.out GE403.out GE411.out)))
 replace HO408 := mkA (Kd.R_mono (Kd.R_told (Kd.R_oldK (IsS43.apart (show IsS43 w _ gb404 l0 t409 t410 from by exact st43_2 HI404.out NB404_403.out NB404_411.out) (Kd.R_g HO408.out) (by decide)) hk) (Kd.R_base ho0)) (fun _ h_ => h_.1))
 replace HI404 := mkA (hi)
 replace HB := mkA (hb)
 (try clear hb)
 (try clear hb2)
 (try clear hk)
 (try clear hi)
 (try clear ho0)
 refine hK.out _ _ ⟨(blk_cell BK411.out 0).trans rfl, (blk_cell BK411.out 1).trans rfl⟩ (fun hHeld => ?_)
 clear hK K
 refine normW 16 ?_
 refine oneW 6 (none) (bm 8 127) HT_ (fun K hK => ?_)
 obtain ⟨_, _, _, _⟩ := blk2 BK403
 refine skip_ (w1 := ?_) (by rfl) rfl ?_ ?_
 rotate_left
 ·go_simp
  rfl
 refine hK.out _ _ ⟨(cF (cF hHeld.1)), (cF (cF hHeld.2))⟩ (fun hHeld => ?_)
 clear hK K
 refine purW 7 3 8 255 HT_ ?_
 refine doneW HT_ ?_
 try go_wp2
 refine bodyPost_ret (results_ct rfl _ _ gb403 26 #[.int .i64 t405, .slice Ao12 t406.length co12] (0, 0) _ rfl (blkT BK403) Tryd.underlying26 rfl (by kernel_rfl)) rfl ?_
 exact ⟨_, _, eqE, Kd.R_g (Kd.R_mono (Kd.R_far (p := ⟨gb403, 1, none⟩) (Kd.R_far (p := ⟨gb403, 0, none⟩) (Kd.R_types HO408.out BK403.out (by decide)) (fun _ hk => hk.2) (.int .i64 t405)) (fun _ hk => hk.2) (.slice Ao12 t406.length co12)) (fun _ hk => hk.1.2)), Kd.R_g (Kd.R_mono (Kd.R_far (p := ⟨gb403, 1, none⟩) (Kd.R_far (p := ⟨gb403, 0, none⟩) (Kd.R_types HO415.out BK403.out (by decide)) (fun _ hk => hk.2) (.int .i64 t405)) (fun _ hk => hk.2) (.slice Ao12 t406.length co12)) (fun _ hk => hk.1.2)), by exact bl43_2 HB.out HI404.out GE403.out GE411.out⟩
end Go.Proofs.YtdpmoehmbjmkpaaDoor.Q
