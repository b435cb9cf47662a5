import Derived.Test.YtmoemabbmjdhgaaDoorBFnThresholds12
import Derived.Test.YtmoemabbmjdhgaaDoorBFnThresholds14
namespace Go.Proofs.YtmoemabbmjdhgaaDoor.Q
open Go.RowKit Go.Proofs.YtmoemabbmjdhgaaDoorW.PrintWords Go.Proofs.YtmoemabbmjdhgaaDoorW.PrintLast Go.Proofs.YtmoemabbmjdhgaaDoorW.PrintMore
attribute [local go_sem] max2_int min2_int max_two min_two max_three min_three max_four min_four neB_f
set_option linter.unusedVariables false
set_option maxHeartbeats 8000000
set_option maxRecDepth 100000
set_option linter.unusedSimpArgs false
def spec_LeastThreshold.l0 : Nat → Int → Int → List Int → Option (Int × Bool)
 | 0, _, _, _ => none
 | k + 1, x4, x376000, x376001 => if x4 ≤ 10 then ((spec_seRounds.f k x376000 x376001 x4).bind fun bt377 => (if bt377.2.2 < 0 then (some (x4, true)) else (spec_LeastThreshold.l0 k (wrap64 (x4 + 1)) x376000 x376001))) else (some (0, false))
def spec_LeastThreshold.f (k : Nat) (a0_0 : Int) (l0_1 : List Int) : Option (Int × Bool) := (spec_orGood.f k a0_0 l0_1).bind fun t376 => (if t376 = true then (spec_LeastThreshold.l0 k 1 a0_0 l0_1) else (some (0, false)))
theorem spec_LeastThreshold.mono_l : ∀ k, (∀ y0 y1 y2, LeO (spec_LeastThreshold.l0 k y0 y1 y2) (spec_LeastThreshold.l0 (k + 1) y0 y1 y2))
 | 0 => fun _ _ _ r h => by simp [spec_LeastThreshold.l0] at h
 | k + 1 => by
  have ih0 := spec_LeastThreshold.mono_l k
  ·intro y0 y1 y2
   unfold spec_LeastThreshold.l0
   repeat' (with_reducible first|apply ih0|apply spec_orGood.mono|apply spec_seRounds.mono|apply LeO.refl|apply LeO.none|apply LeO.ite|apply LeO.bind|intro)
theorem spec_LeastThreshold.mono : ∀ a0 a1 k, LeO (spec_LeastThreshold.f k a0 a1) (spec_LeastThreshold.f (k + 1) a0 a1) := by
 intro a0 a1 k
 have ih0 := spec_LeastThreshold.mono_l k
 unfold spec_LeastThreshold.f
 repeat' (with_reducible first|apply ih0|apply spec_orGood.mono|apply spec_seRounds.mono|apply LeO.refl|apply LeO.none|apply LeO.ite|apply LeO.bind|intro)
theorem spec_LeastThreshold.calls (k : Nat) (a0_0 : Int) (A0_1 : Option Addr) (c0_1 : Nat) (l0_1 : List Int) (r1 : Int) (r2 : Bool) (w : World) (hr0_1 : Kd.C (Kd.int .i64) w A0_1 l0_1.length l0_1) (hc0_1 : l0_1.length ≤ c0_1) (h : spec_LeastThreshold.f k a0_0 l0_1 = some (r1, r2)) :
  Calls Tryd.prog 7 #[.agg #[.int .i64 a0_0, .slice A0_1 l0_1.length c0_1]] w fun e w' => e = .returned (.tuple #[.int .i64 r1, .bool r2]) ∧ Below w.heap.size w w' := by
 have hu26 := Tryd.underlying26
 have HR0_1 := mkA hr0_1
 have HC0_1 := mkA hc0_1
 clear hr0_1 hc0_1
 have HB := mkA (Below.refl w.heap.size w)
 have H := h
 clear h
 unfold spec_LeastThreshold.f at H
 obtain ⟨t376, A2, H⟩ := obE H
 by_cases c3 : t376 = true
 ·subst c3
  replace H := ifT H
  have H' := mkA H
  clear H
  go_enter Tryd.func7, Tryd.ntmps7
  go_wp2_with (first | ((with_reducible refine gate_dst (N := 1) rfl ?_); refine boxG HB #[.int .i64 a0_0, .slice A0_1 l0_1.length c0_1] 26 ?_; intro gb375 hg w4 BK375 GE375 hb; replace HB := bst HB hb; clear hb hg; obtain ⟨_, _, _, _⟩ := blk2 BK375) | ((with_reducible refine gate_callee (f := 20) rfl ?_); refine goesQ (some 9) Tryd.func20 #[.agg #[.int .i64 a0_0, .slice A0_1 l0_1.length c0_1]] ?_; (with_reducible refine (spec_orGood.calls k a0_0 _ _ l0_1 true _ ?_ ?_ A2.out).mono ?_); exact C_g HR0_1 HB; exact HC0_1.out; rintro e w6 ⟨rfl, hb⟩; refine ⟨_, rfl, ?_⟩; replace BK375 := blkB BK375 hb; replace HB := bst HB hb; clear hb))
  go_loopg [4] k (fun kq v4 w' => ∃ (x4_1 : Int), v4 = .int .i64 x4_1 ∧ Fc (spec_LeastThreshold.l0 kq x4_1 a0_0 l0_1 = some (r1, r2)) ∧ Fc (kq ≤ k) ∧ Fc (w'.heap[gb375]? = some (.cells #[.int .i64 a0_0, (.slice A0_1 l0_1.length c0_1)] 26 (0, 0))) ∧ Fc (Below w.heap.size w w'))
  case atStart => exact ⟨(1), eqS, H', ⟨Nat.le_refl _⟩, bg BK375, hbg HB⟩
  case round =>
   clear H'
   try clear c3
   obtain ⟨x4_1, rfl, HA, HK1, BK375, HB⟩ := hrel
   cases gk with
   | zero => exact absurd HA.out (by simp [spec_LeastThreshold.l0])
   | succ k1 =>
    have H := HA.out
    clear HA
    simp only [spec_LeastThreshold.l0] at H
    rcases iteE H with ⟨c7b0, H⟩ | ⟨c7b0, H⟩
    ·obtain ⟨⟨t377, t380, t383⟩, A8, H⟩ := obE H
     dsimp only at H
     rcases iteE H with ⟨c9b0, H⟩ | ⟨c9b0, H⟩
     ·simp only [Option.some.injEq, Prod.mk.injEq] at H
      obtain ⟨rfl, rfl⟩ := H
      obtain ⟨_, _, _, _⟩ := blk2 BK375
      go_wp2_with (first | ((with_reducible refine gate_callee (f := 21) rfl ?_); refine goesQ (some 18) Tryd.func21 #[.agg #[.int .i64 a0_0, .slice A0_1 l0_1.length c0_1], .int .i64 x4_1] ?_; (with_reducible refine (spec_seRounds.calls k1 a0_0 _ _ l0_1 x4_1 t377 t380 t383 _ ?_ ?_ A8.out).mono ?_); exact C_g HR0_1 HB; exact HC0_1.out; rintro e w11 ⟨v378, v381, rfl, ho0, ho1, hb⟩; refine ⟨_, rfl, ?_⟩; have HO379 := rLo ho0 HB; have HO382 := rLo ho1 HB; replace BK375 := blkB BK375 hb; replace HB := bst HB hb; clear hb ho0 ho1))
      go_ret2
      exact ⟨eqE, bel_g HB.out⟩
     ·have H' := mkA H
      clear H
      obtain ⟨_, _, _, _⟩ := blk2 BK375
      go_wp2_with (first | ((with_reducible refine gate_callee (f := 21) rfl ?_); refine goesQ (some 18) Tryd.func21 #[.agg #[.int .i64 a0_0, .slice A0_1 l0_1.length c0_1], .int .i64 x4_1] ?_; (with_reducible refine (spec_seRounds.calls k1 a0_0 _ _ l0_1 x4_1 t377 t380 t383 _ ?_ ?_ A8.out).mono ?_); exact C_g HR0_1 HB; exact HC0_1.out; rintro e w13 ⟨v378, v381, rfl, ho0, ho1, hb⟩; refine ⟨_, rfl, ?_⟩; have HO379 := rLo ho0 HB; have HO382 := rLo ho1 HB; replace BK375 := blkB BK375 hb; replace HB := bst HB hb; clear hb ho0 ho1))
      go_roundg k1
      case measure => have := HK1.out; omega
      case rel => exact ⟨(wrap64 (x4_1 + 1)), eqS, H', ⟨by have := HK1.out; omega⟩, bg BK375, hbg HB⟩
    ·simp only [Option.some.injEq, Prod.mk.injEq] at H
     obtain ⟨rfl, rfl⟩ := H
     go_wp2
     go_ret2
     exact ⟨eqE, bel_g HB.out⟩
 ·replace c3 := Bool.eq_false_iff.mpr c3
  subst c3
  replace H := ifF H
  simp only [Option.some.injEq, Prod.mk.injEq] at H
  obtain ⟨rfl, rfl⟩ := H
  go_enter Tryd.func7, Tryd.ntmps7
  go_wp2_with (first | ((with_reducible refine gate_dst (N := 1) rfl ?_); refine boxG HB #[.int .i64 a0_0, .slice A0_1 l0_1.length c0_1] 26 ?_; intro gb375 hg w14 BK375 GE375 hb; replace HB := bst HB hb; clear hb hg; obtain ⟨_, _, _, _⟩ := blk2 BK375) | ((with_reducible refine gate_callee (f := 20) rfl ?_); refine goesQ (some 9) Tryd.func20 #[.agg #[.int .i64 a0_0, .slice A0_1 l0_1.length c0_1]] ?_; (with_reducible refine (spec_orGood.calls k a0_0 _ _ l0_1 false _ ?_ ?_ A2.out).mono ?_); exact C_g HR0_1 HB; exact HC0_1.out; rintro e w16 ⟨rfl, hb⟩; refine ⟨_, rfl, ?_⟩; replace BK375 := blkB BK375 hb; replace HB := bst HB hb; clear hb))
  go_ret2
  exact ⟨eqE, bel_g HB.out⟩
theorem impl_relation.goesV_ {P : Program} {ops : Array Oper} {Q : Exit → Act → World → Prop} {rest : List Oper} {oi : Oper} {a : Act} {w : World} (N : Option Tmp) (hd : oi.dst = N) (hg : oi.guard = none) {g : FuncId} {lb : Array Value} {x : Operand} {ax : Array Operand} {ts : Array TypeId}
  (he : ∀ args W, (callFunc g args).run P W = .ok (.enter g args) W) (args : Array Value) (hop : oi.op = .call { callee := .value x, args := ax, argTypes := ts }) (hx : a.eval x = .func (.func g) #[] lb) (hargs : ax.map a.eval ++ lb = args)
  (h : Calls P g args w fun e w' => ∃ v, e = .returned v ∧ wpList P ops Q rest (a.put N v) w') : wpList P ops Q (oi :: rest) a w := by
 refine wpList_plain hg fun K hK => ?_
 have he := he args w
 have hrun : (execOp a.eval oi).run P w = .ok (.enter g args) w := by
  unfold execOp
  simp [hop, resolve, Deferred.ofValue, invoke, hx, hargs, he]
 unfold Oper.wp
 rw [hrun, Oper.upon_enter]
 refine h.mono fun e w'' hh => ?_
 obtain ⟨v, rfl, hk⟩ := hh
 subst hd
 exact hK _ _ hk
mutual
def impl_relation.l0 : Nat → Int → (Int → Int → Option Bool) → Int → Int → Int → List Int → Option (Int × List Int)
 | 0, _, _, _, _, _, _ => none
 | k + 1, x0, x1, x12, x13, x389000, x389001 => if x13 < x12 then (impl_relation.l1 k x0 x1 x13 x12 x13 x0 0 x389000 x389001) else (some (x389000, x389001))
def impl_relation.l1 : Nat → Int → (Int → Int → Option Bool) → Int → Int → Int → Int → Int → Int → List Int → Option (Int × List Int)
 | 0, _, _, _, _, _, _, _, _, _ => none
 | k + 1, x0, x1, x6, x12, x13, x16, x17, x389000, x389001 => if x17 < x16 then ((x1 x6 x17).bind fun t389 => (if t389 = true then (if 0 ≤ x6 then (if x6 < (x389001.length : Int) then (if 0 ≤ x17 then (impl_relation.l1 k x0 x1 x6 x12 x13 x16 (wrap64 (x17 + 1)) x389000 (x389001.set (x6 : Int).toNat (Go.bits .or .i64 (rd x389001 x6) (shl .i64 1 x17)))) else (none)) else (none)) else (none)) else (impl_relation.l1 k x0 x1 x6 x12 x13 x16 (wrap64 (x17 + 1)) x389000 x389001))) else (impl_relation.l0 k x0 x1 x12 (wrap64 (x13 + 1)) x389000 x389001)
end
def impl_relation.f (k : Nat) (a0 : Int) (a1 : (Int → Int → Option Bool)) : Option (Int × List Int) := if 0 ≤ a0 then (if (a0 : Int).toNat ≤ 35184372088832 then (impl_relation.l0 k a0 a1 a0 0 a0 (List.replicate (a0 : Int).toNat 0)) else (none)) else (none)
theorem impl_relation.mono_l : ∀ k, (∀ y0 y1 y2 y3 y4 y5, LeO (impl_relation.l0 k y0 y1 y2 y3 y4 y5) (impl_relation.l0 (k + 1) y0 y1 y2 y3 y4 y5)) ∧ (∀ y0 y1 y2 y3 y4 y5 y6 y7 y8, LeO (impl_relation.l1 k y0 y1 y2 y3 y4 y5 y6 y7 y8) (impl_relation.l1 (k + 1) y0 y1 y2 y3 y4 y5 y6 y7 y8))
 | 0 => ⟨fun _ _ _ _ _ _ r h => by simp [impl_relation.l0] at h, fun _ _ _ _ _ _ _ _ _ r h => by simp [impl_relation.l1] at h⟩
 | k + 1 => by
  obtain ⟨ih0, ih1⟩ := impl_relation.mono_l k
  refine ⟨?_, ?_⟩ <;> intros
  unfold impl_relation.l0
  rotate_left
  unfold impl_relation.l1
  rotate_left
  all_goals repeat' (with_reducible first|apply ih0|apply ih1|apply LeO.refl|apply LeO.none|apply LeO.ite|apply LeO.bind|intro)
theorem impl_relation.mono : ∀ a0 a1 k, LeO (impl_relation.f k a0 a1) (impl_relation.f (k + 1) a0 a1) := by
 intro a0 a1 k
 obtain ⟨ih0, ih1⟩ := impl_relation.mono_l k
 unfold impl_relation.f
 repeat' (with_reducible first|apply ih0|apply ih1|apply LeO.refl|apply LeO.none|apply LeO.ite|apply LeO.bind|intro)
theorem impl_relation.monoF_l : ∀ k, (∀ y0 y1 y2 y3 y4 y5 (G_ : (Int → Int → Option Bool)), (∀ u0_ u1_, LeO (y1 u0_ u1_) (G_ u0_ u1_)) → LeO (impl_relation.l0 k y0 y1 y2 y3 y4 y5) (impl_relation.l0 (k + 1) y0 G_ y2 y3 y4 y5)) ∧ (∀ y0 y1 y2 y3 y4 y5 y6 y7 y8 (G_ : (Int → Int → Option Bool)), (∀ u0_ u1_, LeO (y1 u0_ u1_) (G_ u0_ u1_)) → LeO (impl_relation.l1 k y0 y1 y2 y3 y4 y5 y6 y7 y8) (impl_relation.l1 (k + 1) y0 G_ y2 y3 y4 y5 y6 y7 y8))
 | 0 => ⟨fun _ _ _ _ _ _ _ _ r h => by simp [impl_relation.l0] at h, fun _ _ _ _ _ _ _ _ _ _ _ r h => by simp [impl_relation.l1] at h⟩
 | k + 1 => by
  obtain ⟨ih0, ih1⟩ := impl_relation.monoF_l k
  refine ⟨?_, ?_⟩
  ·intro y0 y1 y2 y3 y4 y5 G_ hF
   unfold impl_relation.l0
   repeat' (with_reducible first|exact ih0 _ _ _ _ _ _ _ hF|exact ih1 _ _ _ _ _ _ _ _ _ _ hF|exact hF _ _|apply LeO.refl|apply LeO.none|apply LeO.ite|apply LeO.bind|intro)
  ·intro y0 y1 y2 y3 y4 y5 y6 y7 y8 G_ hF
   unfold impl_relation.l1
   repeat' (with_reducible first|exact ih0 _ _ _ _ _ _ _ hF|exact ih1 _ _ _ _ _ _ _ _ _ _ hF|exact hF _ _|apply LeO.refl|apply LeO.none|apply LeO.ite|apply LeO.bind|intro)
theorem impl_relation.monoF {a1 G_ : (Int → Int → Option Bool)} (hF : (∀ u0_ u1_, LeO (a1 u0_ u1_) (G_ u0_ u1_))) : ∀ a0 k, LeO (impl_relation.f k a0 a1) (impl_relation.f (k + 1) a0 G_) := by
 intro a0 k
 obtain ⟨ih0, ih1⟩ := impl_relation.monoF_l k
 unfold impl_relation.f
 repeat' (with_reducible first|exact ih0 _ _ _ _ _ _ _ hF|exact ih1 _ _ _ _ _ _ _ _ _ _ hF|exact hF _ _|apply LeO.refl|apply LeO.none|apply LeO.ite|apply LeO.bind|intro)
def impl_relation.T9 : Bool × List (List Nat × List Nat) := (true, [([], []), ([0], [0]), ([], []), ([1, 2], [1, 2]), ([3], [3]), ([], []), ([5], [5]), ([4, 6], [4, 6]), ([1, 2, 0, 1, 2, 3, 4, 5, 6, 7], [1, 2]), ([8, 7, 0, 1, 2, 3, 4, 5, 6, 7], [7, 8])])
def impl_relation.B9 : List Nat := [0, 1, 0, 7, 15, 0, 32, 127, 255, 511]
theorem impl_relation.tab9 : rtab .any (opsOf Tryd.f59 9) = impl_relation.T9 := by kernel_rfl
theorem impl_relation.bits9 : waitsOk impl_relation.T9.2 impl_relation.B9 = true := by kernel_rfl
theorem impl_relation.calls (k : Nat) (a0 : Int) (a1 : (Int → Int → Option Bool)) (g1 : FuncId) (lb1 : Array Value) (he1 : ∀ args_ W_, (callFunc g1 args_).run Tryd.prog W_ = .ok (.enter g1 args_) W_) (r1 : Int) (r2 : List Int) (w : World) (hF1 : ∀ (u0_ : Int) (u1_ : Int) (q : Bool) (W : World), Below w.heap.size w W → a1 u0_ u1_ = some q → Calls Tryd.prog g1 (#[.int .i64 u0_, .int .i64 u1_] ++ lb1) W fun e W' => e = .returned (.bool q) ∧ Below W.heap.size W W') (h : impl_relation.f k a0 a1 = some (r1, r2)) :
  Calls Tryd.prog 59 #[.int .i64 a0, .func (.func g1) #[] lb1] w fun e w' => ∃ v1_ : Value, e = .returned (.agg #[.int .i64 r1, v1_]) ∧ Kd.R (Kd.int .i64) 3 w' w.heap.size (fun _ => True) v1_ r2 ∧ Below w.heap.size w w' := by
 have hu26 := Tryd.underlying26
 have HB := mkA (Below.refl w.heap.size w)
 have H := h
 clear h
 unfold impl_relation.f at H
 obtain ⟨c3b0, c3b1, H⟩ := itNQ H
 obtain ⟨c4b0, c4b1, H⟩ := itNQ H
 obtain ⟨y385, hy385⟩ : ∃ y_ : List Int, y_ = (List.replicate (a0 : Int).toNat 0) := ⟨_, rfl⟩
 rw [← hy385] at H
 have Ny385 := mkA hy385
 clear hy385
 have H' := mkA H
 clear H
 go_enter Tryd.func59, Tryd.ntmps59
 go_wp2_with (first | ((with_reducible refine gate_dst (N := 4) rfl ?_); refine boxG HB #[.int .i64 0, .slice none 0 0] 26 ?_; intro gb384 hg w5 BK384 GE384 hb; replace HB := bst HB hb; clear hb hg) | ((with_reducible refine gate_dst (N := 10) rfl ?_); refine Kd.R_make (Kd.int .i64) _ 3 rfl (N := 10) rfl 24 _ _ rfl a0 rfl rfl Tryd.underlying24 (.int .i64 0) 8 info3 rfl (by decide) (by omega) 0 (ok := fun _ => True) (okp := fun _ => True) rfl (fun _ hk => hk) trivial (ofd) (Nat.le_trans (Nat.mul_le_mul_right _ (ofd : a0.toNat ≤ 35184372088832)) (by omega)) (Below.refl _ _) (Nat.le_refl _) ?_; intro v386 w6 ho7 hb hg_ hnew_; clear hg_ hnew_; (first | rw [← Ny385.out] at ho7 | (simp only [Int.reduceToNat] at ho7; rw [← Ny385.out] at ho7)); have HO387 := rLo ho7 HB; replace BK384 := blkB BK384 hb; replace HB := bst HB hb; clear hb ho7; obtain ⟨Ao8, co8, rfl⟩ := Kd.R_slice HO387.out) | ((with_reducible refine gate_dst (N := 5) rfl ?_); refine boxG HB #[.int .i64 0, .slice none 0 0] 26 ?_; intro gb388 hg w9 BK388 GE388 hb; replace HO387 := rB HO387 hb; have NB384_388 := neL7 BK384 hg; have NB388_384 := neR7 BK384 hg; replace BK384 := blkB BK384 hb; replace HB := bst HB hb; clear hb hg; obtain ⟨_, _, _, _⟩ := blk2 BK388))
 go_loopg [13] k (fun kq v13 w' => ∃ (x13_1 : Int) (x389001_1 : List Int) (u389001 : Value), v13 = .int .i64 x13_1 ∧ Fc (impl_relation.l0 kq a0 a1 a0 x13_1 a0 x389001_1 = some (r1, r2)) ∧ Fc (kq ≤ k) ∧ Fc (Kd.R (Kd.int .i64) 3 w' w.heap.size (fun _ => True) u389001 x389001_1) ∧ Fc (w'.heap[gb384]? = some (.cells #[.int .i64 0, (.slice none 0 0)] 26 (0, 0))) ∧ Fc (w'.heap[gb388]? = some (.cells #[.int .i64 a0, u389001] 26 (0, 0))) ∧ Fc (Below w.heap.size w w'))
 case atStart => exact ⟨(0), (y385), (.slice Ao8 y385.length co8), eqS, H', ⟨Nat.le_refl _⟩, ⟨Kd.R_g (Kd.R_mono (rF HO387 BK388) (fun _ _ => trivial))⟩, ⟨blkT BK384⟩, ⟨blkT BK388⟩, hbg HB⟩
 case round =>
  clear H'
  try clear c3
  try clear c3b0
  try clear c3b1
  try clear c4
  try clear c4b0
  try clear c4b1
  obtain ⟨x13_1, x389001_1, u389001, rfl, HA, HK1, HO_389001, BK384, BK388, HB⟩ := hrel
  cases gk with
  | zero => exact absurd HA.out (by simp [impl_relation.l0])
  | succ k1 =>
   have H := HA.out
   clear HA
   simp only [impl_relation.l0] at H
   rcases iteE H with ⟨c12b0, H⟩ | ⟨c12b0, H⟩
   ·have H' := mkA H
    clear H
    go_wp2
    go_loopg [17] k1 (fun kq v17 w' => ∃ (x17_2 : Int) (x389001_2 : List Int) (u389001 : Value), v17 = .int .i64 x17_2 ∧ Fc (impl_relation.l1 kq a0 a1 x13_1 a0 x13_1 a0 x17_2 a0 x389001_2 = some (r1, r2)) ∧ Fc (kq ≤ k1) ∧ Fc (Kd.R (Kd.int .i64) 3 w' w.heap.size (fun _ => True) u389001 x389001_2) ∧ Fc (w'.heap[gb384]? = some (.cells #[.int .i64 0, (.slice none 0 0)] 26 (0, 0))) ∧ Fc (w'.heap[gb388]? = some (.cells #[.int .i64 a0, u389001] 26 (0, 0))) ∧ Fc (Below w.heap.size w w'))
    case atStart => exact ⟨(0), (x389001_1), (u389001), eqS, H', ⟨Nat.le_refl _⟩, rg HO_389001, bg BK384, bg BK388, hbg HB⟩
    case round =>
     clear H'
     try clear c3
     try clear c3b0
     try clear c3b1
     try clear c4
     try clear c4b0
     try clear c4b1
     try clear c12b0
     obtain ⟨x17_2, x389001_2, u389001, rfl, HA, HK2, HO_389001, BK384, BK388, HB⟩ := hrel
     cases gk with
     | zero => exact absurd HA.out (by simp [impl_relation.l1])
     | succ k2 =>
      have H := HA.out
      clear HA
      simp only [impl_relation.l1] at H
      rcases iteE H with ⟨c13b0, H⟩ | ⟨c13b0, H⟩
      ·obtain ⟨t389, A14, H⟩ := obE H
       by_cases c15 : t389 = true
       ·subst c15
        replace H := ifT H
        obtain ⟨c16b0, H⟩ := itND H
        obtain ⟨c17b0, H⟩ := itND H
        obtain ⟨c18b0, c18b1, H⟩ := itNQ H
        obtain ⟨ji19, hji19⟩ : ∃ j_ : Int, (shl .i64 1 x17_2) = j_ := ⟨_, rfl⟩
        first | rw [hji19] at H | simp only [hji19] at H
        (try rw [hji19] at A14)
        have hji19_ : (IntKind.i64.wrap (1 * 2 ^ min x17_2.toNat 64)) = ji19 := hji19
        have hji19z : x17_2 ≤ 64 → (IntKind.i64.wrap (1 * 2 ^ x17_2.toNat)) = ji19 := shl_small hji19
        have hji19u : (IntKind.i64.wrap (2 ^ min x17_2.toNat 64)) = ji19 := by have h_ := hji19_; rw [Int.one_mul] at h_; exact h_
        have hji19v : x17_2 ≤ 64 → (IntKind.i64.wrap (2 ^ x17_2.toNat)) = ji19 := fun hle_ => by have h_ := hji19z hle_; rw [Int.one_mul] at h_; exact h_
        have hji19y : (wrap64 (1 * 2 ^ min x17_2.toNat 64)) = ji19 := (i64_w _).symm.trans hji19_
        have hji19x : x17_2 ≤ 64 → (wrap64 (1 * 2 ^ x17_2.toNat)) = ji19 := fun h_ => (i64_w _).symm.trans (hji19z h_)
        obtain ⟨y391, hy391⟩ : ∃ y_ : List Int, y_ = (x389001_2.set (x13_1 : Int).toNat (Go.bits .or .i64 (rd x389001_2 x13_1) (ji19))) := ⟨_, rfl⟩
        rw [← hy391] at H
        have Ny391 := mkA hy391
        clear hy391
        have H' := mkA H
        clear H
        try go_wp2_with (first | ((with_reducible refine gate_dst (N := 23) rfl ?_); refine impl_relation.goesV_ (some 23) rfl rfl he1 (#[.int .i64 x13_1, .int .i64 x17_2] ++ lb1) rfl rfl (by (try simp only [List.map_toArray, List.map_cons, List.map_nil]); first | done | rfl | (simp only [List.length_drop, List.length_take]; rfl)) ?_; (with_reducible refine (hF1 x13_1 x17_2 true _ ?sideB A14.out).mono ?_); (case sideB => exact (bel_g HB.out)); rintro e w21 ⟨rfl, hb⟩; refine ⟨_, rfl, ?_⟩; replace HO_389001 := rB HO_389001 hb; replace BK384 := blkB BK384 hb; replace BK388 := blkB BK388 hb; replace HB := bst HB hb; clear hb))
        replace HO_389001 := mkA (Kd.R_drew HO_389001.out)
        replace BK384 := mkA (blk_drew BK384.out)
        replace BK388 := mkA (blk_drew BK388.out)
        replace HB := mkA (below_drew1 HB.out)
        obtain ⟨Ao23, co23, eo23⟩ := Kd.R_slice HO_389001.out
        (first | subst eo23 | (injection eo23 with f1_ f2_ f3_; have f4_ := f1_.symm; have f5_ := f3_.symm; clear f1_ f2_ f3_; subst f4_; subst f5_))
        obtain ⟨p390, q390, ad390, e390, hx390_0⟩ := atI (Kd.R_reads' HO_389001.out).2.2 x13_1
        cases e390
        have p20 : 0 ≤ (x13_1 : Int) := ofd
        have q20 : (x13_1 : Int) < ((x389001_2.length : Int) : Int) := ofd
        obtain ⟨go20, co20, eo20, gb20, gl20, cl20, HG20⟩ := Kd.R_form HO_389001.out (by omega)
        (first | cases eo20 | (injection eo20 with ea_ en_ ec_; (first | subst ea_ | (injection ea_ with ea_; subst ea_)); subst ec_; clear en_))
        have GB20 : Ge _ _ := ⟨gb20⟩
        have GG20 := mkA HG20
        clear gb20 gl20 HG20
        (first | simp only [add_plain] at hx390_0 | skip)
        obtain ⟨hx20_0, hf20_0⟩ := Kd.R_celln 0 HO_389001.out (x13_1 : Int) p20 q20
        replace p20 := eq_true p20
        replace q20 := eq_true q20
        have HP24 := Kd.R_putn HO_389001.out (x13_1 : Int) (Go.bits .or .i64 (rd x389001_2 x13_1) (ji19))
        rw [← Ny391.out] at HP24
        have HQ24 := mkA HP24
        clear HP24
        refine start_ (n := 10) (S := fun w' => w'.cell? ⟨gb388, 0, none⟩ = some (.int .i64 a0) ∧ w'.cell? ⟨gb388, 1, none⟩ = some (.slice (some ⟨go20, 0, none⟩) x389001_2.length co23) ∧ w'.cell? ⟨go20, (x13_1).toNat, none⟩ = some (.int .i64 (rd x389001_2 x13_1))) (ds := [9]) (bm 10 0) (by kernel_rfl) rfl rfl ⟨(blk_cell BK388.out 0).trans rfl, (blk_cell BK388.out 1).trans rfl, hx390_0⟩ (fun hHeld => ?_); refine with_tabW impl_relation.tab9 impl_relation.bits9 (fun HT_ HW_ => ?_)
        generalize w21.drew = w22 at HO_389001 BK384 BK388 HB GG20 HQ24 hf20_0 hx20_0 hx390_0 hHeld ⊢
        refine purW 0 24 10 1 HT_ ?_
        refine purW 2 26 10 5 HT_ ?_
        refine purW 5 29 10 37 HT_ ?_
        refine purW 6 30 10 101 HT_ ?_
        refine takeW 1 (some 25) (bm 10 103) HT_ HW_ hHeld ?_
        refine purW 3 27 10 111 HT_ ?_
        refine takeW 4 (some 28) (bm 10 127) HT_ HW_ hHeld ?_
        refine purW 7 31 10 255 HT_ ?_
        refine purW 8 32 10 511 HT_ ?_
        refine last_ (i := 9) (N := none) (bm 10 1023) rfl rfl (one_of HT_.out (by kernel_rfl)) (by decide) (fun K hK => ?_)
        refine skip_ (w1 := ?_) (by rfl) rfl ?_ ?_
        rotate_left
        ·go_simp
         rfl
        refine hK.out _ _ ?_
        clear hK K
        refine doneW HT_ ?_
        try go_wp2
        go_roundg k2
        case measure => have := HK1.out; have := HK2.out; omega
        case rel => exact ⟨(wrap64 (x17_2 + 1)), (y391), (.slice (some ⟨go20, 0, none⟩) x389001_2.length co23), eqS, H', ⟨by have := HK1.out; have := HK2.out; omega⟩, ⟨Kd.R_g HQ24.out⟩, ⟨by (with_reducible repeat (first | refine blk_drewN ?_ _ | refine blk_drew ?_ | refine blk_alloc ?_ _)); refine blk_far ?_ (by have h_ := Kd.R_ne HO_389001.out BK384.out (by decide); intro e_; exact h_ (by rw [e_]; rfl)) _; (with_reducible repeat (first | refine blk_drewN ?_ _ | refine blk_drew ?_ | refine blk_alloc ?_ _)); exact BK384.out⟩, ⟨by (with_reducible repeat (first | refine blk_drewN ?_ _ | refine blk_drew ?_ | refine blk_alloc ?_ _)); refine blk_far ?_ (by have h_ := Kd.R_ne HO_389001.out BK388.out (by decide); intro e_; exact h_ (by rw [e_]; rfl)) _; (with_reducible repeat (first | refine blk_drewN ?_ _ | refine blk_drew ?_ | refine blk_alloc ?_ _)); exact BK388.out⟩, hbg HB⟩
       ·replace c15 := Bool.eq_false_iff.mpr c15
        subst c15
        replace H := ifF H
        have H' := mkA H
        clear H
        go_wp2_with (first | ((with_reducible refine gate_dst (N := 23) rfl ?_); refine impl_relation.goesV_ (some 23) rfl rfl he1 (#[.int .i64 x13_1, .int .i64 x17_2] ++ lb1) rfl rfl (by (try simp only [List.map_toArray, List.map_cons, List.map_nil]); first | done | rfl | (simp only [List.length_drop, List.length_take]; rfl)) ?_; (with_reducible refine (hF1 x13_1 x17_2 false _ ?sideB A14.out).mono ?_); (case sideB => exact (bel_g HB.out)); rintro e w25 ⟨rfl, hb⟩; refine ⟨_, rfl, ?_⟩; replace HO_389001 := rB HO_389001 hb; replace BK384 := blkB BK384 hb; replace BK388 := blkB BK388 hb; replace HB := bst HB hb; clear hb))
        go_roundg k2
        case measure => have := HK1.out; have := HK2.out; omega
        case rel => exact ⟨(wrap64 (x17_2 + 1)), (x389001_2), (u389001), eqS, H', ⟨by have := HK1.out; have := HK2.out; omega⟩, rg HO_389001, bg BK384, bg BK388, hbg HB⟩
      ·have H' := mkA H
       clear H
       go_wp2
       go_roundg k2
       case measure => have := HK1.out; have := HK2.out; omega
       case rel => exact ⟨(wrap64 (x13_1 + 1)), (x389001_2), (u389001), eqS, H', ⟨by have := HK1.out; have := HK2.out; omega⟩, rg HO_389001, bg BK384, bg BK388, hbg HB⟩
   ·simp only [Option.some.injEq, Prod.mk.injEq] at H
    obtain ⟨rfl, rfl⟩ := H
    obtain ⟨_, _, _, _⟩ := blk2 BK388
    obtain ⟨_, _, _, _⟩ := blk2 BK384
    obtain ⟨Ao29, co29, rfl⟩ := Kd.R_slice HO_389001.out
    go_wp2
    refine bodyPost_ret (results_cell_row rfl _ _ gb384 26 #[.int .i64 a0, .slice Ao29 x389001_1.length co29] (0, 0) _ rfl (blkT BK384) Tryd.underlying26 rfl (by kernel_rfl)) rfl ?_
    exact ⟨_, eqE, Kd.R_g (Kd.R_mono (rF HO_389001 BK384) (fun _ _ => trivial)), bel_g HB.out⟩
def impl_Order_mirror_1.f (a0 : Int) (a1 : Int) (a2_0 : Int) (l2_1 : List Int) : Option (Bool) := (impl_Order_better.f a2_0 l2_1 a1 a0).bind fun t393 => (some t393)
theorem impl_Order_mirror_1.calls (a0 : Int) (a1 : Int) (gB2 : Nat) (a2_0 : Int) (A2_1 : Option Addr) (c2_1 : Nat) (l2_1 : List Int) (r : Bool) (w : World) (hb2 : w.heap[gB2]? = some (.cells #[.int .i64 a2_0, .slice A2_1 l2_1.length c2_1] 26 (0, 0))) (hr2_1 : Kd.C (Kd.int .i64) w A2_1 l2_1.length l2_1) (hc2_1 : l2_1.length ≤ c2_1) (h : impl_Order_mirror_1.f a0 a1 a2_0 l2_1 = some r) :
  Calls Tryd.prog 60 #[.int .i64 a0, .int .i64 a1, .pointer (some ⟨gB2, 0, none⟩)] w fun e w' => e = .returned (.bool r) ∧ Below w.heap.size w w' := by
 have hu26 := Tryd.underlying26
 have BK392 := mkA hb2
 clear hb2
 have HR2_1 := mkA hr2_1
 have HC2_1 := mkA hc2_1
 clear hr2_1 hc2_1
 have HB := mkA (Below.refl w.heap.size w)
 have H := h
 clear h
 unfold impl_Order_mirror_1.f at H
 obtain ⟨t393, A4, H⟩ := obE H
 obtain rfl := Option.some.inj H
 obtain ⟨_, _, _, _⟩ := blk2 BK392
 go_enter Tryd.func60, Tryd.ntmps60
 go_wp2_with (first | ((with_reducible refine gate_callee (f := 25) rfl ?_); refine goesQ (some 9) Tryd.func25 #[.agg #[.int .i64 a2_0, .slice A2_1 l2_1.length c2_1], .int .i64 a1, .int .i64 a0] ?_; (with_reducible refine (impl_Order_better.calls a2_0 _ _ l2_1 a1 a0 t393 _ ?s1 ?s2 A4.out).mono ?_); (case s1 => repeat (first | exact HR2_1.out | (with_reducible refine Kd.C_alloc ?_ _) | (with_reducible refine Kd.C_drewN ?_ _) | (with_reducible refine Kd.C_drew ?_))); (case s2 => exact HC2_1.out); rintro e w6 ⟨rfl, hb⟩; refine ⟨_, rfl, ?_⟩; replace BK392 := blkB BK392 hb; replace HB := bst HB hb; clear hb))
 go_ret
 exact ⟨eqE, bel_g HB.out⟩
def impl_Order_mirror.f (k : Nat) (a0_0 : Int) (l0_1 : List Int) : Option (Int × List Int) := (impl_relation.f k a0_0 (fun u0_ u1_ => impl_Order_mirror_1.f u0_ u1_ a0_0 l0_1)).bind fun bt396 => (some (bt396.1, bt396.2))
theorem impl_Order_mirror.mono : ∀ a0 a1 k, LeO (impl_Order_mirror.f k a0 a1) (impl_Order_mirror.f (k + 1) a0 a1) := by
 intro a0 a1 k
 unfold impl_Order_mirror.f
 repeat' first
   | (with_reducible exact impl_relation.mono _ _ _)
   | (refine impl_relation.monoF ?_ _ _; intros)
   | (with_reducible exact impl_relation.mono _ _ _)
   | (with_reducible exact LeO.refl _)
   | (with_reducible exact LeO.none _)
   | (with_reducible refine LeO.ite ?_ ?_)
   | (with_reducible refine LeO.bind ?_ (fun _ => ?_))
   | exact impl_relation.mono _ _ _
   | exact LeO.none _
   | refine LeO.ite ?_ ?_
   | refine LeO.bind ?_ (fun _ => ?_)
theorem impl_Order_mirror.calls (k : Nat) (a0_0 : Int) (A0_1 : Option Addr) (c0_1 : Nat) (l0_1 : List Int) (r1 : Int) (r2 : List Int) (w : World) (hr0_1 : Kd.C (Kd.int .i64) w A0_1 l0_1.length l0_1) (hc0_1 : l0_1.length ≤ c0_1) (h : impl_Order_mirror.f k a0_0 l0_1 = some (r1, r2)) :
  Calls Tryd.prog 45 #[.agg #[.int .i64 a0_0, .slice A0_1 l0_1.length c0_1]] w fun e w' => ∃ v1_ : Value, e = .returned (.agg #[.int .i64 r1, v1_]) ∧ Kd.R (Kd.int .i64) 3 w' w.heap.size (fun _ => True) v1_ r2 ∧ Below w.heap.size w w' := by
 have hu26 := Tryd.underlying26
 have HR0_1 := mkA hr0_1
 have HC0_1 := mkA hc0_1
 clear hr0_1 hc0_1
 have HB := mkA (Below.refl w.heap.size w)
 have H := h
 clear h
 unfold impl_Order_mirror.f at H
 obtain ⟨⟨t396, t397⟩, A2, H⟩ := obE H
 dsimp only at H
 simp only [Option.some.injEq, Prod.mk.injEq] at H
 obtain ⟨rfl, rfl⟩ := H
 go_enter Tryd.func45, Tryd.ntmps45
 go_wp2_with (first | ((with_reducible refine gate_dst (N := 1) rfl ?_); refine boxG HB #[.int .i64 a0_0, .slice A0_1 l0_1.length c0_1] 26 ?_; intro gb394 hg w3 BK394 GE394 hb; replace HB := bst HB hb; clear hb hg) | ((with_reducible refine gate_dst (N := 2) rfl ?_); refine boxG HB #[.int .i64 0, .slice none 0 0] 26 ?_; intro gb395 hg w4 BK395 GE395 hb; have NB394_395 := neL7 BK394 hg; have NB395_394 := neR7 BK394 hg; replace BK394 := blkB BK394 hb; replace HB := bst HB hb; clear hb hg; obtain ⟨_, _, _, _⟩ := blk2 BK394) | ((with_reducible refine gate_callee (f := 59) rfl ?_); refine goesQ (some 6) Tryd.func59 #[.int .i64 a0_0, .func (.func 60) #[] #[.pointer (some ⟨gb394, 0, none⟩)]] ?_; (with_reducible refine (impl_relation.calls k a0_0 (fun u0_ u1_ => impl_Order_mirror_1.f u0_ u1_ a0_0 l0_1) 60 #[.pointer (some ⟨gb394, 0, none⟩)] (fun args_ W_ => enters_ Tryd.func60 (by kernel_rfl) rfl args_ W_) t396 t397 _ ?s1 A2.out).mono ?_); (case s1 => exact fun u0_ u1_ q_ W_ hb_ hq_ => (impl_Order_mirror_1.calls u0_ u1_ gb394 a0_0 A0_1 c0_1 l0_1 q_ W_ (blk_below (show _ = some (Obj.cells #[.int .i64 a0_0, .slice A0_1 l0_1.length c0_1] 26 (0, 0)) from blkT BK394) hb_) (Kd.C_below (show Kd.C (Kd.int .i64) _ A0_1 l0_1.length l0_1 from by exact C_g HR0_1 HB) hb_) (by exact HC0_1.out) hq_).mono (fun _ _ h_ => ⟨h_.1, h_.2⟩)); rintro e w7 ⟨v398, rfl, ho0, hb⟩; refine ⟨_, rfl, ?_⟩; have HO399 := rLo ho0 HB; replace BK394 := blkB BK394 hb; replace BK395 := blkB BK395 hb; replace HB := bst HB hb; clear hb ho0; obtain ⟨_, _, _, _⟩ := blk2 BK395; obtain ⟨Ao9, co9, rfl⟩ := Kd.R_slice HO399.out))
 refine bodyPost_ret (results_cell_row rfl _ _ gb395 26 #[.int .i64 t396, .slice Ao9 t397.length co9] (0, 0) _ rfl (blkT BK395) Tryd.underlying26 rfl (by kernel_rfl)) rfl ?_
 exact ⟨_, eqE, Kd.R_g (Kd.R_mono (rF HO399 BK395) (fun _ _ => trivial)), bel_g HB.out⟩
end Go.Proofs.YtmoemabbmjdhgaaDoor.Q
