import Derived.Test.YtcalgdljcphjaaaDoorBFnStairs2
namespace Go.Proofs.YtcalgdljcphjaaaDoor.Q
open Go.RowKit Go.Proofs.YtcalgdljcphjaaaDoorW.PrintWords Go.Proofs.YtcalgdljcphjaaaDoorW.PrintLast Go.Proofs.YtcalgdljcphjaaaDoorW.PrintMore
attribute [local go_sem] max2_int min2_int max_two min_two max_three min_three max_four min_four neB_f
set_option linter.unusedVariables false
set_option maxHeartbeats 8000000
set_option maxRecDepth 100000
set_option linter.unusedSimpArgs false
def impl_IsStair.l0 : Nat → List Int → List Int → Int → Int → Option (Bool)
 | 0, _, _, _, _ => none
 | k + 1, x0, x5, x6, x7 => if x7 < x6 then (if 0 ≤ x7 then (if x7 < (x5.length : Int) then ((impl_within.f (rd x5 x7) 0 x7).bind fun t153 => (if t153 = true then (if x7 > 0 then (if 0 ≤ (wrap64 (x7 - 1)) then (if (wrap64 (x7 - 1)) < (x0.length : Int) then (if (rd x0 (wrap64 (x7 - 1))) > (rd x5 x7) then (some false) else (impl_IsStair.l0 k x0 x5 x6 (wrap64 (x7 + 1)))) else (none)) else (none)) else (impl_IsStair.l0 k x0 x5 x6 (wrap64 (x7 + 1)))) else (some false))) else (none)) else (none)) else (some (decide ((x0.length : Int) ≤ 10)))
def impl_IsStair.f (k : Nat) (l0 : List Int) : Option (Bool) := impl_IsStair.l0 k l0 l0 (l0.length : Int) 0
theorem impl_IsStair.mono_l : ∀ k, (∀ y0 y1 y2 y3, LeO (impl_IsStair.l0 k y0 y1 y2 y3) (impl_IsStair.l0 (k + 1) y0 y1 y2 y3))
 | 0 => fun _ _ _ _ r h => by simp [impl_IsStair.l0] at h
 | k + 1 => by
  have ih0 := impl_IsStair.mono_l k
  ·intro y0 y1 y2 y3
   unfold impl_IsStair.l0
   repeat' (with_reducible first|apply ih0|apply LeO.refl|apply LeO.none|apply LeO.ite|apply LeO.bind|intro)
theorem impl_IsStair.mono : ∀ a0 k, LeO (impl_IsStair.f k a0) (impl_IsStair.f (k + 1) a0) := by
 intro a0 k
 have ih0 := impl_IsStair.mono_l k
 unfold impl_IsStair.f
 repeat' (with_reducible first|apply ih0|apply LeO.refl|apply LeO.none|apply LeO.ite|apply LeO.bind|intro)
theorem impl_IsStair.calls (k : Nat) (A0 : Option Addr) (c0 : Nat) (l0 : List Int) (r : Bool) (w : World) (hr0 : Kd.C (Kd.int .i64) w A0 l0.length l0) (hc0 : l0.length ≤ c0) (h : impl_IsStair.f k l0 = some r) :
  Calls Tryd.prog 9 #[.slice A0 l0.length c0] w fun e w' => e = .returned (.bool r) ∧ Drawn0 w w' := by
 have HR0 := mkA hr0
 have HC0 := mkA hc0
 clear hr0 hc0
 have H := h
 clear h
 unfold impl_IsStair.f at H
 have H' := mkA H
 clear H
 go_enter Tryd.func9, Tryd.ntmps9
 go_wp2
 go_loopg [7] k (fun kq v7 w' => ∃ (x7_1 : Int), v7 = .int .i64 x7_1 ∧ Fc (impl_IsStair.l0 kq l0 l0 (l0.length : Int) x7_1 = some r) ∧ Fc (kq ≤ k) ∧ Drawn0 w w')
 case atStart => exact ⟨(0), eqS, H', ⟨Nat.le_refl _⟩, by repeat (first | exact Drawn0.refl _ | apply Drawn0.step)⟩
 case round =>
  clear H'
  obtain ⟨x7_1, rfl, HA, HK1, ⟨m1, rfl⟩⟩ := hrel
  cases gk with
  | zero => exact absurd HA.out (by simp [impl_IsStair.l0])
  | succ k1 =>
   have H := HA.out
   clear HA
   simp only [impl_IsStair.l0] at H
   rcases iteE H with ⟨c2b0, H⟩ | ⟨c2b0, H⟩
   ·obtain ⟨c3b0, H⟩ := itND H
    obtain ⟨c4b0, H⟩ := itND H
    obtain ⟨t153, A5, H⟩ := obE H
    by_cases c6 : t153 = true
    ·subst c6
     replace H := ifT H
     rcases iteP H with ⟨c7, H⟩ | ⟨c7, H⟩
     ·have c7b0 := decide_eq_true c7
      clear c7
      obtain ⟨ji8, hji8⟩ : ∃ j_ : Int, (wrap64 (x7_1 - 1)) = j_ := ⟨_, rfl⟩
      first | rw [hji8] at H | simp only [hji8] at H
      (try rw [hji8] at A5)
      have hji8w : (IntKind.i64.wrap (x7_1 - 1)) = ji8 := (i64_w _).trans hji8
      obtain ⟨c9b0, H⟩ := itND H
      obtain ⟨c10b0, H⟩ := itND H
      rcases iteP H with ⟨c11, H⟩ | ⟨c11, H⟩
      ·have c11b0 := decide_eq_true c11
       clear c11
       obtain rfl := Option.some.inj H
       obtain ⟨p152, q152, ad152, e152, hx152_0⟩ := atI HR0.out x7_1
       cases e152
       go_wp2_with (first | ((with_reducible refine gate_callee (f := 27) rfl ?_); refine goesQ (some 14) Tryd.func27 #[.int .i64 (rd l0 x7_1), .int .i64 0, .int .i64 x7_1] ?_; (with_reducible refine (impl_within.calls (rd l0 x7_1) 0 x7_1 true _ A5.out).mono ?_); rintro e w' ⟨rfl, ⟨nd, rfl⟩⟩; refine ⟨_, rfl, ?_⟩; have p154 : 0 ≤ ((ji8) : Int) := ofd; have q154 : (ji8) < (l0.length : Int) := ofd; obtain ⟨ad154, e154, hx154_0⟩ := Kd.at_int HR0.out (ji8) p154 q154; obtain rfl : ad152 = ad154 := (by injection e154); replace p154 := eq_true p154; replace q154 := eq_true q154))
       go_ret
       exact ⟨by first | rfl | (simp; done) | (simp only [← hji8] <;> (first | rfl | simp)) | (simp [*]; done), by repeat (first | exact Drawn0.refl _ | apply Drawn0.step)⟩
      ·have c11b0 := decide_eq_false c11
       clear c11
       have H' := mkA H
       clear H
       obtain ⟨p152, q152, ad152, e152, hx152_0⟩ := atI HR0.out x7_1
       cases e152
       go_wp2_with (first | ((with_reducible refine gate_callee (f := 27) rfl ?_); refine goesQ (some 14) Tryd.func27 #[.int .i64 (rd l0 x7_1), .int .i64 0, .int .i64 x7_1] ?_; (with_reducible refine (impl_within.calls (rd l0 x7_1) 0 x7_1 true _ A5.out).mono ?_); rintro e w' ⟨rfl, ⟨nd, rfl⟩⟩; refine ⟨_, rfl, ?_⟩; have p154 : 0 ≤ ((ji8) : Int) := ofd; have q154 : (ji8) < (l0.length : Int) := ofd; obtain ⟨ad154, e154, hx154_0⟩ := Kd.at_int HR0.out (ji8) p154 q154; obtain rfl : ad152 = ad154 := (by injection e154); replace p154 := eq_true p154; replace q154 := eq_true q154))
       go_roundg k1
       case measure => have := HK1.out; omega
       case rel => exact ⟨(wrap64 (x7_1 + 1)), eqS, H', ⟨by have := HK1.out; omega⟩, by repeat (first | exact Drawn0.refl _ | apply Drawn0.step)⟩
     ·have c7b0 := decide_eq_false c7
      clear c7
      have H' := mkA H
      clear H
      obtain ⟨p152, q152, ad152, e152, hx152_0⟩ := atI HR0.out x7_1
      cases e152
      go_wp2_with (first | ((with_reducible refine gate_callee (f := 27) rfl ?_); refine goesQ (some 14) Tryd.func27 #[.int .i64 (rd l0 x7_1), .int .i64 0, .int .i64 x7_1] ?_; (with_reducible refine (impl_within.calls (rd l0 x7_1) 0 x7_1 true _ A5.out).mono ?_); rintro e w' ⟨rfl, ⟨nd, rfl⟩⟩; refine ⟨_, rfl, ?_⟩))
      go_roundg k1
      case measure => have := HK1.out; omega
      case rel => exact ⟨(wrap64 (x7_1 + 1)), eqS, H', ⟨by have := HK1.out; omega⟩, by repeat (first | exact Drawn0.refl _ | apply Drawn0.step)⟩
    ·replace c6 := Bool.eq_false_iff.mpr c6
     subst c6
     replace H := ifF H
     obtain rfl := Option.some.inj H
     obtain ⟨p152, q152, ad152, e152, hx152_0⟩ := atI HR0.out x7_1
     cases e152
     go_wp2_with (first | ((with_reducible refine gate_callee (f := 27) rfl ?_); refine goesQ (some 14) Tryd.func27 #[.int .i64 (rd l0 x7_1), .int .i64 0, .int .i64 x7_1] ?_; (with_reducible refine (impl_within.calls (rd l0 x7_1) 0 x7_1 false _ A5.out).mono ?_); rintro e w' ⟨rfl, ⟨nd, rfl⟩⟩; refine ⟨_, rfl, ?_⟩))
     go_ret
     exact ⟨eqS, drE⟩
   ·obtain rfl := Option.some.inj H
    go_wp2
    go_ret
    exact ⟨eqS, drE⟩
theorem impl_relation.goesV_ {P : Program} {ops : Array Oper} {Q : Exit → Act → World → Prop} {rest : List Oper} {oi : Oper} {a : Act} {w : World} (N : Option Tmp) (hd : oi.dst = N) (hg : oi.guard = none) {g : FuncId} {lb : Array Value} {x : Operand} {ax : Array Operand} {ts : Array TypeId}
  (he : ∀ args W, (callFunc g args).run P W = .ok (.enter g args) W) (args : Array Value) (hop : oi.op = .call { callee := .value x, args := ax, argTypes := ts }) (hx : a.eval x = .func (.func g) #[] lb) (hargs : ax.map a.eval ++ lb = args)
  (h : Calls P g args w fun e w' => ∃ v, e = .returned v ∧ wpList P ops Q rest (a.put N v) w') : wpList P ops Q (oi :: rest) a w := by
 refine wpList_plain hg fun K hK => ?_
 have he := he args w
 have hrun : (execOp a.eval oi).run P w = .ok (.enter g args) w := by
  unfold execOp
  simp [hop, resolve, Deferred.ofValue, invoke, hx, hargs, he]
 unfold Oper.wp
 rw [hrun, Oper.upon_enter]
 refine h.mono fun e w'' hh => ?_
 obtain ⟨v, rfl, hk⟩ := hh
 subst hd
 exact hK _ _ hk
mutual
def impl_relation.l0 : Nat → Int → (Int → Int → Option Bool) → Int → Int → Int → List Int → Option (Int × List Int)
 | 0, _, _, _, _, _, _ => none
 | k + 1, x0, x1, x12, x13, x160000, x160001 => if x13 < x12 then (impl_relation.l1 k x0 x1 x13 x12 x13 x0 0 x160000 x160001) else (some (x160000, x160001))
def impl_relation.l1 : Nat → Int → (Int → Int → Option Bool) → Int → Int → Int → Int → Int → Int → List Int → Option (Int × List Int)
 | 0, _, _, _, _, _, _, _, _, _ => none
 | k + 1, x0, x1, x6, x12, x13, x16, x17, x160000, x160001 => if x17 < x16 then ((x1 x6 x17).bind fun t160 => (if t160 = true then (if 0 ≤ x6 then (if x6 < (x160001.length : Int) then (if 0 ≤ x17 then (impl_relation.l1 k x0 x1 x6 x12 x13 x16 (wrap64 (x17 + 1)) x160000 (x160001.set (x6 : Int).toNat (Go.bits .or .i64 (rd x160001 x6) (shl .i64 1 x17)))) else (none)) else (none)) else (none)) else (impl_relation.l1 k x0 x1 x6 x12 x13 x16 (wrap64 (x17 + 1)) x160000 x160001))) else (impl_relation.l0 k x0 x1 x12 (wrap64 (x13 + 1)) x160000 x160001)
end
def impl_relation.f (k : Nat) (a0 : Int) (a1 : (Int → Int → Option Bool)) : Option (Int × List Int) := if 0 ≤ a0 then (if (a0 : Int).toNat ≤ 35184372088832 then (impl_relation.l0 k a0 a1 a0 0 a0 (List.replicate (a0 : Int).toNat 0)) else (none)) else (none)
theorem impl_relation.mono_l : ∀ k, (∀ y0 y1 y2 y3 y4 y5, LeO (impl_relation.l0 k y0 y1 y2 y3 y4 y5) (impl_relation.l0 (k + 1) y0 y1 y2 y3 y4 y5)) ∧ (∀ y0 y1 y2 y3 y4 y5 y6 y7 y8, LeO (impl_relation.l1 k y0 y1 y2 y3 y4 y5 y6 y7 y8) (impl_relation.l1 (k + 1) y0 y1 y2 y3 y4 y5 y6 y7 y8))
 | 0 => ⟨fun _ _ _ _ _ _ r h => by simp [impl_relation.l0] at h, fun _ _ _ _ _ _ _ _ _ r h => by simp [impl_relation.l1] at h⟩
 | k + 1 => by
  obtain ⟨ih0, ih1⟩ := impl_relation.mono_l k
  refine ⟨?_, ?_⟩ <;> intros
  unfold impl_relation.l0
  rotate_left
  unfold impl_relation.l1
  rotate_left
  all_goals repeat' (with_reducible first|apply ih0|apply ih1|apply LeO.refl|apply LeO.none|apply LeO.ite|apply LeO.bind|intro)
theorem impl_relation.mono : ∀ a0 a1 k, LeO (impl_relation.f k a0 a1) (impl_relation.f (k + 1) a0 a1) := by
 intro a0 a1 k
 obtain ⟨ih0, ih1⟩ := impl_relation.mono_l k
 unfold impl_relation.f
 repeat' (with_reducible first|apply ih0|apply ih1|apply LeO.refl|apply LeO.none|apply LeO.ite|apply LeO.bind|intro)
theorem impl_relation.monoF_l : ∀ k, (∀ y0 y1 y2 y3 y4 y5 (G_ : (Int → Int → Option Bool)), (∀ u0_ u1_, LeO (y1 u0_ u1_) (G_ u0_ u1_)) → LeO (impl_relation.l0 k y0 y1 y2 y3 y4 y5) (impl_relation.l0 (k + 1) y0 G_ y2 y3 y4 y5)) ∧ (∀ y0 y1 y2 y3 y4 y5 y6 y7 y8 (G_ : (Int → Int → Option Bool)), (∀ u0_ u1_, LeO (y1 u0_ u1_) (G_ u0_ u1_)) → LeO (impl_relation.l1 k y0 y1 y2 y3 y4 y5 y6 y7 y8) (impl_relation.l1 (k + 1) y0 G_ y2 y3 y4 y5 y6 y7 y8))
 | 0 => ⟨fun _ _ _ _ _ _ _ _ r h => by simp [impl_relation.l0] at h, fun _ _ _ _ _ _ _ _ _ _ _ r h => by simp [impl_relation.l1] at h⟩
 | k + 1 => by
  obtain ⟨ih0, ih1⟩ := impl_relation.monoF_l k
  refine ⟨?_, ?_⟩
  ·intro y0 y1 y2 y3 y4 y5 G_ hF
   unfold impl_relation.l0
   repeat' (with_reducible first|exact ih0 _ _ _ _ _ _ _ hF|exact ih1 _ _ _ _ _ _ _ _ _ _ hF|exact hF _ _|apply LeO.refl|apply LeO.none|apply LeO.ite|apply LeO.bind|intro)
  ·intro y0 y1 y2 y3 y4 y5 y6 y7 y8 G_ hF
   unfold impl_relation.l1
   repeat' (with_reducible first|exact ih0 _ _ _ _ _ _ _ hF|exact ih1 _ _ _ _ _ _ _ _ _ _ hF|exact hF _ _|apply LeO.refl|apply LeO.none|apply LeO.ite|apply LeO.bind|intro)
theorem impl_relation.monoF {a1 G_ : (Int → Int → Option Bool)} (hF : (∀ u0_ u1_, LeO (a1 u0_ u1_) (G_ u0_ u1_))) : ∀ a0 k, LeO (impl_relation.f k a0 a1) (impl_relation.f (k + 1) a0 G_) := by
 intro a0 k
 obtain ⟨ih0, ih1⟩ := impl_relation.monoF_l k
 unfold impl_relation.f
 repeat' (with_reducible first|exact ih0 _ _ _ _ _ _ _ hF|exact ih1 _ _ _ _ _ _ _ _ _ _ hF|exact hF _ _|apply LeO.refl|apply LeO.none|apply LeO.ite|apply LeO.bind|intro)
def impl_relation.T9 : Bool × List (List Nat × List Nat) := (true, [([], []), ([0], [0]), ([], []), ([1, 2], [1, 2]), ([3], [3]), ([], []), ([5], [5]), ([4, 6], [4, 6]), ([1, 2, 0, 1, 2, 3, 4, 5, 6, 7], [1, 2]), ([8, 7, 0, 1, 2, 3, 4, 5, 6, 7], [7, 8])])
def impl_relation.B9 : List Nat := [0, 1, 0, 7, 15, 0, 32, 127, 255, 511]
theorem impl_relation.tab9 : rtab .any (opsOf Tryd.f41 9) = impl_relation.T9 := by kernel_rfl
theorem impl_relation.bits9 : waitsOk impl_relation.T9.2 impl_relation.B9 = true := by kernel_rfl
theorem impl_relation.calls (k : Nat) (a0 : Int) (a1 : (Int → Int → Option Bool)) (g1 : FuncId) (lb1 : Array Value) (he1 : ∀ args_ W_, (callFunc g1 args_).run Tryd.prog W_ = .ok (.enter g1 args_) W_) (r1 : Int) (r2 : List Int) (w : World) (hF1 : ∀ (u0_ : Int) (u1_ : Int) (q : Bool) (W : World), Below w.heap.size w W → a1 u0_ u1_ = some q → Calls Tryd.prog g1 (#[.int .i64 u0_, .int .i64 u1_] ++ lb1) W fun e W' => e = .returned (.bool q) ∧ Below W.heap.size W W') (h : impl_relation.f k a0 a1 = some (r1, r2)) :
  Calls Tryd.prog 41 #[.int .i64 a0, .func (.func g1) #[] lb1] w fun e w' => ∃ v1_ : Value, e = .returned (.agg #[.int .i64 r1, v1_]) ∧ Kd.R (Kd.int .i64) 3 w' w.heap.size (fun _ => True) v1_ r2 ∧ Below w.heap.size w w' := by
 have hu27 := Tryd.underlying27
 have HB := mkA (Below.refl w.heap.size w)
 have H := h
 clear h
 unfold impl_relation.f at H
 obtain ⟨c3b0, c3b1, H⟩ := itNQ H
 obtain ⟨c4b0, c4b1, H⟩ := itNQ H
 obtain ⟨y156, hy156⟩ : ∃ y_ : List Int, y_ = (List.replicate (a0 : Int).toNat 0) := ⟨_, rfl⟩
 rw [← hy156] at H
 have Ny156 := mkA hy156
 clear hy156
 have H' := mkA H
 clear H
 go_enter Tryd.func41, Tryd.ntmps41
 go_wp2_with (first | ((with_reducible refine gate_dst (N := 4) rfl ?_); refine boxG HB #[.int .i64 0, .slice none 0 0] 27 ?_; intro gb155 hg w5 BK155 GE155 hb; replace HB := bst HB hb; clear hb hg) | ((with_reducible refine gate_dst (N := 10) rfl ?_); refine Kd.R_make (Kd.int .i64) _ 3 rfl (N := 10) rfl 24 _ _ rfl a0 rfl rfl Tryd.underlying24 (.int .i64 0) 8 info3 rfl (by decide) (by omega) 0 (ok := fun _ => True) (okp := fun _ => True) rfl (fun _ hk => hk) trivial (ofd) (Nat.le_trans (Nat.mul_le_mul_right _ (ofd : a0.toNat ≤ 35184372088832)) (by omega)) (Below.refl _ _) (Nat.le_refl _) ?_; intro v157 w6 ho7 hb hg_ hnew_; clear hg_ hnew_; (first | rw [← Ny156.out] at ho7 | (simp only [Int.reduceToNat] at ho7; rw [← Ny156.out] at ho7)); have HO158 := rLo ho7 HB; replace BK155 := blkB BK155 hb; replace HB := bst HB hb; clear hb ho7; obtain ⟨Ao8, co8, rfl⟩ := Kd.R_slice HO158.out) | ((with_reducible refine gate_dst (N := 5) rfl ?_); refine boxG HB #[.int .i64 0, .slice none 0 0] 27 ?_; intro gb159 hg w9 BK159 GE159 hb; replace HO158 := rB HO158 hb; have NB155_159 := neL7 BK155 hg; have NB159_155 := neR7 BK155 hg; replace BK155 := blkB BK155 hb; replace HB := bst HB hb; clear hb hg; obtain ⟨_, _, _, _⟩ := blk2 BK159))
 go_loopg [13] k (fun kq v13 w' => ∃ (x13_1 : Int) (x160001_1 : List Int) (u160001 : Value), v13 = .int .i64 x13_1 ∧ Fc (impl_relation.l0 kq a0 a1 a0 x13_1 a0 x160001_1 = some (r1, r2)) ∧ Fc (kq ≤ k) ∧ Fc (Kd.R (Kd.int .i64) 3 w' w.heap.size (fun _ => True) u160001 x160001_1) ∧ Fc (w'.heap[gb155]? = some (.cells #[.int .i64 0, (.slice none 0 0)] 27 (0, 0))) ∧ Fc (w'.heap[gb159]? = some (.cells #[.int .i64 a0, u160001] 27 (0, 0))) ∧ Fc (Below w.heap.size w w'))
 case atStart => exact ⟨(0), (y156), (.slice Ao8 y156.length co8), eqS, H', ⟨Nat.le_refl _⟩, ⟨Kd.R_g (Kd.R_mono (rF HO158 BK159) (fun _ _ => trivial))⟩, ⟨blkT BK155⟩, ⟨blkT BK159⟩, hbg HB⟩
 case round =>
  clear H'
  try clear c3
  try clear c3b0
  try clear c3b1
  try clear c4
  try clear c4b0
  try clear c4b1
  obtain ⟨x13_1, x160001_1, u160001, rfl, HA, HK1, HO_160001, BK155, BK159, HB⟩ := hrel
  cases gk with
  | zero => exact absurd HA.out (by simp [impl_relation.l0])
  | succ k1 =>
   have H := HA.out
   clear HA
   simp only [impl_relation.l0] at H
   rcases iteE H with ⟨c12b0, H⟩ | ⟨c12b0, H⟩
   ·have H' := mkA H
    clear H
    go_wp2
    go_loopg [17] k1 (fun kq v17 w' => ∃ (x17_2 : Int) (x160001_2 : List Int) (u160001 : Value), v17 = .int .i64 x17_2 ∧ Fc (impl_relation.l1 kq a0 a1 x13_1 a0 x13_1 a0 x17_2 a0 x160001_2 = some (r1, r2)) ∧ Fc (kq ≤ k1) ∧ Fc (Kd.R (Kd.int .i64) 3 w' w.heap.size (fun _ => True) u160001 x160001_2) ∧ Fc (w'.heap[gb155]? = some (.cells #[.int .i64 0, (.slice none 0 0)] 27 (0, 0))) ∧ Fc (w'.heap[gb159]? = some (.cells #[.int .i64 a0, u160001] 27 (0, 0))) ∧ Fc (Below w.heap.size w w'))
    case atStart => exact ⟨(0), (x160001_1), (u160001), eqS, H', ⟨Nat.le_refl _⟩, rg HO_160001, bg BK155, bg BK159, hbg HB⟩
    case round =>
     clear H'
     try clear c3
     try clear c3b0
     try clear c3b1
     try clear c4
     try clear c4b0
     try clear c4b1
     try clear c12b0
     obtain ⟨x17_2, x160001_2, u160001, rfl, HA, HK2, HO_160001, BK155, BK159, HB⟩ := hrel
     cases gk with
     | zero => exact absurd HA.out (by simp [impl_relation.l1])
     | succ k2 =>
      have H := HA.out
      clear HA
      simp only [impl_relation.l1] at H
      rcases iteE H with ⟨c13b0, H⟩ | ⟨c13b0, H⟩
      ·obtain ⟨t160, A14, H⟩ := obE H
       by_cases c15 : t160 = true
       ·subst c15
        replace H := ifT H
        obtain ⟨c16b0, H⟩ := itND H
        obtain ⟨c17b0, H⟩ := itND H
        obtain ⟨c18b0, c18b1, H⟩ := itNQ H
        obtain ⟨ji19, hji19⟩ : ∃ j_ : Int, (shl .i64 1 x17_2) = j_ := ⟨_, rfl⟩
        first | rw [hji19] at H | simp only [hji19] at H
        (try rw [hji19] at A14)
        have hji19_ : (IntKind.i64.wrap (1 * 2 ^ min x17_2.toNat 64)) = ji19 := hji19
        have hji19z : x17_2 ≤ 64 → (IntKind.i64.wrap (1 * 2 ^ x17_2.toNat)) = ji19 := shl_small hji19
        have hji19u : (IntKind.i64.wrap (2 ^ min x17_2.toNat 64)) = ji19 := by have h_ := hji19_; rw [Int.one_mul] at h_; exact h_
        have hji19v : x17_2 ≤ 64 → (IntKind.i64.wrap (2 ^ x17_2.toNat)) = ji19 := fun hle_ => by have h_ := hji19z hle_; rw [Int.one_mul] at h_; exact h_
        have hji19y : (wrap64 (1 * 2 ^ min x17_2.toNat 64)) = ji19 := (i64_w _).symm.trans hji19_
        have hji19x : x17_2 ≤ 64 → (wrap64 (1 * 2 ^ x17_2.toNat)) = ji19 := fun h_ => (i64_w _).symm.trans (hji19z h_)
        obtain ⟨y162, hy162⟩ : ∃ y_ : List Int, y_ = (x160001_2.set (x13_1 : Int).toNat (Go.bits .or .i64 (rd x160001_2 x13_1) (ji19))) := ⟨_, rfl⟩
        rw [← hy162] at H
        have Ny162 := mkA hy162
        clear hy162
        have H' := mkA H
        clear H
        try go_wp2_with (first | ((with_reducible refine gate_dst (N := 23) rfl ?_); refine impl_relation.goesV_ (some 23) rfl rfl he1 (#[.int .i64 x13_1, .int .i64 x17_2] ++ lb1) rfl rfl (by (try simp only [List.map_toArray, List.map_cons, List.map_nil]); first | done | rfl | (simp only [List.length_drop, List.length_take]; rfl)) ?_; (with_reducible refine (hF1 x13_1 x17_2 true _ ?sideB A14.out).mono ?_); (case sideB => exact (bel_g HB.out)); rintro e w21 ⟨rfl, hb⟩; refine ⟨_, rfl, ?_⟩; replace HO_160001 := rB HO_160001 hb; replace BK155 := blkB BK155 hb; replace BK159 := blkB BK159 hb; replace HB := bst HB hb; clear hb))
        replace HO_160001 := mkA (Kd.R_drew HO_160001.out)
        replace BK155 := mkA (blk_drew BK155.out)
        replace BK159 := mkA (blk_drew BK159.out)
        replace HB := mkA (below_drew1 HB.out)
        obtain ⟨Ao23, co23, eo23⟩ := Kd.R_slice HO_160001.out
        (first | subst eo23 | (injection eo23 with f1_ f2_ f3_; have f4_ := f1_.symm; have f5_ := f3_.symm; clear f1_ f2_ f3_; subst f4_; subst f5_))
        obtain ⟨p161, q161, ad161, e161, hx161_0⟩ := atI (Kd.R_reads' HO_160001.out).2.2 x13_1
        cases e161
        have p20 : 0 ≤ (x13_1 : Int) := ofd
        have q20 : (x13_1 : Int) < ((x160001_2.length : Int) : Int) := ofd
        obtain ⟨go20, co20, eo20, gb20, gl20, cl20, HG20⟩ := Kd.R_form HO_160001.out (by omega)
        (first | cases eo20 | (injection eo20 with ea_ en_ ec_; (first | subst ea_ | (injection ea_ with ea_; subst ea_)); subst ec_; clear en_))
        have GB20 : Ge _ _ := ⟨gb20⟩
        have GG20 := mkA HG20
        clear gb20 gl20 HG20
        (first | simp only [add_plain] at hx161_0 | skip)
        obtain ⟨hx20_0, hf20_0⟩ := Kd.R_celln 0 HO_160001.out (x13_1 : Int) p20 q20
        replace p20 := eq_true p20
        replace q20 := eq_true q20
        have HP24 := Kd.R_putn HO_160001.out (x13_1 : Int) (Go.bits .or .i64 (rd x160001_2 x13_1) (ji19))
        rw [← Ny162.out] at HP24
        have HQ24 := mkA HP24
        clear HP24
        refine start_ (n := 10) (S := fun w' => w'.cell? ⟨gb159, 0, none⟩ = some (.int .i64 a0) ∧ w'.cell? ⟨gb159, 1, none⟩ = some (.slice (some ⟨go20, 0, none⟩) x160001_2.length co23) ∧ w'.cell? ⟨go20, (x13_1).toNat, none⟩ = some (.int .i64 (rd x160001_2 x13_1))) (ds := [9]) (bm 10 0) (by kernel_rfl) rfl rfl ⟨(blk_cell BK159.out 0).trans rfl, (blk_cell BK159.out 1).trans rfl, hx161_0⟩ (fun hHeld => ?_); refine with_tabW impl_relation.tab9 impl_relation.bits9 (fun HT_ HW_ => ?_)
        generalize w21.drew = w22 at HO_160001 BK155 BK159 HB GG20 HQ24 hf20_0 hx161_0 hx20_0 hHeld ⊢
        refine purW 0 24 10 1 HT_ ?_
        refine purW 2 26 10 5 HT_ ?_
        refine purW 5 29 10 37 HT_ ?_
        refine purW 6 30 10 101 HT_ ?_
        refine takeW 1 (some 25) (bm 10 103) HT_ HW_ hHeld ?_
        refine purW 3 27 10 111 HT_ ?_
        refine takeW 4 (some 28) (bm 10 127) HT_ HW_ hHeld ?_
        refine purW 7 31 10 255 HT_ ?_
        refine purW 8 32 10 511 HT_ ?_
        refine last_ (i := 9) (N := none) (bm 10 1023) rfl rfl (one_of HT_.out (by kernel_rfl)) (by decide) (fun K hK => ?_)
        refine skip_ (w1 := ?_) (by rfl) rfl ?_ ?_
        rotate_left
        ·go_simp
         rfl
        refine hK.out _ _ ?_
        clear hK K
        refine doneW HT_ ?_
        try go_wp2
        go_roundg k2
        case measure => have := HK1.out; have := HK2.out; omega
        case rel => exact ⟨(wrap64 (x17_2 + 1)), (y162), (.slice (some ⟨go20, 0, none⟩) x160001_2.length co23), eqS, H', ⟨by have := HK1.out; have := HK2.out; omega⟩, ⟨Kd.R_g HQ24.out⟩, ⟨by (with_reducible repeat (first | refine blk_drewN ?_ _ | refine blk_drew ?_ | refine blk_alloc ?_ _)); refine blk_far ?_ (by have h_ := Kd.R_ne HO_160001.out BK155.out (by decide); intro e_; exact h_ (by rw [e_]; rfl)) _; (with_reducible repeat (first | refine blk_drewN ?_ _ | refine blk_drew ?_ | refine blk_alloc ?_ _)); exact BK155.out⟩, ⟨by (with_reducible repeat (first | refine blk_drewN ?_ _ | refine blk_drew ?_ | refine blk_alloc ?_ _)); refine blk_far ?_ (by have h_ := Kd.R_ne HO_160001.out BK159.out (by decide); intro e_; exact h_ (by rw [e_]; rfl)) _; (with_reducible repeat (first | refine blk_drewN ?_ _ | refine blk_drew ?_ | refine blk_alloc ?_ _)); exact BK159.out⟩, hbg HB⟩
       ·replace c15 := Bool.eq_false_iff.mpr c15
        subst c15
        replace H := ifF H
        have H' := mkA H
        clear H
        go_wp2_with (first | ((with_reducible refine gate_dst (N := 23) rfl ?_); refine impl_relation.goesV_ (some 23) rfl rfl he1 (#[.int .i64 x13_1, .int .i64 x17_2] ++ lb1) rfl rfl (by (try simp only [List.map_toArray, List.map_cons, List.map_nil]); first | done | rfl | (simp only [List.length_drop, List.length_take]; rfl)) ?_; (with_reducible refine (hF1 x13_1 x17_2 false _ ?sideB A14.out).mono ?_); (case sideB => exact (bel_g HB.out)); rintro e w25 ⟨rfl, hb⟩; refine ⟨_, rfl, ?_⟩; replace HO_160001 := rB HO_160001 hb; replace BK155 := blkB BK155 hb; replace BK159 := blkB BK159 hb; replace HB := bst HB hb; clear hb))
        go_roundg k2
        case measure => have := HK1.out; have := HK2.out; omega
        case rel => exact ⟨(wrap64 (x17_2 + 1)), (x160001_2), (u160001), eqS, H', ⟨by have := HK1.out; have := HK2.out; omega⟩, rg HO_160001, bg BK155, bg BK159, hbg HB⟩
      ·have H' := mkA H
       clear H
       go_wp2
       go_roundg k2
       case measure => have := HK1.out; have := HK2.out; omega
       case rel => exact ⟨(wrap64 (x13_1 + 1)), (x160001_2), (u160001), eqS, H', ⟨by have := HK1.out; have := HK2.out; omega⟩, rg HO_160001, bg BK155, bg BK159, hbg HB⟩
   ·simp only [Option.some.injEq, Prod.mk.injEq] at H
    obtain ⟨rfl, rfl⟩ := H
    obtain ⟨_, _, _, _⟩ := blk2 BK159
    obtain ⟨_, _, _, _⟩ := blk2 BK155
    obtain ⟨Ao29, co29, rfl⟩ := Kd.R_slice HO_160001.out
    go_wp2
    refine bodyPost_ret (results_cell_row rfl _ _ gb155 27 #[.int .i64 a0, .slice Ao29 x160001_1.length co29] (0, 0) _ rfl (blkT BK155) Tryd.underlying27 rfl (by kernel_rfl)) rfl ?_
    exact ⟨_, eqE, Kd.R_g (Kd.R_mono (rF HO_160001 BK155) (fun _ _ => trivial)), bel_g HB.out⟩
def impl_ofStair_1.f (a0 : Int) (a1 : Int) (l2_0 : List Int) : Option (Bool) := if 0 ≤ a1 then (if a1 < (l2_0.length : Int) then (some (decide (a0 < (rd l2_0 a1)))) else (none)) else (none)
theorem impl_ofStair_1.calls (a0 : Int) (a1 : Int) (gB2 : Nat) (A2_0 : Option Addr) (c2_0 : Nat) (l2_0 : List Int) (r : Bool) (w : World) (hb2 : w.heap[gB2]? = some (.cells #[.slice A2_0 l2_0.length c2_0] 24 (0, 0))) (hr2_0 : Kd.C (Kd.int .i64) w A2_0 l2_0.length l2_0) (hc2_0 : l2_0.length ≤ c2_0) (h : impl_ofStair_1.f a0 a1 l2_0 = some r) :
  Calls Tryd.prog 42 #[.int .i64 a0, .int .i64 a1, .pointer (some ⟨gB2, 0, none⟩)] w fun e w' => e = .returned (.bool r) ∧ Drawn0 w w' := by
 have BK163 := mkA hb2
 clear hb2
 have HR2_0 := mkA hr2_0
 have HC2_0 := mkA hc2_0
 clear hr2_0 hc2_0
 have H := h
 clear h
 unfold impl_ofStair_1.f at H
 obtain ⟨c4b0, H⟩ := itND H
 obtain ⟨c5b0, H⟩ := itND H
 obtain rfl := Option.some.inj H
 obtain ⟨_, _⟩ := blk1 BK163
 obtain ⟨p164, q164, ad164, e164, hx164_0⟩ := atI HR2_0.out a1
 cases e164
 go_enter Tryd.func42, Tryd.ntmps42
 go_wp2
 go_ret
 exact ⟨eqS, drE⟩
end Go.Proofs.YtcalgdljcphjaaaDoor.Q
