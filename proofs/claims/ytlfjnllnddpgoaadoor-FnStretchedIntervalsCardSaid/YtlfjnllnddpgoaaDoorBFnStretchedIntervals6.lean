import Derived.Test.YtlfjnllnddpgoaaDoorBFnStretchedIntervals3
namespace Go.Proofs.YtlfjnllnddpgoaaDoor.Q
open Go.RowKit Go.Proofs.YtlfjnllnddpgoaaDoorW.PrintWords Go.Proofs.YtlfjnllnddpgoaaDoorW.PrintLast Go.Proofs.YtlfjnllnddpgoaaDoorW.PrintMore
attribute [local go_sem] max2_int min2_int max_two min_two max_three min_three max_four min_four neB_f
set_option linter.unusedVariables false
set_option maxHeartbeats 8000000
set_option maxRecDepth 100000
set_option linter.unusedSimpArgs false
theorem impl_relation.goesV_ {P : Program} {ops : Array Oper} {Q : Exit → Act → World → Prop} {rest : List Oper} {oi : Oper} {a : Act} {w : World} (N : Option Tmp) (hd : oi.dst = N) (hg : oi.guard = none) {g : FuncId} {lb : Array Value} {x : Operand} {ax : Array Operand} {ts : Array TypeId}
  (he : ∀ args W, (callFunc g args).run P W = .ok (.enter g args) W) (args : Array Value) (hop : oi.op = .call { callee := .value x, args := ax, argTypes := ts }) (hx : a.eval x = .func (.func g) #[] lb) (hargs : ax.map a.eval ++ lb = args)
  (h : Calls P g args w fun e w' => ∃ v, e = .returned v ∧ wpList P ops Q rest (a.put N v) w') : wpList P ops Q (oi :: rest) a w := by
 refine wpList_plain hg fun K hK => ?_
 have he := he args w
 have hrun : (execOp a.eval oi).run P w = .ok (.enter g args) w := by
  unfold execOp
  simp [hop, resolve, Deferred.ofValue, invoke, hx, hargs, he]
 unfold Oper.wp
 rw [hrun, Oper.upon_enter]
 refine h.mono fun e w'' hh => ?_
 obtain ⟨v, rfl, hk⟩ := hh
 subst hd
 exact hK _ _ hk
mutual
def impl_relation.l0 : Nat → Int → (Int → Int → Option Bool) → Int → Int → Int → List Int → Option (Int × List Int)
 | 0, _, _, _, _, _, _ => none
 | k + 1, x0, x1, x12, x13, x228000, x228001 => if x13 < x12 then (impl_relation.l1 k x0 x1 x13 x12 x13 x0 0 x228000 x228001) else (some (x228000, x228001))
def impl_relation.l1 : Nat → Int → (Int → Int → Option Bool) → Int → Int → Int → Int → Int → Int → List Int → Option (Int × List Int)
 | 0, _, _, _, _, _, _, _, _, _ => none
 | k + 1, x0, x1, x6, x12, x13, x16, x17, x228000, x228001 => if x17 < x16 then ((x1 x6 x17).bind fun t228 => (if t228 = true then (if 0 ≤ x6 then (if x6 < (x228001.length : Int) then (if 0 ≤ x17 then (impl_relation.l1 k x0 x1 x6 x12 x13 x16 (wrap64 (x17 + 1)) x228000 (x228001.set (x6 : Int).toNat (Go.bits .or .i64 (rd x228001 x6) (shl .i64 1 x17)))) else (none)) else (none)) else (none)) else (impl_relation.l1 k x0 x1 x6 x12 x13 x16 (wrap64 (x17 + 1)) x228000 x228001))) else (impl_relation.l0 k x0 x1 x12 (wrap64 (x13 + 1)) x228000 x228001)
end
def impl_relation.f (k : Nat) (a0 : Int) (a1 : (Int → Int → Option Bool)) : Option (Int × List Int) := if 0 ≤ a0 then (if (a0 : Int).toNat ≤ 35184372088832 then (impl_relation.l0 k a0 a1 a0 0 a0 (List.replicate (a0 : Int).toNat 0)) else (none)) else (none)
theorem impl_relation.mono_l : ∀ k, (∀ y0 y1 y2 y3 y4 y5, LeO (impl_relation.l0 k y0 y1 y2 y3 y4 y5) (impl_relation.l0 (k + 1) y0 y1 y2 y3 y4 y5)) ∧ (∀ y0 y1 y2 y3 y4 y5 y6 y7 y8, LeO (impl_relation.l1 k y0 y1 y2 y3 y4 y5 y6 y7 y8) (impl_relation.l1 (k + 1) y0 y1 y2 y3 y4 y5 y6 y7 y8))
 | 0 => ⟨fun _ _ _ _ _ _ r h => by simp [impl_relation.l0] at h, fun _ _ _ _ _ _ _ _ _ r h => by simp [impl_relation.l1] at h⟩
 | k + 1 => by
  obtain ⟨ih0, ih1⟩ := impl_relation.mono_l k
  refine ⟨?_, ?_⟩ <;> intros
  unfold impl_relation.l0
  rotate_left
  unfold impl_relation.l1
  rotate_left
  all_goals repeat' (with_reducible first|apply ih0|apply ih1|apply LeO.refl|apply LeO.none|apply LeO.ite|apply LeO.bind|intro)
theorem impl_relation.mono : ∀ a0 a1 k, LeO (impl_relation.f k a0 a1) (impl_relation.f (k + 1) a0 a1) := by
 intro a0 a1 k
 obtain ⟨ih0, ih1⟩ := impl_relation.mono_l k
 unfold impl_relation.f
 repeat' (with_reducible first|apply ih0|apply ih1|apply LeO.refl|apply LeO.none|apply LeO.ite|apply LeO.bind|intro)
theorem impl_relation.monoF_l : ∀ k, (∀ y0 y1 y2 y3 y4 y5 (G_ : (Int → Int → Option Bool)), (∀ u0_ u1_, LeO (y1 u0_ u1_) (G_ u0_ u1_)) → LeO (impl_relation.l0 k y0 y1 y2 y3 y4 y5) (impl_relation.l0 (k + 1) y0 G_ y2 y3 y4 y5)) ∧ (∀ y0 y1 y2 y3 y4 y5 y6 y7 y8 (G_ : (Int → Int → Option Bool)), (∀ u0_ u1_, LeO (y1 u0_ u1_) (G_ u0_ u1_)) → LeO (impl_relation.l1 k y0 y1 y2 y3 y4 y5 y6 y7 y8) (impl_relation.l1 (k + 1) y0 G_ y2 y3 y4 y5 y6 y7 y8))
 | 0 => ⟨fun _ _ _ _ _ _ _ _ r h => by simp [impl_relation.l0] at h, fun _ _ _ _ _ _ _ _ _ _ _ r h => by simp [impl_relation.l1] at h⟩
 | k + 1 => by
  obtain ⟨ih0, ih1⟩ := impl_relation.monoF_l k
  refine ⟨?_, ?_⟩
  ·intro y0 y1 y2 y3 y4 y5 G_ hF
   unfold impl_relation.l0
   repeat' (with_reducible first|exact ih0 _ _ _ _ _ _ _ hF|exact ih1 _ _ _ _ _ _ _ _ _ _ hF|exact hF _ _|apply LeO.refl|apply LeO.none|apply LeO.ite|apply LeO.bind|intro)
  ·intro y0 y1 y2 y3 y4 y5 y6 y7 y8 G_ hF
   unfold impl_relation.l1
   repeat' (with_reducible first|exact ih0 _ _ _ _ _ _ _ hF|exact ih1 _ _ _ _ _ _ _ _ _ _ hF|exact hF _ _|apply LeO.refl|apply LeO.none|apply LeO.ite|apply LeO.bind|intro)
theorem impl_relation.monoF {a1 G_ : (Int → Int → Option Bool)} (hF : (∀ u0_ u1_, LeO (a1 u0_ u1_) (G_ u0_ u1_))) : ∀ a0 k, LeO (impl_relation.f k a0 a1) (impl_relation.f (k + 1) a0 G_) := by
 intro a0 k
 obtain ⟨ih0, ih1⟩ := impl_relation.monoF_l k
 unfold impl_relation.f
 repeat' (with_reducible first|exact ih0 _ _ _ _ _ _ _ hF|exact ih1 _ _ _ _ _ _ _ _ _ _ hF|exact hF _ _|apply LeO.refl|apply LeO.none|apply LeO.ite|apply LeO.bind|intro)
def impl_relation.T9 : Bool × List (List Nat × List Nat) := (true, [([], []), ([0], [0]), ([], []), ([1, 2], [1, 2]), ([3], [3]), ([], []), ([5], [5]), ([4, 6], [4, 6]), ([1, 2, 0, 1, 2, 3, 4, 5, 6, 7], [1, 2]), ([8, 7, 0, 1, 2, 3, 4, 5, 6, 7], [7, 8])])
def impl_relation.B9 : List Nat := [0, 1, 0, 7, 15, 0, 32, 127, 255, 511]
theorem impl_relation.tab9 : rtab .any (opsOf Tryd.f42 9) = impl_relation.T9 := by kernel_rfl
theorem impl_relation.bits9 : waitsOk impl_relation.T9.2 impl_relation.B9 = true := by kernel_rfl
theorem impl_relation.calls (k : Nat) (a0 : Int) (a1 : (Int → Int → Option Bool)) (g1 : FuncId) (lb1 : Array Value) (he1 : ∀ args_ W_, (callFunc g1 args_).run Tryd.prog W_ = .ok (.enter g1 args_) W_) (r1 : Int) (r2 : List Int) (w : World) (hF1 : ∀ (u0_ : Int) (u1_ : Int) (q : Bool) (W : World), Below w.heap.size w W → a1 u0_ u1_ = some q → Calls Tryd.prog g1 (#[.int .i64 u0_, .int .i64 u1_] ++ lb1) W fun e W' => e = .returned (.bool q) ∧ Below W.heap.size W W') (h : impl_relation.f k a0 a1 = some (r1, r2)) :
  Calls Tryd.prog 42 #[.int .i64 a0, .func (.func g1) #[] lb1] w fun e w' => ∃ v1_ : Value, e = .returned (.agg #[.int .i64 r1, v1_]) ∧ Kd.R (Kd.int .i64) 3 w' w.heap.size (fun _ => True) v1_ r2 ∧ Below w.heap.size w w' := by
 have hu32 := Tryd.underlying32
 have HB := mkA (Below.refl w.heap.size w)
 have H := h
 clear h
 unfold impl_relation.f at H
 obtain ⟨c3b0, c3b1, H⟩ := itNQ H
 obtain ⟨c4b0, c4b1, H⟩ := itNQ H
 obtain ⟨y224, hy224⟩ : ∃ y_ : List Int, y_ = (List.replicate (a0 : Int).toNat 0) := ⟨_, rfl⟩
 rw [← hy224] at H
 have Ny224 := mkA hy224
 clear hy224
 have H' := mkA H
 clear H
 go_enter Tryd.func42, Tryd.ntmps42
 go_wp2_with (first | ((with_reducible refine gate_dst (N := 4) rfl ?_); refine boxG HB #[.int .i64 0, .slice none 0 0] 32 ?_; intro gb223 hg w5 BK223 GE223 hb; replace HB := bst HB hb; clear hb hg) | ((with_reducible refine gate_dst (N := 10) rfl ?_); refine Kd.R_make (Kd.int .i64) _ 3 rfl (N := 10) rfl 30 _ _ rfl a0 rfl rfl Tryd.underlying30 (.int .i64 0) 8 info3 rfl (by decide) (by omega) 0 (ok := fun _ => True) (okp := fun _ => True) rfl (fun _ hk => hk) trivial (ofd) (Nat.le_trans (Nat.mul_le_mul_right _ (ofd : a0.toNat ≤ 35184372088832)) (by omega)) (Below.refl _ _) (Nat.le_refl _) ?_; intro v225 w6 ho7 hb hg_ hnew_; clear hg_ hnew_; (first | rw [← Ny224.out] at ho7 | (simp only [Int.reduceToNat] at ho7; rw [← Ny224.out] at ho7)); have HO226 := rLo ho7 HB; replace BK223 := blkB BK223 hb; replace HB := bst HB hb; clear hb ho7; obtain ⟨Ao8, co8, rfl⟩ := Kd.R_slice HO226.out) | ((with_reducible refine gate_dst (N := 5) rfl ?_); refine boxG HB #[.int .i64 0, .slice none 0 0] 32 ?_; intro gb227 hg w9 BK227 GE227 hb; replace HO226 := rB HO226 hb; have NB223_227 := neL7 BK223 hg; have NB227_223 := neR7 BK223 hg; replace BK223 := blkB BK223 hb; replace HB := bst HB hb; clear hb hg; obtain ⟨_, _, _, _⟩ := blk2 BK227))
 go_loopg [13] k (fun kq v13 w' => ∃ (x13_1 : Int) (x228001_1 : List Int) (u228001 : Value), v13 = .int .i64 x13_1 ∧ Fc (impl_relation.l0 kq a0 a1 a0 x13_1 a0 x228001_1 = some (r1, r2)) ∧ Fc (kq ≤ k) ∧ Fc (Kd.R (Kd.int .i64) 3 w' w.heap.size (fun _ => True) u228001 x228001_1) ∧ Fc (w'.heap[gb223]? = some (.cells #[.int .i64 0, (.slice none 0 0)] 32 (0, 0))) ∧ Fc (w'.heap[gb227]? = some (.cells #[.int .i64 a0, u228001] 32 (0, 0))) ∧ Fc (Below w.heap.size w w'))
 case atStart => exact ⟨(0), (y224), (.slice Ao8 y224.length co8), eqS, H', ⟨Nat.le_refl _⟩, ⟨Kd.R_g (Kd.R_mono (rF HO226 BK227) (fun _ _ => trivial))⟩, ⟨blkT BK223⟩, ⟨blkT BK227⟩, hbg HB⟩
 case round =>
  clear H'
  try clear c3
  try clear c3b0
  try clear c3b1
  try clear c4
  try clear c4b0
  try clear c4b1
  obtain ⟨x13_1, x228001_1, u228001, rfl, HA, HK1, HO_228001, BK223, BK227, HB⟩ := hrel
  cases gk with
  | zero => exact absurd HA.out (by simp [impl_relation.l0])
  | succ k1 =>
   have H := HA.out
   clear HA
   simp only [impl_relation.l0] at H
   rcases iteE H with ⟨c12b0, H⟩ | ⟨c12b0, H⟩
   ·have H' := mkA H
    clear H
    go_wp2
    go_loopg [17] k1 (fun kq v17 w' => ∃ (x17_2 : Int) (x228001_2 : List Int) (u228001 : Value), v17 = .int .i64 x17_2 ∧ Fc (impl_relation.l1 kq a0 a1 x13_1 a0 x13_1 a0 x17_2 a0 x228001_2 = some (r1, r2)) ∧ Fc (kq ≤ k1) ∧ Fc (Kd.R (Kd.int .i64) 3 w' w.heap.size (fun _ => True) u228001 x228001_2) ∧ Fc (w'.heap[gb223]? = some (.cells #[.int .i64 0, (.slice none 0 0)] 32 (0, 0))) ∧ Fc (w'.heap[gb227]? = some (.cells #[.int .i64 a0, u228001] 32 (0, 0))) ∧ Fc (Below w.heap.size w w'))
    case atStart => exact ⟨(0), (x228001_1), (u228001), eqS, H', ⟨Nat.le_refl _⟩, rg HO_228001, bg BK223, bg BK227, hbg HB⟩
    case round =>
     clear H'
     try clear c3
     try clear c3b0
     try clear c3b1
     try clear c4
     try clear c4b0
     try clear c4b1
     try clear c12b0
     obtain ⟨x17_2, x228001_2, u228001, rfl, HA, HK2, HO_228001, BK223, BK227, HB⟩ := hrel
     cases gk with
     | zero => exact absurd HA.out (by simp [impl_relation.l1])
     | succ k2 =>
      have H := HA.out
      clear HA
      simp only [impl_relation.l1] at H
      rcases iteE H with ⟨c13b0, H⟩ | ⟨c13b0, H⟩
      ·obtain ⟨t228, A14, H⟩ := obE H
       by_cases c15 : t228 = true
       ·subst c15
        replace H := ifT H
        obtain ⟨c16b0, H⟩ := itND H
        obtain ⟨c17b0, H⟩ := itND H
        obtain ⟨c18b0, c18b1, H⟩ := itNQ H
        obtain ⟨ji19, hji19⟩ : ∃ j_ : Int, (shl .i64 1 x17_2) = j_ := ⟨_, rfl⟩
        first | rw [hji19] at H | simp only [hji19] at H
        (try rw [hji19] at A14)
        have hji19_ : (IntKind.i64.wrap (1 * 2 ^ min x17_2.toNat 64)) = ji19 := hji19
        have hji19z : x17_2 ≤ 64 → (IntKind.i64.wrap (1 * 2 ^ x17_2.toNat)) = ji19 := shl_small hji19
        have hji19u : (IntKind.i64.wrap (2 ^ min x17_2.toNat 64)) = ji19 := by have h_ := hji19_; rw [Int.one_mul] at h_; exact h_
        have hji19v : x17_2 ≤ 64 → (IntKind.i64.wrap (2 ^ x17_2.toNat)) = ji19 := fun hle_ => by have h_ := hji19z hle_; rw [Int.one_mul] at h_; exact h_
        have hji19y : (wrap64 (1 * 2 ^ min x17_2.toNat 64)) = ji19 := (i64_w _).symm.trans hji19_
        have hji19x : x17_2 ≤ 64 → (wrap64 (1 * 2 ^ x17_2.toNat)) = ji19 := fun h_ => (i64_w _).symm.trans (hji19z h_)
        obtain ⟨y230, hy230⟩ : ∃ y_ : List Int, y_ = (x228001_2.set (x13_1 : Int).toNat (Go.bits .or .i64 (rd x228001_2 x13_1) (ji19))) := ⟨_, rfl⟩
        rw [← hy230] at H
        have Ny230 := mkA hy230
        clear hy230
        have H' := mkA H
        clear H
        try go_wp2_with (first | ((with_reducible refine gate_dst (N := 23) rfl ?_); refine impl_relation.goesV_ (some 23) rfl rfl he1 (#[.int .i64 x13_1, .int .i64 x17_2] ++ lb1) rfl rfl (by (try simp only [List.map_toArray, List.map_cons, List.map_nil]); first | done | rfl | (simp only [List.length_drop, List.length_take]; rfl)) ?_; (with_reducible refine (hF1 x13_1 x17_2 true _ ?sideB A14.out).mono ?_); (case sideB => exact (bel_g HB.out)); rintro e w21 ⟨rfl, hb⟩; refine ⟨_, rfl, ?_⟩; replace HO_228001 := rB HO_228001 hb; replace BK223 := blkB BK223 hb; replace BK227 := blkB BK227 hb; replace HB := bst HB hb; clear hb))
        replace HO_228001 := mkA (Kd.R_drew HO_228001.out)
        replace BK223 := mkA (blk_drew BK223.out)
        replace BK227 := mkA (blk_drew BK227.out)
        replace HB := mkA (below_drew1 HB.out)
        obtain ⟨Ao23, co23, eo23⟩ := Kd.R_slice HO_228001.out
        (first | subst eo23 | (injection eo23 with f1_ f2_ f3_; have f4_ := f1_.symm; have f5_ := f3_.symm; clear f1_ f2_ f3_; subst f4_; subst f5_))
        obtain ⟨p229, q229, ad229, e229, hx229_0⟩ := atI (Kd.R_reads' HO_228001.out).2.2 x13_1
        cases e229
        have p20 : 0 ≤ (x13_1 : Int) := ofd
        have q20 : (x13_1 : Int) < ((x228001_2.length : Int) : Int) := ofd
        obtain ⟨go20, co20, eo20, gb20, gl20, cl20, HG20⟩ := Kd.R_form HO_228001.out (by omega)
        (first | cases eo20 | (injection eo20 with ea_ en_ ec_; (first | subst ea_ | (injection ea_ with ea_; subst ea_)); subst ec_; clear en_))
        have GB20 : Ge _ _ := ⟨gb20⟩
        have GG20 := mkA HG20
        clear gb20 gl20 HG20
        (first | simp only [add_plain] at hx229_0 | skip)
        obtain ⟨hx20_0, hf20_0⟩ := Kd.R_celln 0 HO_228001.out (x13_1 : Int) p20 q20
        replace p20 := eq_true p20
        replace q20 := eq_true q20
        have HP24 := Kd.R_putn HO_228001.out (x13_1 : Int) (Go.bits .or .i64 (rd x228001_2 x13_1) (ji19))
        rw [← Ny230.out] at HP24
        have HQ24 := mkA HP24
        clear HP24
        refine start_ (n := 10) (S := fun w' => w'.cell? ⟨gb227, 0, none⟩ = some (.int .i64 a0) ∧ w'.cell? ⟨gb227, 1, none⟩ = some (.slice (some ⟨go20, 0, none⟩) x228001_2.length co23) ∧ w'.cell? ⟨go20, (x13_1).toNat, none⟩ = some (.int .i64 (rd x228001_2 x13_1))) (ds := [9]) (bm 10 0) (by kernel_rfl) rfl rfl ⟨(blk_cell BK227.out 0).trans rfl, (blk_cell BK227.out 1).trans rfl, hx229_0⟩ (fun hHeld => ?_); refine with_tabW impl_relation.tab9 impl_relation.bits9 (fun HT_ HW_ => ?_)
        generalize w21.drew = w22 at HO_228001 BK223 BK227 HB GG20 HQ24 hf20_0 hx20_0 hx229_0 hHeld ⊢
        refine purW 0 24 10 1 HT_ ?_
        refine purW 2 26 10 5 HT_ ?_
        refine purW 5 29 10 37 HT_ ?_
        refine purW 6 30 10 101 HT_ ?_
        refine takeW 1 (some 25) (bm 10 103) HT_ HW_ hHeld ?_
        refine purW 3 27 10 111 HT_ ?_
        refine takeW 4 (some 28) (bm 10 127) HT_ HW_ hHeld ?_
        refine purW 7 31 10 255 HT_ ?_
        refine purW 8 32 10 511 HT_ ?_
        refine last_ (i := 9) (N := none) (bm 10 1023) rfl rfl (one_of HT_.out (by kernel_rfl)) (by decide) (fun K hK => ?_)
        refine skip_ (w1 := ?_) (by rfl) rfl ?_ ?_
        rotate_left
        ·go_simp
         rfl
        refine hK.out _ _ ?_
        clear hK K
        refine doneW HT_ ?_
        try go_wp2
        go_roundg k2
        case measure => have := HK1.out; have := HK2.out; omega
        case rel => exact ⟨(wrap64 (x17_2 + 1)), (y230), (.slice (some ⟨go20, 0, none⟩) x228001_2.length co23), eqS, H', ⟨by have := HK1.out; have := HK2.out; omega⟩, ⟨Kd.R_g HQ24.out⟩, ⟨by (with_reducible repeat (first | refine blk_drewN ?_ _ | refine blk_drew ?_ | refine blk_alloc ?_ _)); refine blk_far ?_ (by have h_ := Kd.R_ne HO_228001.out BK223.out (by decide); intro e_; exact h_ (by rw [e_]; rfl)) _; (with_reducible repeat (first | refine blk_drewN ?_ _ | refine blk_drew ?_ | refine blk_alloc ?_ _)); exact BK223.out⟩, ⟨by (with_reducible repeat (first | refine blk_drewN ?_ _ | refine blk_drew ?_ | refine blk_alloc ?_ _)); refine blk_far ?_ (by have h_ := Kd.R_ne HO_228001.out BK227.out (by decide); intro e_; exact h_ (by rw [e_]; rfl)) _; (with_reducible repeat (first | refine blk_drewN ?_ _ | refine blk_drew ?_ | refine blk_alloc ?_ _)); exact BK227.out⟩, hbg HB⟩
       ·replace c15 := Bool.eq_false_iff.mpr c15
        subst c15
        replace H := ifF H
        have H' := mkA H
        clear H
        go_wp2_with (first | ((with_reducible refine gate_dst (N := 23) rfl ?_); refine impl_relation.goesV_ (some 23) rfl rfl he1 (#[.int .i64 x13_1, .int .i64 x17_2] ++ lb1) rfl rfl (by (try simp only [List.map_toArray, List.map_cons, List.map_nil]); first | done | rfl | (simp only [List.length_drop, List.length_take]; rfl)) ?_; (with_reducible refine (hF1 x13_1 x17_2 false _ ?sideB A14.out).mono ?_); (case sideB => exact (bel_g HB.out)); rintro e w25 ⟨rfl, hb⟩; refine ⟨_, rfl, ?_⟩; replace HO_228001 := rB HO_228001 hb; replace BK223 := blkB BK223 hb; replace BK227 := blkB BK227 hb; replace HB := bst HB hb; clear hb))
        go_roundg k2
        case measure => have := HK1.out; have := HK2.out; omega
        case rel => exact ⟨(wrap64 (x17_2 + 1)), (x228001_2), (u228001), eqS, H', ⟨by have := HK1.out; have := HK2.out; omega⟩, rg HO_228001, bg BK223, bg BK227, hbg HB⟩
      ·have H' := mkA H
       clear H
       go_wp2
       go_roundg k2
       case measure => have := HK1.out; have := HK2.out; omega
       case rel => exact ⟨(wrap64 (x13_1 + 1)), (x228001_2), (u228001), eqS, H', ⟨by have := HK1.out; have := HK2.out; omega⟩, rg HO_228001, bg BK223, bg BK227, hbg HB⟩
   ·simp only [Option.some.injEq, Prod.mk.injEq] at H
    obtain ⟨rfl, rfl⟩ := H
    obtain ⟨_, _, _, _⟩ := blk2 BK227
    obtain ⟨_, _, _, _⟩ := blk2 BK223
    obtain ⟨Ao29, co29, rfl⟩ := Kd.R_slice HO_228001.out
    go_wp2
    refine bodyPost_ret (results_cell_row rfl _ _ gb223 32 #[.int .i64 a0, .slice Ao29 x228001_1.length co29] (0, 0) _ rfl (blkT BK223) Tryd.underlying32 rfl (by kernel_rfl)) rfl ?_
    exact ⟨_, eqE, Kd.R_g (Kd.R_mono (rF HO_228001 BK223) (fun _ _ => trivial)), bel_g HB.out⟩
def impl_orderOf_1.f (a0 : Int) (a1 : Int) (l2_0 : List (S37)) : Option (Bool) := if 0 ≤ a0 then (if a0 < (l2_0.length : Int) then (if 0 ≤ a1 then (if a1 < (l2_0.length : Int) then (some (decide (((rd_T37 l2_0 a0).f1) < ((rd_T37 l2_0 a1).f0)))) else (none)) else (none)) else (none)) else (none)
theorem impl_orderOf_1.calls (a0 : Int) (a1 : Int) (gB2 : Nat) (A2_0 : Option Addr) (c2_0 : Nat) (l2_0 : List (S37)) (r : Bool) (w : World) (hb2 : w.heap[gB2]? = some (.cells #[.slice A2_0 l2_0.length c2_0] 24 (0, 0))) (hr2_0 : Kd.C k37 w A2_0 l2_0.length l2_0) (hc2_0 : l2_0.length ≤ c2_0) (h : impl_orderOf_1.f a0 a1 l2_0 = some r) :
  Calls Tryd.prog 43 #[.int .i64 a0, .int .i64 a1, .pointer (some ⟨gB2, 0, none⟩)] w fun e w' => e = .returned (.bool r) ∧ Drawn0 w w' := by
 have BK231 := mkA hb2
 clear hb2
 have HR2_0 := mkA hr2_0
 have HC2_0 := mkA hc2_0
 clear hr2_0 hc2_0
 have H := h
 clear h
 unfold impl_orderOf_1.f at H
 obtain ⟨c4b0, H⟩ := itND H
 obtain ⟨c5b0, H⟩ := itND H
 obtain ⟨c6b0, H⟩ := itND H
 obtain ⟨c7b0, H⟩ := itND H
 obtain rfl := Option.some.inj H
 obtain ⟨_, _⟩ := blk1 BK231
 have p232 : 0 ≤ (a0 : Int) := ofd
 have q232 : a0 < (l2_0.length : Int) := ofd
 obtain ⟨ad232, e232, hx232_0, hx232_1⟩ := at_T37 HR2_0.out a0 p232 q232
 cases e232
 replace p232 := eq_true p232
 replace q232 := eq_true q232
 have p233 : 0 ≤ (a1 : Int) := ofd
 have q233 : a1 < (l2_0.length : Int) := ofd
 obtain ⟨ad233, e233, hx233_0, hx233_1⟩ := at_T37 HR2_0.out a1 p233 q233
 obtain rfl : ad232 = ad233 := (by injection e233)
 replace p233 := eq_true p233
 replace q233 := eq_true q233
 go_enter Tryd.func43, Tryd.ntmps43
 go_wp2
 repeat (go_quiet (fail); try go_wp2)
 go_ret
 exact ⟨eqS, drE⟩
def impl_orderOf.f (k : Nat) (l0 : List (S37)) : Option (Int × List Int) := (impl_relation.f k (l0.length : Int) (fun u0_ u1_ => impl_orderOf_1.f u0_ u1_ l0)).bind fun bt236 => (some (bt236.1, bt236.2))
theorem impl_orderOf.mono : ∀ a0 k, LeO (impl_orderOf.f k a0) (impl_orderOf.f (k + 1) a0) := by
 intro a0 k
 unfold impl_orderOf.f
 repeat' first
   | (with_reducible exact impl_relation.mono _ _ _)
   | (refine impl_relation.monoF ?_ _ _; intros)
   | (with_reducible exact impl_relation.mono _ _ _)
   | (with_reducible exact LeO.refl _)
   | (with_reducible exact LeO.none _)
   | (with_reducible refine LeO.ite ?_ ?_)
   | (with_reducible refine LeO.bind ?_ (fun _ => ?_))
   | exact impl_relation.mono _ _ _
   | exact LeO.none _
   | refine LeO.ite ?_ ?_
   | refine LeO.bind ?_ (fun _ => ?_)
theorem impl_orderOf.calls (k : Nat) (A0 : Option Addr) (c0 : Nat) (l0 : List (S37)) (r1 : Int) (r2 : List Int) (w : World) (hr0 : Kd.C k37 w A0 l0.length l0) (hc0 : l0.length ≤ c0) (h : impl_orderOf.f k l0 = some (r1, r2)) :
  Calls Tryd.prog 27 #[.slice A0 l0.length c0] w fun e w' => ∃ v1_ : Value, e = .returned (.agg #[.int .i64 r1, v1_]) ∧ Kd.R (Kd.int .i64) 3 w' w.heap.size (fun _ => True) v1_ r2 ∧ Below w.heap.size w w' := by
 have hu32 := Tryd.underlying32
 have HR0 := mkA hr0
 have HC0 := mkA hc0
 clear hr0 hc0
 have HB := mkA (Below.refl w.heap.size w)
 have H := h
 clear h
 unfold impl_orderOf.f at H
 obtain ⟨⟨t236, t237⟩, A2, H⟩ := obE H
 dsimp only at H
 simp only [Option.some.injEq, Prod.mk.injEq] at H
 obtain ⟨rfl, rfl⟩ := H
 go_enter Tryd.func27, Tryd.ntmps27
 go_wp2_with (first | ((with_reducible refine gate_dst (N := 1) rfl ?_); refine boxG HB #[.slice A0 l0.length c0] 24 ?_; intro gb234 hg w3 BK234 GE234 hb; replace HB := bst HB hb; clear hb hg) | ((with_reducible refine gate_dst (N := 2) rfl ?_); refine boxG HB #[.int .i64 0, .slice none 0 0] 32 ?_; intro gb235 hg w4 BK235 GE235 hb; have NB234_235 := neL7 BK234 hg; have NB235_234 := neR7 BK234 hg; replace BK234 := blkB BK234 hb; replace HB := bst HB hb; clear hb hg; obtain ⟨_, _⟩ := blk1 BK234) | ((with_reducible refine gate_callee (f := 42) rfl ?_); refine goesQ (some 6) Tryd.func42 #[.int .i64 (l0.length : Int), .func (.func 43) #[] #[.pointer (some ⟨gb234, 0, none⟩)]] ?_; (with_reducible refine (impl_relation.calls k (l0.length : Int) (fun u0_ u1_ => impl_orderOf_1.f u0_ u1_ l0) 43 #[.pointer (some ⟨gb234, 0, none⟩)] (fun args_ W_ => enters_ Tryd.func43 (by kernel_rfl) rfl args_ W_) t236 t237 _ ?s1 A2.out).mono ?_); (case s1 => exact fun u0_ u1_ q_ W_ hb_ hq_ => (impl_orderOf_1.calls u0_ u1_ gb234 A0 c0 l0 q_ W_ (blk_below (show _ = some (Obj.cells #[.slice A0 l0.length c0] 24 (0, 0)) from blkT BK234) hb_) (Kd.C_below (show Kd.C k37 _ A0 l0.length l0 from by exact C_g HR0 HB) hb_) (by exact HC0.out) hq_).mono (fun _ _ h_ => ⟨h_.1, h_.2.below⟩)); rintro e w7 ⟨v238, rfl, ho0, hb⟩; refine ⟨_, rfl, ?_⟩; have HO239 := rLo ho0 HB; replace BK234 := blkB BK234 hb; replace BK235 := blkB BK235 hb; replace HB := bst HB hb; clear hb ho0; obtain ⟨_, _, _, _⟩ := blk2 BK235; obtain ⟨Ao9, co9, rfl⟩ := Kd.R_slice HO239.out))
 refine bodyPost_ret (results_cell_row rfl _ _ gb235 32 #[.int .i64 t236, .slice Ao9 t237.length co9] (0, 0) _ rfl (blkT BK235) Tryd.underlying32 rfl (by kernel_rfl)) rfl ?_
 exact ⟨_, eqE, Kd.R_g (Kd.R_mono (rF HO239 BK235) (fun _ _ => trivial)), bel_g HB.out⟩
def impl_OrderOfIntervals.f (k : Nat) (l0 : List (S37)) : Option (Int × List Int × Bool) := (impl_AreIntervals.f k l0).bind fun t241 => (if t241 = true then ((impl_orderOf.f k l0).bind fun bt242 => (some (bt242.1, bt242.2, true))) else (some (0, ([] : List Int), false)))
theorem impl_OrderOfIntervals.mono : ∀ a0 k, LeO (impl_OrderOfIntervals.f k a0) (impl_OrderOfIntervals.f (k + 1) a0) := by
 intro a0 k
 unfold impl_OrderOfIntervals.f
 repeat' (with_reducible first|apply impl_AreIntervals.mono|apply impl_orderOf.mono|apply LeO.refl|apply LeO.none|apply LeO.ite|apply LeO.bind|intro)
theorem impl_OrderOfIntervals.calls (k : Nat) (A0 : Option Addr) (c0 : Nat) (l0 : List (S37)) (r1 : Int) (r2 : List Int) (r3 : Bool) (w : World) (hr0 : Kd.C k37 w A0 l0.length l0) (hc0 : l0.length ≤ c0) (h : impl_OrderOfIntervals.f k l0 = some (r1, r2, r3)) :
  Calls Tryd.prog 9 #[.slice A0 l0.length c0] w fun e w' => ∃ v1_ : Value, e = .returned (.tuple #[.agg #[.int .i64 r1, v1_], .bool r3]) ∧ Kd.R (Kd.int .i64) 3 w' w.heap.size (fun _ => True) v1_ r2 ∧ Below w.heap.size w w' := by
 have hu32 := Tryd.underlying32
 have HR0 := mkA hr0
 have HC0 := mkA hc0
 clear hr0 hc0
 have HB := mkA (Below.refl w.heap.size w)
 have H := h
 clear h
 unfold impl_OrderOfIntervals.f at H
 obtain ⟨t241, A2, H⟩ := obE H
 by_cases c3 : t241 = true
 ·subst c3
  replace H := ifT H
  obtain ⟨⟨t242, t243⟩, A4, H⟩ := obE H
  dsimp only at H
  simp only [Option.some.injEq, Prod.mk.injEq] at H
  obtain ⟨rfl, rfl, rfl⟩ := H
  go_enter Tryd.func9, Tryd.ntmps9
  go_wp2_with (first | ((with_reducible refine gate_dst (N := 2) rfl ?_); refine boxG HB #[.int .i64 0, .slice none 0 0] 32 ?_; intro gb240 hg w5 BK240 GE240 hb; replace HB := bst HB hb; clear hb hg) | ((with_reducible refine gate_callee (f := 21) rfl ?_); refine goesQ (some 5) Tryd.func21 #[.slice A0 l0.length c0] ?_; (with_reducible refine (impl_AreIntervals.calls k _ _ l0 true _ ?_ ?_ A2.out).mono ?_); exact C_g HR0 HB; exact HC0.out; rintro e w6 ⟨rfl, hb⟩; refine ⟨_, rfl, ?_⟩; replace BK240 := blkB BK240 hb; replace HB := bst HB hb; clear hb) | ((with_reducible refine gate_callee (f := 27) rfl ?_); refine goesQ (some 9) Tryd.func27 #[.slice A0 l0.length c0] ?_; (with_reducible refine (impl_orderOf.calls k _ _ l0 t242 t243 _ ?_ ?_ A4.out).mono ?_); exact C_g HR0 HB; exact HC0.out; rintro e w7 ⟨v244, rfl, ho0, hb⟩; refine ⟨_, rfl, ?_⟩; have HO245 := rLo ho0 HB; replace BK240 := blkB BK240 hb; replace HB := bst HB hb; clear hb ho0; obtain ⟨_, _, _, _⟩ := blk2 BK240; obtain ⟨Ao9, co9, rfl⟩ := Kd.R_slice HO245.out))
  refine bodyPost_ret (results_ct rfl _ _ gb240 32 #[.int .i64 t242, .slice Ao9 t243.length co9] (0, 0) _ rfl (blkT BK240) Tryd.underlying32 rfl (by kernel_rfl)) rfl ?_
  exact ⟨_, eqE, Kd.R_g (Kd.R_mono (rF HO245 BK240) (fun _ _ => trivial)), bel_g HB.out⟩
 ·replace c3 := Bool.eq_false_iff.mpr c3
  subst c3
  replace H := ifF H
  simp only [Option.some.injEq, Prod.mk.injEq] at H
  obtain ⟨rfl, rfl, rfl⟩ := H
  go_enter Tryd.func9, Tryd.ntmps9
  go_wp2_with (first | ((with_reducible refine gate_dst (N := 2) rfl ?_); refine boxG HB #[.int .i64 0, .slice none 0 0] 32 ?_; intro gb240 hg w10 BK240 GE240 hb; replace HB := bst HB hb; clear hb hg) | ((with_reducible refine gate_callee (f := 21) rfl ?_); refine goesQ (some 5) Tryd.func21 #[.slice A0 l0.length c0] ?_; (with_reducible refine (impl_AreIntervals.calls k _ _ l0 false _ ?_ ?_ A2.out).mono ?_); exact C_g HR0 HB; exact HC0.out; rintro e w11 ⟨rfl, hb⟩; refine ⟨_, rfl, ?_⟩; replace BK240 := blkB BK240 hb; replace HB := bst HB hb; clear hb; obtain ⟨_, _, _, _⟩ := blk2 BK240))
  refine bodyPost_ret (results_ct rfl _ _ gb240 32 #[.int .i64 0, .slice none 0 0] (0, 0) _ rfl (blkT BK240) Tryd.underlying32 rfl (by kernel_rfl)) rfl ?_
  exact ⟨_, eqE, nilE, bel_g HB.out⟩
end Go.Proofs.YtlfjnllnddpgoaaDoor.Q
