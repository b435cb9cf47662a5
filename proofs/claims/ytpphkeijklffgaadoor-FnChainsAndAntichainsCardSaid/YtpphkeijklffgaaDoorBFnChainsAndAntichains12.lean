import Derived.Test.YtpphkeijklffgaaDoorBFnChainsAndAntichains11
namespace Go.Proofs.YtpphkeijklffgaaDoor.Q
open Go.RowKit Go.Proofs.YtpphkeijklffgaaDoorW.PrintWords Go.Proofs.YtpphkeijklffgaaDoorW.PrintLast Go.Proofs.YtpphkeijklffgaaDoorW.PrintMore
attribute [local go_sem] max2_int min2_int max_two min_two max_three min_three max_four min_four neB_f
set_option linter.unusedVariables false
set_option maxHeartbeats 8000000
set_option maxRecDepth 100000
set_option linter.unusedSimpArgs false
theorem impl_relation.goesV_ {P : Program} {ops : Array Oper} {Q : Exit → Act → World → Prop} {rest : List Oper} {oi : Oper} {a : Act} {w : World} (N : Option Tmp) (hd : oi.dst = N) (hg : oi.guard = none) {g : FuncId} {lb : Array Value} {x : Operand} {ax : Array Operand} {ts : Array TypeId}
  (he : ∀ args W, (callFunc g args).run P W = .ok (.enter g args) W) (args : Array Value) (hop : oi.op = .call { callee := .value x, args := ax, argTypes := ts }) (hx : a.eval x = .func (.func g) #[] lb) (hargs : ax.map a.eval ++ lb = args)
  (h : Calls P g args w fun e w' => ∃ v, e = .returned v ∧ wpList P ops Q rest (a.put N v) w') : wpList P ops Q (oi :: rest) a w := by
 refine wpList_plain hg fun K hK => ?_
 have he := he args w
 have hrun : (execOp a.eval oi).run P w = .ok (.enter g args) w := by
  unfold execOp
  simp [hop, resolve, Deferred.ofValue, invoke, hx, hargs, he]
 unfold Oper.wp
 rw [hrun, Oper.upon_enter]
 refine h.mono fun e w'' hh => ?_
 obtain ⟨v, rfl, hk⟩ := hh
 subst hd
 exact hK _ _ hk
mutual
def impl_relation.l0 : Nat → Int → (Int → Int → Option Bool) → Int → Int → Int → List Int → Option (Int × List Int)
 | 0, _, _, _, _, _, _ => none
 | k + 1, x0, x1, x12, x13, x332000, x332001 => if x13 < x12 then (impl_relation.l1 k x0 x1 x13 x12 x13 x0 0 x332000 x332001) else (some (x332000, x332001))
def impl_relation.l1 : Nat → Int → (Int → Int → Option Bool) → Int → Int → Int → Int → Int → Int → List Int → Option (Int × List Int)
 | 0, _, _, _, _, _, _, _, _, _ => none
 | k + 1, x0, x1, x6, x12, x13, x16, x17, x332000, x332001 => if x17 < x16 then ((x1 x6 x17).bind fun t332 => (if t332 = true then (if 0 ≤ x6 then (if x6 < (x332001.length : Int) then (if 0 ≤ x17 then (impl_relation.l1 k x0 x1 x6 x12 x13 x16 (wrap64 (x17 + 1)) x332000 (x332001.set (x6 : Int).toNat (Go.bits .or .i64 (rd x332001 x6) (shl .i64 1 x17)))) else (none)) else (none)) else (none)) else (impl_relation.l1 k x0 x1 x6 x12 x13 x16 (wrap64 (x17 + 1)) x332000 x332001))) else (impl_relation.l0 k x0 x1 x12 (wrap64 (x13 + 1)) x332000 x332001)
end
def impl_relation.f (k : Nat) (a0 : Int) (a1 : (Int → Int → Option Bool)) : Option (Int × List Int) := if 0 ≤ a0 then (if (a0 : Int).toNat ≤ 35184372088832 then (impl_relation.l0 k a0 a1 a0 0 a0 (List.replicate (a0 : Int).toNat 0)) else (none)) else (none)
theorem impl_relation.mono_l : ∀ k, (∀ y0 y1 y2 y3 y4 y5, LeO (impl_relation.l0 k y0 y1 y2 y3 y4 y5) (impl_relation.l0 (k + 1) y0 y1 y2 y3 y4 y5)) ∧ (∀ y0 y1 y2 y3 y4 y5 y6 y7 y8, LeO (impl_relation.l1 k y0 y1 y2 y3 y4 y5 y6 y7 y8) (impl_relation.l1 (k + 1) y0 y1 y2 y3 y4 y5 y6 y7 y8))
 | 0 => ⟨fun _ _ _ _ _ _ r h => by simp [impl_relation.l0] at h, fun _ _ _ _ _ _ _ _ _ r h => by simp [impl_relation.l1] at h⟩
 | k + 1 => by
  obtain ⟨ih0, ih1⟩ := impl_relation.mono_l k
  refine ⟨?_, ?_⟩ <;> intros
  unfold impl_relation.l0
  rotate_left
  unfold impl_relation.l1
  rotate_left
  all_goals repeat' (with_reducible first|apply ih0|apply ih1|apply LeO.refl|apply LeO.none|apply LeO.ite|apply LeO.bind|intro)
theorem impl_relation.mono : ∀ a0 a1 k, LeO (impl_relation.f k a0 a1) (impl_relation.f (k + 1) a0 a1) := by
 intro a0 a1 k
 obtain ⟨ih0, ih1⟩ := impl_relation.mono_l k
 unfold impl_relation.f
 repeat' (with_reducible first|apply ih0|apply ih1|apply LeO.refl|apply LeO.none|apply LeO.ite|apply LeO.bind|intro)
theorem impl_relation.monoF_l : ∀ k, (∀ y0 y1 y2 y3 y4 y5 (G_ : (Int → Int → Option Bool)), (∀ u0_ u1_, LeO (y1 u0_ u1_) (G_ u0_ u1_)) → LeO (impl_relation.l0 k y0 y1 y2 y3 y4 y5) (impl_relation.l0 (k + 1) y0 G_ y2 y3 y4 y5)) ∧ (∀ y0 y1 y2 y3 y4 y5 y6 y7 y8 (G_ : (Int → Int → Option Bool)), (∀ u0_ u1_, LeO (y1 u0_ u1_) (G_ u0_ u1_)) → LeO (impl_relation.l1 k y0 y1 y2 y3 y4 y5 y6 y7 y8) (impl_relation.l1 (k + 1) y0 G_ y2 y3 y4 y5 y6 y7 y8))
 | 0 => ⟨fun _ _ _ _ _ _ _ _ r h => by simp [impl_relation.l0] at h, fun _ _ _ _ _ _ _ _ _ _ _ r h => by simp [impl_relation.l1] at h⟩
 | k + 1 => by
  obtain ⟨ih0, ih1⟩ := impl_relation.monoF_l k
  refine ⟨?_, ?_⟩
  ·intro y0 y1 y2 y3 y4 y5 G_ hF
   unfold impl_relation.l0
   repeat' (with_reducible first|exact ih0 _ _ _ _ _ _ _ hF|exact ih1 _ _ _ _ _ _ _ _ _ _ hF|exact hF _ _|apply LeO.refl|apply LeO.none|apply LeO.ite|apply LeO.bind|intro)
  ·intro y0 y1 y2 y3 y4 y5 y6 y7 y8 G_ hF
   unfold impl_relation.l1
   repeat' (with_reducible first|exact ih0 _ _ _ _ _ _ _ hF|exact ih1 _ _ _ _ _ _ _ _ _ _ hF|exact hF _ _|apply LeO.refl|apply LeO.none|apply LeO.ite|apply LeO.bind|intro)
theorem impl_relation.monoF {a1 G_ : (Int → Int → Option Bool)} (hF : (∀ u0_ u1_, LeO (a1 u0_ u1_) (G_ u0_ u1_))) : ∀ a0 k, LeO (impl_relation.f k a0 a1) (impl_relation.f (k + 1) a0 G_) := by
 intro a0 k
 obtain ⟨ih0, ih1⟩ := impl_relation.monoF_l k
 unfold impl_relation.f
 repeat' (with_reducible first|exact ih0 _ _ _ _ _ _ _ hF|exact ih1 _ _ _ _ _ _ _ _ _ _ hF|exact hF _ _|apply LeO.refl|apply LeO.none|apply LeO.ite|apply LeO.bind|intro)
def impl_relation.T9 : Bool × List (List Nat × List Nat) := (true, [([], []), ([0], [0]), ([], []), ([1, 2], [1, 2]), ([3], [3]), ([], []), ([5], [5]), ([4, 6], [4, 6]), ([1, 2, 0, 1, 2, 3, 4, 5, 6, 7], [1, 2]), ([8, 7, 0, 1, 2, 3, 4, 5, 6, 7], [7, 8])])
def impl_relation.B9 : List Nat := [0, 1, 0, 7, 15, 0, 32, 127, 255, 511]
theorem impl_relation.tab9 : rtab .any (opsOf Tryd.f56 9) = impl_relation.T9 := by kernel_rfl
theorem impl_relation.bits9 : waitsOk impl_relation.T9.2 impl_relation.B9 = true := by kernel_rfl
theorem impl_relation.calls (k : Nat) (a0 : Int) (a1 : (Int → Int → Option Bool)) (g1 : FuncId) (lb1 : Array Value) (he1 : ∀ args_ W_, (callFunc g1 args_).run Tryd.prog W_ = .ok (.enter g1 args_) W_) (r1 : Int) (r2 : List Int) (w : World) (hF1 : ∀ (u0_ : Int) (u1_ : Int) (q : Bool) (W : World), Below w.heap.size w W → a1 u0_ u1_ = some q → Calls Tryd.prog g1 (#[.int .i64 u0_, .int .i64 u1_] ++ lb1) W fun e W' => e = .returned (.bool q) ∧ Below W.heap.size W W') (h : impl_relation.f k a0 a1 = some (r1, r2)) :
  Calls Tryd.prog 56 #[.int .i64 a0, .func (.func g1) #[] lb1] w fun e w' => ∃ v1_ : Value, e = .returned (.agg #[.int .i64 r1, v1_]) ∧ Kd.R (Kd.int .i64) 3 w' w.heap.size (fun _ => True) v1_ r2 ∧ Below w.heap.size w w' := by
 have hu26 := Tryd.underlying26
 have HB := mkA (Below.refl w.heap.size w)
 have H := h
 clear h
 unfold impl_relation.f at H
 obtain ⟨c3b0, c3b1, H⟩ := itNQ H
 obtain ⟨c4b0, c4b1, H⟩ := itNQ H
 obtain ⟨y328, hy328⟩ : ∃ y_ : List Int, y_ = (List.replicate (a0 : Int).toNat 0) := ⟨_, rfl⟩
 rw [← hy328] at H
 have Ny328 := mkA hy328
 clear hy328
 have H' := mkA H
 clear H
 go_enter Tryd.func56, Tryd.ntmps56
 go_wp2_with (first | ((with_reducible refine gate_dst (N := 4) rfl ?_); refine boxG HB #[.int .i64 0, .slice none 0 0] 26 ?_; intro gb327 hg w5 BK327 GE327 hb; replace HB := bst HB hb; clear hb hg) | ((with_reducible refine gate_dst (N := 10) rfl ?_); refine Kd.R_make (Kd.int .i64) _ 3 rfl (N := 10) rfl 24 _ _ rfl a0 rfl rfl Tryd.underlying24 (.int .i64 0) 8 info3 rfl (by decide) (by omega) 0 (ok := fun _ => True) (okp := fun _ => True) rfl (fun _ hk => hk) trivial (ofd) (Nat.le_trans (Nat.mul_le_mul_right _ (ofd : a0.toNat ≤ 35184372088832)) (by omega)) (Below.refl _ _) (Nat.le_refl _) ?_; intro v329 w6 ho7 hb hg_ hnew_; clear hg_ hnew_; (first | rw [← Ny328.out] at ho7 | (simp only [Int.reduceToNat] at ho7; rw [← Ny328.out] at ho7)); have HO330 := rLo ho7 HB; replace BK327 := blkB BK327 hb; replace HB := bst HB hb; clear hb ho7; obtain ⟨Ao8, co8, rfl⟩ := Kd.R_slice HO330.out) | ((with_reducible refine gate_dst (N := 5) rfl ?_); refine boxG HB #[.int .i64 0, .slice none 0 0] 26 ?_; intro gb331 hg w9 BK331 GE331 hb; replace HO330 := rB HO330 hb; have NB327_331 := neL7 BK327 hg; have NB331_327 := neR7 BK327 hg; replace BK327 := blkB BK327 hb; replace HB := bst HB hb; clear hb hg; obtain ⟨_, _, _, _⟩ := blk2 BK331))
 go_loopg [13] k (fun kq v13 w' => ∃ (x13_1 : Int) (x332001_1 : List Int) (u332001 : Value), v13 = .int .i64 x13_1 ∧ Fc (impl_relation.l0 kq a0 a1 a0 x13_1 a0 x332001_1 = some (r1, r2)) ∧ Fc (kq ≤ k) ∧ Fc (Kd.R (Kd.int .i64) 3 w' w.heap.size (fun _ => True) u332001 x332001_1) ∧ Fc (w'.heap[gb327]? = some (.cells #[.int .i64 0, (.slice none 0 0)] 26 (0, 0))) ∧ Fc (w'.heap[gb331]? = some (.cells #[.int .i64 a0, u332001] 26 (0, 0))) ∧ Fc (Below w.heap.size w w'))
 case atStart => exact ⟨(0), (y328), (.slice Ao8 y328.length co8), eqS, H', ⟨Nat.le_refl _⟩, ⟨Kd.R_g (Kd.R_mono (rF HO330 BK331) (fun _ _ => trivial))⟩, ⟨blkT BK327⟩, ⟨blkT BK331⟩, hbg HB⟩
 case round =>
  clear H'
  try clear c3
  try clear c3b0
  try clear c3b1
  try clear c4
  try clear c4b0
  try clear c4b1
  obtain ⟨x13_1, x332001_1, u332001, rfl, HA, HK1, HO_332001, BK327, BK331, HB⟩ := hrel
  cases gk with
  | zero => exact absurd HA.out (by simp [impl_relation.l0])
  | succ k1 =>
   have H := HA.out
   clear HA
   simp only [impl_relation.l0] at H
   rcases iteE H with ⟨c12b0, H⟩ | ⟨c12b0, H⟩
   ·have H' := mkA H
    clear H
    go_wp2
    go_loopg [17] k1 (fun kq v17 w' => ∃ (x17_2 : Int) (x332001_2 : List Int) (u332001 : Value), v17 = .int .i64 x17_2 ∧ Fc (impl_relation.l1 kq a0 a1 x13_1 a0 x13_1 a0 x17_2 a0 x332001_2 = some (r1, r2)) ∧ Fc (kq ≤ k1) ∧ Fc (Kd.R (Kd.int .i64) 3 w' w.heap.size (fun _ => True) u332001 x332001_2) ∧ Fc (w'.heap[gb327]? = some (.cells #[.int .i64 0, (.slice none 0 0)] 26 (0, 0))) ∧ Fc (w'.heap[gb331]? = some (.cells #[.int .i64 a0, u332001] 26 (0, 0))) ∧ Fc (Below w.heap.size w w'))
    case atStart => exact ⟨(0), (x332001_1), (u332001), eqS, H', ⟨Nat.le_refl _⟩, rg HO_332001, bg BK327, bg BK331, hbg HB⟩
    case round =>
     clear H'
     try clear c3
     try clear c3b0
     try clear c3b1
     try clear c4
     try clear c4b0
     try clear c4b1
     try clear c12b0
     obtain ⟨x17_2, x332001_2, u332001, rfl, HA, HK2, HO_332001, BK327, BK331, HB⟩ := hrel
     cases gk with
     | zero => exact absurd HA.out (by simp [impl_relation.l1])
     | succ k2 =>
      have H := HA.out
      clear HA
      simp only [impl_relation.l1] at H
      rcases iteE H with ⟨c13b0, H⟩ | ⟨c13b0, H⟩
      ·obtain ⟨t332, A14, H⟩ := obE H
       by_cases c15 : t332 = true
       ·subst c15
        replace H := ifT H
        obtain ⟨c16b0, H⟩ := itND H
        obtain ⟨c17b0, H⟩ := itND H
        obtain ⟨c18b0, c18b1, H⟩ := itNQ H
        obtain ⟨ji19, hji19⟩ : ∃ j_ : Int, (shl .i64 1 x17_2) = j_ := ⟨_, rfl⟩
        first | rw [hji19] at H | simp only [hji19] at H
        (try rw [hji19] at A14)
        have hji19_ : (IntKind.i64.wrap (1 * 2 ^ min x17_2.toNat 64)) = ji19 := hji19
        have hji19z : x17_2 ≤ 64 → (IntKind.i64.wrap (1 * 2 ^ x17_2.toNat)) = ji19 := shl_small hji19
        have hji19u : (IntKind.i64.wrap (2 ^ min x17_2.toNat 64)) = ji19 := by have h_ := hji19_; rw [Int.one_mul] at h_; exact h_
        have hji19v : x17_2 ≤ 64 → (IntKind.i64.wrap (2 ^ x17_2.toNat)) = ji19 := fun hle_ => by have h_ := hji19z hle_; rw [Int.one_mul] at h_; exact h_
        have hji19y : (wrap64 (1 * 2 ^ min x17_2.toNat 64)) = ji19 := (i64_w _).symm.trans hji19_
        have hji19x : x17_2 ≤ 64 → (wrap64 (1 * 2 ^ x17_2.toNat)) = ji19 := fun h_ => (i64_w _).symm.trans (hji19z h_)
        obtain ⟨y334, hy334⟩ : ∃ y_ : List Int, y_ = (x332001_2.set (x13_1 : Int).toNat (Go.bits .or .i64 (rd x332001_2 x13_1) (ji19))) := ⟨_, rfl⟩
        rw [← hy334] at H
        have Ny334 := mkA hy334
        clear hy334
        have H' := mkA H
        clear H
        try go_wp2_with (first | ((with_reducible refine gate_dst (N := 23) rfl ?_); refine impl_relation.goesV_ (some 23) rfl rfl he1 (#[.int .i64 x13_1, .int .i64 x17_2] ++ lb1) rfl rfl (by (try simp only [List.map_toArray, List.map_cons, List.map_nil]); first | done | rfl | (simp only [List.length_drop, List.length_take]; rfl)) ?_; (with_reducible refine (hF1 x13_1 x17_2 true _ ?sideB A14.out).mono ?_); (case sideB => exact (bel_g HB.out)); rintro e w21 ⟨rfl, hb⟩; refine ⟨_, rfl, ?_⟩; replace HO_332001 := rB HO_332001 hb; replace BK327 := blkB BK327 hb; replace BK331 := blkB BK331 hb; replace HB := bst HB hb; clear hb))
        replace HO_332001 := mkA (Kd.R_drew HO_332001.out)
        replace BK327 := mkA (blk_drew BK327.out)
        replace BK331 := mkA (blk_drew BK331.out)
        replace HB := mkA (below_drew1 HB.out)
        obtain ⟨Ao23, co23, eo23⟩ := Kd.R_slice HO_332001.out
        (first | subst eo23 | (injection eo23 with f1_ f2_ f3_; have f4_ := f1_.symm; have f5_ := f3_.symm; clear f1_ f2_ f3_; subst f4_; subst f5_))
        obtain ⟨p333, q333, ad333, e333, hx333_0⟩ := atI (Kd.R_reads' HO_332001.out).2.2 x13_1
        cases e333
        have p20 : 0 ≤ (x13_1 : Int) := ofd
        have q20 : (x13_1 : Int) < ((x332001_2.length : Int) : Int) := ofd
        obtain ⟨go20, co20, eo20, gb20, gl20, cl20, HG20⟩ := Kd.R_form HO_332001.out (by omega)
        (first | cases eo20 | (injection eo20 with ea_ en_ ec_; (first | subst ea_ | (injection ea_ with ea_; subst ea_)); subst ec_; clear en_))
        have GB20 : Ge _ _ := ⟨gb20⟩
        have GG20 := mkA HG20
        clear gb20 gl20 HG20
        (first | simp only [add_plain] at hx333_0 | skip)
        obtain ⟨hx20_0, hf20_0⟩ := Kd.R_celln 0 HO_332001.out (x13_1 : Int) p20 q20
        replace p20 := eq_true p20
        replace q20 := eq_true q20
        have HP24 := Kd.R_putn HO_332001.out (x13_1 : Int) (Go.bits .or .i64 (rd x332001_2 x13_1) (ji19))
        rw [← Ny334.out] at HP24
        have HQ24 := mkA HP24
        clear HP24
        refine start_ (n := 10) (S := fun w' => w'.cell? ⟨gb331, 0, none⟩ = some (.int .i64 a0) ∧ w'.cell? ⟨gb331, 1, none⟩ = some (.slice (some ⟨go20, 0, none⟩) x332001_2.length co23) ∧ w'.cell? ⟨go20, (x13_1).toNat, none⟩ = some (.int .i64 (rd x332001_2 x13_1))) (ds := [9]) (bm 10 0) (by kernel_rfl) rfl rfl ⟨(blk_cell BK331.out 0).trans rfl, (blk_cell BK331.out 1).trans rfl, hx333_0⟩ (fun hHeld => ?_); refine with_tabW impl_relation.tab9 impl_relation.bits9 (fun HT_ HW_ => ?_)
        generalize w21.drew = w22 at HO_332001 BK327 BK331 HB GG20 HQ24 hf20_0 hx20_0 hx333_0 hHeld ⊢
        refine purW 0 24 10 1 HT_ ?_
        refine purW 2 26 10 5 HT_ ?_
        refine purW 5 29 10 37 HT_ ?_
        refine purW 6 30 10 101 HT_ ?_
        refine takeW 1 (some 25) (bm 10 103) HT_ HW_ hHeld ?_
        refine purW 3 27 10 111 HT_ ?_
        refine takeW 4 (some 28) (bm 10 127) HT_ HW_ hHeld ?_
        refine purW 7 31 10 255 HT_ ?_
        refine purW 8 32 10 511 HT_ ?_
        refine last_ (i := 9) (N := none) (bm 10 1023) rfl rfl (one_of HT_.out (by kernel_rfl)) (by decide) (fun K hK => ?_)
        refine skip_ (w1 := ?_) (by rfl) rfl ?_ ?_
        rotate_left
        ·go_simp
         rfl
        refine hK.out _ _ ?_
        clear hK K
        refine doneW HT_ ?_
        try go_wp2
        go_roundg k2
        case measure => have := HK1.out; have := HK2.out; omega
        case rel => exact ⟨(wrap64 (x17_2 + 1)), (y334), (.slice (some ⟨go20, 0, none⟩) x332001_2.length co23), eqS, H', ⟨by have := HK1.out; have := HK2.out; omega⟩, ⟨Kd.R_g HQ24.out⟩, ⟨by (with_reducible repeat (first | refine blk_drewN ?_ _ | refine blk_drew ?_ | refine blk_alloc ?_ _)); refine blk_far ?_ (by have h_ := Kd.R_ne HO_332001.out BK327.out (by decide); intro e_; exact h_ (by rw [e_]; rfl)) _; (with_reducible repeat (first | refine blk_drewN ?_ _ | refine blk_drew ?_ | refine blk_alloc ?_ _)); exact BK327.out⟩, ⟨by (with_reducible repeat (first | refine blk_drewN ?_ _ | refine blk_drew ?_ | refine blk_alloc ?_ _)); refine blk_far ?_ (by have h_ := Kd.R_ne HO_332001.out BK331.out (by decide); intro e_; exact h_ (by rw [e_]; rfl)) _; (with_reducible repeat (first | refine blk_drewN ?_ _ | refine blk_drew ?_ | refine blk_alloc ?_ _)); exact BK331.out⟩, hbg HB⟩
       ·replace c15 := Bool.eq_false_iff.mpr c15
        subst c15
        replace H := ifF H
        have H' := mkA H
        clear H
        go_wp2_with (first | ((with_reducible refine gate_dst (N := 23) rfl ?_); refine impl_relation.goesV_ (some 23) rfl rfl he1 (#[.int .i64 x13_1, .int .i64 x17_2] ++ lb1) rfl rfl (by (try simp only [List.map_toArray, List.map_cons, List.map_nil]); first | done | rfl | (simp only [List.length_drop, List.length_take]; rfl)) ?_; (with_reducible refine (hF1 x13_1 x17_2 false _ ?sideB A14.out).mono ?_); (case sideB => exact (bel_g HB.out)); rintro e w25 ⟨rfl, hb⟩; refine ⟨_, rfl, ?_⟩; replace HO_332001 := rB HO_332001 hb; replace BK327 := blkB BK327 hb; replace BK331 := blkB BK331 hb; replace HB := bst HB hb; clear hb))
        go_roundg k2
        case measure => have := HK1.out; have := HK2.out; omega
        case rel => exact ⟨(wrap64 (x17_2 + 1)), (x332001_2), (u332001), eqS, H', ⟨by have := HK1.out; have := HK2.out; omega⟩, rg HO_332001, bg BK327, bg BK331, hbg HB⟩
      ·have H' := mkA H
       clear H
       go_wp2
       go_roundg k2
       case measure => have := HK1.out; have := HK2.out; omega
       case rel => exact ⟨(wrap64 (x13_1 + 1)), (x332001_2), (u332001), eqS, H', ⟨by have := HK1.out; have := HK2.out; omega⟩, rg HO_332001, bg BK327, bg BK331, hbg HB⟩
   ·simp only [Option.some.injEq, Prod.mk.injEq] at H
    obtain ⟨rfl, rfl⟩ := H
    obtain ⟨_, _, _, _⟩ := blk2 BK331
    obtain ⟨_, _, _, _⟩ := blk2 BK327
    obtain ⟨Ao29, co29, rfl⟩ := Kd.R_slice HO_332001.out
    go_wp2
    refine bodyPost_ret (results_cell_row rfl _ _ gb327 26 #[.int .i64 a0, .slice Ao29 x332001_1.length co29] (0, 0) _ rfl (blkT BK327) Tryd.underlying26 rfl (by kernel_rfl)) rfl ?_
    exact ⟨_, eqE, Kd.R_g (Kd.R_mono (rF HO_332001 BK327) (fun _ _ => trivial)), bel_g HB.out⟩
def impl_Order_mirror_1.f (a0 : Int) (a1 : Int) (a2_0 : Int) (l2_1 : List Int) : Option (Bool) := (impl_Order_better.f a2_0 l2_1 a1 a0).bind fun t336 => (some t336)
theorem impl_Order_mirror_1.calls (a0 : Int) (a1 : Int) (gB2 : Nat) (a2_0 : Int) (A2_1 : Option Addr) (c2_1 : Nat) (l2_1 : List Int) (r : Bool) (w : World) (hb2 : w.heap[gB2]? = some (.cells #[.int .i64 a2_0, .slice A2_1 l2_1.length c2_1] 26 (0, 0))) (hr2_1 : Kd.C (Kd.int .i64) w A2_1 l2_1.length l2_1) (hc2_1 : l2_1.length ≤ c2_1) (h : impl_Order_mirror_1.f a0 a1 a2_0 l2_1 = some r) :
  Calls Tryd.prog 57 #[.int .i64 a0, .int .i64 a1, .pointer (some ⟨gB2, 0, none⟩)] w fun e w' => e = .returned (.bool r) ∧ Below w.heap.size w w' := by
 have hu26 := Tryd.underlying26
 have BK335 := mkA hb2
 clear hb2
 have HR2_1 := mkA hr2_1
 have HC2_1 := mkA hc2_1
 clear hr2_1 hc2_1
 have HB := mkA (Below.refl w.heap.size w)
 have H := h
 clear h
 unfold impl_Order_mirror_1.f at H
 obtain ⟨t336, A4, H⟩ := obE H
 obtain rfl := Option.some.inj H
 obtain ⟨_, _, _, _⟩ := blk2 BK335
 go_enter Tryd.func57, Tryd.ntmps57
 go_wp2_with (first | ((with_reducible refine gate_callee (f := 43) rfl ?_); refine goesQ (some 9) Tryd.func43 #[.agg #[.int .i64 a2_0, .slice A2_1 l2_1.length c2_1], .int .i64 a1, .int .i64 a0] ?_; (with_reducible refine (impl_Order_better.calls a2_0 _ _ l2_1 a1 a0 t336 _ ?s1 ?s2 A4.out).mono ?_); (case s1 => repeat (first | exact HR2_1.out | (with_reducible refine Kd.C_alloc ?_ _) | (with_reducible refine Kd.C_drewN ?_ _) | (with_reducible refine Kd.C_drew ?_))); (case s2 => exact HC2_1.out); rintro e w6 ⟨rfl, hb⟩; refine ⟨_, rfl, ?_⟩; replace BK335 := blkB BK335 hb; replace HB := bst HB hb; clear hb))
 go_ret
 exact ⟨eqE, bel_g HB.out⟩
def impl_Order_mirror.f (k : Nat) (a0_0 : Int) (l0_1 : List Int) : Option (Int × List Int) := (impl_relation.f k a0_0 (fun u0_ u1_ => impl_Order_mirror_1.f u0_ u1_ a0_0 l0_1)).bind fun bt339 => (some (bt339.1, bt339.2))
theorem impl_Order_mirror.mono : ∀ a0 a1 k, LeO (impl_Order_mirror.f k a0 a1) (impl_Order_mirror.f (k + 1) a0 a1) := by
 intro a0 a1 k
 unfold impl_Order_mirror.f
 repeat' first
   | (with_reducible exact impl_relation.mono _ _ _)
   | (refine impl_relation.monoF ?_ _ _; intros)
   | (with_reducible exact impl_relation.mono _ _ _)
   | (with_reducible exact LeO.refl _)
   | (with_reducible exact LeO.none _)
   | (with_reducible refine LeO.ite ?_ ?_)
   | (with_reducible refine LeO.bind ?_ (fun _ => ?_))
   | exact impl_relation.mono _ _ _
   | exact LeO.none _
   | refine LeO.ite ?_ ?_
   | refine LeO.bind ?_ (fun _ => ?_)
theorem impl_Order_mirror.calls (k : Nat) (a0_0 : Int) (A0_1 : Option Addr) (c0_1 : Nat) (l0_1 : List Int) (r1 : Int) (r2 : List Int) (w : World) (hr0_1 : Kd.C (Kd.int .i64) w A0_1 l0_1.length l0_1) (hc0_1 : l0_1.length ≤ c0_1) (h : impl_Order_mirror.f k a0_0 l0_1 = some (r1, r2)) :
  Calls Tryd.prog 45 #[.agg #[.int .i64 a0_0, .slice A0_1 l0_1.length c0_1]] w fun e w' => ∃ v1_ : Value, e = .returned (.agg #[.int .i64 r1, v1_]) ∧ Kd.R (Kd.int .i64) 3 w' w.heap.size (fun _ => True) v1_ r2 ∧ Below w.heap.size w w' := by
 have hu26 := Tryd.underlying26
 have HR0_1 := mkA hr0_1
 have HC0_1 := mkA hc0_1
 clear hr0_1 hc0_1
 have HB := mkA (Below.refl w.heap.size w)
 have H := h
 clear h
 unfold impl_Order_mirror.f at H
 obtain ⟨⟨t339, t340⟩, A2, H⟩ := obE H
 dsimp only at H
 simp only [Option.some.injEq, Prod.mk.injEq] at H
 obtain ⟨rfl, rfl⟩ := H
 go_enter Tryd.func45, Tryd.ntmps45
 go_wp2_with (first | ((with_reducible refine gate_dst (N := 1) rfl ?_); refine boxG HB #[.int .i64 a0_0, .slice A0_1 l0_1.length c0_1] 26 ?_; intro gb337 hg w3 BK337 GE337 hb; replace HB := bst HB hb; clear hb hg) | ((with_reducible refine gate_dst (N := 2) rfl ?_); refine boxG HB #[.int .i64 0, .slice none 0 0] 26 ?_; intro gb338 hg w4 BK338 GE338 hb; have NB337_338 := neL7 BK337 hg; have NB338_337 := neR7 BK337 hg; replace BK337 := blkB BK337 hb; replace HB := bst HB hb; clear hb hg; obtain ⟨_, _, _, _⟩ := blk2 BK337) | ((with_reducible refine gate_callee (f := 56) rfl ?_); refine goesQ (some 6) Tryd.func56 #[.int .i64 a0_0, .func (.func 57) #[] #[.pointer (some ⟨gb337, 0, none⟩)]] ?_; (with_reducible refine (impl_relation.calls k a0_0 (fun u0_ u1_ => impl_Order_mirror_1.f u0_ u1_ a0_0 l0_1) 57 #[.pointer (some ⟨gb337, 0, none⟩)] (fun args_ W_ => enters_ Tryd.func57 (by kernel_rfl) rfl args_ W_) t339 t340 _ ?s1 A2.out).mono ?_); (case s1 => exact fun u0_ u1_ q_ W_ hb_ hq_ => (impl_Order_mirror_1.calls u0_ u1_ gb337 a0_0 A0_1 c0_1 l0_1 q_ W_ (blk_below (show _ = some (Obj.cells #[.int .i64 a0_0, .slice A0_1 l0_1.length c0_1] 26 (0, 0)) from blkT BK337) hb_) (Kd.C_below (show Kd.C (Kd.int .i64) _ A0_1 l0_1.length l0_1 from by exact C_g HR0_1 HB) hb_) (by exact HC0_1.out) hq_).mono (fun _ _ h_ => ⟨h_.1, h_.2⟩)); rintro e w7 ⟨v341, rfl, ho0, hb⟩; refine ⟨_, rfl, ?_⟩; have HO342 := rLo ho0 HB; replace BK337 := blkB BK337 hb; replace BK338 := blkB BK338 hb; replace HB := bst HB hb; clear hb ho0; obtain ⟨_, _, _, _⟩ := blk2 BK338; obtain ⟨Ao9, co9, rfl⟩ := Kd.R_slice HO342.out))
 refine bodyPost_ret (results_cell_row rfl _ _ gb338 26 #[.int .i64 t339, .slice Ao9 t340.length co9] (0, 0) _ rfl (blkT BK338) Tryd.underlying26 rfl (by kernel_rfl)) rfl ?_
 exact ⟨_, eqE, Kd.R_g (Kd.R_mono (rF HO342 BK338) (fun _ _ => trivial)), bel_g HB.out⟩
def impl_Order_all.f (a0_0 : Int) (l0_1 : List Int) : Option (Int) := if 0 ≤ a0_0 then (some (wrap64 ((shl .i64 1 a0_0) - 1))) else (none)
theorem impl_Order_all.calls (a0_0 : Int) (A0_1 : Option Addr) (c0_1 : Nat) (l0_1 : List Int) (r : Int) (w : World) (hr0_1 : Kd.C (Kd.int .i64) w A0_1 l0_1.length l0_1) (hc0_1 : l0_1.length ≤ c0_1) (h : impl_Order_all.f a0_0 l0_1 = some r) :
  Calls Tryd.prog 46 #[.agg #[.int .i64 a0_0, .slice A0_1 l0_1.length c0_1]] w fun e w' => e = .returned (.int .i64 r) ∧ Below w.heap.size w w' := by
 have hu26 := Tryd.underlying26
 have HR0_1 := mkA hr0_1
 have HC0_1 := mkA hc0_1
 clear hr0_1 hc0_1
 have HB := mkA (Below.refl w.heap.size w)
 have H := h
 clear h
 unfold impl_Order_all.f at H
 obtain ⟨c2b0, c2b1, H⟩ := itNQ H
 obtain ⟨ji3, hji3⟩ : ∃ j_ : Int, (shl .i64 1 a0_0) = j_ := ⟨_, rfl⟩
 first | rw [hji3] at H | simp only [hji3] at H
 have hji3_ : (IntKind.i64.wrap (1 * 2 ^ min a0_0.toNat 64)) = ji3 := hji3
 have hji3z : a0_0 ≤ 64 → (IntKind.i64.wrap (1 * 2 ^ a0_0.toNat)) = ji3 := shl_small hji3
 have hji3u : (IntKind.i64.wrap (2 ^ min a0_0.toNat 64)) = ji3 := by have h_ := hji3_; rw [Int.one_mul] at h_; exact h_
 have hji3v : a0_0 ≤ 64 → (IntKind.i64.wrap (2 ^ a0_0.toNat)) = ji3 := fun hle_ => by have h_ := hji3z hle_; rw [Int.one_mul] at h_; exact h_
 have hji3y : (wrap64 (1 * 2 ^ min a0_0.toNat 64)) = ji3 := (i64_w _).symm.trans hji3_
 have hji3x : a0_0 ≤ 64 → (wrap64 (1 * 2 ^ a0_0.toNat)) = ji3 := fun h_ => (i64_w _).symm.trans (hji3z h_)
 obtain rfl := Option.some.inj H
 go_enter Tryd.func46, Tryd.ntmps46
 go_wp2_with (first | ((with_reducible refine gate_dst (N := 1) rfl ?_); refine boxG HB #[.int .i64 a0_0, .slice A0_1 l0_1.length c0_1] 26 ?_; intro gb343 hg w4 BK343 GE343 hb; replace HB := bst HB hb; clear hb hg; obtain ⟨_, _, _, _⟩ := blk2 BK343))
 go_ret
 exact ⟨by first | rfl | (simp [errW_none, errW_some] <;> rfl) | (simp only [← hji3]; first | rfl | (simp [errW_none, errW_some] <;> rfl)) | (simp [*, errW_none, errW_some] <;> rfl), bel_g HB.out⟩
end Go.Proofs.YtpphkeijklffgaaDoor.Q
