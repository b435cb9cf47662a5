import Derived.Test.YtgdnljpallpjiaaDoorBFnExtensions7
namespace Go.Proofs.YtgdnljpallpjiaaDoor.Q
open Go.RowKit Go.Proofs.YtgdnljpallpjiaaDoorW.PrintWords Go.Proofs.YtgdnljpallpjiaaDoorW.PrintLast Go.Proofs.YtgdnljpallpjiaaDoorW.PrintMore
attribute [local go_sem] max2_int min2_int max_two min_two max_three min_three max_four min_four neB_f
set_option linter.unusedVariables false
set_option maxHeartbeats 8000000
set_option maxRecDepth 100000
set_option linter.unusedSimpArgs false
/-- A call of a function value, as an arm of go_wp2_with. -/
theorem impl_relation.goesV_ {P : Program} {ops : Array Oper} {Q : Exit → Act → World → Prop} {rest : List Oper} {oi : Oper} {a : Act} {w : World} (N : Option Tmp) (hd : oi.dst = N) (hg : oi.guard = none) {g : FuncId} {lb : Array Value} {x : Operand} {ax : Array Operand} {ts : Array TypeId}
  (he : ∀ args W, (callFunc g args).run P W = .ok (.enter g args) W) (args : Array Value) (hop : oi.op = .call { callee := .value x, args := ax, argTypes := ts }) (hx : a.eval x = .func (.func g) #[] lb) (hargs : ax.map a.eval ++ lb = args)
  (h : Calls P g args w fun e w' => ∃ v, e = .returned v ∧ wpList P ops Q rest (a.put N v) w') : wpList P ops Q (oi :: rest) a w := by
 refine wpList_plain hg fun K hK => ?_
 have he := he args w
 have hrun : (execOp a.eval oi).run P w = .ok (.enter g args) w := by
  unfold execOp
  simp [hop, resolve, Deferred.ofValue, invoke, hx, hargs, he]
 unfold Oper.wp
 rw [hrun, Oper.upon_enter]
 refine h.mono fun e w'' hh => ?_
 obtain ⟨v, rfl, hk⟩ := hh
 subst hd
 exact hK _ _ hk
mutual
def impl_relation.l0 : Nat → Int → (Int → Int → Option Bool) → Int → Int → Int → List Int → Option (Int × List Int)
 | 0, _, _, _, _, _, _ => none
 | k + 1, x0, x1, x12, x13, x278000, x278001 => if x13 < x12 then (impl_relation.l1 k x0 x1 x13 x12 x13 x0 0 x278000 x278001) else (some (x278000, x278001))
def impl_relation.l1 : Nat → Int → (Int → Int → Option Bool) → Int → Int → Int → Int → Int → Int → List Int → Option (Int × List Int)
 | 0, _, _, _, _, _, _, _, _, _ => none
 | k + 1, x0, x1, x6, x12, x13, x16, x17, x278000, x278001 => if x17 < x16 then ((x1 x6 x17).bind fun t278 => (if t278 = true then (if 0 ≤ x6 then (if x6 < (x278001.length : Int) then (if 0 ≤ x17 then (impl_relation.l1 k x0 x1 x6 x12 x13 x16 (wrap64 (x17 + 1)) x278000 (x278001.set (x6 : Int).toNat (Go.bits .or .i64 (rd x278001 x6) (shl .i64 1 x17)))) else (none)) else (none)) else (none)) else (impl_relation.l1 k x0 x1 x6 x12 x13 x16 (wrap64 (x17 + 1)) x278000 x278001))) else (impl_relation.l0 k x0 x1 x12 (wrap64 (x13 + 1)) x278000 x278001)
end
def impl_relation.f (k : Nat) (a0 : Int) (a1 : (Int → Int → Option Bool)) : Option (Int × List Int) := if 0 ≤ a0 then (if (a0 : Int).toNat ≤ 35184372088832 then (impl_relation.l0 k a0 a1 a0 0 a0 (List.replicate (a0 : Int).toNat 0)) else (none)) else (none)
theorem impl_relation.mono_l : ∀ k, (∀ y0 y1 y2 y3 y4 y5, LeO (impl_relation.l0 k y0 y1 y2 y3 y4 y5) (impl_relation.l0 (k + 1) y0 y1 y2 y3 y4 y5)) ∧ (∀ y0 y1 y2 y3 y4 y5 y6 y7 y8, LeO (impl_relation.l1 k y0 y1 y2 y3 y4 y5 y6 y7 y8) (impl_relation.l1 (k + 1) y0 y1 y2 y3 y4 y5 y6 y7 y8))
 | 0 => ⟨fun _ _ _ _ _ _ r h => by simp [impl_relation.l0] at h, fun _ _ _ _ _ _ _ _ _ r h => by simp [impl_relation.l1] at h⟩
 | k + 1 => by
  obtain ⟨ih0, ih1⟩ := impl_relation.mono_l k
  refine ⟨?_, ?_⟩ <;> intros
  unfold impl_relation.l0
  rotate_left
  unfold impl_relation.l1
  rotate_left
  all_goals repeat' (with_reducible first|exact ih0 _ _ _ _ _ _|exact ih1 _ _ _ _ _ _ _ _ _|exact LeO.refl _|exact LeO.none _|refine LeO.ite ?_ ?_|refine LeO.bind ?_ (fun _ => ?_))
theorem impl_relation.mono : ∀ a0 a1 k, LeO (impl_relation.f k a0 a1) (impl_relation.f (k + 1) a0 a1) := by
 intro a0 a1 k
 obtain ⟨ih0, ih1⟩ := impl_relation.mono_l k
 unfold impl_relation.f
 repeat' (with_reducible first|exact ih0 _ _ _ _ _ _|exact ih1 _ _ _ _ _ _ _ _ _|exact LeO.refl _|exact LeO.none _|refine LeO.ite ?_ ?_|refine LeO.bind ?_ (fun _ => ?_))
theorem impl_relation.monoF_l : ∀ k, (∀ y0 y1 y2 y3 y4 y5 (G_ : (Int → Int → Option Bool)), (∀ u0_ u1_, LeO (y1 u0_ u1_) (G_ u0_ u1_)) → LeO (impl_relation.l0 k y0 y1 y2 y3 y4 y5) (impl_relation.l0 (k + 1) y0 G_ y2 y3 y4 y5)) ∧ (∀ y0 y1 y2 y3 y4 y5 y6 y7 y8 (G_ : (Int → Int → Option Bool)), (∀ u0_ u1_, LeO (y1 u0_ u1_) (G_ u0_ u1_)) → LeO (impl_relation.l1 k y0 y1 y2 y3 y4 y5 y6 y7 y8) (impl_relation.l1 (k + 1) y0 G_ y2 y3 y4 y5 y6 y7 y8))
 | 0 => ⟨fun _ _ _ _ _ _ _ _ r h => by simp [impl_relation.l0] at h, fun _ _ _ _ _ _ _ _ _ _ _ r h => by simp [impl_relation.l1] at h⟩
 | k + 1 => by
  obtain ⟨ih0, ih1⟩ := impl_relation.monoF_l k
  refine ⟨?_, ?_⟩
  ·intro y0 y1 y2 y3 y4 y5 G_ hF
   unfold impl_relation.l0
   repeat' (with_reducible first|exact ih0 _ _ _ _ _ _ _ hF|exact ih1 _ _ _ _ _ _ _ _ _ _ hF|exact hF _ _|exact LeO.refl _|exact LeO.none _|refine LeO.ite ?_ ?_|refine LeO.bind ?_ (fun _ => ?_))
  ·intro y0 y1 y2 y3 y4 y5 y6 y7 y8 G_ hF
   unfold impl_relation.l1
   repeat' (with_reducible first|exact ih0 _ _ _ _ _ _ _ hF|exact ih1 _ _ _ _ _ _ _ _ _ _ hF|exact hF _ _|exact LeO.refl _|exact LeO.none _|refine LeO.ite ?_ ?_|refine LeO.bind ?_ (fun _ => ?_))
theorem impl_relation.monoF {a1 G_ : (Int → Int → Option Bool)} (hF : (∀ u0_ u1_, LeO (a1 u0_ u1_) (G_ u0_ u1_))) : ∀ a0 k, LeO (impl_relation.f k a0 a1) (impl_relation.f (k + 1) a0 G_) := by
 intro a0 k
 obtain ⟨ih0, ih1⟩ := impl_relation.monoF_l k
 unfold impl_relation.f
 repeat' (with_reducible first|exact ih0 _ _ _ _ _ _ _ hF|exact ih1 _ _ _ _ _ _ _ _ _ _ hF|exact hF _ _|exact LeO.refl _|exact LeO.none _|refine LeO.ite ?_ ?_|refine LeO.bind ?_ (fun _ => ?_))
def impl_relation.T9 : Bool × List (List Nat × List Nat) := (true, [([], []), ([0], [0]), ([], []), ([1, 2], [1, 2]), ([3], [3]), ([], []), ([5], [5]), ([4, 6], [4, 6]), ([1, 2, 0, 1, 2, 3, 4, 5, 6, 7], [1, 2]), ([8, 7, 0, 1, 2, 3, 4, 5, 6, 7], [7, 8])])
def impl_relation.B9 : List Nat := [0, 1, 0, 7, 15, 0, 32, 127, 255, 511]
theorem impl_relation.tab9 : rtab .any (opsOf Tryd.f29 9) = impl_relation.T9 := by kernel_rfl
theorem impl_relation.bits9 : waitsOk impl_relation.T9.2 impl_relation.B9 = true := by kernel_rfl
theorem impl_relation.calls (k : Nat) (a0 : Int) (a1 : (Int → Int → Option Bool)) (g1 : FuncId) (lb1 : Array Value) (he1 : ∀ args_ W_, (callFunc g1 args_).run Tryd.prog W_ = .ok (.enter g1 args_) W_) (r1 : Int) (r2 : List Int) (w : World) (hF1 : ∀ (u0_ : Int) (u1_ : Int) (q : Bool) (W : World), Below w.heap.size w W → a1 u0_ u1_ = some q → Calls Tryd.prog g1 (#[.int .i64 u0_, .int .i64 u1_] ++ lb1) W fun e W' => e = .returned (.bool q) ∧ Below W.heap.size W W') (h : impl_relation.f k a0 a1 = some (r1, r2)) :
  Calls Tryd.prog 29 #[.int .i64 a0, .func (.func g1) #[] lb1] w fun e w' => ∃ v1_ : Value, e = .returned (.agg #[.int .i64 r1, v1_]) ∧ Kd.R (Kd.int .i64) 3 w' w.heap.size (fun _ => True) v1_ r2 ∧ Below w.heap.size w w' := by
 have hu26 := Tryd.underlying26
 have HB := mkA (Below.refl w.heap.size w)
 have H := h
 clear h
 unfold impl_relation.f at H
 obtain ⟨c3, H⟩ := itNP H
 have c3b0 := eq_true c3
 have c3b1 : decide (0 ≤ a0) = true := decide_eq_true c3
 clear c3
 obtain ⟨c4, H⟩ := itNP H
 have c4b0 := eq_true c4
 have c4b1 : decide ((a0 : Int).toNat ≤ 35184372088832) = true := decide_eq_true c4
 clear c4
 obtain ⟨y274, hy274⟩ : ∃ y_ : List Int, y_ = (List.replicate (a0 : Int).toNat 0) := ⟨_, rfl⟩
 replace H : (impl_relation.l0 k a0 a1 a0 0 a0 y274) = some (r1, r2) := by first | (rw [hy274]; with_reducible exact H) | (have H2_ := (Option.bind_some _ _).symm.trans H; rw [hy274]; with_reducible exact H2_) | (have H2_ := (Option.bind_some _ _).symm.trans H; with_reducible exact H2_) | with_reducible exact H | (rw [hy274]; exact H) | exact H
 have Ny274 := mkA hy274
 clear hy274
 have H' := mkA H
 clear H
 go_enter Tryd.func29, Tryd.ntmps29
 go_wp2_with (first | ((with_reducible refine gate_dst (N := 4) rfl ?_); refine boxE (N := 4) (cs := #[.int .i64 0, .slice none 0 0]) (t := 26) ?_; intro gb273 hg w5 hbox hb; have BK273 := mkA (hbox); have GE273 := geB HB hg; replace HB := bst HB hb; clear hb hbox hg) | ((with_reducible refine gate_dst (N := 10) rfl ?_); refine Kd.R_make (Kd.int .i64) _ 3 rfl (N := 10) rfl 24 _ _ rfl a0 rfl rfl Tryd.underlying24 (.int .i64 0) 8 info3 rfl (by decide) (by omega) 0 (ok := fun _ => True) (okp := fun _ => True) rfl (fun _ hk => hk) trivial (ofd) (Nat.le_trans (Nat.mul_le_mul_right _ (ofd : a0.toNat ≤ 35184372088832)) (by omega)) (Below.refl _ _) (Nat.le_refl _) ?_; intro v275 w6 ho7 hb hg_ hnew_; clear hg_ hnew_; (first | rw [← Ny274.out] at ho7 | (simp only [Int.reduceToNat] at ho7; rw [← Ny274.out] at ho7)); have HO276 := mkA (Kd.R_lower ho7 (below_size (bel_g HB.out))); replace BK273 := blkB BK273 hb; replace HB := bst HB hb; clear hb ho7; obtain ⟨Ao8, co8, eo8⟩ := Kd.R_slice HO276.out; subst eo8) | ((with_reducible refine gate_dst (N := 5) rfl ?_); refine boxE (N := 5) (cs := #[.int .i64 0, .slice none 0 0]) (t := 26) ?_; intro gb277 hg w9 hbox hb; replace HO276 := rB HO276 hb; have BK277 := mkA (hbox); have GE277 := geB HB hg; have NB273_277 := neL7 BK273 hg; have NB277_273 := neR7 BK273 hg; replace BK273 := blkB BK273 hb; replace HB := bst HB hb; clear hb hbox hg; obtain ⟨hcz11_0, hcz11_1, hfz11_0, hfz11_1⟩ := blk2 BK277))
 go_loopg [13] k (fun kq v13 w' => ∃ (x13_1 : Int) (x278001_1 : List Int) (u278001 : Value), v13 = .int .i64 x13_1 ∧ Fc (impl_relation.l0 kq a0 a1 a0 x13_1 a0 x278001_1 = some (r1, r2)) ∧ Fc (kq ≤ k) ∧ Fc (Kd.R (Kd.int .i64) 3 w' w.heap.size (fun _ => True) u278001 x278001_1) ∧ Fc (w'.heap[gb273]? = some (.cells #[.int .i64 0, (.slice none 0 0)] 26 (0, 0))) ∧ Fc (w'.heap[gb277]? = some (.cells #[.int .i64 a0, u278001] 26 (0, 0))) ∧ Fc (Below w.heap.size w w'))
 case atStart => exact ⟨(0), (y274), (.slice Ao8 y274.length co8), eqS, H', ⟨Nat.le_refl _⟩, ⟨Kd.R_g (Kd.R_mono (Kd.R_far (p := ⟨gb277, 1, none⟩) (Kd.R_far (p := ⟨gb277, 0, none⟩) (Kd.R_types HO276.out BK277.out (by decide)) (fun _ hk => hk.2) (.int .i64 a0)) (fun _ hk => hk.2) (.slice Ao8 y274.length co8)) (fun _ hk => trivial))⟩, ⟨blkT BK273⟩, ⟨blkT BK277⟩, ⟨bel_g HB.out⟩⟩
 case round =>
  clear H'
  try clear c3
  try clear c3b0
  try clear c3b1
  try clear c4
  try clear c4b0
  try clear c4b1
  obtain ⟨x13_1, x278001_1, u278001, rfl, HA, HK1, HO_278001, BK273, BK277, HB⟩ := hrel
  cases gk with
  | zero => exact absurd HA.out (by simp [impl_relation.l0])
  | succ k1 =>
   have H := HA.out
   clear HA
   simp only [impl_relation.l0] at H
   rcases iteE H with ⟨c12b0, H⟩ | ⟨c12b0, H⟩
   ·have H' := mkA H
    clear H
    go_wp2
    go_loopg [17] k1 (fun kq v17 w' => ∃ (x17_2 : Int) (x278001_2 : List Int) (u278001 : Value), v17 = .int .i64 x17_2 ∧ Fc (impl_relation.l1 kq a0 a1 x13_1 a0 x13_1 a0 x17_2 a0 x278001_2 = some (r1, r2)) ∧ Fc (kq ≤ k1) ∧ Fc (Kd.R (Kd.int .i64) 3 w' w.heap.size (fun _ => True) u278001 x278001_2) ∧ Fc (w'.heap[gb273]? = some (.cells #[.int .i64 0, (.slice none 0 0)] 26 (0, 0))) ∧ Fc (w'.heap[gb277]? = some (.cells #[.int .i64 a0, u278001] 26 (0, 0))) ∧ Fc (Below w.heap.size w w'))
    case atStart => exact ⟨(0), (x278001_1), (u278001), eqS, H', ⟨Nat.le_refl _⟩, ⟨Kd.R_g HO_278001.out⟩, ⟨blk_g BK273.out⟩, ⟨blk_g BK277.out⟩, ⟨bel_g HB.out⟩⟩
    case round =>
     clear H'
     try clear c3
     try clear c3b0
     try clear c3b1
     try clear c4
     try clear c4b0
     try clear c4b1
     try clear c12b0
     obtain ⟨x17_2, x278001_2, u278001, rfl, HA, HK2, HO_278001, BK273, BK277, HB⟩ := hrel
     cases gk with
     | zero => exact absurd HA.out (by simp [impl_relation.l1])
     | succ k2 =>
      have H := HA.out
      clear HA
      simp only [impl_relation.l1] at H
      rcases iteE H with ⟨c13b0, H⟩ | ⟨c13b0, H⟩
      ·obtain ⟨t278, A14, H⟩ := obE H
       by_cases c15 : t278 = true
       ·subst c15
        replace H := ifT H
        obtain ⟨c16, H⟩ := itNP H
        have c16b0 : decide (0 ≤ x13_1) = true := decide_eq_true c16
        clear c16
        obtain ⟨c17, H⟩ := itNP H
        have c17b0 : decide (x13_1 < (x278001_2.length : Int)) = true := decide_eq_true c17
        clear c17
        obtain ⟨c18, H⟩ := itNP H
        have c18b0 := eq_true c18
        have c18b1 : decide (0 ≤ x17_2) = true := decide_eq_true c18
        clear c18
        obtain ⟨ji19, hji19⟩ : ∃ j_ : Int, (shl .i64 1 x17_2) = j_ := ⟨_, rfl⟩
        replace H : (impl_relation.l1 k2 a0 a1 x13_1 a0 x13_1 a0 (wrap64 (x17_2 + 1)) a0 (x278001_2.set (x13_1 : Int).toNat (Go.bits .or .i64 (rd x278001_2 x13_1) (ji19)))) = some (r1, r2) := by first | (rw [hji19] at H; exact H) | (simp only [hji19] at H ⊢; exact H)
        (try rw [hji19] at A14)
        have hji19_ : (IntKind.i64.wrap (1 * 2 ^ min x17_2.toNat 64)) = ji19 := hji19
        have hji19z : x17_2 ≤ 64 → (IntKind.i64.wrap (1 * 2 ^ x17_2.toNat)) = ji19 := shl_small hji19
        have hji19u : (IntKind.i64.wrap (2 ^ min x17_2.toNat 64)) = ji19 := by have h_ := hji19_; rw [Int.one_mul] at h_; exact h_
        have hji19v : x17_2 ≤ 64 → (IntKind.i64.wrap (2 ^ x17_2.toNat)) = ji19 := fun hle_ => by have h_ := hji19z hle_; rw [Int.one_mul] at h_; exact h_
        have hji19y : (wrap64 (1 * 2 ^ min x17_2.toNat 64)) = ji19 := (i64_w _).symm.trans hji19_
        have hji19x : x17_2 ≤ 64 → (wrap64 (1 * 2 ^ x17_2.toNat)) = ji19 := fun h_ => (i64_w _).symm.trans (hji19z h_)
        obtain ⟨y280, hy280⟩ : ∃ y_ : List Int, y_ = (x278001_2.set (x13_1 : Int).toNat (Go.bits .or .i64 (rd x278001_2 x13_1) (ji19))) := ⟨_, rfl⟩
        replace H : (impl_relation.l1 k2 a0 a1 x13_1 a0 x13_1 a0 (wrap64 (x17_2 + 1)) a0 y280) = some (r1, r2) := by first | (rw [hy280]; with_reducible exact H) | (have H2_ := (Option.bind_some _ _).symm.trans H; rw [hy280]; with_reducible exact H2_) | (have H2_ := (Option.bind_some _ _).symm.trans H; with_reducible exact H2_) | with_reducible exact H | (rw [hy280]; exact H) | exact H
        have Ny280 := mkA hy280
        clear hy280
        have H' := mkA H
        clear H
        try go_wp2_with (first | ((with_reducible refine gate_dst (N := 23) rfl ?_); refine impl_relation.goesV_ (some 23) rfl rfl he1 (#[.int .i64 x13_1, .int .i64 x17_2] ++ lb1) rfl rfl (by (try simp only [List.map_toArray, List.map_cons, List.map_nil]); first | done | rfl | (simp only [List.length_drop, List.length_take]; rfl)) ?_; (with_reducible refine (hF1 x13_1 x17_2 true _ ?sideB A14.out).mono ?_); (case sideB => exact (bel_g HB.out)); rintro e w21 ⟨rfl, hb⟩; refine ⟨_, rfl, ?_⟩; replace HO_278001 := rB HO_278001 hb; replace BK273 := blkB BK273 hb; replace BK277 := blkB BK277 hb; replace HB := bst HB hb; (try clear hb); (try clear hk)))
        replace HO_278001 := mkA (Kd.R_drew HO_278001.out)
        replace BK273 := mkA (blk_drew BK273.out)
        replace BK277 := mkA (blk_drew BK277.out)
        replace HB := mkA (below_drew1 HB.out)
        obtain ⟨Ao23, co23, eo23⟩ := Kd.R_slice HO_278001.out
        (first | subst eo23 | (injection eo23 with f1_ f2_ f3_; have f4_ := f1_.symm; have f5_ := f3_.symm; clear f1_ f2_ f3_; subst f4_; subst f5_))
        have p279 : 0 ≤ (x13_1 : Int) := ofd
        have q279 : x13_1 < (x278001_2.length : Int) := ofd
        obtain ⟨ad279, e279, hx279_0⟩ := Kd.at_int (Kd.R_reads' HO_278001.out).2.2 x13_1 p279 q279
        cases e279
        replace p279 := eq_true p279
        replace q279 := eq_true q279
        have p20 : 0 ≤ (x13_1 : Int) := ofd
        have q20 : (x13_1 : Int) < ((x278001_2.length : Int) : Int) := ofd
        obtain ⟨go20, co20, eo20, gb20, gl20, cl20, HG20⟩ := Kd.R_form HO_278001.out (by omega)
        (first | cases eo20 | (injection eo20 with ea_ en_ ec_; (first | subst ea_ | (injection ea_ with ea_; subst ea_)); subst ec_; clear en_))
        have GB20 : Ge _ _ := ⟨gb20⟩
        have GG20 := mkA HG20
        clear gb20 gl20 HG20
        (first | simp only [add_plain] at hx279_0 | skip)
        obtain ⟨hx20_0, hf20_0⟩ := Kd.R_celln 0 HO_278001.out (x13_1 : Int) p20 q20
        replace p20 := eq_true p20
        replace q20 := eq_true q20
        have HP24 := Kd.R_putn HO_278001.out (x13_1 : Int) (Go.bits .or .i64 (rd x278001_2 x13_1) (ji19))
        rw [← Ny280.out] at HP24
        have HQ24 := mkA HP24
        clear HP24
        refine start_ (n := 10) (S := fun w' => w'.cell? ⟨gb277, 0, none⟩ = some (.int .i64 a0) ∧ w'.cell? ⟨gb277, 1, none⟩ = some (.slice (some ⟨go20, 0, none⟩) x278001_2.length co23) ∧ w'.cell? ⟨go20, (x13_1).toNat, none⟩ = some (.int .i64 (rd x278001_2 x13_1))) (ds := [9]) (bm 10 0) (by kernel_rfl) rfl rfl ⟨(blk_cell BK277.out 0).trans rfl, (blk_cell BK277.out 1).trans rfl, hx279_0⟩ (fun hHeld => ?_); refine with_tabW impl_relation.tab9 impl_relation.bits9 (fun HT_ HW_ => ?_)
        generalize w21.drew = w22 at HO_278001 BK273 BK277 HB GG20 HQ24 hf20_0 hx20_0 hx279_0 hHeld ⊢
        refine pureW 0 (some 24) (bm 10 1) HT_ ?_
        refine pureW 2 (some 26) (bm 10 5) HT_ ?_
        refine pureW 5 (some 29) (bm 10 37) HT_ ?_
        refine pureW 6 (some 30) (bm 10 101) HT_ ?_
        refine takeW 1 (some 25) (bm 10 103) HT_ HW_ hHeld ?_
        refine pureW 3 (some 27) (bm 10 111) HT_ ?_
        refine takeW 4 (some 28) (bm 10 127) HT_ HW_ hHeld ?_
        refine pureW 7 (some 31) (bm 10 255) HT_ ?_
        refine pureW 8 (some 32) (bm 10 511) HT_ ?_
        refine last_ (i := 9) (N := none) (bm 10 1023) rfl rfl (one_of HT_.out (by kernel_rfl)) (by decide) (fun K hK => ?_)
        refine skip_ (w1 := ?_) (by rfl) rfl ?_ ?_
        rotate_left
        ·go_simp
         rfl
        refine hK.out _ _ ?_
        clear hK K
        refine doneW HT_ ?_
        try go_wp2
        go_roundg k2
        case measure => have := HK1.out; have := HK2.out; omega
        case rel => exact ⟨(wrap64 (x17_2 + 1)), (y280), (.slice (some ⟨go20, 0, none⟩) x278001_2.length co23), eqS, H', ⟨by have := HK1.out; have := HK2.out; omega⟩, ⟨Kd.R_g HQ24.out⟩, ⟨by (with_reducible repeat (first | refine blk_drewN ?_ _ | refine blk_drew ?_ | refine blk_alloc ?_ _)); refine blk_far ?_ (by have h_ := Kd.R_ne HO_278001.out BK273.out (by decide); intro e_; exact h_ (by rw [e_]; rfl)) _; (with_reducible repeat (first | refine blk_drewN ?_ _ | refine blk_drew ?_ | refine blk_alloc ?_ _)); exact BK273.out⟩, ⟨by (with_reducible repeat (first | refine blk_drewN ?_ _ | refine blk_drew ?_ | refine blk_alloc ?_ _)); refine blk_far ?_ (by have h_ := Kd.R_ne HO_278001.out BK277.out (by decide); intro e_; exact h_ (by rw [e_]; rfl)) _; (with_reducible repeat (first | refine blk_drewN ?_ _ | refine blk_drew ?_ | refine blk_alloc ?_ _)); exact BK277.out⟩, ⟨bel_g HB.out⟩⟩
       ·replace c15 := Bool.eq_false_iff.mpr c15
        subst c15
        replace H := ifF H
        have H' := mkA H
        clear H
        go_wp2_with (first | ((with_reducible refine gate_dst (N := 23) rfl ?_); refine impl_relation.goesV_ (some 23) rfl rfl he1 (#[.int .i64 x13_1, .int .i64 x17_2] ++ lb1) rfl rfl (by (try simp only [List.map_toArray, List.map_cons, List.map_nil]); first | done | rfl | (simp only [List.length_drop, List.length_take]; rfl)) ?_; (with_reducible refine (hF1 x13_1 x17_2 false _ ?sideB A14.out).mono ?_); (case sideB => exact (bel_g HB.out)); rintro e w25 ⟨rfl, hb⟩; refine ⟨_, rfl, ?_⟩; replace HO_278001 := rB HO_278001 hb; replace BK273 := blkB BK273 hb; replace BK277 := blkB BK277 hb; replace HB := bst HB hb; (try clear hb); (try clear hk)))
        go_roundg k2
        case measure => have := HK1.out; have := HK2.out; omega
        case rel => exact ⟨(wrap64 (x17_2 + 1)), (x278001_2), (u278001), eqS, H', ⟨by have := HK1.out; have := HK2.out; omega⟩, ⟨Kd.R_g HO_278001.out⟩, ⟨blk_g BK273.out⟩, ⟨blk_g BK277.out⟩, ⟨bel_g HB.out⟩⟩
      ·have H' := mkA H
       clear H
       go_wp2
       go_roundg k2
       case measure => have := HK1.out; have := HK2.out; omega
       case rel => exact ⟨(wrap64 (x13_1 + 1)), (x278001_2), (u278001), eqS, H', ⟨by have := HK1.out; have := HK2.out; omega⟩, ⟨Kd.R_g HO_278001.out⟩, ⟨blk_g BK273.out⟩, ⟨blk_g BK277.out⟩, ⟨bel_g HB.out⟩⟩
   ·simp only [Option.some.injEq, Prod.mk.injEq] at H
    obtain ⟨rfl, rfl⟩ := H
    obtain ⟨hcz27_0, hcz27_1, hfz27_0, hfz27_1⟩ := blk2 BK277
    obtain ⟨hcz28_0, hcz28_1, hfz28_0, hfz28_1⟩ := blk2 BK273
    obtain ⟨Ao29, co29, eo29⟩ := Kd.R_slice HO_278001.out
    subst eo29
    go_wp2
    refine bodyPost_ret (results_cell_row rfl _ _ gb273 26 #[.int .i64 a0, .slice Ao29 x278001_1.length co29] (0, 0) _ rfl (blkT BK273) Tryd.underlying26 rfl (by kernel_rfl)) rfl ?_
    exact ⟨_, eqE, by (with_reducible repeat (first | apply Kd.R_alloc | apply Kd.R_drewN | apply Kd.R_drew)); exact Kd.R_mono (Kd.R_far (p := ⟨gb273, 1, none⟩) (Kd.R_far (p := ⟨gb273, 0, none⟩) (Kd.R_types HO_278001.out BK273.out (by decide)) (fun _ hk => hk.2) (.int .i64 a0)) (fun _ hk => hk.2) (.slice Ao29 x278001_1.length co29)) (fun _ hk => trivial), bel_g HB.out⟩
def impl_together_1.j0 : Nat → Int → Int → Bool → Int → List Int → Int → List Int → Bool → Option (Bool)
 | 0, _, _, _, _, _, _, _, _ => none
 | k + 1, x0, x1, x8, x282000, x282001, x283000, x283001, x284000 => if x8 = true then ((impl_Order_better.f x282000 x282001 x0 x1).bind fun t284 => (some t284)) else (if x0 ≥ x282000 then (if x1 ≥ x282000 then ((impl_Order_better.f x283000 x283001 (wrap64 (x0 - x282000)) (wrap64 (x1 - x282000))).bind fun t285 => (some t285)) else (if x284000 = true then (some (decide (x0 < x282000))) else (some false))) else (if x284000 = true then (some (decide (x0 < x282000))) else (some false)))
def impl_together_1.f (k : Nat) (a0 : Int) (a1 : Int) (a2_0 : Int) (l2_1 : List Int) (a3_0 : Int) (l3_1 : List Int) (a4_0 : Bool) : Option (Bool) := if a0 < a2_0 then (impl_together_1.j0 k a0 a1 (decide (a1 < a2_0)) a2_0 l2_1 a3_0 l3_1 a4_0) else (impl_together_1.j0 k a0 a1 false a2_0 l2_1 a3_0 l3_1 a4_0)
theorem impl_together_1.mono_l : ∀ k, (∀ y0 y1 y2 y3 y4 y5 y6 y7, LeO (impl_together_1.j0 k y0 y1 y2 y3 y4 y5 y6 y7) (impl_together_1.j0 (k + 1) y0 y1 y2 y3 y4 y5 y6 y7))
 | 0 => fun _ _ _ _ _ _ _ _ r h => by simp [impl_together_1.j0] at h
 | k + 1 => by
  have ih0 := impl_together_1.mono_l k
  ·intro y0 y1 y2 y3 y4 y5 y6 y7
   unfold impl_together_1.j0
   repeat' (with_reducible first|exact ih0 _ _ _ _ _ _ _ _|exact LeO.refl _|exact LeO.none _|refine LeO.ite ?_ ?_|refine LeO.bind ?_ (fun _ => ?_))
theorem impl_together_1.mono : ∀ a0 a1 a2 a3 a4 a5 a6 k, LeO (impl_together_1.f k a0 a1 a2 a3 a4 a5 a6) (impl_together_1.f (k + 1) a0 a1 a2 a3 a4 a5 a6) := by
 intro a0 a1 a2 a3 a4 a5 a6 k
 have ih0 := impl_together_1.mono_l k
 unfold impl_together_1.f
 repeat' (with_reducible first|exact ih0 _ _ _ _ _ _ _ _|exact LeO.refl _|exact LeO.none _|refine LeO.ite ?_ ?_|refine LeO.bind ?_ (fun _ => ?_))
theorem impl_together_1.calls (k : Nat) (a0 : Int) (a1 : Int) (gB2 : Nat) (a2_0 : Int) (A2_1 : Option Addr) (c2_1 : Nat) (l2_1 : List Int) (gB3 : Nat) (a3_0 : Int) (A3_1 : Option Addr) (c3_1 : Nat) (l3_1 : List Int) (gB4 : Nat) (a4_0 : Bool) (r : Bool) (w : World) (hb2 : w.heap[gB2]? = some (.cells #[.int .i64 a2_0, .slice A2_1 l2_1.length c2_1] 26 (0, 0))) (hr2_1 : Kd.C (Kd.int .i64) w A2_1 l2_1.length l2_1) (hc2_1 : l2_1.length ≤ c2_1) (hb3 : w.heap[gB3]? = some (.cells #[.int .i64 a3_0, .slice A3_1 l3_1.length c3_1] 26 (0, 0))) (hr3_1 : Kd.C (Kd.int .i64) w A3_1 l3_1.length l3_1) (hc3_1 : l3_1.length ≤ c3_1) (hb4 : w.heap[gB4]? = some (.cells #[.bool a4_0] 4 (0, 0))) (h : impl_together_1.f k a0 a1 a2_0 l2_1 a3_0 l3_1 a4_0 = some r) :
  Calls Tryd.prog 30 #[.int .i64 a0, .int .i64 a1, .pointer (some ⟨gB2, 0, none⟩), .pointer (some ⟨gB3, 0, none⟩), .pointer (some ⟨gB4, 0, none⟩)] w fun e w' => e = .returned (.bool r) ∧ Below w.heap.size w w' := by
 have hu26 := Tryd.underlying26
 have BK281 := mkA hb2
 clear hb2
 have BK282 := mkA hb3
 clear hb3
 have BK283 := mkA hb4
 clear hb4
 have HR2_1 := mkA hr2_1
 have HC2_1 := mkA hc2_1
 clear hr2_1 hc2_1
 have HR3_1 := mkA hr3_1
 have HC3_1 := mkA hc3_1
 clear hr3_1 hc3_1
 have HB := mkA (Below.refl w.heap.size w)
 have H := h
 clear h
 unfold impl_together_1.f at H
 have HC6 := mkA H
 clear H
 go_enter Tryd.func30, Tryd.ntmps30
 go_upto_region 1 with (fail)
 go_cut [8] (fun v8 wc => ∃ (kq : Nat) (x8_5 : Bool), v8 = .bool x8_5 ∧ Fc (impl_together_1.j0 kq a0 a1 x8_5 a2_0 l2_1 a3_0 l3_1 a4_0 = some r) ∧ Fc (kq ≤ k) ∧ Fc (wc.heap[gB2]? = some (.cells #[.int .i64 a2_0, (.slice A2_1 l2_1.length c2_1)] 26 (0, 0))) ∧ Fc (wc.heap[gB3]? = some (.cells #[.int .i64 a3_0, (.slice A3_1 l3_1.length c3_1)] 26 (0, 0))) ∧ Fc (wc.heap[gB4]? = some (.cells #[.bool a4_0] 4 (0, 0))) ∧ Fc (Below w.heap.size w wc))
 case first =>
  have H := HC6.out
  clear HC6
  rcases iteE H with ⟨c7b0, H⟩ | ⟨c7b0, H⟩
  ·(first | rw [c7b0] | (simp only [i64_w, i32_w]; rw [c7b0]) | skip)
   have H' := mkA H
   clear H
   obtain ⟨hcz10_0, hcz10_1, hfz10_0, hfz10_1⟩ := blk2 BK281
   go_wp2
   go_meet
   case rel => exact ⟨_, (decide (a1 < a2_0)), eqS, H', ⟨by first | omega | exact Nat.le_refl _⟩, ⟨blk_g BK281.out⟩, ⟨blk_g BK282.out⟩, ⟨blk_g BK283.out⟩, ⟨bel_g HB.out⟩⟩
  ·(first | rw [c7b0] | (simp only [i64_w, i32_w]; rw [c7b0]) | skip)
   have H' := mkA H
   clear H
   obtain ⟨hcz13_0, hcz13_1, hfz13_0, hfz13_1⟩ := blk2 BK281
   go_wp2
   go_meet
   case rel => exact ⟨_, (false), eqS, H', ⟨by first | omega | exact Nat.le_refl _⟩, ⟨blk_g BK281.out⟩, ⟨blk_g BK282.out⟩, ⟨blk_g BK283.out⟩, ⟨bel_g HB.out⟩⟩
 case rest =>
  clear HC6
  try clear c7b0
  obtain ⟨kq, x8_5, rfl, HA, HJ5, BK281, BK282, BK283, HB⟩ := hcut
  cases kq with
  | zero => exact absurd HA.out (by simp [impl_together_1.j0])
  | succ kj5 =>
   have H := HA.out
   clear HA
   simp only [impl_together_1.j0] at H
   by_cases c14 : x8_5 = true
   ·subst c14
    replace H := ifT H
    obtain ⟨t284, A15, H⟩ := obE H
    obtain rfl := Option.some.inj H
    obtain ⟨hcz18_0, hcz18_1, hfz18_0, hfz18_1⟩ := blk2 BK281
    go_wp2_with (first | ((with_reducible refine gate_callee (f := 31) rfl ?_); refine goesQ (some 22) Tryd.func31 #[.agg #[.int .i64 a2_0, .slice A2_1 l2_1.length c2_1], .int .i64 a0, .int .i64 a1] ?_; (with_reducible refine (impl_Order_better.calls a2_0 _ _ l2_1 a0 a1 t284 _ ?s1 ?s2 A15.out).mono ?_); (case s1 => exact C_g HR2_1 HB); (case s2 => exact HC2_1.out); rintro e w19 ⟨rfl, hb⟩; refine ⟨_, rfl, ?_⟩; replace BK281 := blkB BK281 hb; replace BK282 := blkB BK282 hb; replace BK283 := blkB BK283 hb; replace HB := bst HB hb; (try clear hb); (try clear hb2)))
    go_ret
    exact ⟨eqE, bel_g HB.out⟩
   ·replace c14 := Bool.eq_false_iff.mpr c14
    subst c14
    replace H := ifF H
    rcases iteP H with ⟨c20, H⟩ | ⟨c20, H⟩
    ·have c20b0 : decide (a2_0 ≤ a0) = true := decide_eq_true c20
     clear c20
     rcases iteP H with ⟨c21, H⟩ | ⟨c21, H⟩
     ·have c21b0 : decide (a2_0 ≤ a1) = true := decide_eq_true c21
      clear c21
      obtain ⟨t285, A22, H⟩ := obE H
      obtain rfl := Option.some.inj H
      obtain ⟨hcz25_0, hcz25_1, hfz25_0, hfz25_1⟩ := blk2 BK281
      obtain ⟨hcz27_0, hcz27_1, hfz27_0, hfz27_1⟩ := blk2 BK282
      go_wp2_with (first | ((with_reducible refine gate_callee (f := 31) rfl ?_); refine goesQ (some 43) Tryd.func31 #[.agg #[.int .i64 a3_0, .slice A3_1 l3_1.length c3_1], .int .i64 (wrap64 (a0 - a2_0)), .int .i64 (wrap64 (a1 - a2_0))] ?_; (with_reducible refine (impl_Order_better.calls a3_0 _ _ l3_1 (wrap64 (a0 - a2_0)) (wrap64 (a1 - a2_0)) t285 _ ?s1 ?s2 A22.out).mono ?_); (case s1 => exact C_g HR3_1 HB); (case s2 => exact HC3_1.out); rintro e w28 ⟨rfl, hb⟩; refine ⟨_, rfl, ?_⟩; replace BK281 := blkB BK281 hb; replace BK282 := blkB BK282 hb; replace BK283 := blkB BK283 hb; replace HB := bst HB hb; (try clear hb); (try clear hb2)))
      go_ret
      exact ⟨eqE, bel_g HB.out⟩
     ·have c21b0 : decide (a2_0 ≤ a1) = false := decide_eq_false c21
      clear c21
      by_cases c29 : a4_0 = true
      ·subst c29
       replace H := ifT H
       obtain rfl := Option.some.inj H
       obtain ⟨hcz32_0, hcz32_1, hfz32_0, hfz32_1⟩ := blk2 BK281
       obtain ⟨hcz34_0, hfz34_0⟩ := blk1 BK283
       go_wp2
       go_ret
       exact ⟨eqE, bel_g HB.out⟩
      ·replace c29 := Bool.eq_false_iff.mpr c29
       subst c29
       replace H := ifF H
       obtain rfl := Option.some.inj H
       obtain ⟨hcz37_0, hcz37_1, hfz37_0, hfz37_1⟩ := blk2 BK281
       obtain ⟨hcz39_0, hfz39_0⟩ := blk1 BK283
       go_wp2
       go_ret
       exact ⟨eqE, bel_g HB.out⟩
    ·have c20b0 : decide (a2_0 ≤ a0) = false := decide_eq_false c20
     clear c20
     by_cases c40 : a4_0 = true
     ·subst c40
      replace H := ifT H
      obtain rfl := Option.some.inj H
      obtain ⟨hcz43_0, hcz43_1, hfz43_0, hfz43_1⟩ := blk2 BK281
      obtain ⟨hcz45_0, hfz45_0⟩ := blk1 BK283
      go_wp2
      go_ret
      exact ⟨eqE, bel_g HB.out⟩
     ·replace c40 := Bool.eq_false_iff.mpr c40
      subst c40
      replace H := ifF H
      obtain rfl := Option.some.inj H
      obtain ⟨hcz48_0, hcz48_1, hfz48_0, hfz48_1⟩ := blk2 BK281
      obtain ⟨hcz50_0, hfz50_0⟩ := blk1 BK283
      go_wp2
      go_ret
      exact ⟨eqE, bel_g HB.out⟩
end Go.Proofs.YtgdnljpallpjiaaDoor.Q
