import Derived.Test.YtmdnbjhboppkdaaDoorBFnMajorities6
namespace Go.Proofs.YtmdnbjhboppkdaaDoor.Q
open Go.RowKit Go.Proofs.YtmdnbjhboppkdaaDoorW.PrintWords Go.Proofs.YtmdnbjhboppkdaaDoorW.PrintLast Go.Proofs.YtmdnbjhboppkdaaDoorW.PrintMore
attribute [local go_sem] max2_int min2_int max_two min_two max_three min_three max_four min_four neB_f
set_option linter.unusedVariables false
set_option maxHeartbeats 8000000
set_option maxRecDepth 100000
set_option linter.unusedSimpArgs false
def impl_within.f (a0 : Int) (a1 : Int) (a2 : Int) : Option (Bool) := if a0 ≥ a1 then (some (decide (a0 ≤ a2))) else (some false)
theorem impl_within.calls (a0 : Int) (a1 : Int) (a2 : Int) (r : Bool) (w : World) (h : impl_within.f a0 a1 a2 = some r) :
  Calls Tryd.prog 27 #[.int .i64 a0, .int .i64 a1, .int .i64 a2] w fun e w' => e = .returned (.bool r) ∧ Drawn0 w w' := by
 have H := h
 clear h
 unfold impl_within.f at H
 rcases iteP H with ⟨c4, H⟩ | ⟨c4, H⟩
 ·have c4b0 := decide_eq_true c4
  clear c4
  obtain rfl := Option.some.inj H
  go_enter Tryd.func27, Tryd.ntmps27
  go_wp2
  go_ret
  exact ⟨eqS, drE⟩
 ·have c4b0 := decide_eq_false c4
  clear c4
  obtain rfl := Option.some.inj H
  go_enter Tryd.func27, Tryd.ntmps27
  go_wp2
  go_ret
  exact ⟨eqS, drE⟩
theorem slices_IndexFunc_int_int.goesV_ {P : Program} {ops : Array Oper} {Q : Exit → Act → World → Prop} {rest : List Oper} {oi : Oper} {a : Act} {w : World} (N : Option Tmp) (hd : oi.dst = N) (hg : oi.guard = none) {g : FuncId} {lb : Array Value} {x : Operand} {ax : Array Operand} {ts : Array TypeId}
  (he : ∀ args W, (callFunc g args).run P W = .ok (.enter g args) W) (args : Array Value) (hop : oi.op = .call { callee := .value x, args := ax, argTypes := ts }) (hx : a.eval x = .func (.func g) #[] lb) (hargs : ax.map a.eval ++ lb = args)
  (h : Calls P g args w fun e w' => ∃ v, e = .returned v ∧ wpList P ops Q rest (a.put N v) w') : wpList P ops Q (oi :: rest) a w := by
 refine wpList_plain hg fun K hK => ?_
 have he := he args w
 have hrun : (execOp a.eval oi).run P w = .ok (.enter g args) w := by
  unfold execOp
  simp [hop, resolve, Deferred.ofValue, invoke, hx, hargs, he]
 unfold Oper.wp
 rw [hrun, Oper.upon_enter]
 refine h.mono fun e w'' hh => ?_
 obtain ⟨v, rfl, hk⟩ := hh
 subst hd
 exact hK _ _ hk
def slices_IndexFunc_int_int.l0 : Nat → List (List Int) → (List Int → Option Bool) → Int → Int → Option (Int)
 | 0, _, _, _, _ => none
 | k + 1, x0, x1, x7, x8 => if x8 < x7 then (if 0 ≤ x8 then (if x8 < (x0.length : Int) then ((x1 (rd_L2 x0 x8)).bind fun t240 => (if t240 = true then (some x8) else (slices_IndexFunc_int_int.l0 k x0 x1 x7 (wrap64 (x8 + 1))))) else (none)) else (none)) else (some (-1))
def slices_IndexFunc_int_int.f (k : Nat) (l0 : List (List Int)) (a1 : (List Int → Option Bool)) : Option (Int) := slices_IndexFunc_int_int.l0 k l0 a1 (l0.length : Int) 0
theorem slices_IndexFunc_int_int.mono_l : ∀ k, (∀ y0 y1 y2 y3, LeO (slices_IndexFunc_int_int.l0 k y0 y1 y2 y3) (slices_IndexFunc_int_int.l0 (k + 1) y0 y1 y2 y3))
 | 0 => fun _ _ _ _ r h => by simp [slices_IndexFunc_int_int.l0] at h
 | k + 1 => by
  have ih0 := slices_IndexFunc_int_int.mono_l k
  ·intro y0 y1 y2 y3
   unfold slices_IndexFunc_int_int.l0
   repeat' (with_reducible first|apply ih0|apply LeO.refl|apply LeO.none|apply LeO.ite|apply LeO.bind|intro)
theorem slices_IndexFunc_int_int.mono : ∀ a0 a1 k, LeO (slices_IndexFunc_int_int.f k a0 a1) (slices_IndexFunc_int_int.f (k + 1) a0 a1) := by
 intro a0 a1 k
 have ih0 := slices_IndexFunc_int_int.mono_l k
 unfold slices_IndexFunc_int_int.f
 repeat' (with_reducible first|apply ih0|apply LeO.refl|apply LeO.none|apply LeO.ite|apply LeO.bind|intro)
theorem slices_IndexFunc_int_int.monoF_l : ∀ k, (∀ y0 y1 y2 y3 (G_ : (List Int → Option Bool)), (∀ u0_, LeO (y1 u0_) (G_ u0_)) → LeO (slices_IndexFunc_int_int.l0 k y0 y1 y2 y3) (slices_IndexFunc_int_int.l0 (k + 1) y0 G_ y2 y3))
 | 0 => fun _ _ _ _ _ _ r h => by simp [slices_IndexFunc_int_int.l0] at h
 | k + 1 => by
  have ih0 := slices_IndexFunc_int_int.monoF_l k
  ·intro y0 y1 y2 y3 G_ hF
   unfold slices_IndexFunc_int_int.l0
   repeat' (with_reducible first|exact ih0 _ _ _ _ _ hF|exact hF _|apply LeO.refl|apply LeO.none|apply LeO.ite|apply LeO.bind|intro)
theorem slices_IndexFunc_int_int.monoF {a1 G_ : (List Int → Option Bool)} (hF : (∀ u0_, LeO (a1 u0_) (G_ u0_))) : ∀ a0 k, LeO (slices_IndexFunc_int_int.f k a0 a1) (slices_IndexFunc_int_int.f (k + 1) a0 G_) := by
 intro a0 k
 have ih0 := slices_IndexFunc_int_int.monoF_l k
 unfold slices_IndexFunc_int_int.f
 repeat' (with_reducible first|exact ih0 _ _ _ _ _ hF|exact hF _|apply LeO.refl|apply LeO.none|apply LeO.ite|apply LeO.bind|intro)
theorem slices_IndexFunc_int_int.calls (k : Nat) (A0 : Option Addr) (c0 : Nat) (l0 : List (List Int)) (a1 : (List Int → Option Bool)) (g1 : FuncId) (lb1 : Array Value) (he1 : ∀ args_ W_, (callFunc g1 args_).run Tryd.prog W_ = .ok (.enter g1 args_) W_) (r : Int) (w : World) (hr0 : Kd.C (Kd.slice 3 (Kd.int .i64)) w A0 l0.length l0) (hc0 : l0.length ≤ c0) (hF1 : ∀ (A0_ : Option Addr) (c0_ : Nat) (u0_ : List Int) (q : Bool) (W : World), Below w.heap.size w W → Kd.C (Kd.int .i64) W A0_ u0_.length u0_ → u0_.length ≤ c0_ → a1 u0_ = some q → Calls Tryd.prog g1 (#[.slice A0_ u0_.length c0_] ++ lb1) W fun e W' => e = .returned (.bool q) ∧ Below W.heap.size W W') (h : slices_IndexFunc_int_int.f k l0 a1 = some r) :
  Calls Tryd.prog 60 #[.slice A0 l0.length c0, .func (.func g1) #[] lb1] w fun e w' => e = .returned (.int .i64 r) ∧ Below w.heap.size w w' := by
 have HR0 := mkA hr0
 have HC0 := mkA hc0
 clear hr0 hc0
 have HB := mkA (Below.refl w.heap.size w)
 have H := h
 clear h
 unfold slices_IndexFunc_int_int.f at H
 have H' := mkA H
 clear H
 go_enter Tryd.func60, Tryd.ntmps60
 go_wp2
 go_loopg [8] k (fun kq v8 w' => ∃ (x8_1 : Int), v8 = .int .i64 x8_1 ∧ Fc (slices_IndexFunc_int_int.l0 kq l0 a1 (l0.length : Int) x8_1 = some r) ∧ Fc (kq ≤ k) ∧ Fc (Below w.heap.size w w'))
 case atStart => exact ⟨(0), eqS, H', ⟨Nat.le_refl _⟩, hbg HB⟩
 case round =>
  clear H'
  obtain ⟨x8_1, rfl, HA, HK1, HB⟩ := hrel
  cases gk with
  | zero => exact absurd HA.out (by simp [slices_IndexFunc_int_int.l0])
  | succ k1 =>
   have H := HA.out
   clear HA
   simp only [slices_IndexFunc_int_int.l0] at H
   rcases iteE H with ⟨c3b0, H⟩ | ⟨c3b0, H⟩
   ·obtain ⟨c4b0, H⟩ := itND H
    obtain ⟨c5b0, H⟩ := itND H
    obtain ⟨t240, A6, H⟩ := obE H
    by_cases c7 : t240 = true
    ·subst c7
     replace H := ifT H
     obtain rfl := Option.some.inj H
     have p239 : 0 ≤ (x8_1 : Int) := ofd
     have q239 : x8_1 < (l0.length : Int) := ofd
     obtain ⟨ad239, A239_0, c239_0, e239, hx239_0, hl239_0, hi239_0⟩ := at_L2 HR0.out x8_1 p239 q239
     cases e239
     replace hx239_0 := (HB.out.cell (World.block_lt_of_cell? w _ hx239_0)).trans hx239_0
     have HR239_0 := mkA hi239_0
     have HC239_0 := mkA hl239_0
     clear hi239_0 hl239_0
     replace p239 := eq_true p239
     replace q239 := eq_true q239
     go_wp2_with (first | ((with_reducible refine gate_dst (N := 16) rfl ?_); refine slices_IndexFunc_int_int.goesV_ (some 16) rfl rfl he1 (#[.slice A239_0 (rd_L2 l0 x8_1).length c239_0] ++ lb1) rfl rfl (by (try simp only [List.map_toArray, List.map_cons, List.map_nil]); first | done | rfl | (simp only [List.length_drop, List.length_take]; rfl)) ?_; (with_reducible refine (hF1 _ _ (rd_L2 l0 x8_1) true _ ?sideB ?s1 ?s2 A6.out).mono ?_); (case sideB => exact (bel_g HB.out)); (case s1 => exact C_g HR239_0 HB); (case s2 => exact HC239_0.out); rintro e w8 ⟨rfl, hb⟩; refine ⟨_, rfl, ?_⟩; replace HB := bst HB hb; clear hb))
     go_ret
     exact ⟨eqE, bel_g HB.out⟩
    ·replace c7 := Bool.eq_false_iff.mpr c7
     subst c7
     replace H := ifF H
     have H' := mkA H
     clear H
     have p239 : 0 ≤ (x8_1 : Int) := ofd
     have q239 : x8_1 < (l0.length : Int) := ofd
     obtain ⟨ad239, A239_0, c239_0, e239, hx239_0, hl239_0, hi239_0⟩ := at_L2 HR0.out x8_1 p239 q239
     cases e239
     replace hx239_0 := (HB.out.cell (World.block_lt_of_cell? w _ hx239_0)).trans hx239_0
     have HR239_0 := mkA hi239_0
     have HC239_0 := mkA hl239_0
     clear hi239_0 hl239_0
     replace p239 := eq_true p239
     replace q239 := eq_true q239
     go_wp2_with (first | ((with_reducible refine gate_dst (N := 16) rfl ?_); refine slices_IndexFunc_int_int.goesV_ (some 16) rfl rfl he1 (#[.slice A239_0 (rd_L2 l0 x8_1).length c239_0] ++ lb1) rfl rfl (by (try simp only [List.map_toArray, List.map_cons, List.map_nil]); first | done | rfl | (simp only [List.length_drop, List.length_take]; rfl)) ?_; (with_reducible refine (hF1 _ _ (rd_L2 l0 x8_1) false _ ?sideB ?s1 ?s2 A6.out).mono ?_); (case sideB => exact (bel_g HB.out)); (case s1 => exact C_g HR239_0 HB); (case s2 => exact HC239_0.out); rintro e w9 ⟨rfl, hb⟩; refine ⟨_, rfl, ?_⟩; replace HB := bst HB hb; clear hb))
     go_roundg k1
     case measure => have := HK1.out; omega
     case rel => exact ⟨(wrap64 (x8_1 + 1)), eqS, H', ⟨by have := HK1.out; omega⟩, hbg HB⟩
   ·obtain rfl := Option.some.inj H
    go_wp2
    go_ret
    exact ⟨eqE, bel_g HB.out⟩
def slices_ContainsFunc_int_int.f (k : Nat) (l0 : List (List Int)) (a1 : (List Int → Option Bool)) : Option (Bool) := (slices_IndexFunc_int_int.f k l0 a1).bind fun t241 => (some (decide (t241 ≥ 0)))
theorem slices_ContainsFunc_int_int.mono : ∀ a0 a1 k, LeO (slices_ContainsFunc_int_int.f k a0 a1) (slices_ContainsFunc_int_int.f (k + 1) a0 a1) := by
 intro a0 a1 k
 unfold slices_ContainsFunc_int_int.f
 repeat' first
   | (with_reducible exact slices_IndexFunc_int_int.mono _ _ _)
   | (refine slices_IndexFunc_int_int.monoF ?_ _ _; intros)
   | (with_reducible exact slices_IndexFunc_int_int.mono _ _ _)
   | (with_reducible exact LeO.refl _)
   | (with_reducible exact LeO.none _)
   | (with_reducible refine LeO.ite ?_ ?_)
   | (with_reducible refine LeO.bind ?_ (fun _ => ?_))
   | exact slices_IndexFunc_int_int.mono _ _ _
   | exact LeO.none _
   | refine LeO.ite ?_ ?_
   | refine LeO.bind ?_ (fun _ => ?_)
theorem slices_ContainsFunc_int_int.monoF {a1 G_ : (List Int → Option Bool)} (hF : (∀ u0_, LeO (a1 u0_) (G_ u0_))) : ∀ a0 k, LeO (slices_ContainsFunc_int_int.f k a0 a1) (slices_ContainsFunc_int_int.f (k + 1) a0 G_) := by
 intro a0 k
 unfold slices_ContainsFunc_int_int.f
 repeat' first
   | (with_reducible exact hF _)
   | (with_reducible exact slices_IndexFunc_int_int.mono _ _ _)
   | (with_reducible exact LeO.refl _)
   | (with_reducible exact LeO.none _)
   | (with_reducible refine LeO.ite ?_ ?_)
   | (with_reducible refine LeO.bind ?_ (fun _ => ?_))
   | exact hF _
   | exact slices_IndexFunc_int_int.mono _ _ _
   | (refine slices_IndexFunc_int_int.monoF ?_ _ _; intros)
   | (refine slices_IndexFunc_int_int.monoF hF _ _)
   | exact LeO.none _
   | refine LeO.ite ?_ ?_
   | refine LeO.bind ?_ (fun _ => ?_)
theorem slices_ContainsFunc_int_int.calls (k : Nat) (A0 : Option Addr) (c0 : Nat) (l0 : List (List Int)) (a1 : (List Int → Option Bool)) (g1 : FuncId) (lb1 : Array Value) (he1 : ∀ args_ W_, (callFunc g1 args_).run Tryd.prog W_ = .ok (.enter g1 args_) W_) (r : Bool) (w : World) (hr0 : Kd.C (Kd.slice 3 (Kd.int .i64)) w A0 l0.length l0) (hc0 : l0.length ≤ c0) (hF1 : ∀ (A0_ : Option Addr) (c0_ : Nat) (u0_ : List Int) (q : Bool) (W : World), Below w.heap.size w W → Kd.C (Kd.int .i64) W A0_ u0_.length u0_ → u0_.length ≤ c0_ → a1 u0_ = some q → Calls Tryd.prog g1 (#[.slice A0_ u0_.length c0_] ++ lb1) W fun e W' => e = .returned (.bool q) ∧ Below W.heap.size W W') (h : slices_ContainsFunc_int_int.f k l0 a1 = some r) :
  Calls Tryd.prog 42 #[.slice A0 l0.length c0, .func (.func g1) #[] lb1] w fun e w' => e = .returned (.bool r) ∧ Below w.heap.size w w' := by
 have HR0 := mkA hr0
 have HC0 := mkA hc0
 clear hr0 hc0
 have HB := mkA (Below.refl w.heap.size w)
 have H := h
 clear h
 unfold slices_ContainsFunc_int_int.f at H
 obtain ⟨t241, A3, H⟩ := obE H
 obtain rfl := Option.some.inj H
 go_enter Tryd.func42, Tryd.ntmps42
 go_wp2_with (first | ((with_reducible refine gate_callee (f := 60) rfl ?_); refine goesQ (some 7) Tryd.func60 #[.slice A0 l0.length c0, .func (.func g1) #[] lb1] ?_; (with_reducible refine (slices_IndexFunc_int_int.calls k _ _ l0 a1 g1 lb1 he1 t241 _ ?s1 ?s2 ?s3 A3.out).mono ?_); (case s1 => repeat (first | exact HR0.out | (with_reducible refine Kd.C_alloc ?_ _) | (with_reducible refine Kd.C_drewN ?_ _) | (with_reducible refine Kd.C_drew ?_))); (case s2 => exact HC0.out); (case s3 => exact fun A0_ c0_ u0_ q_ W_ hb_ hr0_ hc0_ hq_ => hF1 A0_ c0_ u0_ q_ W_ (below_step (bel_g HB.out) hb_) hr0_ hc0_ hq_); rintro e w4 ⟨rfl, hb⟩; refine ⟨_, rfl, ?_⟩; replace HB := bst HB hb; clear hb))
 go_ret
 exact ⟨eqE, bel_g HB.out⟩
def impl_areVoters_1.f (k : Nat) (l0 : List Int) (l1_0 : List (List Int)) : Option (Bool) := (impl_AreLevels.f k l0).bind fun t386 => (if t386 = true then (if 0 < (l1_0.length : Int) then (some ((l0.length : Int) != ((rd_L2 l1_0 0).length : Int))) else (none)) else (some true))
theorem impl_areVoters_1.mono : ∀ a0 a1 k, LeO (impl_areVoters_1.f k a0 a1) (impl_areVoters_1.f (k + 1) a0 a1) := by
 intro a0 a1 k
 unfold impl_areVoters_1.f
 repeat' (with_reducible first|apply impl_AreLevels.mono|apply LeO.refl|apply LeO.none|apply LeO.ite|apply LeO.bind|intro)
theorem impl_areVoters_1.calls (k : Nat) (A0 : Option Addr) (c0 : Nat) (l0 : List Int) (gB1 : Nat) (A1_0 : Option Addr) (c1_0 : Nat) (l1_0 : List (List Int)) (r : Bool) (w : World) (hr0 : Kd.C (Kd.int .i64) w A0 l0.length l0) (hc0 : l0.length ≤ c0) (hb1 : w.heap[gB1]? = some (.cells #[.slice A1_0 l1_0.length c1_0] 24 (0, 0))) (hr1_0 : Kd.C (Kd.slice 3 (Kd.int .i64)) w A1_0 l1_0.length l1_0) (hc1_0 : l1_0.length ≤ c1_0) (h : impl_areVoters_1.f k l0 l1_0 = some r) :
  Calls Tryd.prog 43 #[.slice A0 l0.length c0, .pointer (some ⟨gB1, 0, none⟩)] w fun e w' => e = .returned (.bool r) ∧ Below w.heap.size w w' := by
 have BK385 := mkA hb1
 clear hb1
 have HR0 := mkA hr0
 have HC0 := mkA hc0
 clear hr0 hc0
 have HR1_0 := mkA hr1_0
 have HC1_0 := mkA hc1_0
 clear hr1_0 hc1_0
 have HB := mkA (Below.refl w.heap.size w)
 have H := h
 clear h
 unfold impl_areVoters_1.f at H
 obtain ⟨t386, A3, H⟩ := obE H
 by_cases c4 : t386 = true
 ·subst c4
  replace H := ifT H
  obtain ⟨c5, H⟩ := itNP H
  have c5b0 := decide_eq_true c5
  have c5b1 : decide (0 < l1_0.length) = true := decide_eq_true (by omega)
  clear c5
  obtain rfl := Option.some.inj H
  go_enter Tryd.func43, Tryd.ntmps43
  go_wp2_with (first | ((with_reducible refine gate_callee (f := 13) rfl ?_); refine goesQ (some 5) Tryd.func13 #[.slice A0 l0.length c0] ?_; (with_reducible refine (impl_AreLevels.calls k _ _ l0 true _ ?s1 ?s2 A3.out).mono ?_); (case s1 => repeat (first | exact HR0.out | (with_reducible refine Kd.C_alloc ?_ _) | (with_reducible refine Kd.C_drewN ?_ _) | (with_reducible refine Kd.C_drew ?_))); (case s2 => exact HC0.out); rintro e w6 ⟨rfl, hb⟩; refine ⟨_, rfl, ?_⟩; replace BK385 := blkB BK385 hb; replace HB := bst HB hb; clear hb; obtain ⟨_, _⟩ := blk1 BK385; have p387 : 0 ≤ (0 : Int) := (by omega); have q387 : 0 < (l1_0.length : Int) := ofd; obtain ⟨ad387, A387_0, c387_0, e387, hx387_0, hl387_0, hi387_0⟩ := at_L2 HR1_0.out 0 p387 q387; cases e387; have qi387 : (0 < l1_0.length) = True := eq_true (by omega); (try rw [show ((0 : Int)).toNat = 0 from rfl] at hx387_0); (try rw [Addr.add_zero'] at hx387_0); replace hx387_0 := (HB.out.cell (World.block_lt_of_cell? w _ hx387_0)).trans hx387_0; have HR387_0 := mkA hi387_0; have HC387_0 := mkA hl387_0; clear hi387_0 hl387_0; replace p387 := eq_true p387; replace q387 := eq_true q387))
  go_ret
  exact ⟨eqE, bel_g HB.out⟩
 ·replace c4 := Bool.eq_false_iff.mpr c4
  subst c4
  replace H := ifF H
  obtain rfl := Option.some.inj H
  go_enter Tryd.func43, Tryd.ntmps43
  go_wp2_with (first | ((with_reducible refine gate_callee (f := 13) rfl ?_); refine goesQ (some 5) Tryd.func13 #[.slice A0 l0.length c0] ?_; (with_reducible refine (impl_AreLevels.calls k _ _ l0 false _ ?s1 ?s2 A3.out).mono ?_); (case s1 => repeat (first | exact HR0.out | (with_reducible refine Kd.C_alloc ?_ _) | (with_reducible refine Kd.C_drewN ?_ _) | (with_reducible refine Kd.C_drew ?_))); (case s2 => exact HC0.out); rintro e w8 ⟨rfl, hb⟩; refine ⟨_, rfl, ?_⟩; replace BK385 := blkB BK385 hb; replace HB := bst HB hb; clear hb))
  go_ret
  exact ⟨eqE, bel_g HB.out⟩
def impl_areVoters.f (k : Nat) (l0 : List (List Int)) : Option (Bool) := (impl_within.f (l0.length : Int) 1 15).bind fun t389 => (if t389 = true then ((slices_ContainsFunc_int_int.f k l0 (fun u0_ => impl_areVoters_1.f k u0_ l0)).bind fun t390 => (some (!t390))) else (some false))
theorem impl_areVoters.mono : ∀ a0 k, LeO (impl_areVoters.f k a0) (impl_areVoters.f (k + 1) a0) := by
 intro a0 k
 unfold impl_areVoters.f
 repeat' first
   | (with_reducible exact slices_ContainsFunc_int_int.mono _ _ _)
   | (refine slices_ContainsFunc_int_int.monoF ?_ _ _; intros)
   | (with_reducible exact impl_areVoters_1.mono _ _ _)
   | (with_reducible exact slices_ContainsFunc_int_int.mono _ _ _)
   | (with_reducible exact LeO.refl _)
   | (with_reducible exact LeO.none _)
   | (with_reducible refine LeO.ite ?_ ?_)
   | (with_reducible refine LeO.bind ?_ (fun _ => ?_))
   | exact impl_areVoters_1.mono _ _ _
   | exact slices_ContainsFunc_int_int.mono _ _ _
   | exact LeO.none _
   | refine LeO.ite ?_ ?_
   | refine LeO.bind ?_ (fun _ => ?_)
theorem impl_areVoters.calls (k : Nat) (A0 : Option Addr) (c0 : Nat) (l0 : List (List Int)) (r : Bool) (w : World) (hr0 : Kd.C (Kd.slice 3 (Kd.int .i64)) w A0 l0.length l0) (hc0 : l0.length ≤ c0) (h : impl_areVoters.f k l0 = some r) :
  Calls Tryd.prog 19 #[.slice A0 l0.length c0] w fun e w' => e = .returned (.bool r) ∧ Below w.heap.size w w' := by
 have HR0 := mkA hr0
 have HC0 := mkA hc0
 clear hr0 hc0
 have HB := mkA (Below.refl w.heap.size w)
 have H := h
 clear h
 unfold impl_areVoters.f at H
 obtain ⟨t389, A2, H⟩ := obE H
 by_cases c3 : t389 = true
 ·subst c3
  replace H := ifT H
  obtain ⟨t390, A4, H⟩ := obE H
  obtain rfl := Option.some.inj H
  go_enter Tryd.func19, Tryd.ntmps19
  go_wp2_with (first | ((with_reducible refine gate_dst (N := 1) rfl ?_); refine boxG HB #[.slice A0 l0.length c0] 24 ?_; intro gb388 hg w5 BK388 GE388 hb; replace HB := bst HB hb; clear hb hg; obtain ⟨_, _⟩ := blk1 BK388) | ((with_reducible refine gate_callee (f := 27) rfl ?_); refine goesQ (some 5) Tryd.func27 #[.int .i64 (l0.length : Int), .int .i64 1, .int .i64 15] ?_; (with_reducible refine (impl_within.calls (l0.length : Int) 1 15 true _ A2.out).mono ?_); rintro e w' ⟨rfl, ⟨nd, rfl⟩⟩; refine ⟨_, rfl, ?_⟩) | (go_at_call 42; (with_reducible refine (slices_ContainsFunc_int_int.calls k _ _ l0 (fun u0_ => impl_areVoters_1.f k u0_ l0) 43 #[.pointer (some ⟨gb388, 0, none⟩)] (fun args_ W_ => enters_ Tryd.func43 (by kernel_rfl) rfl args_ W_) t390 _ ?s1 ?s2 ?s3 A4.out).mono ?_); (case s1 => repeat (first | exact (Kd.C_below HR0.out (bel_g HB.out)) | (with_reducible refine Kd.C_alloc ?_ _) | (with_reducible refine Kd.C_drewN ?_ _) | (with_reducible refine Kd.C_drew ?_))); (case s2 => exact HC0.out); (case s3 => exact fun A0_ c0_ u0_ q_ W_ hb_ hr0_ hc0_ hq_ => (impl_areVoters_1.calls k A0_ c0_ u0_ gb388 A0 c0 l0 q_ W_ hr0_ hc0_ (blk_below (show _ = some (Obj.cells #[.slice A0 l0.length c0] 24 (0, 0)) from blkT BK388) hb_) (Kd.C_below (show Kd.C (Kd.slice 3 (Kd.int .i64)) _ A0 l0.length l0 from by repeat (first | exact (Kd.C_below HR0.out (bel_g HB.out)) | (with_reducible refine Kd.C_alloc ?_ _) | (with_reducible refine Kd.C_drewN ?_ _) | (with_reducible refine Kd.C_drew ?_))) hb_) (by exact HC0.out) hq_).mono (fun _ _ h_ => ⟨h_.1, h_.2⟩)); rintro e w7 ⟨rfl, hb⟩; replace BK388 := blkB BK388 hb; replace HB := bst HB hb; clear hb))
  go_ret
  exact ⟨eqE, bel_g HB.out⟩
 ·replace c3 := Bool.eq_false_iff.mpr c3
  subst c3
  replace H := ifF H
  obtain rfl := Option.some.inj H
  go_enter Tryd.func19, Tryd.ntmps19
  go_wp2_with (first | ((with_reducible refine gate_dst (N := 1) rfl ?_); refine boxG HB #[.slice A0 l0.length c0] 24 ?_; intro gb388 hg w8 BK388 GE388 hb; replace HB := bst HB hb; clear hb hg; obtain ⟨_, _⟩ := blk1 BK388) | ((with_reducible refine gate_callee (f := 27) rfl ?_); refine goesQ (some 5) Tryd.func27 #[.int .i64 (l0.length : Int), .int .i64 1, .int .i64 15] ?_; (with_reducible refine (impl_within.calls (l0.length : Int) 1 15 false _ A2.out).mono ?_); rintro e w' ⟨rfl, ⟨nd, rfl⟩⟩; refine ⟨_, rfl, ?_⟩))
  go_ret
  exact ⟨eqE, bel_g HB.out⟩
end Go.Proofs.YtmdnbjhboppkdaaDoor.Q
