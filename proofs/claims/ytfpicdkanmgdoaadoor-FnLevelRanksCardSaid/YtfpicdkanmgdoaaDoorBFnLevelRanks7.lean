import Derived.Test.YtfpicdkanmgdoaaDoorBFnLevelRanks4
namespace Go.Proofs.YtfpicdkanmgdoaaDoor.Q
open Go.RowKit Go.Proofs.YtfpicdkanmgdoaaDoorW.PrintWords Go.Proofs.YtfpicdkanmgdoaaDoorW.PrintLast Go.Proofs.YtfpicdkanmgdoaaDoorW.PrintMore
attribute [local go_sem] max2_int min2_int max_two min_two max_three min_three max_four min_four neB_f
set_option linter.unusedVariables false
set_option maxHeartbeats 8000000
set_option maxRecDepth 100000
set_option linter.unusedSimpArgs false
def laws_vSame.l0 : Nat → List Int → List Int → Int → Int → Option (Bool)
 | 0, _, _, _, _ => none
 | k + 1, x0, x1, x12, x13 => if x13 < x12 then (if 0 ≤ x13 then (if x13 < (x0.length : Int) then (if x13 < (x1.length : Int) then (if (rd x0 x13) = (rd x1 x13) then (laws_vSame.l0 k x0 x1 x12 (wrap64 (x13 + 1))) else (some false)) else (none)) else (none)) else (none)) else (some true)
def laws_vSame.f (k : Nat) (l0 : List Int) (l1 : List Int) : Option (Bool) := if (l0.length : Int) = (l1.length : Int) then (laws_vSame.l0 k l0 l1 (l0.length : Int) 0) else (some false)
theorem laws_vSame.mono_l : ∀ k, (∀ y0 y1 y2 y3, LeO (laws_vSame.l0 k y0 y1 y2 y3) (laws_vSame.l0 (k + 1) y0 y1 y2 y3))
 | 0 => fun _ _ _ _ r h => by simp [laws_vSame.l0] at h
 | k + 1 => by
  have ih0 := laws_vSame.mono_l k
  ·intro y0 y1 y2 y3
   unfold laws_vSame.l0
   repeat' (with_reducible first|apply ih0|apply LeO.refl|apply LeO.none|apply LeO.ite|apply LeO.bind|intro)
theorem laws_vSame.mono : ∀ a0 a1 k, LeO (laws_vSame.f k a0 a1) (laws_vSame.f (k + 1) a0 a1) := by
 intro a0 a1 k
 have ih0 := laws_vSame.mono_l k
 unfold laws_vSame.f
 repeat' (with_reducible first|apply ih0|apply LeO.refl|apply LeO.none|apply LeO.ite|apply LeO.bind|intro)
theorem laws_vSame.calls (k : Nat) (A0 : Option Addr) (c0 : Nat) (l0 : List Int) (A1 : Option Addr) (c1 : Nat) (l1 : List Int) (r : Bool) (w : World) (hr0 : Kd.C (Kd.int .i64) w A0 l0.length l0) (hc0 : l0.length ≤ c0) (hr1 : Kd.C (Kd.int .i64) w A1 l1.length l1) (hc1 : l1.length ≤ c1) (h : laws_vSame.f k l0 l1 = some r) :
  Calls Tryd.prog 8 #[.slice A0 l0.length c0, .slice A1 l1.length c1] w fun e w' => e = .returned (.bool r) ∧ Drawn0 w w' := by
 have HR0 := mkA hr0
 have HC0 := mkA hc0
 clear hr0 hc0
 have HR1 := mkA hr1
 have HC1 := mkA hc1
 clear hr1 hc1
 have H := h
 clear h
 unfold laws_vSame.f at H
 rcases iteP H with ⟨c3, H⟩ | ⟨c3, H⟩
 ·have c3b0 := beq_iff_eq.mpr c3
  have c3b1 := bne_eq_false_iff_eq.mpr c3
  have c3b2 : (l0.length == l1.length) = true := by first | simpa using c3 | (simp at c3 ⊢; omega)
  clear c3
  have H' := mkA H
  clear H
  go_enter Tryd.func8, Tryd.ntmps8
  go_wp2
  repeat (go_quiet (fail); try go_wp2)
  go_loopg [13] k (fun kq v13 w' => ∃ (x13_1 : Int), v13 = .int .i64 x13_1 ∧ Fc (laws_vSame.l0 kq l0 l1 (l0.length : Int) x13_1 = some r) ∧ Fc (kq ≤ k) ∧ Drawn0 w w')
  case atStart => exact ⟨(0), eqS, H', ⟨Nat.le_refl _⟩, by repeat (first | exact Drawn0.refl _ | apply Drawn0.step)⟩
  case round =>
   clear H'
   try clear c1
   try clear c3
   try clear c3b0
   try clear c3b1
   try clear c3b2
   obtain ⟨x13_1, rfl, HA, HK1, ⟨m1, rfl⟩⟩ := hrel
   cases gk with
   | zero => exact absurd HA.out (by simp [laws_vSame.l0])
   | succ k1 =>
    have H := HA.out
    clear HA
    simp only [laws_vSame.l0] at H
    rcases iteE H with ⟨c4b0, H⟩ | ⟨c4b0, H⟩
    ·obtain ⟨c5b0, H⟩ := itND H
     obtain ⟨c6b0, H⟩ := itND H
     obtain ⟨c7b0, H⟩ := itND H
     rcases iteP H with ⟨c8, H⟩ | ⟨c8, H⟩
     ·have c8b0 := beq_iff_eq.mpr c8
      have c8b1 := bne_eq_false_iff_eq.mpr c8
      clear c8
      have H' := mkA H
      clear H
      obtain ⟨p330, q330, ad330, e330, hx330_0⟩ := atI HR0.out x13_1
      cases e330
      obtain ⟨p331, q331, ad331, e331, hx331_0⟩ := atI HR1.out x13_1
      cases e331
      go_wp2
      repeat (go_quiet (fail); try go_wp2)
      go_roundg k1
      case measure => have := HK1.out; omega
      case rel => exact ⟨(wrap64 (x13_1 + 1)), eqS, H', ⟨by have := HK1.out; omega⟩, by repeat (first | exact Drawn0.refl _ | apply Drawn0.step)⟩
     ·have c8b0 := beq_eq_false_iff_ne.mpr c8
      have c8b1 := bne_iff_ne.mpr c8
      obtain rfl := Option.some.inj H
      obtain ⟨p330, q330, ad330, e330, hx330_0⟩ := atI HR0.out x13_1
      cases e330
      obtain ⟨p331, q331, ad331, e331, hx331_0⟩ := atI HR1.out x13_1
      cases e331
      go_wp2
      repeat (go_quiet (fail); try go_wp2)
      go_ret
      exact ⟨eqS, drE⟩
    ·obtain rfl := Option.some.inj H
     go_wp2
     repeat (go_quiet (fail); try go_wp2)
     go_ret
     exact ⟨eqS, drE⟩
 ·have c3b0 := beq_eq_false_iff_ne.mpr c3
  have c3b1 := bne_iff_ne.mpr c3
  have c3b2 : (l0.length == l1.length) = false := by first | simpa using c3 | (simp at c3 ⊢; omega)
  obtain rfl := Option.some.inj H
  go_enter Tryd.func8, Tryd.ntmps8
  go_wp2
  repeat (go_quiet (fail); try go_wp2)
  go_ret
  exact ⟨eqS, drE⟩
theorem slices_IndexFunc_int_int.goesV_ {P : Program} {ops : Array Oper} {Q : Exit → Act → World → Prop} {rest : List Oper} {oi : Oper} {a : Act} {w : World} (N : Option Tmp) (hd : oi.dst = N) (hg : oi.guard = none) {g : FuncId} {lb : Array Value} {x : Operand} {ax : Array Operand} {ts : Array TypeId}
  (he : ∀ args W, (callFunc g args).run P W = .ok (.enter g args) W) (args : Array Value) (hop : oi.op = .call { callee := .value x, args := ax, argTypes := ts }) (hx : a.eval x = .func (.func g) #[] lb) (hargs : ax.map a.eval ++ lb = args)
  (h : Calls P g args w fun e w' => ∃ v, e = .returned v ∧ wpList P ops Q rest (a.put N v) w') : wpList P ops Q (oi :: rest) a w := by
 refine wpList_plain hg fun K hK => ?_
 have he := he args w
 have hrun : (execOp a.eval oi).run P w = .ok (.enter g args) w := by
  unfold execOp
  simp [hop, resolve, Deferred.ofValue, invoke, hx, hargs, he]
 unfold Oper.wp
 rw [hrun, Oper.upon_enter]
 refine h.mono fun e w'' hh => ?_
 obtain ⟨v, rfl, hk⟩ := hh
 subst hd
 exact hK _ _ hk
def slices_IndexFunc_int_int.l0 : Nat → List (List Int) → (List Int → Option Bool) → Int → Int → Option (Int)
 | 0, _, _, _, _ => none
 | k + 1, x0, x1, x7, x8 => if x8 < x7 then (if 0 ≤ x8 then (if x8 < (x0.length : Int) then ((x1 (rd_L2 x0 x8)).bind fun t333 => (if t333 = true then (some x8) else (slices_IndexFunc_int_int.l0 k x0 x1 x7 (wrap64 (x8 + 1))))) else (none)) else (none)) else (some (-1))
def slices_IndexFunc_int_int.f (k : Nat) (l0 : List (List Int)) (a1 : (List Int → Option Bool)) : Option (Int) := slices_IndexFunc_int_int.l0 k l0 a1 (l0.length : Int) 0
theorem slices_IndexFunc_int_int.mono_l : ∀ k, (∀ y0 y1 y2 y3, LeO (slices_IndexFunc_int_int.l0 k y0 y1 y2 y3) (slices_IndexFunc_int_int.l0 (k + 1) y0 y1 y2 y3))
 | 0 => fun _ _ _ _ r h => by simp [slices_IndexFunc_int_int.l0] at h
 | k + 1 => by
  have ih0 := slices_IndexFunc_int_int.mono_l k
  ·intro y0 y1 y2 y3
   unfold slices_IndexFunc_int_int.l0
   repeat' (with_reducible first|apply ih0|apply LeO.refl|apply LeO.none|apply LeO.ite|apply LeO.bind|intro)
theorem slices_IndexFunc_int_int.mono : ∀ a0 a1 k, LeO (slices_IndexFunc_int_int.f k a0 a1) (slices_IndexFunc_int_int.f (k + 1) a0 a1) := by
 intro a0 a1 k
 have ih0 := slices_IndexFunc_int_int.mono_l k
 unfold slices_IndexFunc_int_int.f
 repeat' (with_reducible first|apply ih0|apply LeO.refl|apply LeO.none|apply LeO.ite|apply LeO.bind|intro)
theorem slices_IndexFunc_int_int.monoF_l : ∀ k, (∀ y0 y1 y2 y3 (G_ : (List Int → Option Bool)), (∀ u0_, LeO (y1 u0_) (G_ u0_)) → LeO (slices_IndexFunc_int_int.l0 k y0 y1 y2 y3) (slices_IndexFunc_int_int.l0 (k + 1) y0 G_ y2 y3))
 | 0 => fun _ _ _ _ _ _ r h => by simp [slices_IndexFunc_int_int.l0] at h
 | k + 1 => by
  have ih0 := slices_IndexFunc_int_int.monoF_l k
  ·intro y0 y1 y2 y3 G_ hF
   unfold slices_IndexFunc_int_int.l0
   repeat' (with_reducible first|exact ih0 _ _ _ _ _ hF|exact hF _|apply LeO.refl|apply LeO.none|apply LeO.ite|apply LeO.bind|intro)
theorem slices_IndexFunc_int_int.monoF {a1 G_ : (List Int → Option Bool)} (hF : (∀ u0_, LeO (a1 u0_) (G_ u0_))) : ∀ a0 k, LeO (slices_IndexFunc_int_int.f k a0 a1) (slices_IndexFunc_int_int.f (k + 1) a0 G_) := by
 intro a0 k
 have ih0 := slices_IndexFunc_int_int.monoF_l k
 unfold slices_IndexFunc_int_int.f
 repeat' (with_reducible first|exact ih0 _ _ _ _ _ hF|exact hF _|apply LeO.refl|apply LeO.none|apply LeO.ite|apply LeO.bind|intro)
theorem slices_IndexFunc_int_int.calls (k : Nat) (A0 : Option Addr) (c0 : Nat) (l0 : List (List Int)) (a1 : (List Int → Option Bool)) (g1 : FuncId) (lb1 : Array Value) (he1 : ∀ args_ W_, (callFunc g1 args_).run Tryd.prog W_ = .ok (.enter g1 args_) W_) (r : Int) (w : World) (hr0 : Kd.C (Kd.slice 3 (Kd.int .i64)) w A0 l0.length l0) (hc0 : l0.length ≤ c0) (hF1 : ∀ (A0_ : Option Addr) (c0_ : Nat) (u0_ : List Int) (q : Bool) (W : World), Below w.heap.size w W → Kd.C (Kd.int .i64) W A0_ u0_.length u0_ → u0_.length ≤ c0_ → a1 u0_ = some q → Calls Tryd.prog g1 (#[.slice A0_ u0_.length c0_] ++ lb1) W fun e W' => e = .returned (.bool q) ∧ Below W.heap.size W W') (h : slices_IndexFunc_int_int.f k l0 a1 = some r) :
  Calls Tryd.prog 30 #[.slice A0 l0.length c0, .func (.func g1) #[] lb1] w fun e w' => e = .returned (.int .i64 r) ∧ Below w.heap.size w w' := by
 have HR0 := mkA hr0
 have HC0 := mkA hc0
 clear hr0 hc0
 have HB := mkA (Below.refl w.heap.size w)
 have H := h
 clear h
 unfold slices_IndexFunc_int_int.f at H
 have H' := mkA H
 clear H
 go_enter Tryd.func30, Tryd.ntmps30
 go_wp2
 go_loopg [8] k (fun kq v8 w' => ∃ (x8_1 : Int), v8 = .int .i64 x8_1 ∧ Fc (slices_IndexFunc_int_int.l0 kq l0 a1 (l0.length : Int) x8_1 = some r) ∧ Fc (kq ≤ k) ∧ Fc (Below w.heap.size w w'))
 case atStart => exact ⟨(0), eqS, H', ⟨Nat.le_refl _⟩, hbg HB⟩
 case round =>
  clear H'
  obtain ⟨x8_1, rfl, HA, HK1, HB⟩ := hrel
  cases gk with
  | zero => exact absurd HA.out (by simp [slices_IndexFunc_int_int.l0])
  | succ k1 =>
   have H := HA.out
   clear HA
   simp only [slices_IndexFunc_int_int.l0] at H
   rcases iteE H with ⟨c3b0, H⟩ | ⟨c3b0, H⟩
   ·obtain ⟨c4b0, H⟩ := itND H
    obtain ⟨c5b0, H⟩ := itND H
    obtain ⟨t333, A6, H⟩ := obE H
    by_cases c7 : t333 = true
    ·subst c7
     replace H := ifT H
     obtain rfl := Option.some.inj H
     have p332 : 0 ≤ (x8_1 : Int) := ofd
     have q332 : x8_1 < (l0.length : Int) := ofd
     obtain ⟨ad332, A332_0, c332_0, e332, hx332_0, hl332_0, hi332_0⟩ := at_L2 HR0.out x8_1 p332 q332
     cases e332
     replace hx332_0 := (HB.out.cell (World.block_lt_of_cell? w _ hx332_0)).trans hx332_0
     have HR332_0 := mkA hi332_0
     have HC332_0 := mkA hl332_0
     clear hi332_0 hl332_0
     replace p332 := eq_true p332
     replace q332 := eq_true q332
     go_wp2_with (first | ((with_reducible refine gate_dst (N := 16) rfl ?_); refine slices_IndexFunc_int_int.goesV_ (some 16) rfl rfl he1 (#[.slice A332_0 (rd_L2 l0 x8_1).length c332_0] ++ lb1) rfl rfl (by (try simp only [List.map_toArray, List.map_cons, List.map_nil]); first | done | rfl | (simp only [List.length_drop, List.length_take]; rfl)) ?_; (with_reducible refine (hF1 _ _ (rd_L2 l0 x8_1) true _ ?sideB ?s1 ?s2 A6.out).mono ?_); (case sideB => exact (bel_g HB.out)); (case s1 => exact C_g HR332_0 HB); (case s2 => exact HC332_0.out); rintro e w8 ⟨rfl, hb⟩; refine ⟨_, rfl, ?_⟩; replace HB := bst HB hb; clear hb))
     go_ret
     exact ⟨eqE, bel_g HB.out⟩
    ·replace c7 := Bool.eq_false_iff.mpr c7
     subst c7
     replace H := ifF H
     have H' := mkA H
     clear H
     have p332 : 0 ≤ (x8_1 : Int) := ofd
     have q332 : x8_1 < (l0.length : Int) := ofd
     obtain ⟨ad332, A332_0, c332_0, e332, hx332_0, hl332_0, hi332_0⟩ := at_L2 HR0.out x8_1 p332 q332
     cases e332
     replace hx332_0 := (HB.out.cell (World.block_lt_of_cell? w _ hx332_0)).trans hx332_0
     have HR332_0 := mkA hi332_0
     have HC332_0 := mkA hl332_0
     clear hi332_0 hl332_0
     replace p332 := eq_true p332
     replace q332 := eq_true q332
     go_wp2_with (first | ((with_reducible refine gate_dst (N := 16) rfl ?_); refine slices_IndexFunc_int_int.goesV_ (some 16) rfl rfl he1 (#[.slice A332_0 (rd_L2 l0 x8_1).length c332_0] ++ lb1) rfl rfl (by (try simp only [List.map_toArray, List.map_cons, List.map_nil]); first | done | rfl | (simp only [List.length_drop, List.length_take]; rfl)) ?_; (with_reducible refine (hF1 _ _ (rd_L2 l0 x8_1) false _ ?sideB ?s1 ?s2 A6.out).mono ?_); (case sideB => exact (bel_g HB.out)); (case s1 => exact C_g HR332_0 HB); (case s2 => exact HC332_0.out); rintro e w9 ⟨rfl, hb⟩; refine ⟨_, rfl, ?_⟩; replace HB := bst HB hb; clear hb))
     go_roundg k1
     case measure => have := HK1.out; omega
     case rel => exact ⟨(wrap64 (x8_1 + 1)), eqS, H', ⟨by have := HK1.out; omega⟩, hbg HB⟩
   ·obtain rfl := Option.some.inj H
    go_wp2
    go_ret
    exact ⟨eqE, bel_g HB.out⟩
def slices_Equal_int_int.l0 : Nat → List Int → List Int → Int → Int → Option (Bool)
 | 0, _, _, _, _ => none
 | k + 1, x0, x1, x12, x13 => if x13 < x12 then (if 0 ≤ x13 then (if x13 < (x0.length : Int) then (if x13 < (x1.length : Int) then (if (rd x0 x13) = (rd x1 x13) then (slices_Equal_int_int.l0 k x0 x1 x12 (wrap64 (x13 + 1))) else (some false)) else (none)) else (none)) else (none)) else (some true)
def slices_Equal_int_int.f (k : Nat) (l0 : List Int) (l1 : List Int) : Option (Bool) := if (l0.length : Int) = (l1.length : Int) then (slices_Equal_int_int.l0 k l0 l1 (l0.length : Int) 0) else (some false)
theorem slices_Equal_int_int.mono_l : ∀ k, (∀ y0 y1 y2 y3, LeO (slices_Equal_int_int.l0 k y0 y1 y2 y3) (slices_Equal_int_int.l0 (k + 1) y0 y1 y2 y3))
 | 0 => fun _ _ _ _ r h => by simp [slices_Equal_int_int.l0] at h
 | k + 1 => by
  have ih0 := slices_Equal_int_int.mono_l k
  ·intro y0 y1 y2 y3
   unfold slices_Equal_int_int.l0
   repeat' (with_reducible first|apply ih0|apply LeO.refl|apply LeO.none|apply LeO.ite|apply LeO.bind|intro)
theorem slices_Equal_int_int.mono : ∀ a0 a1 k, LeO (slices_Equal_int_int.f k a0 a1) (slices_Equal_int_int.f (k + 1) a0 a1) := by
 intro a0 a1 k
 have ih0 := slices_Equal_int_int.mono_l k
 unfold slices_Equal_int_int.f
 repeat' (with_reducible first|apply ih0|apply LeO.refl|apply LeO.none|apply LeO.ite|apply LeO.bind|intro)
theorem slices_Equal_int_int.calls (k : Nat) (A0 : Option Addr) (c0 : Nat) (l0 : List Int) (A1 : Option Addr) (c1 : Nat) (l1 : List Int) (r : Bool) (w : World) (hr0 : Kd.C (Kd.int .i64) w A0 l0.length l0) (hc0 : l0.length ≤ c0) (hr1 : Kd.C (Kd.int .i64) w A1 l1.length l1) (hc1 : l1.length ≤ c1) (h : slices_Equal_int_int.f k l0 l1 = some r) :
  Calls Tryd.prog 32 #[.slice A0 l0.length c0, .slice A1 l1.length c1] w fun e w' => e = .returned (.bool r) ∧ Drawn0 w w' := by
 have HR0 := mkA hr0
 have HC0 := mkA hc0
 clear hr0 hc0
 have HR1 := mkA hr1
 have HC1 := mkA hc1
 clear hr1 hc1
 have H := h
 clear h
 unfold slices_Equal_int_int.f at H
 rcases iteP H with ⟨c3, H⟩ | ⟨c3, H⟩
 ·have c3b0 := beq_iff_eq.mpr c3
  have c3b1 := bne_eq_false_iff_eq.mpr c3
  have c3b2 : (l0.length == l1.length) = true := by first | simpa using c3 | (simp at c3 ⊢; omega)
  clear c3
  have H' := mkA H
  clear H
  go_enter Tryd.func32, Tryd.ntmps32
  go_wp2
  repeat (go_quiet (fail); try go_wp2)
  go_loopg [13] k (fun kq v13 w' => ∃ (x13_1 : Int), v13 = .int .i64 x13_1 ∧ Fc (slices_Equal_int_int.l0 kq l0 l1 (l0.length : Int) x13_1 = some r) ∧ Fc (kq ≤ k) ∧ Drawn0 w w')
  case atStart => exact ⟨(0), eqS, H', ⟨Nat.le_refl _⟩, by repeat (first | exact Drawn0.refl _ | apply Drawn0.step)⟩
  case round =>
   clear H'
   try clear c1
   try clear c3
   try clear c3b0
   try clear c3b1
   try clear c3b2
   obtain ⟨x13_1, rfl, HA, HK1, ⟨m1, rfl⟩⟩ := hrel
   cases gk with
   | zero => exact absurd HA.out (by simp [slices_Equal_int_int.l0])
   | succ k1 =>
    have H := HA.out
    clear HA
    simp only [slices_Equal_int_int.l0] at H
    rcases iteE H with ⟨c4b0, H⟩ | ⟨c4b0, H⟩
    ·obtain ⟨c5b0, H⟩ := itND H
     obtain ⟨c6b0, H⟩ := itND H
     obtain ⟨c7b0, H⟩ := itND H
     rcases iteP H with ⟨c8, H⟩ | ⟨c8, H⟩
     ·have c8b0 := beq_iff_eq.mpr c8
      have c8b1 := bne_eq_false_iff_eq.mpr c8
      clear c8
      have H' := mkA H
      clear H
      obtain ⟨p334, q334, ad334, e334, hx334_0⟩ := atI HR0.out x13_1
      cases e334
      obtain ⟨p335, q335, ad335, e335, hx335_0⟩ := atI HR1.out x13_1
      cases e335
      go_wp2
      repeat (go_quiet (fail); try go_wp2)
      go_roundg k1
      case measure => have := HK1.out; omega
      case rel => exact ⟨(wrap64 (x13_1 + 1)), eqS, H', ⟨by have := HK1.out; omega⟩, by repeat (first | exact Drawn0.refl _ | apply Drawn0.step)⟩
     ·have c8b0 := beq_eq_false_iff_ne.mpr c8
      have c8b1 := bne_iff_ne.mpr c8
      obtain rfl := Option.some.inj H
      obtain ⟨p334, q334, ad334, e334, hx334_0⟩ := atI HR0.out x13_1
      cases e334
      obtain ⟨p335, q335, ad335, e335, hx335_0⟩ := atI HR1.out x13_1
      cases e335
      go_wp2
      repeat (go_quiet (fail); try go_wp2)
      go_ret
      exact ⟨eqS, drE⟩
    ·obtain rfl := Option.some.inj H
     go_wp2
     repeat (go_quiet (fail); try go_wp2)
     go_ret
     exact ⟨eqS, drE⟩
 ·have c3b0 := beq_eq_false_iff_ne.mpr c3
  have c3b1 := bne_iff_ne.mpr c3
  have c3b2 : (l0.length == l1.length) = false := by first | simpa using c3 | (simp at c3 ⊢; omega)
  obtain rfl := Option.some.inj H
  go_enter Tryd.func32, Tryd.ntmps32
  go_wp2
  repeat (go_quiet (fail); try go_wp2)
  go_ret
  exact ⟨eqS, drE⟩
def impl_RankLevels_1.f (k : Nat) (l0 : List Int) (l1_0 : List Int) : Option (Bool) := (slices_Equal_int_int.f k l0 l1_0).bind fun t337 => (some t337)
theorem impl_RankLevels_1.mono : ∀ a0 a1 k, LeO (impl_RankLevels_1.f k a0 a1) (impl_RankLevels_1.f (k + 1) a0 a1) := by
 intro a0 a1 k
 unfold impl_RankLevels_1.f
 repeat' (with_reducible first|apply slices_Equal_int_int.mono|apply LeO.refl|apply LeO.none|apply LeO.ite|apply LeO.bind|intro)
theorem impl_RankLevels_1.calls (k : Nat) (A0 : Option Addr) (c0 : Nat) (l0 : List Int) (gB1 : Nat) (A1_0 : Option Addr) (c1_0 : Nat) (l1_0 : List Int) (r : Bool) (w : World) (hr0 : Kd.C (Kd.int .i64) w A0 l0.length l0) (hc0 : l0.length ≤ c0) (hb1 : w.heap[gB1]? = some (.cells #[.slice A1_0 l1_0.length c1_0] 26 (0, 0))) (hr1_0 : Kd.C (Kd.int .i64) w A1_0 l1_0.length l1_0) (hc1_0 : l1_0.length ≤ c1_0) (h : impl_RankLevels_1.f k l0 l1_0 = some r) :
  Calls Tryd.prog 31 #[.slice A0 l0.length c0, .pointer (some ⟨gB1, 0, none⟩)] w fun e w' => e = .returned (.bool r) ∧ Drawn0 w w' := by
 have BK336 := mkA hb1
 clear hb1
 have HR0 := mkA hr0
 have HC0 := mkA hc0
 clear hr0 hc0
 have HR1_0 := mkA hr1_0
 have HC1_0 := mkA hc1_0
 clear hr1_0 hc1_0
 have H := h
 clear h
 unfold impl_RankLevels_1.f at H
 obtain ⟨t337, A3, H⟩ := obE H
 obtain rfl := Option.some.inj H
 obtain ⟨_, _⟩ := blk1 BK336
 go_enter Tryd.func31, Tryd.ntmps31
 go_wp2_with (first | ((with_reducible refine gate_callee (f := 32) rfl ?_); refine goesQ (some 6) Tryd.func32 #[.slice A0 l0.length c0, .slice A1_0 l1_0.length c1_0] ?_; (with_reducible refine (slices_Equal_int_int.calls k _ _ l0 _ _ l1_0 t337 _ ?s1 ?s2 ?s3 ?s4 A3.out).mono ?_); (case s1 => repeat (first | exact HR0.out | (with_reducible refine Kd.C_alloc ?_ _) | (with_reducible refine Kd.C_drewN ?_ _) | (with_reducible refine Kd.C_drew ?_))); (case s2 => exact HC0.out); (case s3 => repeat (first | exact HR1_0.out | (with_reducible refine Kd.C_alloc ?_ _) | (with_reducible refine Kd.C_drewN ?_ _) | (with_reducible refine Kd.C_drew ?_))); (case s4 => exact HC1_0.out); rintro e w' ⟨rfl, ⟨nd, rfl⟩⟩; refine ⟨_, rfl, ?_⟩))
 go_ret
 exact ⟨eqS, drE⟩
def impl_RankLevels.j0 : Nat → Bool → List Int → Option (Int × Bool)
 | 0, _, _ => none
 | k + 1, x11, x339000 => if x11 = true then (some (0, false)) else ((impl_allLevels.f k (x339000.length : Int)).bind fun t340 => ((slices_IndexFunc_int_int.f k t340 (fun u0_ => impl_RankLevels_1.f k u0_ x339000)).bind fun t343 => (some (t343, true))))
def impl_RankLevels.f (k : Nat) (l0 : List Int) : Option (Int × Bool) := (impl_AreLevels.f k l0).bind fun t339 => (if t339 = true then (impl_RankLevels.j0 k (decide ((l0.length : Int) > 6)) l0) else (impl_RankLevels.j0 k true l0))
theorem impl_RankLevels.mono_l : ∀ k, (∀ y0 y1, LeO (impl_RankLevels.j0 k y0 y1) (impl_RankLevels.j0 (k + 1) y0 y1))
 | 0 => fun _ _ r h => by simp [impl_RankLevels.j0] at h
 | k + 1 => by
  have ih0 := impl_RankLevels.mono_l k
  ·intro y0 y1
   unfold impl_RankLevels.j0
   repeat' first
   | (with_reducible exact slices_IndexFunc_int_int.mono _ _ _)
   | (refine slices_IndexFunc_int_int.monoF ?_ _ _; intros)
   | (with_reducible apply ih0)
   | (with_reducible exact impl_AreLevels.mono _ _)
   | (with_reducible exact impl_RankLevels_1.mono _ _ _)
   | (with_reducible exact impl_allLevels.mono _ _)
   | (with_reducible exact slices_IndexFunc_int_int.mono _ _ _)
   | (with_reducible exact LeO.refl _)
   | (with_reducible exact LeO.none _)
   | (with_reducible refine LeO.ite ?_ ?_)
   | (with_reducible refine LeO.bind ?_ (fun _ => ?_))
   | exact ih0 _ _
   | exact impl_AreLevels.mono _ _
   | exact impl_RankLevels_1.mono _ _ _
   | exact impl_allLevels.mono _ _
   | exact slices_IndexFunc_int_int.mono _ _ _
   | exact LeO.none _
   | refine LeO.ite ?_ ?_
   | refine LeO.bind ?_ (fun _ => ?_)
theorem impl_RankLevels.mono : ∀ a0 k, LeO (impl_RankLevels.f k a0) (impl_RankLevels.f (k + 1) a0) := by
 intro a0 k
 have ih0 := impl_RankLevels.mono_l k
 unfold impl_RankLevels.f
 repeat' first
   | (with_reducible exact slices_IndexFunc_int_int.mono _ _ _)
   | (refine slices_IndexFunc_int_int.monoF ?_ _ _; intros)
   | (with_reducible apply ih0)
   | (with_reducible exact impl_AreLevels.mono _ _)
   | (with_reducible exact impl_RankLevels_1.mono _ _ _)
   | (with_reducible exact impl_allLevels.mono _ _)
   | (with_reducible exact slices_IndexFunc_int_int.mono _ _ _)
   | (with_reducible exact LeO.refl _)
   | (with_reducible exact LeO.none _)
   | (with_reducible refine LeO.ite ?_ ?_)
   | (with_reducible refine LeO.bind ?_ (fun _ => ?_))
   | exact ih0 _ _
   | exact impl_AreLevels.mono _ _
   | exact impl_RankLevels_1.mono _ _ _
   | exact impl_allLevels.mono _ _
   | exact slices_IndexFunc_int_int.mono _ _ _
   | exact LeO.none _
   | refine LeO.ite ?_ ?_
   | refine LeO.bind ?_ (fun _ => ?_)
theorem impl_RankLevels.calls (k : Nat) (A0 : Option Addr) (c0 : Nat) (l0 : List Int) (r1 : Int) (r2 : Bool) (w : World) (hr0 : Kd.C (Kd.int .i64) w A0 l0.length l0) (hc0 : l0.length ≤ c0) (h : impl_RankLevels.f k l0 = some (r1, r2)) :
  Calls Tryd.prog 9 #[.slice A0 l0.length c0] w fun e w' => e = .returned (.tuple #[.int .i64 r1, .bool r2]) ∧ Below w.heap.size w w' := by
 have HR0 := mkA hr0
 have HC0 := mkA hc0
 clear hr0 hc0
 have HB := mkA (Below.refl w.heap.size w)
 have H := h
 clear h
 unfold impl_RankLevels.f at H
 have HC2 := mkA H
 clear H
 go_enter Tryd.func9, Tryd.ntmps9
 go_upto_region 1 with (first | ((with_reducible refine gate_dst (N := 1) rfl ?_); (try (refine gate_guard (by rfl) ?_; dsimp only)); refine boxG HB #[.slice A0 l0.length c0] 26 ?_; intro gb338 hg w3 BK338 GE338 hb; replace HB := bst HB hb; clear hb hg))
 (try simp only [Act.put, List.setIfInBounds_toArray, List.set_cons_zero, List.set_cons_succ])
 go_cut [11] (fun v11 wc => ∃ (kq : Nat) (x11_1 : Bool), v11 = .bool x11_1 ∧ Fc (impl_RankLevels.j0 kq x11_1 l0 = some (r1, r2)) ∧ Fc (kq ≤ k) ∧ Fc (wc.heap[gb338]? = some (.cells #[(.slice A0 l0.length c0)] 26 (0, 0))) ∧ Fc (Below w.heap.size w wc))
 case first =>
  have H := HC2.out
  clear HC2
  obtain ⟨t339, A4, H⟩ := obE H
  by_cases c5 : t339 = true
  ·subst c5
   replace H := ifT H
   have H' := mkA H
   clear H
   obtain ⟨_, _⟩ := blk1 BK338
   go_wp2_with (first | ((with_reducible refine gate_callee (f := 29) rfl ?_); refine goesQ (some 5) Tryd.func29 #[.slice A0 l0.length c0] ?_; (with_reducible refine (impl_AreLevels.calls k _ _ l0 true _ ?_ ?_ A4.out).mono ?_); exact C_g HR0 HB; exact HC0.out; rintro e w7 ⟨rfl, hb⟩; refine ⟨_, rfl, ?_⟩; replace BK338 := blkB BK338 hb; replace HB := bst HB hb; clear hb; obtain ⟨_, _⟩ := blk1 BK338))
   go_meet
   case rel => exact ⟨_, (decide ((l0.length : Int) > 6)), eqS, H', ⟨by first | omega | exact Nat.le_refl _⟩, bg BK338, hbg HB⟩
  ·replace c5 := Bool.eq_false_iff.mpr c5
   subst c5
   replace H := ifF H
   have H' := mkA H
   clear H
   obtain ⟨_, _⟩ := blk1 BK338
   go_wp2_with (first | ((with_reducible refine gate_callee (f := 29) rfl ?_); refine goesQ (some 5) Tryd.func29 #[.slice A0 l0.length c0] ?_; (with_reducible refine (impl_AreLevels.calls k _ _ l0 false _ ?_ ?_ A4.out).mono ?_); exact C_g HR0 HB; exact HC0.out; rintro e w10 ⟨rfl, hb⟩; refine ⟨_, rfl, ?_⟩; replace BK338 := blkB BK338 hb; replace HB := bst HB hb; clear hb))
   go_meet
   case rel => exact ⟨_, (true), eqS, H', ⟨by first | omega | exact Nat.le_refl _⟩, bg BK338, hbg HB⟩
 case rest =>
  clear HC2
  try clear c5
  obtain ⟨kq, x11_1, rfl, HA, HJ1, BK338, HB⟩ := hcut
  cases kq with
  | zero => exact absurd HA.out (by simp [impl_RankLevels.j0])
  | succ kj1 =>
   have H := HA.out
   clear HA
   simp only [impl_RankLevels.j0] at H
   by_cases c11 : x11_1 = true
   ·subst c11
    replace H := ifT H
    simp only [Option.some.injEq, Prod.mk.injEq] at H
    obtain ⟨rfl, rfl⟩ := H
    go_wp2
    go_ret2
    exact ⟨eqE, bel_g HB.out⟩
   ·replace c11 := Bool.eq_false_iff.mpr c11
    subst c11
    replace H := ifF H
    obtain ⟨t340, A12, H⟩ := obE H
    obtain ⟨t343, A13, H⟩ := obE H
    simp only [Option.some.injEq, Prod.mk.injEq] at H
    obtain ⟨rfl, rfl⟩ := H
    obtain ⟨_, _⟩ := blk1 BK338
    go_wp2_with (first | ((with_reducible refine gate_callee (f := 26) rfl ?_); refine goesQ (some 14) Tryd.func26 #[.int .i64 (l0.length : Int)] ?_; (with_reducible refine (impl_allLevels.calls kj1 (l0.length : Int) t340 _ A12.out).mono ?_); rintro e w15 ⟨v341, rfl, ho0, hb⟩; refine ⟨_, rfl, ?_⟩; have HO342 := mkA (Kd.S_lower (Kd.S_newB ho0 (g := gb338) (o := .cells #[.slice A0 l0.length c0] 26 (0, 0)) (blk_g BK338.out)) (below_size (bel_g HB.out))); replace BK338 := blkB BK338 hb; replace HB := bst HB hb; clear hb ho0; obtain ⟨Ao16, co16, rfl⟩ := Kd.S_slice HO342.out) | ((with_reducible refine gate_callee (f := 30) rfl ?_); refine goesQ (some 16) Tryd.func30 #[.slice Ao16 t340.length co16, .func (.func 31) #[] #[.pointer (some ⟨gb338, 0, none⟩)]] ?_; (with_reducible refine (slices_IndexFunc_int_int.calls kj1 _ _ t340 (fun u0_ => impl_RankLevels_1.f kj1 u0_ l0) 31 #[.pointer (some ⟨gb338, 0, none⟩)] (fun args_ W_ => enters_ Tryd.func31 (by kernel_rfl) rfl args_ W_) t343 _ ?s1 ?s2 ?s3 A13.out).mono ?_); (case s1 => repeat (first | exact (Kd.S_reads' HO342.out).2.2 | (with_reducible refine Kd.C_alloc ?_ _) | (with_reducible refine Kd.C_drewN ?_ _) | (with_reducible refine Kd.C_drew ?_))); (case s2 => exact (Kd.S_reads' HO342.out).2.1); (case s3 => exact fun A0_ c0_ u0_ q_ W_ hb_ hr0_ hc0_ hq_ => (impl_RankLevels_1.calls kj1 A0_ c0_ u0_ gb338 A0 c0 l0 q_ W_ hr0_ hc0_ (blk_below (show _ = some (Obj.cells #[.slice A0 l0.length c0] 26 (0, 0)) from blkT BK338) hb_) (Kd.C_below (show Kd.C (Kd.int .i64) _ A0 l0.length l0 from by exact C_g HR0 HB) hb_) (by exact HC0.out) hq_).mono (fun _ _ h_ => ⟨h_.1, h_.2.below⟩)); rintro e w17 ⟨rfl, hb⟩; refine ⟨_, rfl, ?_⟩; replace HO342 := mkA (Kd.S_below (by (with_reducible repeat (first | apply Kd.S_alloc | apply Kd.S_drewN | apply Kd.S_drew)); exact HO342.out) hb); replace BK338 := blkB BK338 hb; replace HB := bst HB hb; (try clear hb)))
    go_ret2
    exact ⟨eqE, bel_g HB.out⟩
end Go.Proofs.YtfpicdkanmgdoaaDoor.Q
