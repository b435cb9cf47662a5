import Derived.Test.YtokeomcijelbmaaDoorBFnFourRefuse16
import Derived.Test.YtokeomcijelbmaaDoorBFnFourRefuse17
namespace Go.Proofs.YtokeomcijelbmaaDoor.Q
open Go.RowKit Go.Proofs.YtokeomcijelbmaaDoorW.PrintWords Go.Proofs.YtokeomcijelbmaaDoorW.PrintLast Go.Proofs.YtokeomcijelbmaaDoorW.PrintMore
attribute [local go_sem] max2_int min2_int max_two min_two max_three min_three max_four min_four neB_f
set_option linter.unusedVariables false
set_option maxHeartbeats 8000000
set_option maxRecDepth 100000
set_option linter.unusedSimpArgs false
theorem impl_Order_pattern_1.goesv_ {P : Program} {ops : Array Oper} {Q : Exit → Act → World → Prop} {oi : Oper} {N : Option Tmp} {a : Act} {w : World} {K : Act → World → Prop} {g : FuncId} {lb : Array Value} {x : Operand} {ax : Array Operand} {ts : Array TypeId}
  (he : ∀ args W, (callFunc g args).run P W = .ok (.enter g args) W) (args : Array Value) (hw : Region.wanted oi (yielded ops a.tmps) = true) (hN : oi.dst = N) (hop : oi.op = .call { callee := .value x, args := ax, argTypes := ts }) (hx : a.eval x = .func (.func g) #[] lb) (hargs : ax.map a.eval ++ lb = args)
  (h : Calls P g args w fun e w' => ∃ v, e = .returned v ∧ K (a.put N v) w') : if Region.wanted oi (yielded ops a.tmps) = true then Oper.wp P oi a w K Q else K (a.put N undef) w := by
 refine call_ g args hw hN ?_ h
 have he := he args w
 unfold execOp
 simp [hop, resolve, Deferred.ofValue, invoke, hx, hargs, he]
theorem impl_Order_pattern_1.nilEql_ {P : Program} (W : World) {t e : TypeId} {A : Option Addr} {n c : Nat} {xs : List Int} {Z : Nat → Nat → Prop} (hu : P.underlying t = some (.slice e)) (h : xs = [] → Value.slice A n c = .slice none 0 0) (h2 : 0 < xs.length → ∃ g c', Value.slice A n c = .slice (some ⟨g, 0, none⟩) xs.length c' ∧ Z g c') :
  (binOp .eql t (.slice A n c) (.slice none 0 0)).run P W = .ok (.bool (xs == ([] : List Int))) W := by
 rw [Lib.run_eql_slice_nil W t e A n c 0 0 hu]
 cases xs with
 | nil => injection h rfl with h1 _ _; subst h1; rfl
 | cons x l => obtain ⟨g, c', h1, _⟩ := h2 (by simp); injection h1 with h1 _ _; subst h1; rfl
theorem impl_Order_pattern_1.nilNeq_ {P : Program} (W : World) {t e : TypeId} {A : Option Addr} {n c : Nat} {xs : List Int} {Z : Nat → Nat → Prop} (hu : P.underlying t = some (.slice e)) (h : xs = [] → Value.slice A n c = .slice none 0 0) (h2 : 0 < xs.length → ∃ g c', Value.slice A n c = .slice (some ⟨g, 0, none⟩) xs.length c' ∧ Z g c') :
  (binOp .neq t (.slice A n c) (.slice none 0 0)).run P W = .ok (.bool (xs != ([] : List Int))) W := by
 rw [run_neq_slice_nil_any W t e A n c 0 0 hu]
 cases xs with
 | nil => injection h rfl with h1 _ _; subst h1; rfl
 | cons x l => obtain ⟨g, c', h1, _⟩ := h2 (by simp); injection h1 with h1 _ _; subst h1; rfl
mutual
def impl_Order_pattern_1.l0 : Nat → List Int → Int → Int → Int → Int → List Int → Int → List Int → Option (List Int)
 | 0, _, _, _, _, _, _, _, _ => none
 | k + 1, x0, x6, x20, x21, x548000, x548001, x549000, x549001 => if x21 < x20 then ((slices_Contains_int_int.f k x0 x21).bind fun t550 => (if t550 = true then (impl_Order_pattern_1.j1 k x0 x6 x21 false x20 x21 x548000 x548001 x549000 x549001) else ((impl_Order_better.f x549000 x549001 x21 x21).bind fun t551 => ((impl_Order_better.f x548000 x548001 x6 x6).bind fun t552 => (impl_Order_pattern_1.j1 k x0 x6 x21 (t551 == t552) x20 x21 x548000 x548001 x549000 x549001))))) else (some ([] : List Int))
def impl_Order_pattern_1.j1 : Nat → List Int → Int → Int → Bool → Int → Int → Int → List Int → Int → List Int → Option (List Int)
 | 0, _, _, _, _, _, _, _, _, _, _ => none
 | k + 1, x0, x6, x7, x8, x20, x21, x548000, x548001, x549000, x549001 => impl_Order_pattern_1.l1 k x0 x6 x7 x8 x20 x21 x0 (x0.length : Int) 0 x548000 x548001 x549000 x549001
def impl_Order_pattern_1.l1 : Nat → List Int → Int → Int → Bool → Int → Int → List Int → Int → Int → Int → List Int → Int → List Int → Option (List Int)
 | 0, _, _, _, _, _, _, _, _, _, _, _, _, _ => none
 | k + 1, x0, x6, x7, x8, x20, x21, x39, x40, x41, x548000, x548001, x549000, x549001 => if x41 < x40 then (if 0 ≤ x41 then (if x41 < (x39.length : Int) then (if x8 = true then ((impl_Order_better.f x549000 x549001 x7 (rd x39 x41)).bind fun t554 => ((impl_Order_better.f x548000 x548001 x6 x41).bind fun t555 => (if (t554 == t555) = true then ((impl_Order_better.f x549000 x549001 (rd x39 x41) x7).bind fun t556 => ((impl_Order_better.f x548000 x548001 x41 x6).bind fun t557 => (impl_Order_pattern_1.l1 k x0 x6 x7 (t556 == t557) x20 x21 x39 x40 (wrap64 (x41 + 1)) x548000 x548001 x549000 x549001))) else (impl_Order_pattern_1.l1 k x0 x6 x7 false x20 x21 x39 x40 (wrap64 (x41 + 1)) x548000 x548001 x549000 x549001)))) else (impl_Order_pattern_1.l1 k x0 x6 x7 false x20 x21 x39 x40 (wrap64 (x41 + 1)) x548000 x548001 x549000 x549001)) else (none)) else (none)) else (if x8 = true then ((slices_Clone_int_int.f x0).bind fun t558 => ((some (([x7] : List Int) : List Int)).bind fun y561 => (if t558.length + y561.length < 17592186044416 then ((impl_Order_pattern_1.f k (t558 ++ y561) x548000 x548001 x549000 x549001).bind fun t567 => (if t567 = ([] : List Int) then (impl_Order_pattern_1.l0 k x0 x6 x20 (wrap64 (x21 + 1)) x548000 x548001 x549000 x549001) else (some t567))) else (none)))) else (impl_Order_pattern_1.l0 k x0 x6 x20 (wrap64 (x21 + 1)) x548000 x548001 x549000 x549001))
def impl_Order_pattern_1.f : Nat → List Int → Int → List Int → Int → List Int → Option (List Int)
 | 0, _, _, _, _, _ => none
 | k + 1, l0, a1_0, l1_1, a2_0, l2_1 => if (l0.length : Int) = a1_0 then (some l0) else (impl_Order_pattern_1.l0 k l0 (l0.length : Int) a2_0 0 a1_0 l1_1 a2_0 l2_1)
end
theorem impl_Order_pattern_1.mono_l : ∀ k, (∀ y0 y1 y2 y3 y4, LeO (impl_Order_pattern_1.f k y0 y1 y2 y3 y4) (impl_Order_pattern_1.f (k + 1) y0 y1 y2 y3 y4)) ∧ (∀ y0 y1 y2 y3 y4 y5 y6 y7, LeO (impl_Order_pattern_1.l0 k y0 y1 y2 y3 y4 y5 y6 y7) (impl_Order_pattern_1.l0 (k + 1) y0 y1 y2 y3 y4 y5 y6 y7)) ∧ (∀ y0 y1 y2 y3 y4 y5 y6 y7 y8 y9, LeO (impl_Order_pattern_1.j1 k y0 y1 y2 y3 y4 y5 y6 y7 y8 y9) (impl_Order_pattern_1.j1 (k + 1) y0 y1 y2 y3 y4 y5 y6 y7 y8 y9)) ∧ (∀ y0 y1 y2 y3 y4 y5 y6 y7 y8 y9 y10 y11 y12, LeO (impl_Order_pattern_1.l1 k y0 y1 y2 y3 y4 y5 y6 y7 y8 y9 y10 y11 y12) (impl_Order_pattern_1.l1 (k + 1) y0 y1 y2 y3 y4 y5 y6 y7 y8 y9 y10 y11 y12))
 | 0 => ⟨fun _ _ _ _ _ r h => by simp [impl_Order_pattern_1.f] at h, fun _ _ _ _ _ _ _ _ r h => by simp [impl_Order_pattern_1.l0] at h, fun _ _ _ _ _ _ _ _ _ _ r h => by simp [impl_Order_pattern_1.j1] at h, fun _ _ _ _ _ _ _ _ _ _ _ _ _ r h => by simp [impl_Order_pattern_1.l1] at h⟩
 | k + 1 => by
  obtain ⟨ih0, ih1, ih2, ih3⟩ := impl_Order_pattern_1.mono_l k
  refine ⟨?_, ?_, ?_, ?_⟩ <;> intros
  unfold impl_Order_pattern_1.f
  rotate_left
  unfold impl_Order_pattern_1.l0
  rotate_left
  unfold impl_Order_pattern_1.j1
  rotate_left
  unfold impl_Order_pattern_1.l1
  rotate_left
  all_goals repeat' (with_reducible first|apply ih0|apply ih1|apply ih2|apply ih3|apply slices_Contains_int_int.mono|apply LeO.refl|apply LeO.none|apply LeO.ite|apply LeO.bind|intro)
theorem impl_Order_pattern_1.mono : ∀ a0 a1 a2 a3 a4 k, LeO (impl_Order_pattern_1.f k a0 a1 a2 a3 a4) (impl_Order_pattern_1.f (k + 1) a0 a1 a2 a3 a4) := by
 intro a0 a1 a2 a3 a4 k
 obtain ⟨ih0, ih1, ih2, ih3⟩ := impl_Order_pattern_1.mono_l k
 exact ih0 a0 a1 a2 a3 a4
def impl_Order_pattern_1.T7 : Bool × List (List Nat × List Nat) := (true, [([], []), ([], []), ([0, 1], [0, 1]), ([2], [2]), ([3, 2], [3]), ([4], [4]), ([4], [4]), ([4], [4]), ([5, 6, 7, 4, 4], [4, 5, 6, 7]), ([4], [4]), ([4], [4]), ([4], [4]), ([9, 10, 11, 8, 4], [4, 9, 10, 11]), ([8, 12, 4], [4, 8, 12]), ([4, 13], [4, 13]), ([14, 12, 0, 1, 2, 3, 4, 5, 6, 7, 8, 9, 10, 11, 12, 13, 14], [14])])
def impl_Order_pattern_1.B7 : List Nat := [0, 0, 3, 7, 15, 31, 31, 31, 255, 31, 31, 31, 4095, 8191, 16383, 32767]
theorem impl_Order_pattern_1.tab7 : rtab .any (opsOf Tryd.f43 7) = impl_Order_pattern_1.T7 := by kernel_rfl
theorem impl_Order_pattern_1.bits7 : waitsOk impl_Order_pattern_1.T7.2 impl_Order_pattern_1.B7 = true := by kernel_rfl
def impl_Order_pattern_1.T11 : Bool × List (List Nat × List Nat) := (true, [([], []), ([0], [0]), ([1], [1]), ([1], [1]), ([1], [1]), ([2, 3, 4, 1, 1], [1, 2, 3, 4]), ([1], [1]), ([1], [1]), ([1], [1]), ([6, 7, 8, 5, 1], [1, 6, 7, 8]), ([5, 9, 1], [1, 5, 9]), ([1, 10], [1, 10]), ([11, 9], [11]), ([12], [12]), ([12], [12]), ([12], [12]), ([13, 14, 15, 12, 12], [12, 13, 14, 15]), ([12], [12]), ([12], [12]), ([12], [12]), ([17, 18, 19, 16, 12], [12, 17, 18, 19]), ([16, 20, 12], [12, 16, 20]), ([12, 21], [12, 21]), ([22, 20, 0, 1, 2, 3, 4, 5, 6, 7, 8, 9, 10, 11, 12, 13, 14, 15, 16, 17, 18, 19, 20, 21, 22], [0, 22])])
def impl_Order_pattern_1.B11 : List Nat := [0, 1, 3, 3, 3, 31, 3, 3, 3, 511, 1023, 2047, 4095, 8191, 8191, 8191, 65535, 8191, 8191, 8191, 1048575, 2097151, 4194303, 8388607]
theorem impl_Order_pattern_1.tab11 : rtab .any (opsOf Tryd.f43 11) = impl_Order_pattern_1.T11 := by kernel_rfl
theorem impl_Order_pattern_1.bits11 : waitsOk impl_Order_pattern_1.T11.2 impl_Order_pattern_1.B11 = true := by kernel_rfl
def impl_Order_pattern_1.T14 : Bool × List (List Nat × List Nat) := (true, [([], []), ([], []), ([1], [1]), ([], []), ([3], [3]), ([2, 4, 2], [2, 4]), ([0, 5, 5], [0, 5]), ([6, 6, 0, 1, 2, 3, 4, 5, 6], [6])])
def impl_Order_pattern_1.B14 : List Nat := [0, 0, 2, 0, 8, 30, 63, 127]
theorem impl_Order_pattern_1.tab14 : rtab .any (opsOf Tryd.f43 14) = impl_Order_pattern_1.T14 := by kernel_rfl
theorem impl_Order_pattern_1.bits14 : waitsOk impl_Order_pattern_1.T14.2 impl_Order_pattern_1.B14 = true := by kernel_rfl
theorem impl_Order_pattern_1.calls (k : Nat) : ∀ (P0_ : Nat → Prop) (u9000_ : Value) (l0 : List Int) (gB1 : Nat) (a1_0 : Int) (A1_1 : Option Addr) (c1_1 : Nat) (l1_1 : List Int) (gB2 : Nat) (a2_0 : Int) (A2_1 : Option Addr) (c2_1 : Nat) (l2_1 : List Int) (gB3 : Nat)  (r : List Int) (w0 w : World) (hB : Below w0.heap.size w0 w) (ho0 : Kd.R (Kd.int .i64) 3 w w0.heap.size P0_ u9000_ l0) (hb1 : w.heap[gB1]? = some (.cells #[.int .i64 a1_0, .slice A1_1 l1_1.length c1_1] 26 (0, 0))) (hr1_1 : ∀ W_, Kept w W_ (fun k_ => P0_ k_) → Kd.C (Kd.int .i64) W_ A1_1 l1_1.length l1_1) (hc1_1 : l1_1.length ≤ c1_1) (hb2 : w.heap[gB2]? = some (.cells #[.int .i64 a2_0, .slice A2_1 l2_1.length c2_1] 26 (0, 0))) (hr2_1 : ∀ W_, Kept w W_ (fun k_ => P0_ k_) → Kd.C (Kd.int .i64) W_ A2_1 l2_1.length l2_1) (hc2_1 : l2_1.length ≤ c2_1) (hb3 : w.heap[gB3]? = some (.cells #[.func (.func 43) #[] #[.pointer (some ⟨gB1, 0, none⟩), .pointer (some ⟨gB2, 0, none⟩), .pointer (some ⟨gB3, 0, none⟩)]] 55 (0, 0))) (h : impl_Order_pattern_1.f k l0 a1_0 l1_1 a2_0 l2_1 = some r),
  Calls Tryd.prog 43 #[u9000_, .pointer (some ⟨gB1, 0, none⟩), .pointer (some ⟨gB2, 0, none⟩), .pointer (some ⟨gB3, 0, none⟩)] w fun e w' => ∃ v0_ : Value, e = .returned (v0_) ∧ Kd.R (Kd.int .i64) 3 w' w0.heap.size (fun k_ => (P0_ k_ ∨ w.heap.size ≤ k_)) v0_ r ∧ Below w0.heap.size w0 w' ∧ Kept w w' (fun k_ => P0_ k_) ∧ (((l0.length : Int) = a1_0 → v0_ = u9000_) ∧ (r = [] → v0_ = .slice none 0 0 ∨ (l0.length : Int) = a1_0 ∧ l0 = [])) := by
 induction k using Nat.strongRecOn with
 | _ k ih =>
 intro P0_ u9000_ l0 gB1 a1_0 A1_1 c1_1 l1_1 gB2 a2_0 A2_1 c2_1 l2_1 gB3 r w0 w hB ho0 hb1 hr1_1 hc1_1 hb2 hr2_1 hc2_1 hb3 h
 cases k with
 | zero => exact absurd h (by simp [impl_Order_pattern_1.f])
 | succ k =>
 simp only [impl_Order_pattern_1.f] at h
 have hu26 := Tryd.underlying26
 have BK547 := mkA hb1
 clear hb1
 have BK548 := mkA hb2
 clear hb2
 have BK549 := mkA hb3
 clear hb3
 have HO0 := mkA (show Kd.R (Kd.int .i64) 3 w w0.heap.size (fun k_ => (P0_ k_ ∨ w.heap.size ≤ k_)) u9000_ l0 from Kd.R_mono ho0 (fun k_ hk => (.inl hk)))
 have HR1_1 := mkA hr1_1
 have HC1_1 := mkA hc1_1
 clear hr1_1 hc1_1
 have HR2_1 := mkA hr2_1
 have HC2_1 := mkA hc2_1
 clear hr2_1 hc2_1
 have HK := mkA (Kept.refl w (fun k_ => P0_ k_))
 have HW0 := mkA hB.size
 have HB := mkA hB
 clear hB
 have H := h
 clear h
 unfold impl_Order_pattern_1.f at H
 rcases iteP H with ⟨c5, H⟩ | ⟨c5, H⟩
 ·have c5b0 := beq_iff_eq.mpr c5
  have c5b1 := bne_eq_false_iff_eq.mpr c5
  clear c5
  obtain rfl := Option.some.inj H
  obtain ⟨Ao6, co6, rfl⟩ := Kd.R_slice HO0.out
  obtain ⟨_, _, _, _⟩ := blk2 BK547
  go_enter Tryd.func43, Tryd.ntmps43
  go_wp2
  go_ret
  exact ⟨_, eqE, Kd.R_g HO0.out, bel_g HB.out, by repeat (first | (with_reducible first | exact HK.out | apply Kept.alloc | apply Kept.drewN | apply Kept.drew | refine Kept.setCell ?_ (.inr GW547.out) _ | refine Kept.setCell ?_ (.inr GW548.out) _ | refine Kept.setCell ?_ (.inr GW549.out) _) | exact HK.out), ⟨by first | exact fun h_ => rfl | (intro h_; exfalso; simp [h_] at c5b0; done), by first | exact .inl rfl | exact fun h_ => .inl rfl | exact fun h_ => .inr ⟨by simpa using c5b0, h_⟩⟩⟩
 ·have c5b0 := beq_eq_false_iff_ne.mpr c5
  have c5b1 := bne_iff_ne.mpr c5
  have H' := mkA H
  clear H
  obtain ⟨Ao8, co8, rfl⟩ := Kd.R_slice HO0.out
  obtain ⟨_, _, _, _⟩ := blk2 BK547
  obtain ⟨_, _, _, _⟩ := blk2 BK548
  go_enter Tryd.func43, Tryd.ntmps43
  go_wp2
  go_loopg [21] k (fun kq v21 w' => ∃ (x21_1 : Int), v21 = .int .i64 x21_1 ∧ Fc (impl_Order_pattern_1.l0 kq l0 (l0.length : Int) a2_0 x21_1 a1_0 l1_1 a2_0 l2_1 = some r) ∧ Fc (kq ≤ k) ∧ Fc (Kd.R (Kd.int .i64) 3 w' w0.heap.size (fun k_ => (P0_ k_ ∨ w.heap.size ≤ k_)) (.slice Ao8 l0.length co8) l0) ∧ Fc (w'.heap[gB1]? = some (.cells #[.int .i64 a1_0, (.slice A1_1 l1_1.length c1_1)] 26 (0, 0))) ∧ Fc (w'.heap[gB2]? = some (.cells #[.int .i64 a2_0, (.slice A2_1 l2_1.length c2_1)] 26 (0, 0))) ∧ Fc (w'.heap[gB3]? = some (.cells #[.func (.func 43) #[] #[.pointer (some ⟨gB1, 0, none⟩), .pointer (some ⟨gB2, 0, none⟩), .pointer (some ⟨gB3, 0, none⟩)]] 55 (0, 0))) ∧ Fc (Kept w w' (fun k_ => P0_ k_)) ∧ Fc (Below w0.heap.size w0 w'))
  case atStart => exact ⟨(0), eqS, H', ⟨Nat.le_refl _⟩, rg HO0, bg BK547, bg BK548, bg BK549, ⟨by repeat (first | (with_reducible first | exact HK.out | apply Kept.alloc | apply Kept.drewN | apply Kept.drew | refine Kept.setCell ?_ (.inr GW547.out) _ | refine Kept.setCell ?_ (.inr GW548.out) _ | refine Kept.setCell ?_ (.inr GW549.out) _) | exact HK.out)⟩, hbg HB⟩
  case round =>
   clear H'
   try clear c5
   skip
   skip
   obtain ⟨x21_1, rfl, HA, HK1, HO_0, BK547, BK548, BK549, HK, HB⟩ := hrel
   cases gk with
   | zero => exact absurd HA.out (by simp [impl_Order_pattern_1.l0])
   | succ k1 =>
    have H := HA.out
    clear HA
    simp only [impl_Order_pattern_1.l0] at H
    rcases iteE H with ⟨c11b0, H⟩ | ⟨c11b0, H⟩
    ·have HC12 := mkA H
     clear H
     go_upto_region 7 with (fail)
     go_cut [8] (fun v8 wc => ∃ (kq : Nat) (x8_11 : Bool), v8 = .bool x8_11 ∧ Fc (impl_Order_pattern_1.j1 kq l0 (l0.length : Int) x21_1 x8_11 a2_0 x21_1 a1_0 l1_1 a2_0 l2_1 = some r) ∧ Fc (kq ≤ k1) ∧ Fc (Kd.R (Kd.int .i64) 3 wc w0.heap.size (fun k_ => (P0_ k_ ∨ w.heap.size ≤ k_)) (.slice Ao8 l0.length co8) l0) ∧ Fc (wc.heap[gB1]? = some (.cells #[.int .i64 a1_0, (.slice A1_1 l1_1.length c1_1)] 26 (0, 0))) ∧ Fc (wc.heap[gB2]? = some (.cells #[.int .i64 a2_0, (.slice A2_1 l2_1.length c2_1)] 26 (0, 0))) ∧ Fc (wc.heap[gB3]? = some (.cells #[.func (.func 43) #[] #[.pointer (some ⟨gB1, 0, none⟩), .pointer (some ⟨gB2, 0, none⟩), .pointer (some ⟨gB3, 0, none⟩)]] 55 (0, 0))) ∧ Fc (Kept w wc (fun k_ => P0_ k_)) ∧ Fc (Below w0.heap.size w0 wc))
     case first =>
      have H := HC12.out
      clear HC12
      obtain ⟨t550, A13, H⟩ := obE H
      by_cases c14 : t550 = true
      ·subst c14
       replace H := ifT H
       have H' := mkA H
       clear H
       try go_wp2
       replace HO_0 := mkA (Kd.R_drew HO_0.out)
       replace BK547 := mkA (blk_drew BK547.out)
       replace BK548 := mkA (blk_drew BK548.out)
       replace BK549 := mkA (blk_drew BK549.out)
       replace HK := mkA (Kept.drew HK.out)
       replace HB := mkA (below_drew1 HB.out)
       refine start_ (n := 16) (S := fun w' => True) (ds := []) (bm 16 0) (by kernel_rfl) rfl (by kernel_rfl) trivial (fun hHeld => ?_); refine with_tabW impl_Order_pattern_1.tab7 impl_Order_pattern_1.bits7 (fun HT_ HW_ => ?_)
       generalize wr.drew = w15 at HO_0 BK547 BK548 BK549 HK HB hHeld ⊢
       refine purW 0 24 16 1 HT_ ?_
       refine purW 1 25 16 3 HT_ ?_
       refine oneW 2 (some 26) (bm 16 7) HT_ (fun K hK => ?_)
       refine goesR Tryd.func44 #[.slice Ao8 l0.length co8, .int .i64 x21_1] ?_
       with_reducible refine (slices_Contains_int_int.calls k1 _ _ l0 x21_1 true _ ?s1 ?s2 A13.out).mono ?_
       (case s1 => exact rC HO_0)
       (case s2 => exact rL HO_0)
       rintro e w' ⟨rfl, ⟨nd, rfl⟩⟩
       refine ⟨_, rfl, ?_⟩
       refine hK.out _ _ trivial (fun hHeld => ?_)
       clear hK K
       refine normW 26 ?_
       refine purW 3 27 16 15 HT_ ?_
       refine purW 4 28 16 31 HT_ ?_
       refine purG 5 29 16 63 HT_ ?_
       refine purG 6 30 16 127 HT_ ?_
       refine purG 7 31 16 255 HT_ ?_
       refine purG 8 32 16 511 HT_ ?_
       refine purG 9 33 16 1023 HT_ ?_
       refine purG 10 34 16 2047 HT_ ?_
       refine purG 11 35 16 4095 HT_ ?_
       refine purG 12 36 16 8191 HT_ ?_
       refine purG 13 37 16 16383 HT_ ?_
       refine purW 14 38 16 32767 HT_ ?_
       refine purW 15 8 16 65535 HT_ ?_
       refine doneW HT_ ?_
       try go_wp2
       go_meet
       case rel => exact ⟨_, (false), eqS, H', ⟨by have := HK1.out; first | omega | exact Nat.le_refl _⟩, rg HO_0, bg BK547, bg BK548, bg BK549, ⟨by repeat (first | (with_reducible first | exact HK.out | apply Kept.alloc | apply Kept.drewN | apply Kept.drew | refine Kept.setCell ?_ (.inr GW547.out) _ | refine Kept.setCell ?_ (.inr GW548.out) _ | refine Kept.setCell ?_ (.inr GW549.out) _) | exact HK.out)⟩, hbg HB⟩
      ·replace c14 := Bool.eq_false_iff.mpr c14
       subst c14
       replace H := ifF H
       obtain ⟨t551, A16, H⟩ := obE H
       obtain ⟨t552, A17, H⟩ := obE H
       have H' := mkA H
       clear H
       try go_wp2
       replace HO_0 := mkA (Kd.R_drew HO_0.out)
       replace BK547 := mkA (blk_drew BK547.out)
       replace BK548 := mkA (blk_drew BK548.out)
       replace BK549 := mkA (blk_drew BK549.out)
       replace HK := mkA (Kept.drew HK.out)
       replace HB := mkA (below_drew1 HB.out)
       refine start_ (n := 16) (S := fun w' => w'.cell? ⟨gB2, 0, none⟩ = some (.int .i64 a2_0) ∧ w'.cell? ⟨gB2, 1, none⟩ = some (.slice A2_1 l2_1.length c2_1) ∧ w'.cell? ⟨gB1, 0, none⟩ = some (.int .i64 a1_0) ∧ w'.cell? ⟨gB1, 1, none⟩ = some (.slice A1_1 l1_1.length c1_1)) (ds := []) (bm 16 0) (by kernel_rfl) rfl (by kernel_rfl) ⟨(blk_cell BK548.out 0).trans rfl, (blk_cell BK548.out 1).trans rfl, (blk_cell BK547.out 0).trans rfl, (blk_cell BK547.out 1).trans rfl⟩ (fun hHeld => ?_); refine with_tabW impl_Order_pattern_1.tab7 impl_Order_pattern_1.bits7 (fun HT_ HW_ => ?_)
       generalize wr.drew = w18 at HO_0 BK547 BK548 BK549 HK HB hHeld ⊢
       refine purW 0 24 16 1 HT_ ?_
       refine purW 1 25 16 3 HT_ ?_
       refine oneW 2 (some 26) (bm 16 7) HT_ (fun K hK => ?_)
       refine goesR Tryd.func44 #[.slice Ao8 l0.length co8, .int .i64 x21_1] ?_
       with_reducible refine (slices_Contains_int_int.calls k1 _ _ l0 x21_1 false _ ?s1 ?s2 A13.out).mono ?_
       (case s1 => exact rC HO_0)
       (case s2 => exact rL HO_0)
       rintro e w' ⟨rfl, ⟨nd, rfl⟩⟩
       refine ⟨_, rfl, ?_⟩
       refine hK.out _ _ ⟨(blk_cell BK548.out 0).trans rfl, (blk_cell BK548.out 1).trans rfl, (blk_cell BK547.out 0).trans rfl, (blk_cell BK547.out 1).trans rfl⟩ (fun hHeld => ?_)
       clear hK K
       refine normW 26 ?_
       refine purW 3 27 16 15 HT_ ?_
       refine purW 4 28 16 31 HT_ ?_
       refine purW 6 30 16 95 HT_ ?_
       refine purW 7 31 16 223 HT_ ?_
       refine purW 10 34 16 1247 HT_ ?_
       refine purW 11 35 16 3295 HT_ ?_
       refine takeW 5 (some 29) (bm 16 3327) HT_ HW_ hHeld ?_
       refine takeW 9 (some 33) (bm 16 3839) HT_ HW_ hHeld ?_
       refine oneW 8 (some 32) (bm 16 4095) HT_ (fun K hK => ?_)
       refine goesR Tryd.func27 #[.agg #[.int .i64 a2_0, .slice A2_1 l2_1.length c2_1], .int .i64 x21_1, .int .i64 x21_1] ?_
       with_reducible refine (impl_Order_better.calls a2_0 _ _ l2_1 x21_1 x21_1 t551 _ ?s1 ?s2 A16.out).mono ?_
       (case s1 => exact Kd.C_kept_now HR2_1.out (by repeat (first | (with_reducible first | exact HK.out | apply Kept.alloc | apply Kept.drewN | apply Kept.drew | refine Kept.setCell ?_ (.inr GW547.out) _ | refine Kept.setCell ?_ (.inr GW548.out) _ | refine Kept.setCell ?_ (.inr GW549.out) _) | exact HK.out)))
       (case s2 => exact HC2_1.out)
       rintro e w19 ⟨rfl, hb⟩
       refine ⟨_, rfl, ?_⟩
       replace HO_0 := rB HO_0 hb
       replace BK547 := blkB BK547 hb
       replace BK548 := blkB BK548 hb
       replace BK549 := blkB BK549 hb
       replace HK := mkA (Kept.below (S := (fun k_ => P0_ k_)) (by repeat (first | (with_reducible first | exact HK.out | apply Kept.alloc | apply Kept.drewN | apply Kept.drew | refine Kept.setCell ?_ (.inr GW547.out) _ | refine Kept.setCell ?_ (.inr GW548.out) _ | refine Kept.setCell ?_ (.inr GW549.out) _) | exact HK.out)) hb)
       replace HB := bst HB hb
       (try clear hb)
       (try clear hb2)
       (try clear hk)
       (try clear hi)
       refine hK.out _ _ ⟨(blk_cell BK548.out 0).trans rfl, (blk_cell BK548.out 1).trans rfl, (blk_cell BK547.out 0).trans rfl, (blk_cell BK547.out 1).trans rfl⟩ (fun hHeld => ?_)
       clear hK K
       refine normW 32 ?_
       refine oneW 12 (some 36) (bm 16 8191) HT_ (fun K hK => ?_)
       refine goesR Tryd.func27 #[.agg #[.int .i64 a1_0, .slice A1_1 l1_1.length c1_1], .int .i64 (l0.length : Int), .int .i64 (l0.length : Int)] ?_
       with_reducible refine (impl_Order_better.calls a1_0 _ _ l1_1 (l0.length : Int) (l0.length : Int) t552 _ ?s1 ?s2 A17.out).mono ?_
       (case s1 => exact Kd.C_kept_now HR1_1.out (by repeat (first | (with_reducible first | exact HK.out | apply Kept.alloc | apply Kept.drewN | apply Kept.drew | refine Kept.setCell ?_ (.inr GW547.out) _ | refine Kept.setCell ?_ (.inr GW548.out) _ | refine Kept.setCell ?_ (.inr GW549.out) _) | exact HK.out)))
       (case s2 => exact HC1_1.out)
       rintro e w20 ⟨rfl, hb⟩
       refine ⟨_, rfl, ?_⟩
       replace HO_0 := rB HO_0 hb
       replace BK547 := blkB BK547 hb
       replace BK548 := blkB BK548 hb
       replace BK549 := blkB BK549 hb
       replace HK := mkA (Kept.below (S := (fun k_ => P0_ k_)) (by repeat (first | (with_reducible first | exact HK.out | apply Kept.alloc | apply Kept.drewN | apply Kept.drew | refine Kept.setCell ?_ (.inr GW547.out) _ | refine Kept.setCell ?_ (.inr GW548.out) _ | refine Kept.setCell ?_ (.inr GW549.out) _) | exact HK.out)) hb)
       replace HB := bst HB hb
       (try clear hb)
       (try clear hb2)
       (try clear hk)
       (try clear hi)
       refine hK.out _ _ ⟨(blk_cell BK548.out 0).trans rfl, (blk_cell BK548.out 1).trans rfl, (blk_cell BK547.out 0).trans rfl, (blk_cell BK547.out 1).trans rfl⟩ (fun hHeld => ?_)
       clear hK K
       refine normW 36 ?_
       refine purW 13 37 16 16383 HT_ ?_
       refine purW 14 38 16 32767 HT_ ?_
       refine purW 15 8 16 65535 HT_ ?_
       refine doneW HT_ ?_
       try go_wp2
       go_meet
       case rel => exact ⟨_, ((t551 == t552)), eqS, H', ⟨by have := HK1.out; first | omega | exact Nat.le_refl _⟩, rg HO_0, bg BK547, bg BK548, bg BK549, ⟨by repeat (first | (with_reducible first | exact HK.out | apply Kept.alloc | apply Kept.drewN | apply Kept.drew | refine Kept.setCell ?_ (.inr GW547.out) _ | refine Kept.setCell ?_ (.inr GW548.out) _ | refine Kept.setCell ?_ (.inr GW549.out) _) | exact HK.out)⟩, hbg HB⟩
     case rest =>
      clear HC12
      try clear c5
      skip
      skip
      try clear c11b0
      try clear c14
      obtain ⟨kq, x8_11, rfl, HA, HJ11, HO_0, BK547, BK548, BK549, HK, HB⟩ := hcut
      cases kq with
      | zero => exact absurd HA.out (by simp [impl_Order_pattern_1.j1])
      | succ kj11 =>
       have H := HA.out
       clear HA
       simp only [impl_Order_pattern_1.j1] at H
       have H' := mkA H
       clear H
       go_wp2
       go_loopg [8, 41] kj11 (fun kq v8 v41 w' => ∃ (x8_3 : Bool) (x41_3 : Int), v8 = .bool x8_3 ∧ v41 = .int .i64 x41_3 ∧ Fc (impl_Order_pattern_1.l1 kq l0 (l0.length : Int) x21_1 x8_3 a2_0 x21_1 l0 (l0.length : Int) x41_3 a1_0 l1_1 a2_0 l2_1 = some r) ∧ Fc (kq ≤ kj11) ∧ Fc (Kd.R (Kd.int .i64) 3 w' w0.heap.size (fun k_ => (P0_ k_ ∨ w.heap.size ≤ k_)) (.slice Ao8 l0.length co8) l0) ∧ Fc (Kd.R (Kd.int .i64) 3 w' w0.heap.size (fun k_ => (P0_ k_ ∨ w.heap.size ≤ k_)) (.slice Ao8 l0.length co8) l0) ∧ Fc (w'.heap[gB1]? = some (.cells #[.int .i64 a1_0, (.slice A1_1 l1_1.length c1_1)] 26 (0, 0))) ∧ Fc (w'.heap[gB2]? = some (.cells #[.int .i64 a2_0, (.slice A2_1 l2_1.length c2_1)] 26 (0, 0))) ∧ Fc (w'.heap[gB3]? = some (.cells #[.func (.func 43) #[] #[.pointer (some ⟨gB1, 0, none⟩), .pointer (some ⟨gB2, 0, none⟩), .pointer (some ⟨gB3, 0, none⟩)]] 55 (0, 0))) ∧ Fc (Kept w w' (fun k_ => P0_ k_)) ∧ Fc (Below w0.heap.size w0 w'))
       case atStart => exact ⟨(x8_11), (0), eqS, eqS, H', ⟨Nat.le_refl _⟩, rg HO_0, rg HO_0, bg BK547, bg BK548, bg BK549, ⟨by repeat (first | (with_reducible first | exact HK.out | apply Kept.alloc | apply Kept.drewN | apply Kept.drew | refine Kept.setCell ?_ (.inr GW547.out) _ | refine Kept.setCell ?_ (.inr GW548.out) _ | refine Kept.setCell ?_ (.inr GW549.out) _) | exact HK.out)⟩, hbg HB⟩
       case round =>
        clear H'
        try clear c5
        skip
        skip
        try clear c11b0
        try clear c14
        obtain ⟨x8_3, x41_3, rfl, rfl, HA, HK3, HO_0, HO_39, BK547, BK548, BK549, HK, HB⟩ := hrel
        cases gk with
        | zero => exact absurd HA.out (by simp [impl_Order_pattern_1.l1])
        | succ k3 =>
         have H := HA.out
         clear HA
         simp only [impl_Order_pattern_1.l1] at H
         rcases iteE H with ⟨c21b0, H⟩ | ⟨c21b0, H⟩
         ·obtain ⟨c22b0, H⟩ := itND H
          obtain ⟨c23b0, H⟩ := itND H
          by_cases c24 : x8_3 = true
          ·subst c24
           replace H := ifT H
           obtain ⟨t554, A25, H⟩ := obE H
           obtain ⟨t555, A26, H⟩ := obE H
           rcases iteP H with ⟨c27, H⟩ | ⟨c27, H⟩
           ·have c27b0 : (t554 == t555) = true := c27
            (try (have c27b1 : decide (t554 = t555) = true := by simpa using c27))
            (try (have c27b2 : (t554 == t555) = true := by simpa using c27))
            clear c27
            obtain ⟨t556, A28, H⟩ := obE H
            obtain ⟨t557, A29, H⟩ := obE H
            have H' := mkA H
            clear H
            obtain ⟨p553, q553, ad553, e553, hx553_0⟩ := atI (Kd.R_reads' HO_39.out).2.2 x41_3
            cases e553
            try go_wp2
            replace HO_0 := mkA (Kd.R_drew HO_0.out)
            replace HO_39 := mkA (Kd.R_drew HO_39.out)
            replace BK547 := mkA (blk_drew BK547.out)
            replace BK548 := mkA (blk_drew BK548.out)
            replace BK549 := mkA (blk_drew BK549.out)
            replace HK := mkA (Kept.drew HK.out)
            replace HB := mkA (below_drew1 HB.out)
            refine start_ (n := 24) (S := fun w' => w'.cell? ⟨gB2, 0, none⟩ = some (.int .i64 a2_0) ∧ w'.cell? ⟨gB2, 1, none⟩ = some (.slice A2_1 l2_1.length c2_1) ∧ w'.cell? ⟨gB1, 0, none⟩ = some (.int .i64 a1_0) ∧ w'.cell? ⟨gB1, 1, none⟩ = some (.slice A1_1 l1_1.length c1_1)) (ds := []) (bm 24 0) (by kernel_rfl) rfl (by kernel_rfl) ⟨(blk_cell BK548.out 0).trans rfl, (blk_cell BK548.out 1).trans rfl, (blk_cell BK547.out 0).trans rfl, (blk_cell BK547.out 1).trans rfl⟩ (fun hHeld => ?_); refine with_tabW impl_Order_pattern_1.tab11 impl_Order_pattern_1.bits11 (fun HT_ HW_ => ?_)
            generalize wr.drew = w30 at HO_0 HO_39 BK547 BK548 BK549 HK HB hHeld ⊢
            refine purW 0 46 24 1 HT_ ?_
            refine purW 1 47 24 3 HT_ ?_
            refine purW 3 49 24 11 HT_ ?_
            refine purW 4 50 24 27 HT_ ?_
            refine purW 7 53 24 155 HT_ ?_
            refine purW 8 54 24 411 HT_ ?_
            refine takeW 2 (some 48) (bm 24 415) HT_ HW_ hHeld ?_
            refine takeW 6 (some 52) (bm 24 479) HT_ HW_ hHeld ?_
            refine oneW 5 (some 51) (bm 24 511) HT_ (fun K hK => ?_)
            refine goesR Tryd.func27 #[.agg #[.int .i64 a2_0, .slice A2_1 l2_1.length c2_1], .int .i64 x21_1, .int .i64 (rd l0 x41_3)] ?_
            with_reducible refine (impl_Order_better.calls a2_0 _ _ l2_1 x21_1 (rd l0 x41_3) t554 _ ?s1 ?s2 A25.out).mono ?_
            (case s1 => exact Kd.C_kept_now HR2_1.out (by repeat (first | (with_reducible first | exact HK.out | apply Kept.alloc | apply Kept.drewN | apply Kept.drew | refine Kept.setCell ?_ (.inr GW547.out) _ | refine Kept.setCell ?_ (.inr GW548.out) _ | refine Kept.setCell ?_ (.inr GW549.out) _) | exact HK.out)))
            (case s2 => exact HC2_1.out)
            rintro e w31 ⟨rfl, hb⟩
            refine ⟨_, rfl, ?_⟩
            replace HO_0 := rB HO_0 hb
            replace HO_39 := rB HO_39 hb
            replace BK547 := blkB BK547 hb
            replace BK548 := blkB BK548 hb
            replace BK549 := blkB BK549 hb
            replace HK := mkA (Kept.below (S := (fun k_ => P0_ k_)) (by repeat (first | (with_reducible first | exact HK.out | apply Kept.alloc | apply Kept.drewN | apply Kept.drew | refine Kept.setCell ?_ (.inr GW547.out) _ | refine Kept.setCell ?_ (.inr GW548.out) _ | refine Kept.setCell ?_ (.inr GW549.out) _) | exact HK.out)) hb)
            replace HB := bst HB hb
            (try clear hb)
            (try clear hb2)
            (try clear hk)
            (try clear hi)
            refine hK.out _ _ ⟨(blk_cell BK548.out 0).trans rfl, (blk_cell BK548.out 1).trans rfl, (blk_cell BK547.out 0).trans rfl, (blk_cell BK547.out 1).trans rfl⟩ (fun hHeld => ?_)
            clear hK K
            refine normW 51 ?_
            refine oneW 9 (some 55) (bm 24 1023) HT_ (fun K hK => ?_)
            refine goesR Tryd.func27 #[.agg #[.int .i64 a1_0, .slice A1_1 l1_1.length c1_1], .int .i64 (l0.length : Int), .int .i64 x41_3] ?_
            with_reducible refine (impl_Order_better.calls a1_0 _ _ l1_1 (l0.length : Int) x41_3 t555 _ ?s1 ?s2 A26.out).mono ?_
            (case s1 => exact Kd.C_kept_now HR1_1.out (by repeat (first | (with_reducible first | exact HK.out | apply Kept.alloc | apply Kept.drewN | apply Kept.drew | refine Kept.setCell ?_ (.inr GW547.out) _ | refine Kept.setCell ?_ (.inr GW548.out) _ | refine Kept.setCell ?_ (.inr GW549.out) _) | exact HK.out)))
            (case s2 => exact HC1_1.out)
            rintro e w32 ⟨rfl, hb⟩
            refine ⟨_, rfl, ?_⟩
            replace HO_0 := rB HO_0 hb
            replace HO_39 := rB HO_39 hb
            replace BK547 := blkB BK547 hb
            replace BK548 := blkB BK548 hb
            replace BK549 := blkB BK549 hb
            replace HK := mkA (Kept.below (S := (fun k_ => P0_ k_)) (by repeat (first | (with_reducible first | exact HK.out | apply Kept.alloc | apply Kept.drewN | apply Kept.drew | refine Kept.setCell ?_ (.inr GW547.out) _ | refine Kept.setCell ?_ (.inr GW548.out) _ | refine Kept.setCell ?_ (.inr GW549.out) _) | exact HK.out)) hb)
            replace HB := bst HB hb
            (try clear hb)
            (try clear hb2)
            (try clear hk)
            (try clear hi)
            refine hK.out _ _ ⟨(blk_cell BK548.out 0).trans rfl, (blk_cell BK548.out 1).trans rfl, (blk_cell BK547.out 0).trans rfl, (blk_cell BK547.out 1).trans rfl⟩ (fun hHeld => ?_)
            clear hK K
            refine normW 55 ?_
            refine purW 10 56 24 2047 HT_ ?_
            refine purW 11 57 24 4095 HT_ ?_
            refine purW 12 58 24 8191 HT_ ?_
            refine purW 14 60 24 24575 HT_ ?_
            refine purW 15 61 24 57343 HT_ ?_
            refine purW 18 64 24 319487 HT_ ?_
            refine purW 19 65 24 843775 HT_ ?_
            refine takeW 13 (some 59) (bm 24 851967) HT_ HW_ hHeld ?_
            refine takeW 17 (some 63) (bm 24 983039) HT_ HW_ hHeld ?_
            refine oneW 16 (some 62) (bm 24 1048575) HT_ (fun K hK => ?_)
            refine goesR Tryd.func27 #[.agg #[.int .i64 a2_0, .slice A2_1 l2_1.length c2_1], .int .i64 (rd l0 x41_3), .int .i64 x21_1] ?_
            with_reducible refine (impl_Order_better.calls a2_0 _ _ l2_1 (rd l0 x41_3) x21_1 t556 _ ?s1 ?s2 A28.out).mono ?_
            (case s1 => exact Kd.C_kept_now HR2_1.out (by repeat (first | (with_reducible first | exact HK.out | apply Kept.alloc | apply Kept.drewN | apply Kept.drew | refine Kept.setCell ?_ (.inr GW547.out) _ | refine Kept.setCell ?_ (.inr GW548.out) _ | refine Kept.setCell ?_ (.inr GW549.out) _) | exact HK.out)))
            (case s2 => exact HC2_1.out)
            rintro e w33 ⟨rfl, hb⟩
            refine ⟨_, rfl, ?_⟩
            replace HO_0 := rB HO_0 hb
            replace HO_39 := rB HO_39 hb
            replace BK547 := blkB BK547 hb
            replace BK548 := blkB BK548 hb
            replace BK549 := blkB BK549 hb
            replace HK := mkA (Kept.below (S := (fun k_ => P0_ k_)) (by repeat (first | (with_reducible first | exact HK.out | apply Kept.alloc | apply Kept.drewN | apply Kept.drew | refine Kept.setCell ?_ (.inr GW547.out) _ | refine Kept.setCell ?_ (.inr GW548.out) _ | refine Kept.setCell ?_ (.inr GW549.out) _) | exact HK.out)) hb)
            replace HB := bst HB hb
            (try clear hb)
            (try clear hb2)
            (try clear hk)
            (try clear hi)
            refine hK.out _ _ ⟨(blk_cell BK548.out 0).trans rfl, (blk_cell BK548.out 1).trans rfl, (blk_cell BK547.out 0).trans rfl, (blk_cell BK547.out 1).trans rfl⟩ (fun hHeld => ?_)
            clear hK K
            refine normW 62 ?_
            refine oneW 20 (some 66) (bm 24 2097151) HT_ (fun K hK => ?_)
            refine goesR Tryd.func27 #[.agg #[.int .i64 a1_0, .slice A1_1 l1_1.length c1_1], .int .i64 x41_3, .int .i64 (l0.length : Int)] ?_
            with_reducible refine (impl_Order_better.calls a1_0 _ _ l1_1 x41_3 (l0.length : Int) t557 _ ?s1 ?s2 A29.out).mono ?_
            (case s1 => exact Kd.C_kept_now HR1_1.out (by repeat (first | (with_reducible first | exact HK.out | apply Kept.alloc | apply Kept.drewN | apply Kept.drew | refine Kept.setCell ?_ (.inr GW547.out) _ | refine Kept.setCell ?_ (.inr GW548.out) _ | refine Kept.setCell ?_ (.inr GW549.out) _) | exact HK.out)))
            (case s2 => exact HC1_1.out)
            rintro e w34 ⟨rfl, hb⟩
            refine ⟨_, rfl, ?_⟩
            replace HO_0 := rB HO_0 hb
            replace HO_39 := rB HO_39 hb
            replace BK547 := blkB BK547 hb
            replace BK548 := blkB BK548 hb
            replace BK549 := blkB BK549 hb
            replace HK := mkA (Kept.below (S := (fun k_ => P0_ k_)) (by repeat (first | (with_reducible first | exact HK.out | apply Kept.alloc | apply Kept.drewN | apply Kept.drew | refine Kept.setCell ?_ (.inr GW547.out) _ | refine Kept.setCell ?_ (.inr GW548.out) _ | refine Kept.setCell ?_ (.inr GW549.out) _) | exact HK.out)) hb)
            replace HB := bst HB hb
            (try clear hb)
            (try clear hb2)
            (try clear hk)
            (try clear hi)
            refine hK.out _ _ ⟨(blk_cell BK548.out 0).trans rfl, (blk_cell BK548.out 1).trans rfl, (blk_cell BK547.out 0).trans rfl, (blk_cell BK547.out 1).trans rfl⟩ (fun hHeld => ?_)
            clear hK K
            refine normW 66 ?_
            refine purW 21 67 24 4194303 HT_ ?_
            refine purW 22 68 24 8388607 HT_ ?_
            refine purW 23 8 24 16777215 HT_ ?_
            refine doneW HT_ ?_
            try go_wp2
            go_roundg k3
            case measure => have := HK1.out; have := HJ11.out; have := HK3.out; omega
            case rel => exact ⟨((t556 == t557)), (wrap64 (x41_3 + 1)), eqS, eqS, H', ⟨by have := HK1.out; have := HJ11.out; have := HK3.out; omega⟩, rg HO_0, rg HO_39, bg BK547, bg BK548, bg BK549, ⟨by repeat (first | (with_reducible first | exact HK.out | apply Kept.alloc | apply Kept.drewN | apply Kept.drew | refine Kept.setCell ?_ (.inr GW547.out) _ | refine Kept.setCell ?_ (.inr GW548.out) _ | refine Kept.setCell ?_ (.inr GW549.out) _) | exact HK.out)⟩, hbg HB⟩
           ·have c27b0 : (t554 == t555) = false := by simpa using c27
            (try (have c27b1 : decide (t554 = t555) = false := by simpa using c27))
            (try (have c27b2 : (t554 == t555) = false := by simpa using c27))
            (try (have c27b3 : ¬ (t554 = t555) := by simpa using c27))
            clear c27
            have H' := mkA H
            clear H
            obtain ⟨p553, q553, ad553, e553, hx553_0⟩ := atI (Kd.R_reads' HO_39.out).2.2 x41_3
            cases e553
            try go_wp2
            replace HO_0 := mkA (Kd.R_drew HO_0.out)
            replace HO_39 := mkA (Kd.R_drew HO_39.out)
            replace BK547 := mkA (blk_drew BK547.out)
            replace BK548 := mkA (blk_drew BK548.out)
            replace BK549 := mkA (blk_drew BK549.out)
            replace HK := mkA (Kept.drew HK.out)
            replace HB := mkA (below_drew1 HB.out)
            refine start_ (n := 24) (S := fun w' => w'.cell? ⟨gB2, 0, none⟩ = some (.int .i64 a2_0) ∧ w'.cell? ⟨gB2, 1, none⟩ = some (.slice A2_1 l2_1.length c2_1) ∧ w'.cell? ⟨gB1, 0, none⟩ = some (.int .i64 a1_0) ∧ w'.cell? ⟨gB1, 1, none⟩ = some (.slice A1_1 l1_1.length c1_1)) (ds := []) (bm 24 0) (by kernel_rfl) rfl (by kernel_rfl) ⟨(blk_cell BK548.out 0).trans rfl, (blk_cell BK548.out 1).trans rfl, (blk_cell BK547.out 0).trans rfl, (blk_cell BK547.out 1).trans rfl⟩ (fun hHeld => ?_); refine with_tabW impl_Order_pattern_1.tab11 impl_Order_pattern_1.bits11 (fun HT_ HW_ => ?_)
            generalize wr.drew = w35 at HO_0 HO_39 BK547 BK548 BK549 HK HB hHeld ⊢
            refine purW 0 46 24 1 HT_ ?_
            refine purW 1 47 24 3 HT_ ?_
            refine purW 3 49 24 11 HT_ ?_
            refine purW 4 50 24 27 HT_ ?_
            refine purW 7 53 24 155 HT_ ?_
            refine purW 8 54 24 411 HT_ ?_
            refine takeW 2 (some 48) (bm 24 415) HT_ HW_ hHeld ?_
            refine takeW 6 (some 52) (bm 24 479) HT_ HW_ hHeld ?_
            refine oneW 5 (some 51) (bm 24 511) HT_ (fun K hK => ?_)
            refine goesR Tryd.func27 #[.agg #[.int .i64 a2_0, .slice A2_1 l2_1.length c2_1], .int .i64 x21_1, .int .i64 (rd l0 x41_3)] ?_
            with_reducible refine (impl_Order_better.calls a2_0 _ _ l2_1 x21_1 (rd l0 x41_3) t554 _ ?s1 ?s2 A25.out).mono ?_
            (case s1 => exact Kd.C_kept_now HR2_1.out (by repeat (first | (with_reducible first | exact HK.out | apply Kept.alloc | apply Kept.drewN | apply Kept.drew | refine Kept.setCell ?_ (.inr GW547.out) _ | refine Kept.setCell ?_ (.inr GW548.out) _ | refine Kept.setCell ?_ (.inr GW549.out) _) | exact HK.out)))
            (case s2 => exact HC2_1.out)
            rintro e w36 ⟨rfl, hb⟩
            refine ⟨_, rfl, ?_⟩
            replace HO_0 := rB HO_0 hb
            replace HO_39 := rB HO_39 hb
            replace BK547 := blkB BK547 hb
            replace BK548 := blkB BK548 hb
            replace BK549 := blkB BK549 hb
            replace HK := mkA (Kept.below (S := (fun k_ => P0_ k_)) (by repeat (first | (with_reducible first | exact HK.out | apply Kept.alloc | apply Kept.drewN | apply Kept.drew | refine Kept.setCell ?_ (.inr GW547.out) _ | refine Kept.setCell ?_ (.inr GW548.out) _ | refine Kept.setCell ?_ (.inr GW549.out) _) | exact HK.out)) hb)
            replace HB := bst HB hb
            (try clear hb)
            (try clear hb2)
            (try clear hk)
            (try clear hi)
            refine hK.out _ _ ⟨(blk_cell BK548.out 0).trans rfl, (blk_cell BK548.out 1).trans rfl, (blk_cell BK547.out 0).trans rfl, (blk_cell BK547.out 1).trans rfl⟩ (fun hHeld => ?_)
            clear hK K
            refine normW 51 ?_
            refine oneW 9 (some 55) (bm 24 1023) HT_ (fun K hK => ?_)
            refine goesR Tryd.func27 #[.agg #[.int .i64 a1_0, .slice A1_1 l1_1.length c1_1], .int .i64 (l0.length : Int), .int .i64 x41_3] ?_
            with_reducible refine (impl_Order_better.calls a1_0 _ _ l1_1 (l0.length : Int) x41_3 t555 _ ?s1 ?s2 A26.out).mono ?_
            (case s1 => exact Kd.C_kept_now HR1_1.out (by repeat (first | (with_reducible first | exact HK.out | apply Kept.alloc | apply Kept.drewN | apply Kept.drew | refine Kept.setCell ?_ (.inr GW547.out) _ | refine Kept.setCell ?_ (.inr GW548.out) _ | refine Kept.setCell ?_ (.inr GW549.out) _) | exact HK.out)))
            (case s2 => exact HC1_1.out)
            rintro e w37 ⟨rfl, hb⟩
            refine ⟨_, rfl, ?_⟩
            replace HO_0 := rB HO_0 hb
            replace HO_39 := rB HO_39 hb
            replace BK547 := blkB BK547 hb
            replace BK548 := blkB BK548 hb
            replace BK549 := blkB BK549 hb
            replace HK := mkA (Kept.below (S := (fun k_ => P0_ k_)) (by repeat (first | (with_reducible first | exact HK.out | apply Kept.alloc | apply Kept.drewN | apply Kept.drew | refine Kept.setCell ?_ (.inr GW547.out) _ | refine Kept.setCell ?_ (.inr GW548.out) _ | refine Kept.setCell ?_ (.inr GW549.out) _) | exact HK.out)) hb)
            replace HB := bst HB hb
            (try clear hb)
            (try clear hb2)
            (try clear hk)
            (try clear hi)
            refine hK.out _ _ ⟨(blk_cell BK548.out 0).trans rfl, (blk_cell BK548.out 1).trans rfl, (blk_cell BK547.out 0).trans rfl, (blk_cell BK547.out 1).trans rfl⟩ (fun hHeld => ?_)
            clear hK K
            refine normW 55 ?_
            refine purW 10 56 24 2047 HT_ ?_
            refine purW 11 57 24 4095 HT_ ?_
            refine purW 12 58 24 8191 HT_ ?_
            refine purG 13 59 24 16383 HT_ ?_
            refine purG 14 60 24 32767 HT_ ?_
            refine purG 15 61 24 65535 HT_ ?_
            refine purG 16 62 24 131071 HT_ ?_
            refine purG 17 63 24 262143 HT_ ?_
            refine purG 18 64 24 524287 HT_ ?_
            refine purG 19 65 24 1048575 HT_ ?_
            refine purG 20 66 24 2097151 HT_ ?_
            refine purG 21 67 24 4194303 HT_ ?_
            refine purW 22 68 24 8388607 HT_ ?_
            refine purW 23 8 24 16777215 HT_ ?_
            refine doneW HT_ ?_
            try go_wp2
            go_roundg k3
            case measure => have := HK1.out; have := HJ11.out; have := HK3.out; omega
            case rel => exact ⟨(false), (wrap64 (x41_3 + 1)), eqS, eqS, H', ⟨by have := HK1.out; have := HJ11.out; have := HK3.out; omega⟩, rg HO_0, rg HO_39, bg BK547, bg BK548, bg BK549, ⟨by repeat (first | (with_reducible first | exact HK.out | apply Kept.alloc | apply Kept.drewN | apply Kept.drew | refine Kept.setCell ?_ (.inr GW547.out) _ | refine Kept.setCell ?_ (.inr GW548.out) _ | refine Kept.setCell ?_ (.inr GW549.out) _) | exact HK.out)⟩, hbg HB⟩
          ·replace c24 := Bool.eq_false_iff.mpr c24
           subst c24
           replace H := ifF H
           have H' := mkA H
           clear H
           obtain ⟨p553, q553, ad553, e553, hx553_0⟩ := atI (Kd.R_reads' HO_39.out).2.2 x41_3
           cases e553
           try go_wp2
           replace HO_0 := mkA (Kd.R_drew HO_0.out)
           replace HO_39 := mkA (Kd.R_drew HO_39.out)
           replace BK547 := mkA (blk_drew BK547.out)
           replace BK548 := mkA (blk_drew BK548.out)
           replace BK549 := mkA (blk_drew BK549.out)
           replace HK := mkA (Kept.drew HK.out)
           replace HB := mkA (below_drew1 HB.out)
           refine start_ (n := 24) (S := fun w' => True) (ds := []) (bm 24 0) (by kernel_rfl) rfl (by kernel_rfl) trivial (fun hHeld => ?_); refine with_tabW impl_Order_pattern_1.tab11 impl_Order_pattern_1.bits11 (fun HT_ HW_ => ?_)
           generalize wr.drew = w38 at HO_0 HO_39 BK547 BK548 BK549 HK HB hHeld ⊢
           refine purW 0 46 24 1 HT_ ?_
           refine purW 1 47 24 3 HT_ ?_
           refine purG 2 48 24 7 HT_ ?_
           refine purG 3 49 24 15 HT_ ?_
           refine purG 4 50 24 31 HT_ ?_
           refine purG 5 51 24 63 HT_ ?_
           refine purG 6 52 24 127 HT_ ?_
           refine purG 7 53 24 255 HT_ ?_
           refine purG 8 54 24 511 HT_ ?_
           refine purG 9 55 24 1023 HT_ ?_
           refine purG 10 56 24 2047 HT_ ?_
           refine purW 11 57 24 4095 HT_ ?_
           refine purW 12 58 24 8191 HT_ ?_
           refine purG 13 59 24 16383 HT_ ?_
           refine purG 14 60 24 32767 HT_ ?_
           refine purG 15 61 24 65535 HT_ ?_
           refine purG 16 62 24 131071 HT_ ?_
           refine purG 17 63 24 262143 HT_ ?_
           refine purG 18 64 24 524287 HT_ ?_
           refine purG 19 65 24 1048575 HT_ ?_
           refine purG 20 66 24 2097151 HT_ ?_
           refine purG 21 67 24 4194303 HT_ ?_
           refine purW 22 68 24 8388607 HT_ ?_
           refine purW 23 8 24 16777215 HT_ ?_
           refine doneW HT_ ?_
           try go_wp2
           go_roundg k3
           case measure => have := HK1.out; have := HJ11.out; have := HK3.out; omega
           case rel => exact ⟨(false), (wrap64 (x41_3 + 1)), eqS, eqS, H', ⟨by have := HK1.out; have := HJ11.out; have := HK3.out; omega⟩, rg HO_0, rg HO_39, bg BK547, bg BK548, bg BK549, ⟨by repeat (first | (with_reducible first | exact HK.out | apply Kept.alloc | apply Kept.drewN | apply Kept.drew | refine Kept.setCell ?_ (.inr GW547.out) _ | refine Kept.setCell ?_ (.inr GW548.out) _ | refine Kept.setCell ?_ (.inr GW549.out) _) | exact HK.out)⟩, hbg HB⟩
         ·by_cases c39 : x8_3 = true
          ·subst c39
           replace H := ifT H
           obtain ⟨t558, A40, H⟩ := obE H
           obtain ⟨y561, Ny561, H⟩ := nmE H
           obtain ⟨c41, H⟩ := itNP H
           have LMc41 := mkA c41
           clear c41
           obtain ⟨y564, hy564⟩ : ∃ y_ : List Int, y_ = (t558 ++ y561) := ⟨_, rfl⟩
           rw [← hy564] at H
           have Ny564 := mkA hy564
           clear hy564
           obtain ⟨t567, A42, H⟩ := obE H
           rcases iteP H with ⟨c43, H⟩ | ⟨c43, H⟩
           ·have c43b0 := beq_iff_eq.mpr c43
            have c43b1 := bne_eq_false_iff_eq.mpr c43
            clear c43
            have H' := mkA H
            clear H
            try go_wp2
            replace HO_0 := mkA (Kd.R_drew HO_0.out)
            replace HO_39 := mkA (Kd.R_drew HO_39.out)
            replace BK547 := mkA (blk_drew BK547.out)
            replace BK548 := mkA (blk_drew BK548.out)
            replace BK549 := mkA (blk_drew BK549.out)
            replace HK := mkA (Kept.drew HK.out)
            replace HB := mkA (below_drew1 HB.out)
            refine start_ (n := 8) (S := fun w' => w'.cell? ⟨gB3, 0, none⟩ = some (.func (.func 43) #[] #[.pointer (some ⟨gB1, 0, none⟩), .pointer (some ⟨gB2, 0, none⟩), .pointer (some ⟨gB3, 0, none⟩)])) (ds := []) (bm 8 0) (by kernel_rfl) rfl (by kernel_rfl) ((blk_cell BK549.out 0).trans rfl) (fun hHeld => ?_); refine with_tabW impl_Order_pattern_1.tab14 impl_Order_pattern_1.bits14 (fun HT_ HW_ => ?_)
            generalize wr.drew = w44 at HO_0 HO_39 BK547 BK548 BK549 HK HB hHeld ⊢
            refine purW 1 72 8 2 HT_ ?_
            refine purW 3 74 8 10 HT_ ?_
            refine takeW 0 (some 71) (bm 8 11) HT_ HW_ hHeld ?_
            refine join_ (σ := Value × Value) 3 (bm 8 31) (fun s_ => [(73, s_.1), (75, s_.2)]) (fun s_ w' => (w'.cell? ⟨gB3, 0, none⟩ = some (.func (.func 43) #[] #[.pointer (some ⟨gB1, 0, none⟩), .pointer (some ⟨gB2, 0, none⟩), .pointer (some ⟨gB3, 0, none⟩)])) ∧ (Kd.R (Kd.int .i64) 3 w' w0.heap.size (fun k_ => (P0_ k_ ∨ w.heap.size ≤ k_) ∧ some k_ ≠ (s_.2 : Value).ownBlock ∧ some k_ ≠ (.slice Ao8 l0.length co8 : Value).ownBlock ∧ some k_ ≠ (.slice Ao8 l0.length co8 : Value).ownBlock) s_.1 t558) ∧ (Kd.R (Kd.int .i64) 3 w' w0.heap.size (fun k_ => (P0_ k_ ∨ w.heap.size ≤ k_) ∧ some k_ ≠ (s_.1 : Value).ownBlock ∧ some k_ ≠ (.slice Ao8 l0.length co8 : Value).ownBlock ∧ some k_ ≠ (.slice Ao8 l0.length co8 : Value).ownBlock) s_.2 y561) ∧ (Kd.R (Kd.int .i64) 3 w' w0.heap.size (fun k_ => (P0_ k_ ∨ w.heap.size ≤ k_) ∧ some k_ ≠ (s_.1 : Value).ownBlock ∧ some k_ ≠ (s_.2 : Value).ownBlock) (.slice Ao8 l0.length co8) l0) ∧ (Kd.R (Kd.int .i64) 3 w' w0.heap.size (fun k_ => (P0_ k_ ∨ w.heap.size ≤ k_) ∧ some k_ ≠ (s_.1 : Value).ownBlock ∧ some k_ ≠ (s_.2 : Value).ownBlock) (.slice Ao8 l0.length co8) l0) ∧ (w'.heap[gB1]? = some (.cells #[.int .i64 a1_0, .slice A1_1 l1_1.length c1_1] 26 (0, 0))) ∧ (w'.heap[gB2]? = some (.cells #[.int .i64 a2_0, .slice A2_1 l2_1.length c2_1] 26 (0, 0))) ∧ (w'.heap[gB3]? = some (.cells #[.func (.func 43) #[] #[.pointer (some ⟨gB1, 0, none⟩), .pointer (some ⟨gB2, 0, none⟩), .pointer (some ⟨gB3, 0, none⟩)]] 55 (0, 0))) ∧ (Kept w w' (fun k_ => P0_ k_)) ∧ (Below w0.heap.size w0 w')) ?_ ?_
            rotate_left
            ·intro hCont
             refine two_ (i := 2) (j := 4) (Ni := some 73) (Nj := some 75) (bm 8 15) (bm 8 27) rfl rfl rfl rfl (two_of HT_.out (by kernel_rfl)) (by decide) (by decide) (fun K hK => ?_) (fun K hK => ?_)
             ·skip
              refine goesR Tryd.func45 #[.slice Ao8 l0.length co8] ?_
              with_reducible refine (slices_Clone_int_int.calls _ _ l0 t558 _ ?s1 ?s2 A40.out).mono ?_
              (case s1 => exact rC HO_0)
              (case s2 => exact rL HO_0)
              rintro e w45 ⟨v559, rfl, ho0, hb⟩
              refine ⟨_, rfl, ?_⟩
              have HO560 := rLo (rN (rN (Kd.R_newM (M := fun k_ => (P0_ k_ ∨ w.heap.size ≤ k_)) ho0 (by first | exact HK.out.1 | exact (show Kept w _ (fun k_ => P0_ k_) from by repeat (first | (with_reducible first | exact HK.out | apply Kept.alloc | apply Kept.drewN | apply Kept.drew | refine Kept.setCell ?_ (.inr GW547.out) _ | refine Kept.setCell ?_ (.inr GW548.out) _ | refine Kept.setCell ?_ (.inr GW549.out) _) | exact HK.out)).1) (fun k_ h_ => .inr h_)) HO_0) HO_39) HB
              replace HO_0 := rE HO_0 ho0 hb
              replace HO_39 := rE HO_39 ho0 hb
              replace BK547 := blkB BK547 hb
              replace BK548 := blkB BK548 hb
              replace BK549 := blkB BK549 hb
              replace HK := mkA (Kept.below (S := (fun k_ => P0_ k_)) (by repeat (first | (with_reducible first | exact HK.out | apply Kept.alloc | apply Kept.drewN | apply Kept.drew | refine Kept.setCell ?_ (.inr GW547.out) _ | refine Kept.setCell ?_ (.inr GW548.out) _ | refine Kept.setCell ?_ (.inr GW549.out) _) | exact HK.out)) hb)
              replace HB := bst HB hb
              (try clear hb)
              (try clear hb2)
              (try clear hk)
              (try clear hi)
              (try clear ho0)
              refine hK.out _ _ ((blk_cell BK549.out 0).trans rfl) (fun hHeld => ?_)
              clear hK K
              refine normW 73 ?_
              refine oneW 4 (some 75) (bm 8 31) HT_ (fun K hK => ?_)
              refine Kd.R_lit_step (Kd.int .i64) _ 3 ?hg (N := 75) ?hd (xs := ([x21_1] : List Int)) (inner := [.int .i64 x21_1]) (ok := fun _ => True) (okp := fun _ => True) ?hr ?hp (fun _ hk => hk) trivial (Below.refl _ _) (Nat.le_refl _) (by simp) ?_; (case hd => rfl); (case hg => rfl); (case hr => first | (go_simp; done) | (go_simp; rfl)); (case hp => exact (Reps.one (show Kd.M (Kd.int .i64) _ _ _ x21_1 [.int .i64 x21_1] from rfl) (Reps.none _ _)))
              intro v562 w46 ho47 hb hg_ hnew_
              clear hg_ hnew_
              (first | rw [← Ny561.out] at ho47 | (simp only [Int.reduceToNat] at ho47; rw [← Ny561.out] at ho47))
              have HO563 := rLo (rN (rN (rN (Kd.R_newM (M := fun k_ => (P0_ k_ ∨ w.heap.size ≤ k_)) ho47 (by first | exact HK.out.1 | exact (show Kept w _ (fun k_ => P0_ k_) from by repeat (first | (with_reducible first | exact HK.out | apply Kept.alloc | apply Kept.drewN | apply Kept.drew | refine Kept.setCell ?_ (.inr GW547.out) _ | refine Kept.setCell ?_ (.inr GW548.out) _ | refine Kept.setCell ?_ (.inr GW549.out) _) | exact HK.out)).1) (fun k_ h_ => .inr h_)) HO_0) HO_39) HO560) HB
              replace HO_0 := rE HO_0 ho47 hb
              replace HO_39 := rE HO_39 ho47 hb
              replace HO560 := rE HO560 ho47 hb
              replace BK547 := blkB BK547 hb
              replace BK548 := blkB BK548 hb
              replace BK549 := blkB BK549 hb
              replace HK := mkA (Kept.below (S := (fun k_ => P0_ k_)) (by repeat (first | (with_reducible first | exact HK.out | apply Kept.alloc | apply Kept.drewN | apply Kept.drew | refine Kept.setCell ?_ (.inr GW547.out) _ | refine Kept.setCell ?_ (.inr GW548.out) _ | refine Kept.setCell ?_ (.inr GW549.out) _) | exact HK.out)) hb)
              replace HB := bst HB hb
              clear hb ho47
              refine hK.out _ _ ((blk_cell BK549.out 0).trans rfl) (fun hHeld => ?_)
              clear hK K
              refine normW 75 ?_
              exact norm_ (by simp only [putAll, Act.put, List.setIfInBounds_toArray, List.set_cons_zero, List.set_cons_succ]) (hCont (v559, v562) _ ⟨hHeld, (Kd.R_g (Kd.R_mono HO560.out (fun _ hk => ⟨hk.1.1.1.1, ⟨hk.2, ⟨hk.1.1.2, hk.1.2⟩⟩⟩))), (Kd.R_g (Kd.R_mono HO563.out (fun _ hk => ⟨hk.1.1.1.1, ⟨hk.2, ⟨hk.1.1.2, hk.1.2⟩⟩⟩))), (Kd.R_g (Kd.R_mono HO_0.out (fun _ hk => ⟨hk.1.1, ⟨hk.1.2, hk.2⟩⟩))), (Kd.R_g (Kd.R_mono HO_39.out (fun _ hk => ⟨hk.1.1, ⟨hk.1.2, hk.2⟩⟩))), (blk_g BK547.out), (blk_g BK548.out), (blk_g BK549.out), (by repeat (first | (with_reducible first | exact HK.out | apply Kept.alloc | apply Kept.drewN | apply Kept.drew | refine Kept.setCell ?_ (.inr GW547.out) _ | refine Kept.setCell ?_ (.inr GW548.out) _ | refine Kept.setCell ?_ (.inr GW549.out) _) | exact HK.out)), (bel_g HB.out)⟩)
             ·skip
              refine Kd.R_lit_step (Kd.int .i64) _ 3 ?hg (N := 75) ?hd (xs := ([x21_1] : List Int)) (inner := [.int .i64 x21_1]) (ok := fun _ => True) (okp := fun _ => True) ?hr ?hp (fun _ hk => hk) trivial (Below.refl _ _) (Nat.le_refl _) (by simp) ?_; (case hd => rfl); (case hg => rfl); (case hr => first | (go_simp; done) | (go_simp; rfl)); (case hp => exact (Reps.one (show Kd.M (Kd.int .i64) _ _ _ x21_1 [.int .i64 x21_1] from rfl) (Reps.none _ _)))
              intro v562 w45 ho46 hb hg_ hnew_
              clear hg_ hnew_
              (first | rw [← Ny561.out] at ho46 | (simp only [Int.reduceToNat] at ho46; rw [← Ny561.out] at ho46))
              have HO563 := rLo (rN (rN (Kd.R_newM (M := fun k_ => (P0_ k_ ∨ w.heap.size ≤ k_)) ho46 (by first | exact HK.out.1 | exact (show Kept w _ (fun k_ => P0_ k_) from by repeat (first | (with_reducible first | exact HK.out | apply Kept.alloc | apply Kept.drewN | apply Kept.drew | refine Kept.setCell ?_ (.inr GW547.out) _ | refine Kept.setCell ?_ (.inr GW548.out) _ | refine Kept.setCell ?_ (.inr GW549.out) _) | exact HK.out)).1) (fun k_ h_ => .inr h_)) HO_0) HO_39) HB
              replace HO_0 := rE HO_0 ho46 hb
              replace HO_39 := rE HO_39 ho46 hb
              replace BK547 := blkB BK547 hb
              replace BK548 := blkB BK548 hb
              replace BK549 := blkB BK549 hb
              replace HK := mkA (Kept.below (S := (fun k_ => P0_ k_)) (by repeat (first | (with_reducible first | exact HK.out | apply Kept.alloc | apply Kept.drewN | apply Kept.drew | refine Kept.setCell ?_ (.inr GW547.out) _ | refine Kept.setCell ?_ (.inr GW548.out) _ | refine Kept.setCell ?_ (.inr GW549.out) _) | exact HK.out)) hb)
              replace HB := bst HB hb
              clear hb ho46
              refine hK.out _ _ ((blk_cell BK549.out 0).trans rfl) (fun hHeld => ?_)
              clear hK K
              refine normW 75 ?_
              refine oneW 2 (some 73) (bm 8 31) HT_ (fun K hK => ?_)
              refine goesR Tryd.func45 #[.slice Ao8 l0.length co8] ?_
              with_reducible refine (slices_Clone_int_int.calls _ _ l0 t558 _ ?s1 ?s2 A40.out).mono ?_
              (case s1 => exact rC HO_0)
              (case s2 => exact rL HO_0)
              rintro e w47 ⟨v559, rfl, ho0, hb⟩
              refine ⟨_, rfl, ?_⟩
              have HO560 := rLo (rN (rN (rN (Kd.R_newM (M := fun k_ => (P0_ k_ ∨ w.heap.size ≤ k_)) ho0 (by first | exact HK.out.1 | exact (show Kept w _ (fun k_ => P0_ k_) from by repeat (first | (with_reducible first | exact HK.out | apply Kept.alloc | apply Kept.drewN | apply Kept.drew | refine Kept.setCell ?_ (.inr GW547.out) _ | refine Kept.setCell ?_ (.inr GW548.out) _ | refine Kept.setCell ?_ (.inr GW549.out) _) | exact HK.out)).1) (fun k_ h_ => .inr h_)) HO_0) HO_39) HO563) HB
              replace HO_0 := rE HO_0 ho0 hb
              replace HO_39 := rE HO_39 ho0 hb
              replace HO563 := rE HO563 ho0 hb
              replace BK547 := blkB BK547 hb
              replace BK548 := blkB BK548 hb
              replace BK549 := blkB BK549 hb
              replace HK := mkA (Kept.below (S := (fun k_ => P0_ k_)) (by repeat (first | (with_reducible first | exact HK.out | apply Kept.alloc | apply Kept.drewN | apply Kept.drew | refine Kept.setCell ?_ (.inr GW547.out) _ | refine Kept.setCell ?_ (.inr GW548.out) _ | refine Kept.setCell ?_ (.inr GW549.out) _) | exact HK.out)) hb)
              replace HB := bst HB hb
              (try clear hb)
              (try clear hb2)
              (try clear hk)
              (try clear hi)
              (try clear ho0)
              refine hK.out _ _ ((blk_cell BK549.out 0).trans rfl) (fun hHeld => ?_)
              clear hK K
              refine normW 73 ?_
              exact norm_ (by simp only [putAll, Act.put, List.setIfInBounds_toArray, List.set_cons_zero, List.set_cons_succ]) (hCont (v559, v562) _ ⟨hHeld, (Kd.R_g (Kd.R_mono HO560.out (fun _ hk => ⟨hk.1.1.1.1, ⟨hk.2, ⟨hk.1.1.2, hk.1.2⟩⟩⟩))), (Kd.R_g (Kd.R_mono HO563.out (fun _ hk => ⟨hk.1.1.1.1, ⟨hk.2, ⟨hk.1.1.2, hk.1.2⟩⟩⟩))), (Kd.R_g (Kd.R_mono HO_0.out (fun _ hk => ⟨hk.1.1, ⟨hk.2, hk.1.2⟩⟩))), (Kd.R_g (Kd.R_mono HO_39.out (fun _ hk => ⟨hk.1.1, ⟨hk.2, hk.1.2⟩⟩))), (blk_g BK547.out), (blk_g BK548.out), (blk_g BK549.out), (by repeat (first | (with_reducible first | exact HK.out | apply Kept.alloc | apply Kept.drewN | apply Kept.drew | refine Kept.setCell ?_ (.inr GW547.out) _ | refine Kept.setCell ?_ (.inr GW548.out) _ | refine Kept.setCell ?_ (.inr GW549.out) _) | exact HK.out)), (bel_g HB.out)⟩)
            rintro ⟨v559, v562⟩ w48 ⟨hS_, h0_, h1_, h2_, h3_, h4_, h5_, h6_, h7_, h8_⟩
            have n0_ : Fc (Kd.R (Kd.int .i64) 3 w48 w0.heap.size (fun k_ => (P0_ k_ ∨ w.heap.size ≤ k_) ∧ some k_ ≠ (v562 : Value).ownBlock ∧ some k_ ≠ (.slice Ao8 l0.length co8 : Value).ownBlock ∧ some k_ ≠ (.slice Ao8 l0.length co8 : Value).ownBlock) v559 t558) := ⟨h0_⟩
            have n1_ : Fc (Kd.R (Kd.int .i64) 3 w48 w0.heap.size (fun k_ => (P0_ k_ ∨ w.heap.size ≤ k_) ∧ some k_ ≠ (v559 : Value).ownBlock ∧ some k_ ≠ (.slice Ao8 l0.length co8 : Value).ownBlock ∧ some k_ ≠ (.slice Ao8 l0.length co8 : Value).ownBlock) v562 y561) := ⟨h1_⟩
            have n2_ : Fc (Kd.R (Kd.int .i64) 3 w48 w0.heap.size (fun k_ => (P0_ k_ ∨ w.heap.size ≤ k_) ∧ some k_ ≠ (v559 : Value).ownBlock ∧ some k_ ≠ (v562 : Value).ownBlock) (.slice Ao8 l0.length co8) l0) := ⟨h2_⟩
            have n3_ : Fc (Kd.R (Kd.int .i64) 3 w48 w0.heap.size (fun k_ => (P0_ k_ ∨ w.heap.size ≤ k_) ∧ some k_ ≠ (v559 : Value).ownBlock ∧ some k_ ≠ (v562 : Value).ownBlock) (.slice Ao8 l0.length co8) l0) := ⟨h3_⟩
            have n4_ : Fc (w48.heap[gB1]? = some (.cells #[.int .i64 a1_0, .slice A1_1 l1_1.length c1_1] 26 (0, 0))) := ⟨h4_⟩
            have n5_ : Fc (w48.heap[gB2]? = some (.cells #[.int .i64 a2_0, .slice A2_1 l2_1.length c2_1] 26 (0, 0))) := ⟨h5_⟩
            have n6_ : Fc (w48.heap[gB3]? = some (.cells #[.func (.func 43) #[] #[.pointer (some ⟨gB1, 0, none⟩), .pointer (some ⟨gB2, 0, none⟩), .pointer (some ⟨gB3, 0, none⟩)]] 55 (0, 0))) := ⟨h6_⟩
            have n7_ : Fc (Kept w w48 (fun k_ => P0_ k_)) := ⟨h7_⟩
            have n8_ : Fc (Below w0.heap.size w0 w48) := ⟨h8_⟩
            clear HO_0
            clear HO_39
            clear BK547
            clear BK548
            clear BK549
            clear HK
            clear HB
            clear h0_ h1_ h2_ h3_ h4_ h5_ h6_ h7_ h8_
            have HO560 := n0_
            have HO563 := n1_
            have HO_0 := n2_
            have HO_39 := n3_
            have BK547 := n4_
            have BK548 := n5_
            have BK549 := n6_
            have HK := n7_
            have HB := n8_
            clear n0_ n1_ n2_ n3_ n4_ n5_ n6_ n7_ n8_
            have hHeld : w48.cell? ⟨gB3, 0, none⟩ = some (.func (.func 43) #[] #[.pointer (some ⟨gB1, 0, none⟩), .pointer (some ⟨gB2, 0, none⟩), .pointer (some ⟨gB3, 0, none⟩)]) := hS_
            obtain ⟨Ao50, co50, eo50⟩ := Kd.R_slice HO563.out
            (first | subst eo50 | (injection eo50 with f1_ f2_ f3_; have f4_ := f1_.symm; have f5_ := f3_.symm; clear f1_ f2_ f3_; subst f4_; subst f5_))
            refine norm_ (a' := ?_) ?_ ?_
            rotate_left
            ·simp only [putAll, Act.put, List.setIfInBounds_toArray, List.set_cons_zero, List.set_cons_succ]
             rfl
            refine oneW 5 (some 76) (bm 8 63) HT_ (fun K hK => ?_)
            refine Kd.R_append_rows_step (Kd.int .i64) (w0 := w0) w0.heap.size (by rfl) (.tmp 73) (.tmp 75) 24 3 (.int .i64 0) 8 rfl Tryd.underlying24 info3 rfl (by decide) (by omega) v559 t558 y561 _ _ _ (fun k_ => (P0_ k_ ∨ w.heap.size ≤ k_) ∧ some k_ ≠ (.slice Ao8 l0.length co8 : Value).ownBlock ∧ some k_ ≠ (.slice Ao8 l0.length co8 : Value).ownBlock ∧ some k_ ≠ (.slice Ao50 y561.length co50 : Value).ownBlock) (fun _ => False) rfl rfl ?aO ?aR (fun _ _ h => h) (fun _ h => h.elim) ?aF ?aB ?aS ?aL ?_
            (case aR => repeat (first | exact (Kd.R_reads' HO563.out).2.2 | (with_reducible refine Kd.C_alloc ?_ _) | (with_reducible refine Kd.C_drewN ?_ _) | (with_reducible refine Kd.C_drew ?_)))
            (case aB => exact (bel_g HB.out))
            (case aF => exact (fun k_ hk => ⟨(.inr (Nat.le_trans (by first | exact HK.out.1 | exact (show Kept w _ (fun k_ => P0_ k_) from by repeat (first | (with_reducible first | exact HK.out | apply Kept.alloc | apply Kept.drewN | apply Kept.drew | refine Kept.setCell ?_ (.inr GW547.out) _ | refine Kept.setCell ?_ (.inr GW548.out) _ | refine Kept.setCell ?_ (.inr GW549.out) _) | exact HK.out)).1) hk)), Kd.fresh' (Kd.R_lt (Kd.R_g HO_0.out)) k_ hk, Kd.fresh' (Kd.R_lt (Kd.R_g HO_39.out)) k_ hk, Kd.fresh' (Kd.R_lt (Kd.R_g HO563.out)) k_ hk⟩))
            (case aO => exact (Kd.R_g (Kd.R_mono HO560.out (fun _ hk => ⟨hk.1, ⟨hk.2.2.1, ⟨hk.2.2.2, hk.2.1⟩⟩⟩))))
            (case aS => exact (below_size (bel_g HB.out)))
            (case aL => have := LMc41.out; omega)
            intro v565 w49 ho hb hg hat
            rw [← Ny564.out] at ho
            replace HO_0 := mkA (Kd.R_after (ok := (fun k_ => (P0_ k_ ∨ w.heap.size ≤ k_) ∧ some k_ ≠ (.slice Ao50 y561.length co50 : Value).ownBlock)) (Kd.R_g (Kd.R_mono HO_0.out (fun _ hk => ⟨⟨hk.1, hk.2.2⟩, hk.2.1⟩))) hg hat)
            replace HO_39 := mkA (Kd.R_after (ok := (fun k_ => (P0_ k_ ∨ w.heap.size ≤ k_) ∧ some k_ ≠ (.slice Ao50 y561.length co50 : Value).ownBlock)) (Kd.R_g (Kd.R_mono HO_39.out (fun _ hk => ⟨⟨hk.1, hk.2.2⟩, hk.2.1⟩))) hg hat)
            replace BK547 := mkA (blk_grown (g := gB1) (o := .cells #[.int .i64 a1_0, .slice A1_1 l1_1.length c1_1] 26 (0, 0)) (blk_g BK547.out) hg (Kd.R_ne HO560.out BK547.out (by decide)))
            replace BK548 := mkA (blk_grown (g := gB2) (o := .cells #[.int .i64 a2_0, .slice A2_1 l2_1.length c2_1] 26 (0, 0)) (blk_g BK548.out) hg (Kd.R_ne HO560.out BK548.out (by decide)))
            replace BK549 := mkA (blk_grown (g := gB3) (o := .cells #[.func (.func 43) #[] #[.pointer (some ⟨gB1, 0, none⟩), .pointer (some ⟨gB2, 0, none⟩), .pointer (some ⟨gB3, 0, none⟩)]] 55 (0, 0)) (blk_g BK549.out) hg (Kd.R_ne HO560.out BK549.out (by decide)))
            replace HO563 := mkA (Kd.R_after (ok := (fun k_ => (P0_ k_ ∨ w.heap.size ≤ k_) ∧ some k_ ≠ (.slice Ao8 l0.length co8 : Value).ownBlock ∧ some k_ ≠ (.slice Ao8 l0.length co8 : Value).ownBlock)) (Kd.R_g (Kd.R_mono HO563.out (fun _ hk => ⟨⟨hk.1, ⟨hk.2.2.1, hk.2.2.2⟩⟩, hk.2.1⟩))) hg hat)
            replace HK := mkA (Kept.of_grown (S := (fun k_ => P0_ k_)) hg (by repeat (first | (with_reducible first | exact HK.out | apply Kept.alloc | apply Kept.drewN | apply Kept.drew | refine Kept.setCell ?_ (.inr GW547.out) _ | refine Kept.setCell ?_ (.inr GW548.out) _ | refine Kept.setCell ?_ (.inr GW549.out) _) | exact HK.out)) (fun k_ e_ => (HO560.out.1 k_ e_).1))
            have HO566 := mkA (ho)
            replace HB := mkA (hb)
            clear HO560
            clear ho hb hg hat
            obtain ⟨Ao51, co51, eo51⟩ := Kd.R_slice HO566.out
            (first | subst eo51 | (injection eo51 with f1_ f2_ f3_; have f4_ := f1_.symm; have f5_ := f3_.symm; clear f1_ f2_ f3_; subst f4_; subst f5_))
            refine hK.out _ _ ((blk_cell BK549.out 0).trans rfl) (fun hHeld => ?_)
            clear hK K
            refine normW 76 ?_
            refine oneW 6 (some 77) (bm 8 127) HT_ (fun K hK => ?_)
            refine impl_Order_pattern_1.goesv_ (fun args_ W_ => enters_ Tryd.func43 (by kernel_rfl) rfl args_ W_) #[.slice Ao51 y564.length co51, .pointer (some ⟨gB1, 0, none⟩), .pointer (some ⟨gB2, 0, none⟩), .pointer (some ⟨gB3, 0, none⟩)] (by rfl) rfl rfl (by rfl) (by (try simp only [List.map_toArray, List.map_cons, List.map_nil]); first | done | rfl | (simp only [List.length_drop, List.length_take]; rfl)) ?_
            with_reducible refine (ih k3 (by have := HK1.out; have := HJ11.out; have := HK3.out; omega) (fun k_ => some k_ = (.slice Ao51 y564.length co51 : Value).ownBlock) (.slice Ao51 y564.length co51) y564 gB1 a1_0 A1_1 c1_1 l1_1 gB2 a2_0 A2_1 c2_1 l2_1 gB3 t567 w0 _ ?s1 ?s2 ?s3 ?s4 ?s5 ?s6 ?s7 ?s8 ?s9 A42.out).mono ?_
            (case s1 => exact bel_g HB.out)
            (case s2 => exact Kd.R_tight rfl HO566.out)
            (case s3 => exact (show _ = some (Obj.cells #[.int .i64 a1_0, .slice A1_1 l1_1.length c1_1] 26 (0, 0)) from blkT BK547))
            (case s4 => exact Kd.C_kept_call HR1_1.out (by repeat (first | (with_reducible first | exact HK.out | apply Kept.alloc | apply Kept.drewN | apply Kept.drew | refine Kept.setCell ?_ (.inr GW547.out) _ | refine Kept.setCell ?_ (.inr GW548.out) _ | refine Kept.setCell ?_ (.inr GW549.out) _) | exact HK.out)) (fun k_ hs_ => (fun e_ => (HO566.out.1 k_ e_.symm).1) hs_))
            (case s5 => exact HC1_1.out)
            (case s6 => exact (show _ = some (Obj.cells #[.int .i64 a2_0, .slice A2_1 l2_1.length c2_1] 26 (0, 0)) from blkT BK548))
            (case s7 => exact Kd.C_kept_call HR2_1.out (by repeat (first | (with_reducible first | exact HK.out | apply Kept.alloc | apply Kept.drewN | apply Kept.drew | refine Kept.setCell ?_ (.inr GW547.out) _ | refine Kept.setCell ?_ (.inr GW548.out) _ | refine Kept.setCell ?_ (.inr GW549.out) _) | exact HK.out)) (fun k_ hs_ => (fun e_ => (HO566.out.1 k_ e_.symm).1) hs_))
            (case s8 => exact HC2_1.out)
            (case s9 => exact (show _ = some (Obj.cells #[.func (.func 43) #[] #[.pointer (some ⟨gB1, 0, none⟩), .pointer (some ⟨gB2, 0, none⟩), .pointer (some ⟨gB3, 0, none⟩)]] 55 (0, 0)) from blkT BK549))
            rintro e w52 ⟨v568, rfl, ho0, hb, hkp, hnx⟩
            refine ⟨_, rfl, ?_⟩
            replace BK547 := mkA (blk_kept (blk_g BK547.out) hkp (fun hs_ => (fun e_ => (Kd.R_ne HO566.out BK547.out (by decide)) e_) hs_))
            replace BK548 := mkA (blk_kept (blk_g BK548.out) hkp (fun hs_ => (fun e_ => (Kd.R_ne HO566.out BK548.out (by decide)) e_) hs_))
            replace BK549 := mkA (blk_kept (blk_g BK549.out) hkp (fun hs_ => (fun e_ => (Kd.R_ne HO566.out BK549.out (by decide)) e_) hs_))
            have HO569 := mkA (Kd.R_mono (ok' := fun k_ => (P0_ k_ ∨ w.heap.size ≤ k_) ∧ some k_ ≠ (.slice Ao8 l0.length co8 : Value).ownBlock ∧ some k_ ≠ (.slice Ao8 l0.length co8 : Value).ownBlock ∧ some k_ ≠ (.slice Ao50 y561.length co50 : Value).ownBlock) ho0 (fun k_ hk_ => ⟨Or.elim hk_ (fun hs_ => (HO566.out.1 k_ (hs_).symm).1) (fun hn_ => (.inr (Nat.le_trans (by first | exact HK.out.1 | exact (show Kept w _ (fun k_ => P0_ k_) from by repeat (first | (with_reducible first | exact HK.out | apply Kept.alloc | apply Kept.drewN | apply Kept.drew | refine Kept.setCell ?_ (.inr GW547.out) _ | refine Kept.setCell ?_ (.inr GW548.out) _ | refine Kept.setCell ?_ (.inr GW549.out) _) | exact HK.out)).1) hn_))), Or.elim hk_ (fun hs_ => fun e_ => (((HO_0.out).1 k_ e_.symm).2) hs_) (fun hn_ => (Kd.fresh' (Kd.R_lt (Kd.R_g HO_0.out)) k_ hn_)), Or.elim hk_ (fun hs_ => fun e_ => (((HO_39.out).1 k_ e_.symm).2) hs_) (fun hn_ => (Kd.fresh' (Kd.R_lt (Kd.R_g HO_39.out)) k_ hn_)), Or.elim hk_ (fun hs_ => fun e_ => (((HO563.out).1 k_ e_.symm).2) hs_) (fun hn_ => (Kd.fresh' (Kd.R_lt (Kd.R_g HO563.out)) k_ hn_))⟩))
            replace HO_0 := mkA (Kd.R_mono (ok' := fun k_ => (P0_ k_ ∨ w.heap.size ≤ k_) ∧ some k_ ≠ (.slice Ao50 y561.length co50 : Value).ownBlock ∧ some k_ ≠ (v568 : Value).ownBlock) (Kd.R_keptB (HO_0.out) hkp (fun k_ hk_ hs_ => (hk_.2) hs_)) (fun k_ hk_ => ⟨hk_.1.1.1, hk_.1.1.2, fun e_ => Or.elim (ho0.1 k_ e_.symm) (fun hs_ => hk_.2.1 hs_) (fun hn_ => Nat.not_le.2 hk_.2.2 hn_)⟩))
            replace HO_39 := mkA (Kd.R_mono (ok' := fun k_ => (P0_ k_ ∨ w.heap.size ≤ k_) ∧ some k_ ≠ (.slice Ao50 y561.length co50 : Value).ownBlock ∧ some k_ ≠ (v568 : Value).ownBlock) (Kd.R_keptB (HO_39.out) hkp (fun k_ hk_ hs_ => (hk_.2) hs_)) (fun k_ hk_ => ⟨hk_.1.1.1, hk_.1.1.2, fun e_ => Or.elim (ho0.1 k_ e_.symm) (fun hs_ => hk_.2.1 hs_) (fun hn_ => Nat.not_le.2 hk_.2.2 hn_)⟩))
            replace HO563 := mkA (Kd.R_mono (ok' := fun k_ => (P0_ k_ ∨ w.heap.size ≤ k_) ∧ some k_ ≠ (.slice Ao8 l0.length co8 : Value).ownBlock ∧ some k_ ≠ (.slice Ao8 l0.length co8 : Value).ownBlock ∧ some k_ ≠ (v568 : Value).ownBlock) (Kd.R_keptB (HO563.out) hkp (fun k_ hk_ hs_ => (hk_.2) hs_)) (fun k_ hk_ => ⟨hk_.1.1.1, hk_.1.1.2.1, hk_.1.1.2.2, fun e_ => Or.elim (ho0.1 k_ e_.symm) (fun hs_ => hk_.2.1 hs_) (fun hn_ => Nat.not_le.2 hk_.2.2 hn_)⟩))
            replace HK := mkA (Kept.then_ (S := (fun k_ => P0_ k_)) (by repeat (first | (with_reducible first | exact HK.out | apply Kept.alloc | apply Kept.drewN | apply Kept.drew | refine Kept.setCell ?_ (.inr GW547.out) _ | refine Kept.setCell ?_ (.inr GW548.out) _ | refine Kept.setCell ?_ (.inr GW549.out) _) | exact HK.out)) hkp (fun k_ hs_ => (fun e_ => (HO566.out.1 k_ e_.symm).1) hs_))
            replace HB := mkA (hb)
            clear HO566
            have NL_HO569 := mkA (fun (h_ : t567 = []) => (hnx.2 h_).resolve_right (fun h2_ => by have h3_ := h2_.2; first | (simp at h3_; done) | (rw [Ny564.out] at h3_; simp at h3_; done) | (rw [Ny564.out] at h3_; simp [Ny561.out] at h3_; done)))
            clear hnx
            (try clear hb)
            (try clear hkp)
            (try clear ho0)
            refine hK.out _ _ ((blk_cell BK549.out 0).trans rfl) (fun hHeld => ?_)
            clear hK K
            refine normW 77 ?_
            refine purW 7 11 8 255 HT_ ?_
            refine doneW HT_ ?_
            obtain ⟨Ao53, co53, rfl⟩ := Kd.R_slice HO569.out
            have nq54 := fun (W_ : World) => impl_Order_pattern_1.nilNeq_ (P := Tryd.prog) W_ (t := 24) (e := 3) (c := co53) Tryd.underlying24 NL_HO569.out (fun h_ => Kd.R_form HO569.out h_)
            try go_wp2
            go_roundg k3
            case measure => have := HK1.out; have := HJ11.out; have := HK3.out; omega
            case rel => exact ⟨(wrap64 (x21_1 + 1)), eqS, H', ⟨by have := HK1.out; have := HJ11.out; have := HK3.out; omega⟩, ⟨Kd.R_g (Kd.R_mono HO_0.out (fun _ hk => hk.1))⟩, bg BK547, bg BK548, bg BK549, ⟨by repeat (first | (with_reducible first | exact HK.out | apply Kept.alloc | apply Kept.drewN | apply Kept.drew | refine Kept.setCell ?_ (.inr GW547.out) _ | refine Kept.setCell ?_ (.inr GW548.out) _ | refine Kept.setCell ?_ (.inr GW549.out) _) | exact HK.out)⟩, hbg HB⟩
           ·have c43b0 := beq_eq_false_iff_ne.mpr c43
            have c43b1 := bne_iff_ne.mpr c43
            obtain rfl := Option.some.inj H
            try go_wp2
            replace HO_0 := mkA (Kd.R_drew HO_0.out)
            replace HO_39 := mkA (Kd.R_drew HO_39.out)
            replace BK547 := mkA (blk_drew BK547.out)
            replace BK548 := mkA (blk_drew BK548.out)
            replace BK549 := mkA (blk_drew BK549.out)
            replace HK := mkA (Kept.drew HK.out)
            replace HB := mkA (below_drew1 HB.out)
            refine start_ (n := 8) (S := fun w' => w'.cell? ⟨gB3, 0, none⟩ = some (.func (.func 43) #[] #[.pointer (some ⟨gB1, 0, none⟩), .pointer (some ⟨gB2, 0, none⟩), .pointer (some ⟨gB3, 0, none⟩)])) (ds := []) (bm 8 0) (by kernel_rfl) rfl (by kernel_rfl) ((blk_cell BK549.out 0).trans rfl) (fun hHeld => ?_); refine with_tabW impl_Order_pattern_1.tab14 impl_Order_pattern_1.bits14 (fun HT_ HW_ => ?_)
            generalize wr.drew = w55 at HO_0 HO_39 BK547 BK548 BK549 HK HB hHeld ⊢
            refine purW 1 72 8 2 HT_ ?_
            refine purW 3 74 8 10 HT_ ?_
            refine takeW 0 (some 71) (bm 8 11) HT_ HW_ hHeld ?_
            refine join_ (σ := Value × Value) 3 (bm 8 31) (fun s_ => [(73, s_.1), (75, s_.2)]) (fun s_ w' => (w'.cell? ⟨gB3, 0, none⟩ = some (.func (.func 43) #[] #[.pointer (some ⟨gB1, 0, none⟩), .pointer (some ⟨gB2, 0, none⟩), .pointer (some ⟨gB3, 0, none⟩)])) ∧ (Kd.R (Kd.int .i64) 3 w' w0.heap.size (fun k_ => (P0_ k_ ∨ w.heap.size ≤ k_) ∧ some k_ ≠ (s_.2 : Value).ownBlock ∧ some k_ ≠ (.slice Ao8 l0.length co8 : Value).ownBlock ∧ some k_ ≠ (.slice Ao8 l0.length co8 : Value).ownBlock) s_.1 t558) ∧ (Kd.R (Kd.int .i64) 3 w' w0.heap.size (fun k_ => (P0_ k_ ∨ w.heap.size ≤ k_) ∧ some k_ ≠ (s_.1 : Value).ownBlock ∧ some k_ ≠ (.slice Ao8 l0.length co8 : Value).ownBlock ∧ some k_ ≠ (.slice Ao8 l0.length co8 : Value).ownBlock) s_.2 y561) ∧ (Kd.R (Kd.int .i64) 3 w' w0.heap.size (fun k_ => (P0_ k_ ∨ w.heap.size ≤ k_) ∧ some k_ ≠ (s_.1 : Value).ownBlock ∧ some k_ ≠ (s_.2 : Value).ownBlock) (.slice Ao8 l0.length co8) l0) ∧ (Kd.R (Kd.int .i64) 3 w' w0.heap.size (fun k_ => (P0_ k_ ∨ w.heap.size ≤ k_) ∧ some k_ ≠ (s_.1 : Value).ownBlock ∧ some k_ ≠ (s_.2 : Value).ownBlock) (.slice Ao8 l0.length co8) l0) ∧ (w'.heap[gB1]? = some (.cells #[.int .i64 a1_0, .slice A1_1 l1_1.length c1_1] 26 (0, 0))) ∧ (w'.heap[gB2]? = some (.cells #[.int .i64 a2_0, .slice A2_1 l2_1.length c2_1] 26 (0, 0))) ∧ (w'.heap[gB3]? = some (.cells #[.func (.func 43) #[] #[.pointer (some ⟨gB1, 0, none⟩), .pointer (some ⟨gB2, 0, none⟩), .pointer (some ⟨gB3, 0, none⟩)]] 55 (0, 0))) ∧ (Kept w w' (fun k_ => P0_ k_)) ∧ (Below w0.heap.size w0 w')) ?_ ?_
            rotate_left
            ·intro hCont
             refine two_ (i := 2) (j := 4) (Ni := some 73) (Nj := some 75) (bm 8 15) (bm 8 27) rfl rfl rfl rfl (two_of HT_.out (by kernel_rfl)) (by decide) (by decide) (fun K hK => ?_) (fun K hK => ?_)
             ·skip
              refine goesR Tryd.func45 #[.slice Ao8 l0.length co8] ?_
              with_reducible refine (slices_Clone_int_int.calls _ _ l0 t558 _ ?s1 ?s2 A40.out).mono ?_
              (case s1 => exact rC HO_0)
              (case s2 => exact rL HO_0)
              rintro e w56 ⟨v559, rfl, ho0, hb⟩
              refine ⟨_, rfl, ?_⟩
              have HO560 := rLo (rN (rN (Kd.R_newM (M := fun k_ => (P0_ k_ ∨ w.heap.size ≤ k_)) ho0 (by first | exact HK.out.1 | exact (show Kept w _ (fun k_ => P0_ k_) from by repeat (first | (with_reducible first | exact HK.out | apply Kept.alloc | apply Kept.drewN | apply Kept.drew | refine Kept.setCell ?_ (.inr GW547.out) _ | refine Kept.setCell ?_ (.inr GW548.out) _ | refine Kept.setCell ?_ (.inr GW549.out) _) | exact HK.out)).1) (fun k_ h_ => .inr h_)) HO_0) HO_39) HB
              replace HO_0 := rE HO_0 ho0 hb
              replace HO_39 := rE HO_39 ho0 hb
              replace BK547 := blkB BK547 hb
              replace BK548 := blkB BK548 hb
              replace BK549 := blkB BK549 hb
              replace HK := mkA (Kept.below (S := (fun k_ => P0_ k_)) (by repeat (first | (with_reducible first | exact HK.out | apply Kept.alloc | apply Kept.drewN | apply Kept.drew | refine Kept.setCell ?_ (.inr GW547.out) _ | refine Kept.setCell ?_ (.inr GW548.out) _ | refine Kept.setCell ?_ (.inr GW549.out) _) | exact HK.out)) hb)
              replace HB := bst HB hb
              (try clear hb)
              (try clear hb2)
              (try clear hk)
              (try clear hi)
              (try clear ho0)
              refine hK.out _ _ ((blk_cell BK549.out 0).trans rfl) (fun hHeld => ?_)
              clear hK K
              refine normW 73 ?_
              refine oneW 4 (some 75) (bm 8 31) HT_ (fun K hK => ?_)
              refine Kd.R_lit_step (Kd.int .i64) _ 3 ?hg (N := 75) ?hd (xs := ([x21_1] : List Int)) (inner := [.int .i64 x21_1]) (ok := fun _ => True) (okp := fun _ => True) ?hr ?hp (fun _ hk => hk) trivial (Below.refl _ _) (Nat.le_refl _) (by simp) ?_; (case hd => rfl); (case hg => rfl); (case hr => first | (go_simp; done) | (go_simp; rfl)); (case hp => exact (Reps.one (show Kd.M (Kd.int .i64) _ _ _ x21_1 [.int .i64 x21_1] from rfl) (Reps.none _ _)))
              intro v562 w57 ho58 hb hg_ hnew_
              clear hg_ hnew_
              (first | rw [← Ny561.out] at ho58 | (simp only [Int.reduceToNat] at ho58; rw [← Ny561.out] at ho58))
              have HO563 := rLo (rN (rN (rN (Kd.R_newM (M := fun k_ => (P0_ k_ ∨ w.heap.size ≤ k_)) ho58 (by first | exact HK.out.1 | exact (show Kept w _ (fun k_ => P0_ k_) from by repeat (first | (with_reducible first | exact HK.out | apply Kept.alloc | apply Kept.drewN | apply Kept.drew | refine Kept.setCell ?_ (.inr GW547.out) _ | refine Kept.setCell ?_ (.inr GW548.out) _ | refine Kept.setCell ?_ (.inr GW549.out) _) | exact HK.out)).1) (fun k_ h_ => .inr h_)) HO_0) HO_39) HO560) HB
              replace HO_0 := rE HO_0 ho58 hb
              replace HO_39 := rE HO_39 ho58 hb
              replace HO560 := rE HO560 ho58 hb
              replace BK547 := blkB BK547 hb
              replace BK548 := blkB BK548 hb
              replace BK549 := blkB BK549 hb
              replace HK := mkA (Kept.below (S := (fun k_ => P0_ k_)) (by repeat (first | (with_reducible first | exact HK.out | apply Kept.alloc | apply Kept.drewN | apply Kept.drew | refine Kept.setCell ?_ (.inr GW547.out) _ | refine Kept.setCell ?_ (.inr GW548.out) _ | refine Kept.setCell ?_ (.inr GW549.out) _) | exact HK.out)) hb)
              replace HB := bst HB hb
              clear hb ho58
              refine hK.out _ _ ((blk_cell BK549.out 0).trans rfl) (fun hHeld => ?_)
              clear hK K
              refine normW 75 ?_
              exact norm_ (by simp only [putAll, Act.put, List.setIfInBounds_toArray, List.set_cons_zero, List.set_cons_succ]) (hCont (v559, v562) _ ⟨hHeld, (Kd.R_g (Kd.R_mono HO560.out (fun _ hk => ⟨hk.1.1.1.1, ⟨hk.2, ⟨hk.1.1.2, hk.1.2⟩⟩⟩))), (Kd.R_g (Kd.R_mono HO563.out (fun _ hk => ⟨hk.1.1.1.1, ⟨hk.2, ⟨hk.1.1.2, hk.1.2⟩⟩⟩))), (Kd.R_g (Kd.R_mono HO_0.out (fun _ hk => ⟨hk.1.1, ⟨hk.1.2, hk.2⟩⟩))), (Kd.R_g (Kd.R_mono HO_39.out (fun _ hk => ⟨hk.1.1, ⟨hk.1.2, hk.2⟩⟩))), (blk_g BK547.out), (blk_g BK548.out), (blk_g BK549.out), (by repeat (first | (with_reducible first | exact HK.out | apply Kept.alloc | apply Kept.drewN | apply Kept.drew | refine Kept.setCell ?_ (.inr GW547.out) _ | refine Kept.setCell ?_ (.inr GW548.out) _ | refine Kept.setCell ?_ (.inr GW549.out) _) | exact HK.out)), (bel_g HB.out)⟩)
             ·skip
              refine Kd.R_lit_step (Kd.int .i64) _ 3 ?hg (N := 75) ?hd (xs := ([x21_1] : List Int)) (inner := [.int .i64 x21_1]) (ok := fun _ => True) (okp := fun _ => True) ?hr ?hp (fun _ hk => hk) trivial (Below.refl _ _) (Nat.le_refl _) (by simp) ?_; (case hd => rfl); (case hg => rfl); (case hr => first | (go_simp; done) | (go_simp; rfl)); (case hp => exact (Reps.one (show Kd.M (Kd.int .i64) _ _ _ x21_1 [.int .i64 x21_1] from rfl) (Reps.none _ _)))
              intro v562 w56 ho57 hb hg_ hnew_
              clear hg_ hnew_
              (first | rw [← Ny561.out] at ho57 | (simp only [Int.reduceToNat] at ho57; rw [← Ny561.out] at ho57))
              have HO563 := rLo (rN (rN (Kd.R_newM (M := fun k_ => (P0_ k_ ∨ w.heap.size ≤ k_)) ho57 (by first | exact HK.out.1 | exact (show Kept w _ (fun k_ => P0_ k_) from by repeat (first | (with_reducible first | exact HK.out | apply Kept.alloc | apply Kept.drewN | apply Kept.drew | refine Kept.setCell ?_ (.inr GW547.out) _ | refine Kept.setCell ?_ (.inr GW548.out) _ | refine Kept.setCell ?_ (.inr GW549.out) _) | exact HK.out)).1) (fun k_ h_ => .inr h_)) HO_0) HO_39) HB
              replace HO_0 := rE HO_0 ho57 hb
              replace HO_39 := rE HO_39 ho57 hb
              replace BK547 := blkB BK547 hb
              replace BK548 := blkB BK548 hb
              replace BK549 := blkB BK549 hb
              replace HK := mkA (Kept.below (S := (fun k_ => P0_ k_)) (by repeat (first | (with_reducible first | exact HK.out | apply Kept.alloc | apply Kept.drewN | apply Kept.drew | refine Kept.setCell ?_ (.inr GW547.out) _ | refine Kept.setCell ?_ (.inr GW548.out) _ | refine Kept.setCell ?_ (.inr GW549.out) _) | exact HK.out)) hb)
              replace HB := bst HB hb
              clear hb ho57
              refine hK.out _ _ ((blk_cell BK549.out 0).trans rfl) (fun hHeld => ?_)
              clear hK K
              refine normW 75 ?_
              refine oneW 2 (some 73) (bm 8 31) HT_ (fun K hK => ?_)
              refine goesR Tryd.func45 #[.slice Ao8 l0.length co8] ?_
              with_reducible refine (slices_Clone_int_int.calls _ _ l0 t558 _ ?s1 ?s2 A40.out).mono ?_
              (case s1 => exact rC HO_0)
              (case s2 => exact rL HO_0)
              rintro e w58 ⟨v559, rfl, ho0, hb⟩
              refine ⟨_, rfl, ?_⟩
              have HO560 := rLo (rN (rN (rN (Kd.R_newM (M := fun k_ => (P0_ k_ ∨ w.heap.size ≤ k_)) ho0 (by first | exact HK.out.1 | exact (show Kept w _ (fun k_ => P0_ k_) from by repeat (first | (with_reducible first | exact HK.out | apply Kept.alloc | apply Kept.drewN | apply Kept.drew | refine Kept.setCell ?_ (.inr GW547.out) _ | refine Kept.setCell ?_ (.inr GW548.out) _ | refine Kept.setCell ?_ (.inr GW549.out) _) | exact HK.out)).1) (fun k_ h_ => .inr h_)) HO_0) HO_39) HO563) HB
              replace HO_0 := rE HO_0 ho0 hb
              replace HO_39 := rE HO_39 ho0 hb
              replace HO563 := rE HO563 ho0 hb
              replace BK547 := blkB BK547 hb
              replace BK548 := blkB BK548 hb
              replace BK549 := blkB BK549 hb
              replace HK := mkA (Kept.below (S := (fun k_ => P0_ k_)) (by repeat (first | (with_reducible first | exact HK.out | apply Kept.alloc | apply Kept.drewN | apply Kept.drew | refine Kept.setCell ?_ (.inr GW547.out) _ | refine Kept.setCell ?_ (.inr GW548.out) _ | refine Kept.setCell ?_ (.inr GW549.out) _) | exact HK.out)) hb)
              replace HB := bst HB hb
              (try clear hb)
              (try clear hb2)
              (try clear hk)
              (try clear hi)
              (try clear ho0)
              refine hK.out _ _ ((blk_cell BK549.out 0).trans rfl) (fun hHeld => ?_)
              clear hK K
              refine normW 73 ?_
              exact norm_ (by simp only [putAll, Act.put, List.setIfInBounds_toArray, List.set_cons_zero, List.set_cons_succ]) (hCont (v559, v562) _ ⟨hHeld, (Kd.R_g (Kd.R_mono HO560.out (fun _ hk => ⟨hk.1.1.1.1, ⟨hk.2, ⟨hk.1.1.2, hk.1.2⟩⟩⟩))), (Kd.R_g (Kd.R_mono HO563.out (fun _ hk => ⟨hk.1.1.1.1, ⟨hk.2, ⟨hk.1.1.2, hk.1.2⟩⟩⟩))), (Kd.R_g (Kd.R_mono HO_0.out (fun _ hk => ⟨hk.1.1, ⟨hk.2, hk.1.2⟩⟩))), (Kd.R_g (Kd.R_mono HO_39.out (fun _ hk => ⟨hk.1.1, ⟨hk.2, hk.1.2⟩⟩))), (blk_g BK547.out), (blk_g BK548.out), (blk_g BK549.out), (by repeat (first | (with_reducible first | exact HK.out | apply Kept.alloc | apply Kept.drewN | apply Kept.drew | refine Kept.setCell ?_ (.inr GW547.out) _ | refine Kept.setCell ?_ (.inr GW548.out) _ | refine Kept.setCell ?_ (.inr GW549.out) _) | exact HK.out)), (bel_g HB.out)⟩)
            rintro ⟨v559, v562⟩ w59 ⟨hS_, h0_, h1_, h2_, h3_, h4_, h5_, h6_, h7_, h8_⟩
            have n0_ : Fc (Kd.R (Kd.int .i64) 3 w59 w0.heap.size (fun k_ => (P0_ k_ ∨ w.heap.size ≤ k_) ∧ some k_ ≠ (v562 : Value).ownBlock ∧ some k_ ≠ (.slice Ao8 l0.length co8 : Value).ownBlock ∧ some k_ ≠ (.slice Ao8 l0.length co8 : Value).ownBlock) v559 t558) := ⟨h0_⟩
            have n1_ : Fc (Kd.R (Kd.int .i64) 3 w59 w0.heap.size (fun k_ => (P0_ k_ ∨ w.heap.size ≤ k_) ∧ some k_ ≠ (v559 : Value).ownBlock ∧ some k_ ≠ (.slice Ao8 l0.length co8 : Value).ownBlock ∧ some k_ ≠ (.slice Ao8 l0.length co8 : Value).ownBlock) v562 y561) := ⟨h1_⟩
            have n2_ : Fc (Kd.R (Kd.int .i64) 3 w59 w0.heap.size (fun k_ => (P0_ k_ ∨ w.heap.size ≤ k_) ∧ some k_ ≠ (v559 : Value).ownBlock ∧ some k_ ≠ (v562 : Value).ownBlock) (.slice Ao8 l0.length co8) l0) := ⟨h2_⟩
            have n3_ : Fc (Kd.R (Kd.int .i64) 3 w59 w0.heap.size (fun k_ => (P0_ k_ ∨ w.heap.size ≤ k_) ∧ some k_ ≠ (v559 : Value).ownBlock ∧ some k_ ≠ (v562 : Value).ownBlock) (.slice Ao8 l0.length co8) l0) := ⟨h3_⟩
            have n4_ : Fc (w59.heap[gB1]? = some (.cells #[.int .i64 a1_0, .slice A1_1 l1_1.length c1_1] 26 (0, 0))) := ⟨h4_⟩
            have n5_ : Fc (w59.heap[gB2]? = some (.cells #[.int .i64 a2_0, .slice A2_1 l2_1.length c2_1] 26 (0, 0))) := ⟨h5_⟩
            have n6_ : Fc (w59.heap[gB3]? = some (.cells #[.func (.func 43) #[] #[.pointer (some ⟨gB1, 0, none⟩), .pointer (some ⟨gB2, 0, none⟩), .pointer (some ⟨gB3, 0, none⟩)]] 55 (0, 0))) := ⟨h6_⟩
            have n7_ : Fc (Kept w w59 (fun k_ => P0_ k_)) := ⟨h7_⟩
            have n8_ : Fc (Below w0.heap.size w0 w59) := ⟨h8_⟩
            clear HO_0
            clear HO_39
            clear BK547
            clear BK548
            clear BK549
            clear HK
            clear HB
            clear h0_ h1_ h2_ h3_ h4_ h5_ h6_ h7_ h8_
            have HO560 := n0_
            have HO563 := n1_
            have HO_0 := n2_
            have HO_39 := n3_
            have BK547 := n4_
            have BK548 := n5_
            have BK549 := n6_
            have HK := n7_
            have HB := n8_
            clear n0_ n1_ n2_ n3_ n4_ n5_ n6_ n7_ n8_
            have hHeld : w59.cell? ⟨gB3, 0, none⟩ = some (.func (.func 43) #[] #[.pointer (some ⟨gB1, 0, none⟩), .pointer (some ⟨gB2, 0, none⟩), .pointer (some ⟨gB3, 0, none⟩)]) := hS_
            obtain ⟨Ao61, co61, eo61⟩ := Kd.R_slice HO563.out
            (first | subst eo61 | (injection eo61 with f1_ f2_ f3_; have f4_ := f1_.symm; have f5_ := f3_.symm; clear f1_ f2_ f3_; subst f4_; subst f5_))
            refine norm_ (a' := ?_) ?_ ?_
            rotate_left
            ·simp only [putAll, Act.put, List.setIfInBounds_toArray, List.set_cons_zero, List.set_cons_succ]
             rfl
            refine oneW 5 (some 76) (bm 8 63) HT_ (fun K hK => ?_)
            refine Kd.R_append_rows_step (Kd.int .i64) (w0 := w0) w0.heap.size (by rfl) (.tmp 73) (.tmp 75) 24 3 (.int .i64 0) 8 rfl Tryd.underlying24 info3 rfl (by decide) (by omega) v559 t558 y561 _ _ _ (fun k_ => (P0_ k_ ∨ w.heap.size ≤ k_) ∧ some k_ ≠ (.slice Ao8 l0.length co8 : Value).ownBlock ∧ some k_ ≠ (.slice Ao8 l0.length co8 : Value).ownBlock ∧ some k_ ≠ (.slice Ao61 y561.length co61 : Value).ownBlock) (fun _ => False) rfl rfl ?aO ?aR (fun _ _ h => h) (fun _ h => h.elim) ?aF ?aB ?aS ?aL ?_
            (case aR => repeat (first | exact (Kd.R_reads' HO563.out).2.2 | (with_reducible refine Kd.C_alloc ?_ _) | (with_reducible refine Kd.C_drewN ?_ _) | (with_reducible refine Kd.C_drew ?_)))
            (case aB => exact (bel_g HB.out))
            (case aF => exact (fun k_ hk => ⟨(.inr (Nat.le_trans (by first | exact HK.out.1 | exact (show Kept w _ (fun k_ => P0_ k_) from by repeat (first | (with_reducible first | exact HK.out | apply Kept.alloc | apply Kept.drewN | apply Kept.drew | refine Kept.setCell ?_ (.inr GW547.out) _ | refine Kept.setCell ?_ (.inr GW548.out) _ | refine Kept.setCell ?_ (.inr GW549.out) _) | exact HK.out)).1) hk)), Kd.fresh' (Kd.R_lt (Kd.R_g HO_0.out)) k_ hk, Kd.fresh' (Kd.R_lt (Kd.R_g HO_39.out)) k_ hk, Kd.fresh' (Kd.R_lt (Kd.R_g HO563.out)) k_ hk⟩))
            (case aO => exact (Kd.R_g (Kd.R_mono HO560.out (fun _ hk => ⟨hk.1, ⟨hk.2.2.1, ⟨hk.2.2.2, hk.2.1⟩⟩⟩))))
            (case aS => exact (below_size (bel_g HB.out)))
            (case aL => have := LMc41.out; omega)
            intro v565 w60 ho hb hg hat
            rw [← Ny564.out] at ho
            replace HO_0 := mkA (Kd.R_after (ok := (fun k_ => (P0_ k_ ∨ w.heap.size ≤ k_) ∧ some k_ ≠ (.slice Ao61 y561.length co61 : Value).ownBlock)) (Kd.R_g (Kd.R_mono HO_0.out (fun _ hk => ⟨⟨hk.1, hk.2.2⟩, hk.2.1⟩))) hg hat)
            replace HO_39 := mkA (Kd.R_after (ok := (fun k_ => (P0_ k_ ∨ w.heap.size ≤ k_) ∧ some k_ ≠ (.slice Ao61 y561.length co61 : Value).ownBlock)) (Kd.R_g (Kd.R_mono HO_39.out (fun _ hk => ⟨⟨hk.1, hk.2.2⟩, hk.2.1⟩))) hg hat)
            replace BK547 := mkA (blk_grown (g := gB1) (o := .cells #[.int .i64 a1_0, .slice A1_1 l1_1.length c1_1] 26 (0, 0)) (blk_g BK547.out) hg (Kd.R_ne HO560.out BK547.out (by decide)))
            replace BK548 := mkA (blk_grown (g := gB2) (o := .cells #[.int .i64 a2_0, .slice A2_1 l2_1.length c2_1] 26 (0, 0)) (blk_g BK548.out) hg (Kd.R_ne HO560.out BK548.out (by decide)))
            replace BK549 := mkA (blk_grown (g := gB3) (o := .cells #[.func (.func 43) #[] #[.pointer (some ⟨gB1, 0, none⟩), .pointer (some ⟨gB2, 0, none⟩), .pointer (some ⟨gB3, 0, none⟩)]] 55 (0, 0)) (blk_g BK549.out) hg (Kd.R_ne HO560.out BK549.out (by decide)))
            replace HO563 := mkA (Kd.R_after (ok := (fun k_ => (P0_ k_ ∨ w.heap.size ≤ k_) ∧ some k_ ≠ (.slice Ao8 l0.length co8 : Value).ownBlock ∧ some k_ ≠ (.slice Ao8 l0.length co8 : Value).ownBlock)) (Kd.R_g (Kd.R_mono HO563.out (fun _ hk => ⟨⟨hk.1, ⟨hk.2.2.1, hk.2.2.2⟩⟩, hk.2.1⟩))) hg hat)
            replace HK := mkA (Kept.of_grown (S := (fun k_ => P0_ k_)) hg (by repeat (first | (with_reducible first | exact HK.out | apply Kept.alloc | apply Kept.drewN | apply Kept.drew | refine Kept.setCell ?_ (.inr GW547.out) _ | refine Kept.setCell ?_ (.inr GW548.out) _ | refine Kept.setCell ?_ (.inr GW549.out) _) | exact HK.out)) (fun k_ e_ => (HO560.out.1 k_ e_).1))
            have HO566 := mkA (ho)
            replace HB := mkA (hb)
            clear HO560
            clear ho hb hg hat
            obtain ⟨Ao62, co62, eo62⟩ := Kd.R_slice HO566.out
            (first | subst eo62 | (injection eo62 with f1_ f2_ f3_; have f4_ := f1_.symm; have f5_ := f3_.symm; clear f1_ f2_ f3_; subst f4_; subst f5_))
            refine hK.out _ _ ((blk_cell BK549.out 0).trans rfl) (fun hHeld => ?_)
            clear hK K
            refine normW 76 ?_
            refine oneW 6 (some 77) (bm 8 127) HT_ (fun K hK => ?_)
            refine impl_Order_pattern_1.goesv_ (fun args_ W_ => enters_ Tryd.func43 (by kernel_rfl) rfl args_ W_) #[.slice Ao62 y564.length co62, .pointer (some ⟨gB1, 0, none⟩), .pointer (some ⟨gB2, 0, none⟩), .pointer (some ⟨gB3, 0, none⟩)] (by rfl) rfl rfl (by rfl) (by (try simp only [List.map_toArray, List.map_cons, List.map_nil]); first | done | rfl | (simp only [List.length_drop, List.length_take]; rfl)) ?_
            with_reducible refine (ih k3 (by have := HK1.out; have := HJ11.out; have := HK3.out; omega) (fun k_ => some k_ = (.slice Ao62 y564.length co62 : Value).ownBlock) (.slice Ao62 y564.length co62) y564 gB1 a1_0 A1_1 c1_1 l1_1 gB2 a2_0 A2_1 c2_1 l2_1 gB3 t567 w0 _ ?s1 ?s2 ?s3 ?s4 ?s5 ?s6 ?s7 ?s8 ?s9 A42.out).mono ?_
            (case s1 => exact bel_g HB.out)
            (case s2 => exact Kd.R_tight rfl HO566.out)
            (case s3 => exact (show _ = some (Obj.cells #[.int .i64 a1_0, .slice A1_1 l1_1.length c1_1] 26 (0, 0)) from blkT BK547))
            (case s4 => exact Kd.C_kept_call HR1_1.out (by repeat (first | (with_reducible first | exact HK.out | apply Kept.alloc | apply Kept.drewN | apply Kept.drew | refine Kept.setCell ?_ (.inr GW547.out) _ | refine Kept.setCell ?_ (.inr GW548.out) _ | refine Kept.setCell ?_ (.inr GW549.out) _) | exact HK.out)) (fun k_ hs_ => (fun e_ => (HO566.out.1 k_ e_.symm).1) hs_))
            (case s5 => exact HC1_1.out)
            (case s6 => exact (show _ = some (Obj.cells #[.int .i64 a2_0, .slice A2_1 l2_1.length c2_1] 26 (0, 0)) from blkT BK548))
            (case s7 => exact Kd.C_kept_call HR2_1.out (by repeat (first | (with_reducible first | exact HK.out | apply Kept.alloc | apply Kept.drewN | apply Kept.drew | refine Kept.setCell ?_ (.inr GW547.out) _ | refine Kept.setCell ?_ (.inr GW548.out) _ | refine Kept.setCell ?_ (.inr GW549.out) _) | exact HK.out)) (fun k_ hs_ => (fun e_ => (HO566.out.1 k_ e_.symm).1) hs_))
            (case s8 => exact HC2_1.out)
            (case s9 => exact (show _ = some (Obj.cells #[.func (.func 43) #[] #[.pointer (some ⟨gB1, 0, none⟩), .pointer (some ⟨gB2, 0, none⟩), .pointer (some ⟨gB3, 0, none⟩)]] 55 (0, 0)) from blkT BK549))
            rintro e w63 ⟨v568, rfl, ho0, hb, hkp, hnx⟩
            refine ⟨_, rfl, ?_⟩
            replace BK547 := mkA (blk_kept (blk_g BK547.out) hkp (fun hs_ => (fun e_ => (Kd.R_ne HO566.out BK547.out (by decide)) e_) hs_))
            replace BK548 := mkA (blk_kept (blk_g BK548.out) hkp (fun hs_ => (fun e_ => (Kd.R_ne HO566.out BK548.out (by decide)) e_) hs_))
            replace BK549 := mkA (blk_kept (blk_g BK549.out) hkp (fun hs_ => (fun e_ => (Kd.R_ne HO566.out BK549.out (by decide)) e_) hs_))
            have HO569 := mkA (Kd.R_mono (ok' := fun k_ => (P0_ k_ ∨ w.heap.size ≤ k_) ∧ some k_ ≠ (.slice Ao8 l0.length co8 : Value).ownBlock ∧ some k_ ≠ (.slice Ao8 l0.length co8 : Value).ownBlock ∧ some k_ ≠ (.slice Ao61 y561.length co61 : Value).ownBlock) ho0 (fun k_ hk_ => ⟨Or.elim hk_ (fun hs_ => (HO566.out.1 k_ (hs_).symm).1) (fun hn_ => (.inr (Nat.le_trans (by first | exact HK.out.1 | exact (show Kept w _ (fun k_ => P0_ k_) from by repeat (first | (with_reducible first | exact HK.out | apply Kept.alloc | apply Kept.drewN | apply Kept.drew | refine Kept.setCell ?_ (.inr GW547.out) _ | refine Kept.setCell ?_ (.inr GW548.out) _ | refine Kept.setCell ?_ (.inr GW549.out) _) | exact HK.out)).1) hn_))), Or.elim hk_ (fun hs_ => fun e_ => (((HO_0.out).1 k_ e_.symm).2) hs_) (fun hn_ => (Kd.fresh' (Kd.R_lt (Kd.R_g HO_0.out)) k_ hn_)), Or.elim hk_ (fun hs_ => fun e_ => (((HO_39.out).1 k_ e_.symm).2) hs_) (fun hn_ => (Kd.fresh' (Kd.R_lt (Kd.R_g HO_39.out)) k_ hn_)), Or.elim hk_ (fun hs_ => fun e_ => (((HO563.out).1 k_ e_.symm).2) hs_) (fun hn_ => (Kd.fresh' (Kd.R_lt (Kd.R_g HO563.out)) k_ hn_))⟩))
            replace HO_0 := mkA (Kd.R_mono (ok' := fun k_ => (P0_ k_ ∨ w.heap.size ≤ k_) ∧ some k_ ≠ (.slice Ao61 y561.length co61 : Value).ownBlock ∧ some k_ ≠ (v568 : Value).ownBlock) (Kd.R_keptB (HO_0.out) hkp (fun k_ hk_ hs_ => (hk_.2) hs_)) (fun k_ hk_ => ⟨hk_.1.1.1, hk_.1.1.2, fun e_ => Or.elim (ho0.1 k_ e_.symm) (fun hs_ => hk_.2.1 hs_) (fun hn_ => Nat.not_le.2 hk_.2.2 hn_)⟩))
            replace HO_39 := mkA (Kd.R_mono (ok' := fun k_ => (P0_ k_ ∨ w.heap.size ≤ k_) ∧ some k_ ≠ (.slice Ao61 y561.length co61 : Value).ownBlock ∧ some k_ ≠ (v568 : Value).ownBlock) (Kd.R_keptB (HO_39.out) hkp (fun k_ hk_ hs_ => (hk_.2) hs_)) (fun k_ hk_ => ⟨hk_.1.1.1, hk_.1.1.2, fun e_ => Or.elim (ho0.1 k_ e_.symm) (fun hs_ => hk_.2.1 hs_) (fun hn_ => Nat.not_le.2 hk_.2.2 hn_)⟩))
            replace HO563 := mkA (Kd.R_mono (ok' := fun k_ => (P0_ k_ ∨ w.heap.size ≤ k_) ∧ some k_ ≠ (.slice Ao8 l0.length co8 : Value).ownBlock ∧ some k_ ≠ (.slice Ao8 l0.length co8 : Value).ownBlock ∧ some k_ ≠ (v568 : Value).ownBlock) (Kd.R_keptB (HO563.out) hkp (fun k_ hk_ hs_ => (hk_.2) hs_)) (fun k_ hk_ => ⟨hk_.1.1.1, hk_.1.1.2.1, hk_.1.1.2.2, fun e_ => Or.elim (ho0.1 k_ e_.symm) (fun hs_ => hk_.2.1 hs_) (fun hn_ => Nat.not_le.2 hk_.2.2 hn_)⟩))
            replace HK := mkA (Kept.then_ (S := (fun k_ => P0_ k_)) (by repeat (first | (with_reducible first | exact HK.out | apply Kept.alloc | apply Kept.drewN | apply Kept.drew | refine Kept.setCell ?_ (.inr GW547.out) _ | refine Kept.setCell ?_ (.inr GW548.out) _ | refine Kept.setCell ?_ (.inr GW549.out) _) | exact HK.out)) hkp (fun k_ hs_ => (fun e_ => (HO566.out.1 k_ e_.symm).1) hs_))
            replace HB := mkA (hb)
            clear HO566
            have NL_HO569 := mkA (fun (h_ : t567 = []) => (hnx.2 h_).resolve_right (fun h2_ => by have h3_ := h2_.2; first | (simp at h3_; done) | (rw [Ny564.out] at h3_; simp at h3_; done) | (rw [Ny564.out] at h3_; simp [Ny561.out] at h3_; done)))
            clear hnx
            (try clear hb)
            (try clear hkp)
            (try clear ho0)
            refine hK.out _ _ ((blk_cell BK549.out 0).trans rfl) (fun hHeld => ?_)
            clear hK K
            refine normW 77 ?_
            refine purW 7 11 8 255 HT_ ?_
            refine doneW HT_ ?_
            obtain ⟨Ao64, co64, rfl⟩ := Kd.R_slice HO569.out
            have nq65 := fun (W_ : World) => impl_Order_pattern_1.nilNeq_ (P := Tryd.prog) W_ (t := 24) (e := 3) (c := co64) Tryd.underlying24 NL_HO569.out (fun h_ => Kd.R_form HO569.out h_)
            try go_wp2
            go_ret
            exact ⟨_, eqE, Kd.R_g (Kd.R_mono HO569.out (fun _ hk => hk.1)), bel_g HB.out, by repeat (first | (with_reducible first | exact HK.out | apply Kept.alloc | apply Kept.drewN | apply Kept.drew | refine Kept.setCell ?_ (.inr GW547.out) _ | refine Kept.setCell ?_ (.inr GW548.out) _ | refine Kept.setCell ?_ (.inr GW549.out) _) | exact HK.out), ⟨by first | exact fun h_ => rfl | (intro h_; exfalso; simp [h_] at c5b0; done), by first | exact .inl rfl | exact fun h_ => .inl rfl | exact fun h_ => .inr ⟨by simpa using c5b0, h_⟩ | (intro h_; exfalso; simp [h_] at c43b0; done) | (intro h_; exfalso; simp [h_] at c43b1; done) | (intro h_; exfalso; simp [h_] at c43b0; done) | (intro h_; exfalso; simp [h_] at c43b1; done)⟩⟩
          ·replace c39 := Bool.eq_false_iff.mpr c39
           subst c39
           replace H := ifF H
           have H' := mkA H
           clear H
           go_wp2
           go_roundg k3
           case measure => have := HK1.out; have := HJ11.out; have := HK3.out; omega
           case rel => exact ⟨(wrap64 (x21_1 + 1)), eqS, H', ⟨by have := HK1.out; have := HJ11.out; have := HK3.out; omega⟩, rg HO_0, bg BK547, bg BK548, bg BK549, ⟨by repeat (first | (with_reducible first | exact HK.out | apply Kept.alloc | apply Kept.drewN | apply Kept.drew | refine Kept.setCell ?_ (.inr GW547.out) _ | refine Kept.setCell ?_ (.inr GW548.out) _ | refine Kept.setCell ?_ (.inr GW549.out) _) | exact HK.out)⟩, hbg HB⟩
    ·obtain rfl := Option.some.inj H
     go_wp2
     go_ret
     exact ⟨_, eqE, nilE, bel_g HB.out, by repeat (first | (with_reducible first | exact HK.out | apply Kept.alloc | apply Kept.drewN | apply Kept.drew | refine Kept.setCell ?_ (.inr GW547.out) _ | refine Kept.setCell ?_ (.inr GW548.out) _ | refine Kept.setCell ?_ (.inr GW549.out) _) | exact HK.out), ⟨by first | exact fun h_ => rfl | (intro h_; exfalso; simp [h_] at c5b0; done), by first | exact .inl rfl | exact fun h_ => .inl rfl | exact fun h_ => .inr ⟨by simpa using c5b0, h_⟩ | (intro h_; exfalso; simp [h_] at c43b0; done) | (intro h_; exfalso; simp [h_] at c43b1; done) | (intro h_; exfalso; simp [h_] at c43b0; done) | (intro h_; exfalso; simp [h_] at c43b1; done)⟩⟩
end Go.Proofs.YtokeomcijelbmaaDoor.Q
