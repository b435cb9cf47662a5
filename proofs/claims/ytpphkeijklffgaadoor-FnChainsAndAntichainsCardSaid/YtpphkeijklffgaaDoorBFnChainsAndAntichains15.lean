import Derived.Test.YtpphkeijklffgaaDoorBFnChainsAndAntichains14
namespace Go.Proofs.YtpphkeijklffgaaDoor.Q
open Go.RowKit Go.Proofs.YtpphkeijklffgaaDoorW.PrintWords Go.Proofs.YtpphkeijklffgaaDoorW.PrintLast Go.Proofs.YtpphkeijklffgaaDoorW.PrintMore
attribute [local go_sem] max2_int min2_int max_two min_two max_three min_three max_four min_four neB_f
set_option linter.unusedVariables false
set_option maxHeartbeats 8000000
set_option maxRecDepth 100000
set_option linter.unusedSimpArgs false
theorem impl_ChainNumbers_1.goesv_ {P : Program} {ops : Array Oper} {Q : Exit → Act → World → Prop} {oi : Oper} {N : Option Tmp} {a : Act} {w : World} {K : Act → World → Prop} {g : FuncId} {lb : Array Value} {x : Operand} {ax : Array Operand} {ts : Array TypeId}
  (he : ∀ args W, (callFunc g args).run P W = .ok (.enter g args) W) (args : Array Value) (hw : Region.wanted oi (yielded ops a.tmps) = true) (hN : oi.dst = N) (hop : oi.op = .call { callee := .value x, args := ax, argTypes := ts }) (hx : a.eval x = .func (.func g) #[] lb) (hargs : ax.map a.eval ++ lb = args)
  (h : Calls P g args w fun e w' => ∃ v, e = .returned v ∧ K (a.put N v) w') : if Region.wanted oi (yielded ops a.tmps) = true then Oper.wp P oi a w K Q else K (a.put N undef) w := by
 refine call_ g args hw hN ?_ h
 have he := he args w
 unfold execOp
 simp [hop, resolve, Deferred.ofValue, invoke, hx, hargs, he]
theorem impl_ChainNumbers_1.nilNeq_ {P : Program} (W : World) {t e : TypeId} {A : Option Addr} {n c : Nat} {xs : List Int} {Z : Nat → Nat → Prop} (hu : P.underlying t = some (.slice e)) (h : xs = [] → Value.slice A n c = .slice none 0 0) (h2 : 0 < xs.length → ∃ g c', Value.slice A n c = .slice (some ⟨g, 0, none⟩) xs.length c' ∧ Z g c') :
  (binOp .neq t (.slice A n c) (.slice none 0 0)).run P W = .ok (.bool (xs != ([] : List Int))) W := by
 rw [run_neq_slice_nil_any W t e A n c 0 0 hu]
 cases xs with
 | nil => injection h rfl with h1 _ _; subst h1; rfl
 | cons x l => obtain ⟨g, c', h1, _⟩ := h2 (by simp); injection h1 with h1 _ _; subst h1; rfl
mutual
def impl_ChainNumbers_1.l0 : Nat → List Int → Int → Int → Int → Int → List Int → Int → List Int → Option (List Int)
 | 0, _, _, _, _, _, _, _, _ => none
 | k + 1, x0, x7, x20, x21, x378000, x378001, x379000, x380000 => if x21 < x20 then (impl_ChainNumbers_1.l1 k x0 x7 x21 true x20 x21 x0 (x0.length : Int) 0 x378000 x378001 x379000 x380000) else (some ([] : List Int))
def impl_ChainNumbers_1.l1 : Nat → List Int → Int → Int → Bool → Int → Int → List Int → Int → Int → Int → List Int → Int → List Int → Option (List Int)
 | 0, _, _, _, _, _, _, _, _, _, _, _, _, _ => none
 | k + 1, x0, x7, x8, x9, x20, x21, x24, x25, x26, x378000, x378001, x379000, x380000 => if x26 < x25 then (if 0 ≤ x26 then (if x26 < (x24.length : Int) then (if x9 = true then (if (rd x24 x26) = x8 then (if 0 ≤ x7 then (if x7 < (x380000.length : Int) then (impl_ChainNumbers_1.l1 k x0 x7 x8 ((Go.bits .and .i64 (shr .i64 (rd x380000 x7) x26) 1) == 0) x20 x21 x24 x25 (wrap64 (x26 + 1)) x378000 x378001 x379000 x380000) else (none)) else (none)) else (impl_ChainNumbers_1.l1 k x0 x7 x8 true x20 x21 x24 x25 (wrap64 (x26 + 1)) x378000 x378001 x379000 x380000)) else (impl_ChainNumbers_1.l1 k x0 x7 x8 false x20 x21 x24 x25 (wrap64 (x26 + 1)) x378000 x378001 x379000 x380000)) else (none)) else (none)) else (if x9 = true then ((slices_Clone_int_int.f x0).bind fun t383 => ((some (([x8] : List Int) : List Int)).bind fun y386 => (if t383.length + y386.length < 17592186044416 then ((impl_ChainNumbers_1.f k (t383 ++ y386) x378000 x378001 x379000 x380000).bind fun t392 => (if t392 = ([] : List Int) then (impl_ChainNumbers_1.l0 k x0 x7 x20 (wrap64 (x21 + 1)) x378000 x378001 x379000 x380000) else (some t392))) else (none)))) else (impl_ChainNumbers_1.l0 k x0 x7 x20 (wrap64 (x21 + 1)) x378000 x378001 x379000 x380000))
def impl_ChainNumbers_1.f : Nat → List Int → Int → List Int → Int → List Int → Option (List Int)
 | 0, _, _, _, _, _ => none
 | k + 1, l0, a1_0, l1_1, a2_0, l3_0 => if (l0.length : Int) = a1_0 then (some l0) else (impl_ChainNumbers_1.l0 k l0 (l0.length : Int) a2_0 0 a1_0 l1_1 a2_0 l3_0)
end
theorem impl_ChainNumbers_1.mono_l : ∀ k, (∀ y0 y1 y2 y3 y4, LeO (impl_ChainNumbers_1.f k y0 y1 y2 y3 y4) (impl_ChainNumbers_1.f (k + 1) y0 y1 y2 y3 y4)) ∧ (∀ y0 y1 y2 y3 y4 y5 y6 y7, LeO (impl_ChainNumbers_1.l0 k y0 y1 y2 y3 y4 y5 y6 y7) (impl_ChainNumbers_1.l0 (k + 1) y0 y1 y2 y3 y4 y5 y6 y7)) ∧ (∀ y0 y1 y2 y3 y4 y5 y6 y7 y8 y9 y10 y11 y12, LeO (impl_ChainNumbers_1.l1 k y0 y1 y2 y3 y4 y5 y6 y7 y8 y9 y10 y11 y12) (impl_ChainNumbers_1.l1 (k + 1) y0 y1 y2 y3 y4 y5 y6 y7 y8 y9 y10 y11 y12))
 | 0 => ⟨fun _ _ _ _ _ r h => by simp [impl_ChainNumbers_1.f] at h, fun _ _ _ _ _ _ _ _ r h => by simp [impl_ChainNumbers_1.l0] at h, fun _ _ _ _ _ _ _ _ _ _ _ _ _ r h => by simp [impl_ChainNumbers_1.l1] at h⟩
 | k + 1 => by
  obtain ⟨ih0, ih1, ih2⟩ := impl_ChainNumbers_1.mono_l k
  refine ⟨?_, ?_, ?_⟩ <;> intros
  unfold impl_ChainNumbers_1.f
  rotate_left
  unfold impl_ChainNumbers_1.l0
  rotate_left
  unfold impl_ChainNumbers_1.l1
  rotate_left
  all_goals repeat' (with_reducible first|apply ih0|apply ih1|apply ih2|apply LeO.refl|apply LeO.none|apply LeO.ite|apply LeO.bind|intro)
theorem impl_ChainNumbers_1.mono : ∀ a0 a1 a2 a3 a4 k, LeO (impl_ChainNumbers_1.f k a0 a1 a2 a3 a4) (impl_ChainNumbers_1.f (k + 1) a0 a1 a2 a3 a4) := by
 intro a0 a1 a2 a3 a4 k
 obtain ⟨ih0, ih1, ih2⟩ := impl_ChainNumbers_1.mono_l k
 exact ih0 a0 a1 a2 a3 a4
def impl_ChainNumbers_1.T14 : Bool × List (List Nat × List Nat) := (true, [([], []), ([], []), ([1], [1]), ([], []), ([3], [3]), ([2, 4, 2], [2, 4]), ([0, 5, 5], [0, 5]), ([6, 6, 0, 1, 2, 3, 4, 5, 6], [6])])
def impl_ChainNumbers_1.B14 : List Nat := [0, 0, 2, 0, 8, 30, 63, 127]
theorem impl_ChainNumbers_1.tab14 : rtab .any (opsOf Tryd.f23 14) = impl_ChainNumbers_1.T14 := by kernel_rfl
theorem impl_ChainNumbers_1.bits14 : waitsOk impl_ChainNumbers_1.T14.2 impl_ChainNumbers_1.B14 = true := by kernel_rfl
theorem impl_ChainNumbers_1.calls (k : Nat) : ∀ (P0_ : Nat → Prop) (u9000_ : Value) (l0 : List Int) (gB1 : Nat) (a1_0 : Int) (A1_1 : Option Addr) (c1_1 : Nat) (l1_1 : List Int) (gB2 : Nat) (a2_0 : Int) (gB3 : Nat) (A3_0 : Option Addr) (c3_0 : Nat) (l3_0 : List Int) (gB4 : Nat)  (r : List Int) (w0 w : World) (hB : Below w0.heap.size w0 w) (ho0 : Kd.R (Kd.int .i64) 3 w w0.heap.size P0_ u9000_ l0) (hx0_2 : ∀ k_, P0_ k_ → k_ ≠ gB2) (hb1 : w.heap[gB1]? = some (.cells #[.int .i64 a1_0, .slice A1_1 l1_1.length c1_1] 26 (0, 0))) (hr1_1 : ∀ W_, Kept w W_ (fun k_ => P0_ k_) → Kd.C (Kd.int .i64) W_ A1_1 l1_1.length l1_1) (hc1_1 : l1_1.length ≤ c1_1) (hb2 : w.heap[gB2]? = some (.cells #[.int .i64 a2_0] 3 (0, 0))) (hb3 : w.heap[gB3]? = some (.cells #[.slice A3_0 l3_0.length c3_0] 24 (0, 0))) (hr3_0 : ∀ W_, Kept w W_ (fun k_ => P0_ k_) → Kd.C (Kd.int .i64) W_ A3_0 l3_0.length l3_0) (hc3_0 : l3_0.length ≤ c3_0) (hb4 : w.heap[gB4]? = some (.cells #[.func (.func 23) #[] #[.pointer (some ⟨gB1, 0, none⟩), .pointer (some ⟨gB2, 0, none⟩), .pointer (some ⟨gB3, 0, none⟩), .pointer (some ⟨gB4, 0, none⟩)]] 43 (0, 0))) (h : impl_ChainNumbers_1.f k l0 a1_0 l1_1 a2_0 l3_0 = some r),
  Calls Tryd.prog 23 #[u9000_, .pointer (some ⟨gB1, 0, none⟩), .pointer (some ⟨gB2, 0, none⟩), .pointer (some ⟨gB3, 0, none⟩), .pointer (some ⟨gB4, 0, none⟩)] w fun e w' => ∃ v0_ : Value, e = .returned (v0_) ∧ Kd.R (Kd.int .i64) 3 w' w0.heap.size (fun k_ => (P0_ k_ ∨ w.heap.size ≤ k_)) v0_ r ∧ Below w0.heap.size w0 w' ∧ Kept w w' (fun k_ => P0_ k_) ∧ (((l0.length : Int) = a1_0 → v0_ = u9000_) ∧ (r = [] → v0_ = .slice none 0 0 ∨ (l0.length : Int) = a1_0 ∧ l0 = [])) := by
 induction k using Nat.strongRecOn with
 | _ k ih =>
 intro P0_ u9000_ l0 gB1 a1_0 A1_1 c1_1 l1_1 gB2 a2_0 gB3 A3_0 c3_0 l3_0 gB4 r w0 w hB ho0 hx0_2 hb1 hr1_1 hc1_1 hb2 hb3 hr3_0 hc3_0 hb4 h
 cases k with
 | zero => exact absurd h (by simp [impl_ChainNumbers_1.f])
 | succ k =>
 simp only [impl_ChainNumbers_1.f] at h
 have BK377 := mkA hb1
 clear hb1
 have BK378 := mkA hb2
 clear hb2
 have BK379 := mkA hb3
 clear hb3
 have BK380 := mkA hb4
 clear hb4
 have HO0 := mkA (show Kd.R (Kd.int .i64) 3 w w0.heap.size (fun k_ => (P0_ k_ ∨ w.heap.size ≤ k_) ∧ k_ ≠ gB2) u9000_ l0 from Kd.R_mono ho0 (fun k_ hk => ⟨(.inl hk), hx0_2 k_ hk⟩))
 have HR1_1 := mkA hr1_1
 have HC1_1 := mkA hc1_1
 clear hr1_1 hc1_1
 have HR3_0 := mkA hr3_0
 have HC3_0 := mkA hc3_0
 clear hr3_0 hc3_0
 have HK := mkA (Kept.refl w (fun k_ => P0_ k_))
 have HW0 := mkA hB.size
 have HB := mkA hB
 clear hB
 have H := h
 clear h
 unfold impl_ChainNumbers_1.f at H
 rcases iteP H with ⟨c6, H⟩ | ⟨c6, H⟩
 ·have c6b0 := beq_iff_eq.mpr c6
  have c6b1 := bne_eq_false_iff_eq.mpr c6
  clear c6
  obtain rfl := Option.some.inj H
  obtain ⟨Ao7, co7, rfl⟩ := Kd.R_slice HO0.out
  obtain ⟨_, _, _, _⟩ := blk2 BK377
  go_enter Tryd.func23, Tryd.ntmps23
  go_wp2
  go_ret
  exact ⟨_, eqE, Kd.R_g (Kd.R_mono HO0.out (fun _ hk => hk.1)), bel_g HB.out, by repeat (first | (with_reducible first | exact HK.out | apply Kept.alloc | apply Kept.drewN | apply Kept.drew | refine Kept.setCell ?_ (.inr GW377.out) _ | refine Kept.setCell ?_ (.inr GW378.out) _ | refine Kept.setCell ?_ (.inr GW379.out) _ | refine Kept.setCell ?_ (.inr GW380.out) _) | exact HK.out), ⟨by first | exact fun h_ => rfl | (intro h_; exfalso; simp [h_] at c6b0; done), by first | exact .inl rfl | exact fun h_ => .inl rfl | exact fun h_ => .inr ⟨by simpa using c6b0, h_⟩⟩⟩
 ·have c6b0 := beq_eq_false_iff_ne.mpr c6
  have c6b1 := bne_iff_ne.mpr c6
  have H' := mkA H
  clear H
  obtain ⟨Ao9, co9, rfl⟩ := Kd.R_slice HO0.out
  obtain ⟨_, _, _, _⟩ := blk2 BK377
  obtain ⟨_, _⟩ := blk1 BK378
  go_enter Tryd.func23, Tryd.ntmps23
  go_wp2
  go_loopg [21] k (fun kq v21 w' => ∃ (x21_1 : Int), v21 = .int .i64 x21_1 ∧ Fc (impl_ChainNumbers_1.l0 kq l0 (l0.length : Int) a2_0 x21_1 a1_0 l1_1 a2_0 l3_0 = some r) ∧ Fc (kq ≤ k) ∧ Fc (Kd.R (Kd.int .i64) 3 w' w0.heap.size (fun k_ => (P0_ k_ ∨ w.heap.size ≤ k_) ∧ k_ ≠ gB2) (.slice Ao9 l0.length co9) l0) ∧ Fc (w'.heap[gB1]? = some (.cells #[.int .i64 a1_0, (.slice A1_1 l1_1.length c1_1)] 26 (0, 0))) ∧ Fc (w'.heap[gB2]? = some (.cells #[.int .i64 a2_0] 3 (0, 0))) ∧ Fc (w'.heap[gB3]? = some (.cells #[(.slice A3_0 l3_0.length c3_0)] 24 (0, 0))) ∧ Fc (w'.heap[gB4]? = some (.cells #[.func (.func 23) #[] #[.pointer (some ⟨gB1, 0, none⟩), .pointer (some ⟨gB2, 0, none⟩), .pointer (some ⟨gB3, 0, none⟩), .pointer (some ⟨gB4, 0, none⟩)]] 43 (0, 0))) ∧ Fc (Kept w w' (fun k_ => P0_ k_)) ∧ Fc (Below w0.heap.size w0 w'))
  case atStart => exact ⟨(0), eqS, H', ⟨Nat.le_refl _⟩, rg HO0, bg BK377, bg BK378, bg BK379, bg BK380, ⟨by repeat (first | (with_reducible first | exact HK.out | apply Kept.alloc | apply Kept.drewN | apply Kept.drew | refine Kept.setCell ?_ (.inr GW377.out) _ | refine Kept.setCell ?_ (.inr GW378.out) _ | refine Kept.setCell ?_ (.inr GW379.out) _ | refine Kept.setCell ?_ (.inr GW380.out) _) | exact HK.out)⟩, hbg HB⟩
  case round =>
   clear H'
   try clear c6
   skip
   skip
   try clear hx0_2
   obtain ⟨x21_1, rfl, HA, HK1, HO_0, BK377, BK378, BK379, BK380, HK, HB⟩ := hrel
   cases gk with
   | zero => exact absurd HA.out (by simp [impl_ChainNumbers_1.l0])
   | succ k1 =>
    have H := HA.out
    clear HA
    simp only [impl_ChainNumbers_1.l0] at H
    rcases iteE H with ⟨c12b0, H⟩ | ⟨c12b0, H⟩
    ·have H' := mkA H
     clear H
     go_wp2
     go_loopg [9, 26] k1 (fun kq v9 v26 w' => ∃ (x9_2 : Bool) (x26_2 : Int), v9 = .bool x9_2 ∧ v26 = .int .i64 x26_2 ∧ Fc (impl_ChainNumbers_1.l1 kq l0 (l0.length : Int) x21_1 x9_2 a2_0 x21_1 l0 (l0.length : Int) x26_2 a1_0 l1_1 a2_0 l3_0 = some r) ∧ Fc (kq ≤ k1) ∧ Fc (Kd.R (Kd.int .i64) 3 w' w0.heap.size (fun k_ => (P0_ k_ ∨ w.heap.size ≤ k_) ∧ k_ ≠ gB2) (.slice Ao9 l0.length co9) l0) ∧ Fc (Kd.R (Kd.int .i64) 3 w' w0.heap.size (fun k_ => (P0_ k_ ∨ w.heap.size ≤ k_) ∧ k_ ≠ gB2) (.slice Ao9 l0.length co9) l0) ∧ Fc (w'.heap[gB1]? = some (.cells #[.int .i64 a1_0, (.slice A1_1 l1_1.length c1_1)] 26 (0, 0))) ∧ Fc (w'.heap[gB2]? = some (.cells #[.int .i64 a2_0] 3 (0, 0))) ∧ Fc (w'.heap[gB3]? = some (.cells #[(.slice A3_0 l3_0.length c3_0)] 24 (0, 0))) ∧ Fc (w'.heap[gB4]? = some (.cells #[.func (.func 23) #[] #[.pointer (some ⟨gB1, 0, none⟩), .pointer (some ⟨gB2, 0, none⟩), .pointer (some ⟨gB3, 0, none⟩), .pointer (some ⟨gB4, 0, none⟩)]] 43 (0, 0))) ∧ Fc (Kept w w' (fun k_ => P0_ k_)) ∧ Fc (Below w0.heap.size w0 w'))
     case atStart => exact ⟨(true), (0), eqS, eqS, H', ⟨Nat.le_refl _⟩, rg HO_0, rg HO_0, bg BK377, bg BK378, bg BK379, bg BK380, ⟨by repeat (first | (with_reducible first | exact HK.out | apply Kept.alloc | apply Kept.drewN | apply Kept.drew | refine Kept.setCell ?_ (.inr GW377.out) _ | refine Kept.setCell ?_ (.inr GW378.out) _ | refine Kept.setCell ?_ (.inr GW379.out) _ | refine Kept.setCell ?_ (.inr GW380.out) _) | exact HK.out)⟩, hbg HB⟩
     case round =>
      clear H'
      try clear c6
      skip
      skip
      try clear c12b0
      try clear hx0_2
      obtain ⟨x9_2, x26_2, rfl, rfl, HA, HK2, HO_0, HO_24, BK377, BK378, BK379, BK380, HK, HB⟩ := hrel
      cases gk with
      | zero => exact absurd HA.out (by simp [impl_ChainNumbers_1.l1])
      | succ k2 =>
       have H := HA.out
       clear HA
       simp only [impl_ChainNumbers_1.l1] at H
       rcases iteE H with ⟨c13b0, H⟩ | ⟨c13b0, H⟩
       ·obtain ⟨c14b0, H⟩ := itND H
        obtain ⟨c15b0, H⟩ := itND H
        by_cases c16 : x9_2 = true
        ·subst c16
         replace H := ifT H
         rcases iteP H with ⟨c17, H⟩ | ⟨c17, H⟩
         ·have c17b0 := beq_iff_eq.mpr c17
          have c17b1 := bne_eq_false_iff_eq.mpr c17
          clear c17
          obtain ⟨c18, H⟩ := itNP H
          have c18b0 := decide_eq_true c18
          have c18b1 : decide (0 ≤ l0.length) = true := decide_eq_true (by omega)
          clear c18
          obtain ⟨c19, H⟩ := itNP H
          have c19b0 := decide_eq_true c19
          have c19b1 : decide (l0.length < l3_0.length) = true := decide_eq_true (Int.ofNat_lt.mp c19)
          clear c19
          have c20b0 := eq_true (ofd : 0 ≤ x26_2)
          obtain ⟨ji21, hji21⟩ : ∃ j_ : Int, (shr .i64 (rd l3_0 (l0.length : Int)) x26_2) = j_ := ⟨_, rfl⟩
          first | rw [hji21] at H | simp only [hji21] at H
          have hji21_ : ((rd l3_0 (l0.length : Int)) / 2 ^ min x26_2.toNat 64) = ji21 := hji21
          have hji21z : x26_2 ≤ 64 → ((rd l3_0 (l0.length : Int)) / 2 ^ x26_2.toNat) = ji21 := shr_small hji21
          have H' := mkA H
          clear H
          obtain ⟨p381, q381, ad381, e381, hx381_0⟩ := atI (Kd.R_reads' HO_24.out).2.2 x26_2
          cases e381
          obtain ⟨_, _⟩ := blk1 BK379
          obtain ⟨p382, q382, ad382, e382, hx382_0⟩ := atI (Kd.C_kept_now HR3_0.out HK.out) (l0.length : Int)
          cases e382
          (try simp only [Go.IntWalk.toNatUp] at hx382_0)
          go_wp2
          go_roundg k2
          case measure => have := HK1.out; have := HK2.out; omega
          case rel => exact ⟨(((Go.bits .and .i64 (ji21) 1) == 0)), (wrap64 (x26_2 + 1)), (by first | rfl | (simp; done) | (simp only [← hji21] <;> (first | rfl | simp)) | (simp [*]; done)), eqS, H', ⟨by have := HK1.out; have := HK2.out; omega⟩, rg HO_0, rg HO_24, bg BK377, bg BK378, bg BK379, bg BK380, ⟨by repeat (first | (with_reducible first | exact HK.out | apply Kept.alloc | apply Kept.drewN | apply Kept.drew | refine Kept.setCell ?_ (.inr GW377.out) _ | refine Kept.setCell ?_ (.inr GW378.out) _ | refine Kept.setCell ?_ (.inr GW379.out) _ | refine Kept.setCell ?_ (.inr GW380.out) _) | exact HK.out)⟩, hbg HB⟩
         ·have c17b0 := beq_eq_false_iff_ne.mpr c17
          have c17b1 := bne_iff_ne.mpr c17
          have H' := mkA H
          clear H
          obtain ⟨p381, q381, ad381, e381, hx381_0⟩ := atI (Kd.R_reads' HO_24.out).2.2 x26_2
          cases e381
          go_wp2
          go_roundg k2
          case measure => have := HK1.out; have := HK2.out; omega
          case rel => exact ⟨(true), (wrap64 (x26_2 + 1)), eqS, eqS, H', ⟨by have := HK1.out; have := HK2.out; omega⟩, rg HO_0, rg HO_24, bg BK377, bg BK378, bg BK379, bg BK380, ⟨by repeat (first | (with_reducible first | exact HK.out | apply Kept.alloc | apply Kept.drewN | apply Kept.drew | refine Kept.setCell ?_ (.inr GW377.out) _ | refine Kept.setCell ?_ (.inr GW378.out) _ | refine Kept.setCell ?_ (.inr GW379.out) _ | refine Kept.setCell ?_ (.inr GW380.out) _) | exact HK.out)⟩, hbg HB⟩
        ·replace c16 := Bool.eq_false_iff.mpr c16
         subst c16
         replace H := ifF H
         have H' := mkA H
         clear H
         obtain ⟨p381, q381, ad381, e381, hx381_0⟩ := atI (Kd.R_reads' HO_24.out).2.2 x26_2
         cases e381
         go_wp2
         go_roundg k2
         case measure => have := HK1.out; have := HK2.out; omega
         case rel => exact ⟨(false), (wrap64 (x26_2 + 1)), eqS, eqS, H', ⟨by have := HK1.out; have := HK2.out; omega⟩, rg HO_0, rg HO_24, bg BK377, bg BK378, bg BK379, bg BK380, ⟨by repeat (first | (with_reducible first | exact HK.out | apply Kept.alloc | apply Kept.drewN | apply Kept.drew | refine Kept.setCell ?_ (.inr GW377.out) _ | refine Kept.setCell ?_ (.inr GW378.out) _ | refine Kept.setCell ?_ (.inr GW379.out) _ | refine Kept.setCell ?_ (.inr GW380.out) _) | exact HK.out)⟩, hbg HB⟩
       ·by_cases c26 : x9_2 = true
        ·subst c26
         replace H := ifT H
         obtain ⟨t383, A27, H⟩ := obE H
         obtain ⟨y386, Ny386, H⟩ := nmE H
         obtain ⟨c28, H⟩ := itNP H
         have LMc28 := mkA c28
         clear c28
         obtain ⟨y389, hy389⟩ : ∃ y_ : List Int, y_ = (t383 ++ y386) := ⟨_, rfl⟩
         rw [← hy389] at H
         have Ny389 := mkA hy389
         clear hy389
         obtain ⟨t392, A29, H⟩ := obE H
         rcases iteP H with ⟨c30, H⟩ | ⟨c30, H⟩
         ·have c30b0 := beq_iff_eq.mpr c30
          have c30b1 := bne_eq_false_iff_eq.mpr c30
          clear c30
          have H' := mkA H
          clear H
          try go_wp2
          replace HO_0 := mkA (Kd.R_drew HO_0.out)
          replace HO_24 := mkA (Kd.R_drew HO_24.out)
          replace BK377 := mkA (blk_drew BK377.out)
          replace BK378 := mkA (blk_drew BK378.out)
          replace BK379 := mkA (blk_drew BK379.out)
          replace BK380 := mkA (blk_drew BK380.out)
          replace HK := mkA (Kept.drew HK.out)
          replace HB := mkA (below_drew1 HB.out)
          refine start_ (n := 8) (S := fun w' => w'.cell? ⟨gB4, 0, none⟩ = some (.func (.func 23) #[] #[.pointer (some ⟨gB1, 0, none⟩), .pointer (some ⟨gB2, 0, none⟩), .pointer (some ⟨gB3, 0, none⟩), .pointer (some ⟨gB4, 0, none⟩)])) (ds := []) (bm 8 0) (by kernel_rfl) rfl (by kernel_rfl) ((blk_cell BK380.out 0).trans rfl) (fun hHeld => ?_); refine with_tabW impl_ChainNumbers_1.tab14 impl_ChainNumbers_1.bits14 (fun HT_ HW_ => ?_)
          generalize wr.drew = w31 at HO_0 HO_24 BK377 BK378 BK379 BK380 HK HB hHeld ⊢
          refine purW 1 50 8 2 HT_ ?_
          refine purW 3 52 8 10 HT_ ?_
          refine takeW 0 (some 49) (bm 8 11) HT_ HW_ hHeld ?_
          refine join_ (σ := Value × Value) 3 (bm 8 31) (fun s_ => [(51, s_.1), (53, s_.2)]) (fun s_ w' => (w'.cell? ⟨gB4, 0, none⟩ = some (.func (.func 23) #[] #[.pointer (some ⟨gB1, 0, none⟩), .pointer (some ⟨gB2, 0, none⟩), .pointer (some ⟨gB3, 0, none⟩), .pointer (some ⟨gB4, 0, none⟩)])) ∧ (Kd.R (Kd.int .i64) 3 w' w0.heap.size (fun k_ => (P0_ k_ ∨ w.heap.size ≤ k_) ∧ some k_ ≠ (s_.2 : Value).ownBlock ∧ some k_ ≠ (.slice Ao9 l0.length co9 : Value).ownBlock ∧ some k_ ≠ (.slice Ao9 l0.length co9 : Value).ownBlock ∧ k_ ≠ gB2) s_.1 t383) ∧ (Kd.R (Kd.int .i64) 3 w' w0.heap.size (fun k_ => (P0_ k_ ∨ w.heap.size ≤ k_) ∧ some k_ ≠ (s_.1 : Value).ownBlock ∧ some k_ ≠ (.slice Ao9 l0.length co9 : Value).ownBlock ∧ some k_ ≠ (.slice Ao9 l0.length co9 : Value).ownBlock ∧ k_ ≠ gB2) s_.2 y386) ∧ (Kd.R (Kd.int .i64) 3 w' w0.heap.size (fun k_ => (P0_ k_ ∨ w.heap.size ≤ k_) ∧ some k_ ≠ (s_.1 : Value).ownBlock ∧ some k_ ≠ (s_.2 : Value).ownBlock ∧ k_ ≠ gB2) (.slice Ao9 l0.length co9) l0) ∧ (Kd.R (Kd.int .i64) 3 w' w0.heap.size (fun k_ => (P0_ k_ ∨ w.heap.size ≤ k_) ∧ some k_ ≠ (s_.1 : Value).ownBlock ∧ some k_ ≠ (s_.2 : Value).ownBlock ∧ k_ ≠ gB2) (.slice Ao9 l0.length co9) l0) ∧ (w'.heap[gB1]? = some (.cells #[.int .i64 a1_0, .slice A1_1 l1_1.length c1_1] 26 (0, 0))) ∧ (w'.heap[gB2]? = some (.cells #[.int .i64 a2_0] 3 (0, 0))) ∧ (w'.heap[gB3]? = some (.cells #[.slice A3_0 l3_0.length c3_0] 24 (0, 0))) ∧ (w'.heap[gB4]? = some (.cells #[.func (.func 23) #[] #[.pointer (some ⟨gB1, 0, none⟩), .pointer (some ⟨gB2, 0, none⟩), .pointer (some ⟨gB3, 0, none⟩), .pointer (some ⟨gB4, 0, none⟩)]] 43 (0, 0))) ∧ (Kept w w' (fun k_ => P0_ k_)) ∧ (Below w0.heap.size w0 w')) ?_ ?_
          rotate_left
          ·intro hCont
           refine two_ (i := 2) (j := 4) (Ni := some 51) (Nj := some 53) (bm 8 15) (bm 8 27) rfl rfl rfl rfl (two_of HT_.out (by kernel_rfl)) (by decide) (by decide) (fun K hK => ?_) (fun K hK => ?_)
           ·skip
            refine goesR Tryd.func24 #[.slice Ao9 l0.length co9] ?_
            with_reducible refine (slices_Clone_int_int.calls _ _ l0 t383 _ ?s1 ?s2 A27.out).mono ?_
            (case s1 => exact rC HO_0)
            (case s2 => exact rL HO_0)
            rintro e w32 ⟨v384, rfl, ho0, hb⟩
            refine ⟨_, rfl, ?_⟩
            have HO385 := rLo (Kd.R_newB (rN (rN (Kd.R_newM (M := fun k_ => (P0_ k_ ∨ w.heap.size ≤ k_)) ho0 (by first | exact HK.out.1 | exact (show Kept w _ (fun k_ => P0_ k_) from by repeat (first | (with_reducible first | exact HK.out | apply Kept.alloc | apply Kept.drewN | apply Kept.drew | refine Kept.setCell ?_ (.inr GW377.out) _ | refine Kept.setCell ?_ (.inr GW378.out) _ | refine Kept.setCell ?_ (.inr GW379.out) _ | refine Kept.setCell ?_ (.inr GW380.out) _) | exact HK.out)).1) (fun k_ h_ => .inr h_)) HO_0) HO_24) (g := gB2) (o := .cells #[.int .i64 a2_0] 3 (0, 0)) (blk_g BK378.out)) HB
            replace HO_0 := rE HO_0 ho0 hb
            replace HO_24 := rE HO_24 ho0 hb
            replace BK377 := blkB BK377 hb
            replace BK378 := blkB BK378 hb
            replace BK379 := blkB BK379 hb
            replace BK380 := blkB BK380 hb
            replace HK := mkA (Kept.below (S := (fun k_ => P0_ k_)) (by repeat (first | (with_reducible first | exact HK.out | apply Kept.alloc | apply Kept.drewN | apply Kept.drew | refine Kept.setCell ?_ (.inr GW377.out) _ | refine Kept.setCell ?_ (.inr GW378.out) _ | refine Kept.setCell ?_ (.inr GW379.out) _ | refine Kept.setCell ?_ (.inr GW380.out) _) | exact HK.out)) hb)
            replace HB := bst HB hb
            (try clear hb)
            (try clear hb2)
            (try clear hk)
            (try clear hi)
            (try clear ho0)
            refine hK.out _ _ ((blk_cell BK380.out 0).trans rfl) (fun hHeld => ?_)
            clear hK K
            refine normW 51 ?_
            refine oneW 4 (some 53) (bm 8 31) HT_ (fun K hK => ?_)
            refine Kd.R_lit_step (Kd.int .i64) _ 3 ?hg (N := 53) ?hd (xs := ([x21_1] : List Int)) (inner := [.int .i64 x21_1]) (ok := fun _ => True) (okp := fun _ => True) ?hr ?hp (fun _ hk => hk) trivial (Below.refl _ _) (Nat.le_refl _) (by simp) ?_; (case hd => rfl); (case hg => rfl); (case hr => first | (go_simp; done) | (go_simp; rfl)); (case hp => exact (Reps.one (show Kd.M (Kd.int .i64) _ _ _ x21_1 [.int .i64 x21_1] from rfl) (Reps.none _ _)))
            intro v387 w33 ho34 hb hg_ hnew_
            clear hg_ hnew_
            (first | rw [← Ny386.out] at ho34 | (simp only [Int.reduceToNat] at ho34; rw [← Ny386.out] at ho34))
            have HO388 := rLo (Kd.R_newB (rN (rN (rN (Kd.R_newM (M := fun k_ => (P0_ k_ ∨ w.heap.size ≤ k_)) ho34 (by first | exact HK.out.1 | exact (show Kept w _ (fun k_ => P0_ k_) from by repeat (first | (with_reducible first | exact HK.out | apply Kept.alloc | apply Kept.drewN | apply Kept.drew | refine Kept.setCell ?_ (.inr GW377.out) _ | refine Kept.setCell ?_ (.inr GW378.out) _ | refine Kept.setCell ?_ (.inr GW379.out) _ | refine Kept.setCell ?_ (.inr GW380.out) _) | exact HK.out)).1) (fun k_ h_ => .inr h_)) HO_0) HO_24) HO385) (g := gB2) (o := .cells #[.int .i64 a2_0] 3 (0, 0)) (blk_g BK378.out)) HB
            replace HO_0 := rE HO_0 ho34 hb
            replace HO_24 := rE HO_24 ho34 hb
            replace HO385 := rE HO385 ho34 hb
            replace BK377 := blkB BK377 hb
            replace BK378 := blkB BK378 hb
            replace BK379 := blkB BK379 hb
            replace BK380 := blkB BK380 hb
            replace HK := mkA (Kept.below (S := (fun k_ => P0_ k_)) (by repeat (first | (with_reducible first | exact HK.out | apply Kept.alloc | apply Kept.drewN | apply Kept.drew | refine Kept.setCell ?_ (.inr GW377.out) _ | refine Kept.setCell ?_ (.inr GW378.out) _ | refine Kept.setCell ?_ (.inr GW379.out) _ | refine Kept.setCell ?_ (.inr GW380.out) _) | exact HK.out)) hb)
            replace HB := bst HB hb
            clear hb ho34
            refine hK.out _ _ ((blk_cell BK380.out 0).trans rfl) (fun hHeld => ?_)
            clear hK K
            refine normW 53 ?_
            exact norm_ (by simp only [putAll, Act.put, List.setIfInBounds_toArray, List.set_cons_zero, List.set_cons_succ]) (hCont (v384, v387) _ ⟨hHeld, (Kd.R_g (Kd.R_mono HO385.out (fun _ hk => ⟨hk.1.1.1.1.1, ⟨hk.2, ⟨hk.1.1.1.2, ⟨hk.1.1.2, hk.1.2⟩⟩⟩⟩))), (Kd.R_g (Kd.R_mono HO388.out (fun _ hk => ⟨hk.1.1.1.1.1, ⟨hk.1.2, ⟨hk.1.1.1.2, ⟨hk.1.1.2, hk.2⟩⟩⟩⟩))), (Kd.R_g (Kd.R_mono HO_0.out (fun _ hk => ⟨hk.1.1.1, ⟨hk.1.2, ⟨hk.2, hk.1.1.2⟩⟩⟩))), (Kd.R_g (Kd.R_mono HO_24.out (fun _ hk => ⟨hk.1.1.1, ⟨hk.1.2, ⟨hk.2, hk.1.1.2⟩⟩⟩))), (blk_g BK377.out), (blk_g BK378.out), (blk_g BK379.out), (blk_g BK380.out), (by repeat (first | (with_reducible first | exact HK.out | apply Kept.alloc | apply Kept.drewN | apply Kept.drew | refine Kept.setCell ?_ (.inr GW377.out) _ | refine Kept.setCell ?_ (.inr GW378.out) _ | refine Kept.setCell ?_ (.inr GW379.out) _ | refine Kept.setCell ?_ (.inr GW380.out) _) | exact HK.out)), (bel_g HB.out)⟩)
           ·skip
            refine Kd.R_lit_step (Kd.int .i64) _ 3 ?hg (N := 53) ?hd (xs := ([x21_1] : List Int)) (inner := [.int .i64 x21_1]) (ok := fun _ => True) (okp := fun _ => True) ?hr ?hp (fun _ hk => hk) trivial (Below.refl _ _) (Nat.le_refl _) (by simp) ?_; (case hd => rfl); (case hg => rfl); (case hr => first | (go_simp; done) | (go_simp; rfl)); (case hp => exact (Reps.one (show Kd.M (Kd.int .i64) _ _ _ x21_1 [.int .i64 x21_1] from rfl) (Reps.none _ _)))
            intro v387 w32 ho33 hb hg_ hnew_
            clear hg_ hnew_
            (first | rw [← Ny386.out] at ho33 | (simp only [Int.reduceToNat] at ho33; rw [← Ny386.out] at ho33))
            have HO388 := rLo (Kd.R_newB (rN (rN (Kd.R_newM (M := fun k_ => (P0_ k_ ∨ w.heap.size ≤ k_)) ho33 (by first | exact HK.out.1 | exact (show Kept w _ (fun k_ => P0_ k_) from by repeat (first | (with_reducible first | exact HK.out | apply Kept.alloc | apply Kept.drewN | apply Kept.drew | refine Kept.setCell ?_ (.inr GW377.out) _ | refine Kept.setCell ?_ (.inr GW378.out) _ | refine Kept.setCell ?_ (.inr GW379.out) _ | refine Kept.setCell ?_ (.inr GW380.out) _) | exact HK.out)).1) (fun k_ h_ => .inr h_)) HO_0) HO_24) (g := gB2) (o := .cells #[.int .i64 a2_0] 3 (0, 0)) (blk_g BK378.out)) HB
            replace HO_0 := rE HO_0 ho33 hb
            replace HO_24 := rE HO_24 ho33 hb
            replace BK377 := blkB BK377 hb
            replace BK378 := blkB BK378 hb
            replace BK379 := blkB BK379 hb
            replace BK380 := blkB BK380 hb
            replace HK := mkA (Kept.below (S := (fun k_ => P0_ k_)) (by repeat (first | (with_reducible first | exact HK.out | apply Kept.alloc | apply Kept.drewN | apply Kept.drew | refine Kept.setCell ?_ (.inr GW377.out) _ | refine Kept.setCell ?_ (.inr GW378.out) _ | refine Kept.setCell ?_ (.inr GW379.out) _ | refine Kept.setCell ?_ (.inr GW380.out) _) | exact HK.out)) hb)
            replace HB := bst HB hb
            clear hb ho33
            refine hK.out _ _ ((blk_cell BK380.out 0).trans rfl) (fun hHeld => ?_)
            clear hK K
            refine normW 53 ?_
            refine oneW 2 (some 51) (bm 8 31) HT_ (fun K hK => ?_)
            refine goesR Tryd.func24 #[.slice Ao9 l0.length co9] ?_
            with_reducible refine (slices_Clone_int_int.calls _ _ l0 t383 _ ?s1 ?s2 A27.out).mono ?_
            (case s1 => exact rC HO_0)
            (case s2 => exact rL HO_0)
            rintro e w34 ⟨v384, rfl, ho0, hb⟩
            refine ⟨_, rfl, ?_⟩
            have HO385 := rLo (Kd.R_newB (rN (rN (rN (Kd.R_newM (M := fun k_ => (P0_ k_ ∨ w.heap.size ≤ k_)) ho0 (by first | exact HK.out.1 | exact (show Kept w _ (fun k_ => P0_ k_) from by repeat (first | (with_reducible first | exact HK.out | apply Kept.alloc | apply Kept.drewN | apply Kept.drew | refine Kept.setCell ?_ (.inr GW377.out) _ | refine Kept.setCell ?_ (.inr GW378.out) _ | refine Kept.setCell ?_ (.inr GW379.out) _ | refine Kept.setCell ?_ (.inr GW380.out) _) | exact HK.out)).1) (fun k_ h_ => .inr h_)) HO_0) HO_24) HO388) (g := gB2) (o := .cells #[.int .i64 a2_0] 3 (0, 0)) (blk_g BK378.out)) HB
            replace HO_0 := rE HO_0 ho0 hb
            replace HO_24 := rE HO_24 ho0 hb
            replace HO388 := rE HO388 ho0 hb
            replace BK377 := blkB BK377 hb
            replace BK378 := blkB BK378 hb
            replace BK379 := blkB BK379 hb
            replace BK380 := blkB BK380 hb
            replace HK := mkA (Kept.below (S := (fun k_ => P0_ k_)) (by repeat (first | (with_reducible first | exact HK.out | apply Kept.alloc | apply Kept.drewN | apply Kept.drew | refine Kept.setCell ?_ (.inr GW377.out) _ | refine Kept.setCell ?_ (.inr GW378.out) _ | refine Kept.setCell ?_ (.inr GW379.out) _ | refine Kept.setCell ?_ (.inr GW380.out) _) | exact HK.out)) hb)
            replace HB := bst HB hb
            (try clear hb)
            (try clear hb2)
            (try clear hk)
            (try clear hi)
            (try clear ho0)
            refine hK.out _ _ ((blk_cell BK380.out 0).trans rfl) (fun hHeld => ?_)
            clear hK K
            refine normW 51 ?_
            exact norm_ (by simp only [putAll, Act.put, List.setIfInBounds_toArray, List.set_cons_zero, List.set_cons_succ]) (hCont (v384, v387) _ ⟨hHeld, (Kd.R_g (Kd.R_mono HO385.out (fun _ hk => ⟨hk.1.1.1.1.1, ⟨hk.1.2, ⟨hk.1.1.1.2, ⟨hk.1.1.2, hk.2⟩⟩⟩⟩))), (Kd.R_g (Kd.R_mono HO388.out (fun _ hk => ⟨hk.1.1.1.1.1, ⟨hk.2, ⟨hk.1.1.1.2, ⟨hk.1.1.2, hk.1.2⟩⟩⟩⟩))), (Kd.R_g (Kd.R_mono HO_0.out (fun _ hk => ⟨hk.1.1.1, ⟨hk.2, ⟨hk.1.2, hk.1.1.2⟩⟩⟩))), (Kd.R_g (Kd.R_mono HO_24.out (fun _ hk => ⟨hk.1.1.1, ⟨hk.2, ⟨hk.1.2, hk.1.1.2⟩⟩⟩))), (blk_g BK377.out), (blk_g BK378.out), (blk_g BK379.out), (blk_g BK380.out), (by repeat (first | (with_reducible first | exact HK.out | apply Kept.alloc | apply Kept.drewN | apply Kept.drew | refine Kept.setCell ?_ (.inr GW377.out) _ | refine Kept.setCell ?_ (.inr GW378.out) _ | refine Kept.setCell ?_ (.inr GW379.out) _ | refine Kept.setCell ?_ (.inr GW380.out) _) | exact HK.out)), (bel_g HB.out)⟩)
          rintro ⟨v384, v387⟩ w35 ⟨hS_, h0_, h1_, h2_, h3_, h4_, h5_, h6_, h7_, h8_, h9_⟩
          have n0_ : Fc (Kd.R (Kd.int .i64) 3 w35 w0.heap.size (fun k_ => (P0_ k_ ∨ w.heap.size ≤ k_) ∧ some k_ ≠ (v387 : Value).ownBlock ∧ some k_ ≠ (.slice Ao9 l0.length co9 : Value).ownBlock ∧ some k_ ≠ (.slice Ao9 l0.length co9 : Value).ownBlock ∧ k_ ≠ gB2) v384 t383) := ⟨h0_⟩
          have n1_ : Fc (Kd.R (Kd.int .i64) 3 w35 w0.heap.size (fun k_ => (P0_ k_ ∨ w.heap.size ≤ k_) ∧ some k_ ≠ (v384 : Value).ownBlock ∧ some k_ ≠ (.slice Ao9 l0.length co9 : Value).ownBlock ∧ some k_ ≠ (.slice Ao9 l0.length co9 : Value).ownBlock ∧ k_ ≠ gB2) v387 y386) := ⟨h1_⟩
          have n2_ : Fc (Kd.R (Kd.int .i64) 3 w35 w0.heap.size (fun k_ => (P0_ k_ ∨ w.heap.size ≤ k_) ∧ some k_ ≠ (v384 : Value).ownBlock ∧ some k_ ≠ (v387 : Value).ownBlock ∧ k_ ≠ gB2) (.slice Ao9 l0.length co9) l0) := ⟨h2_⟩
          have n3_ : Fc (Kd.R (Kd.int .i64) 3 w35 w0.heap.size (fun k_ => (P0_ k_ ∨ w.heap.size ≤ k_) ∧ some k_ ≠ (v384 : Value).ownBlock ∧ some k_ ≠ (v387 : Value).ownBlock ∧ k_ ≠ gB2) (.slice Ao9 l0.length co9) l0) := ⟨h3_⟩
          have n4_ : Fc (w35.heap[gB1]? = some (.cells #[.int .i64 a1_0, .slice A1_1 l1_1.length c1_1] 26 (0, 0))) := ⟨h4_⟩
          have n5_ : Fc (w35.heap[gB2]? = some (.cells #[.int .i64 a2_0] 3 (0, 0))) := ⟨h5_⟩
          have n6_ : Fc (w35.heap[gB3]? = some (.cells #[.slice A3_0 l3_0.length c3_0] 24 (0, 0))) := ⟨h6_⟩
          have n7_ : Fc (w35.heap[gB4]? = some (.cells #[.func (.func 23) #[] #[.pointer (some ⟨gB1, 0, none⟩), .pointer (some ⟨gB2, 0, none⟩), .pointer (some ⟨gB3, 0, none⟩), .pointer (some ⟨gB4, 0, none⟩)]] 43 (0, 0))) := ⟨h7_⟩
          have n8_ : Fc (Kept w w35 (fun k_ => P0_ k_)) := ⟨h8_⟩
          have n9_ : Fc (Below w0.heap.size w0 w35) := ⟨h9_⟩
          clear HO_0
          clear HO_24
          clear BK377
          clear BK378
          clear BK379
          clear BK380
          clear HK
          clear HB
          clear h0_ h1_ h2_ h3_ h4_ h5_ h6_ h7_ h8_ h9_
          have HO385 := n0_
          have HO388 := n1_
          have HO_0 := n2_
          have HO_24 := n3_
          have BK377 := n4_
          have BK378 := n5_
          have BK379 := n6_
          have BK380 := n7_
          have HK := n8_
          have HB := n9_
          clear n0_ n1_ n2_ n3_ n4_ n5_ n6_ n7_ n8_ n9_
          have hHeld : w35.cell? ⟨gB4, 0, none⟩ = some (.func (.func 23) #[] #[.pointer (some ⟨gB1, 0, none⟩), .pointer (some ⟨gB2, 0, none⟩), .pointer (some ⟨gB3, 0, none⟩), .pointer (some ⟨gB4, 0, none⟩)]) := hS_
          obtain ⟨Ao37, co37, eo37⟩ := Kd.R_slice HO388.out
          (first | subst eo37 | (injection eo37 with f1_ f2_ f3_; have f4_ := f1_.symm; have f5_ := f3_.symm; clear f1_ f2_ f3_; subst f4_; subst f5_))
          refine norm_ (a' := ?_) ?_ ?_
          rotate_left
          ·simp only [putAll, Act.put, List.setIfInBounds_toArray, List.set_cons_zero, List.set_cons_succ]
           rfl
          refine oneW 5 (some 54) (bm 8 63) HT_ (fun K hK => ?_)
          refine Kd.R_append_rows_step (Kd.int .i64) (w0 := w0) w0.heap.size (by rfl) (.tmp 51) (.tmp 53) 24 3 (.int .i64 0) 8 rfl Tryd.underlying24 info3 rfl (by decide) (by omega) v384 t383 y386 _ _ _ (fun k_ => (P0_ k_ ∨ w.heap.size ≤ k_) ∧ some k_ ≠ (.slice Ao9 l0.length co9 : Value).ownBlock ∧ some k_ ≠ (.slice Ao9 l0.length co9 : Value).ownBlock ∧ some k_ ≠ (.slice Ao37 y386.length co37 : Value).ownBlock ∧ k_ ≠ gB2) (fun _ => False) rfl rfl ?aO ?aR (fun _ _ h => h) (fun _ h => h.elim) ?aF ?aB ?aS ?aL ?_
          (case aR => repeat (first | exact (Kd.R_reads' HO388.out).2.2 | (with_reducible refine Kd.C_alloc ?_ _) | (with_reducible refine Kd.C_drewN ?_ _) | (with_reducible refine Kd.C_drew ?_)))
          (case aB => exact (bel_g HB.out))
          (case aF => exact (fun k_ hk => ⟨(.inr (Nat.le_trans (by first | exact HK.out.1 | exact (show Kept w _ (fun k_ => P0_ k_) from by repeat (first | (with_reducible first | exact HK.out | apply Kept.alloc | apply Kept.drewN | apply Kept.drew | refine Kept.setCell ?_ (.inr GW377.out) _ | refine Kept.setCell ?_ (.inr GW378.out) _ | refine Kept.setCell ?_ (.inr GW379.out) _ | refine Kept.setCell ?_ (.inr GW380.out) _) | exact HK.out)).1) hk)), Kd.fresh' (Kd.R_lt (Kd.R_g HO_0.out)) k_ hk, Kd.fresh' (Kd.R_lt (Kd.R_g HO_24.out)) k_ hk, Kd.fresh' (Kd.R_lt (Kd.R_g HO388.out)) k_ hk, Kd.freshB (g := gB2) (o := .cells #[.int .i64 a2_0] 3 (0, 0)) (blk_g BK378.out) k_ hk⟩))
          (case aO => exact (Kd.R_g (Kd.R_mono HO385.out (fun _ hk => ⟨hk.1, ⟨hk.2.2.1, ⟨hk.2.2.2.1, ⟨hk.2.1, hk.2.2.2.2⟩⟩⟩⟩))))
          (case aS => exact (below_size (bel_g HB.out)))
          (case aL => have := LMc28.out; omega)
          intro v390 w36 ho hb hg hat
          rw [← Ny389.out] at ho
          replace HO_0 := mkA (Kd.R_after (ok := (fun k_ => (P0_ k_ ∨ w.heap.size ≤ k_) ∧ some k_ ≠ (.slice Ao37 y386.length co37 : Value).ownBlock ∧ k_ ≠ gB2)) (Kd.R_g (Kd.R_mono HO_0.out (fun _ hk => ⟨⟨hk.1, ⟨hk.2.2.1, hk.2.2.2⟩⟩, hk.2.1⟩))) hg hat)
          replace HO_24 := mkA (Kd.R_after (ok := (fun k_ => (P0_ k_ ∨ w.heap.size ≤ k_) ∧ some k_ ≠ (.slice Ao37 y386.length co37 : Value).ownBlock ∧ k_ ≠ gB2)) (Kd.R_g (Kd.R_mono HO_24.out (fun _ hk => ⟨⟨hk.1, ⟨hk.2.2.1, hk.2.2.2⟩⟩, hk.2.1⟩))) hg hat)
          replace BK377 := mkA (blk_grown (g := gB1) (o := .cells #[.int .i64 a1_0, .slice A1_1 l1_1.length c1_1] 26 (0, 0)) (blk_g BK377.out) hg (Kd.R_ne HO385.out BK377.out (by decide)))
          replace BK378 := mkA (blk_grown (g := gB2) (o := .cells #[.int .i64 a2_0] 3 (0, 0)) (blk_g BK378.out) hg (Kd.R_away HO385.out (fun _ hk => hk.2.2.2.2)))
          replace BK379 := mkA (blk_grown (g := gB3) (o := .cells #[.slice A3_0 l3_0.length c3_0] 24 (0, 0)) (blk_g BK379.out) hg (Kd.R_ne HO385.out BK379.out (by decide)))
          replace BK380 := mkA (blk_grown (g := gB4) (o := .cells #[.func (.func 23) #[] #[.pointer (some ⟨gB1, 0, none⟩), .pointer (some ⟨gB2, 0, none⟩), .pointer (some ⟨gB3, 0, none⟩), .pointer (some ⟨gB4, 0, none⟩)]] 43 (0, 0)) (blk_g BK380.out) hg (Kd.R_ne HO385.out BK380.out (by decide)))
          replace HO388 := mkA (Kd.R_after (ok := (fun k_ => (P0_ k_ ∨ w.heap.size ≤ k_) ∧ some k_ ≠ (.slice Ao9 l0.length co9 : Value).ownBlock ∧ some k_ ≠ (.slice Ao9 l0.length co9 : Value).ownBlock ∧ k_ ≠ gB2)) (Kd.R_g (Kd.R_mono HO388.out (fun _ hk => ⟨⟨hk.1, ⟨hk.2.2.1, ⟨hk.2.2.2.1, hk.2.2.2.2⟩⟩⟩, hk.2.1⟩))) hg hat)
          replace HK := mkA (Kept.of_grown (S := (fun k_ => P0_ k_)) hg (by repeat (first | (with_reducible first | exact HK.out | apply Kept.alloc | apply Kept.drewN | apply Kept.drew | refine Kept.setCell ?_ (.inr GW377.out) _ | refine Kept.setCell ?_ (.inr GW378.out) _ | refine Kept.setCell ?_ (.inr GW379.out) _ | refine Kept.setCell ?_ (.inr GW380.out) _) | exact HK.out)) (fun k_ e_ => (HO385.out.1 k_ e_).1))
          have HO391 := mkA (ho)
          replace HB := mkA (hb)
          clear HO385
          clear ho hb hg hat
          obtain ⟨Ao38, co38, eo38⟩ := Kd.R_slice HO391.out
          (first | subst eo38 | (injection eo38 with f1_ f2_ f3_; have f4_ := f1_.symm; have f5_ := f3_.symm; clear f1_ f2_ f3_; subst f4_; subst f5_))
          refine hK.out _ _ ((blk_cell BK380.out 0).trans rfl) (fun hHeld => ?_)
          clear hK K
          refine normW 54 ?_
          refine oneW 6 (some 55) (bm 8 127) HT_ (fun K hK => ?_)
          refine impl_ChainNumbers_1.goesv_ (fun args_ W_ => enters_ Tryd.func23 (by kernel_rfl) rfl args_ W_) #[.slice Ao38 y389.length co38, .pointer (some ⟨gB1, 0, none⟩), .pointer (some ⟨gB2, 0, none⟩), .pointer (some ⟨gB3, 0, none⟩), .pointer (some ⟨gB4, 0, none⟩)] (by rfl) rfl rfl (by rfl) (by (try simp only [List.map_toArray, List.map_cons, List.map_nil]); first | done | rfl | (simp only [List.length_drop, List.length_take]; rfl)) ?_
          with_reducible refine (ih k2 (by have := HK1.out; have := HK2.out; omega) (fun k_ => some k_ = (.slice Ao38 y389.length co38 : Value).ownBlock) (.slice Ao38 y389.length co38) y389 gB1 a1_0 A1_1 c1_1 l1_1 gB2 a2_0 gB3 A3_0 c3_0 l3_0 gB4 t392 w0 _ ?s1 ?s2 ?s3 ?s4 ?s5 ?s6 ?s7 ?s8 ?s9 ?s10 ?s11 A29.out).mono ?_
          (case s1 => exact bel_g HB.out)
          (case s2 => exact Kd.R_tight rfl HO391.out)
          (case s3 => exact fun k_ e_ => (HO391.out.1 k_ e_.symm).2.2.2.2)
          (case s4 => exact (show _ = some (Obj.cells #[.int .i64 a1_0, .slice A1_1 l1_1.length c1_1] 26 (0, 0)) from blkT BK377))
          (case s5 => exact Kd.C_kept_call HR1_1.out (by repeat (first | (with_reducible first | exact HK.out | apply Kept.alloc | apply Kept.drewN | apply Kept.drew | refine Kept.setCell ?_ (.inr GW377.out) _ | refine Kept.setCell ?_ (.inr GW378.out) _ | refine Kept.setCell ?_ (.inr GW379.out) _ | refine Kept.setCell ?_ (.inr GW380.out) _) | exact HK.out)) (fun k_ hs_ => (fun e_ => (HO391.out.1 k_ e_.symm).1) hs_))
          (case s6 => exact HC1_1.out)
          (case s7 => exact (show _ = some (Obj.cells #[.int .i64 a2_0] 3 (0, 0)) from blkT BK378))
          (case s8 => exact (show _ = some (Obj.cells #[.slice A3_0 l3_0.length c3_0] 24 (0, 0)) from blkT BK379))
          (case s9 => exact Kd.C_kept_call HR3_0.out (by repeat (first | (with_reducible first | exact HK.out | apply Kept.alloc | apply Kept.drewN | apply Kept.drew | refine Kept.setCell ?_ (.inr GW377.out) _ | refine Kept.setCell ?_ (.inr GW378.out) _ | refine Kept.setCell ?_ (.inr GW379.out) _ | refine Kept.setCell ?_ (.inr GW380.out) _) | exact HK.out)) (fun k_ hs_ => (fun e_ => (HO391.out.1 k_ e_.symm).1) hs_))
          (case s10 => exact HC3_0.out)
          (case s11 => exact (show _ = some (Obj.cells #[.func (.func 23) #[] #[.pointer (some ⟨gB1, 0, none⟩), .pointer (some ⟨gB2, 0, none⟩), .pointer (some ⟨gB3, 0, none⟩), .pointer (some ⟨gB4, 0, none⟩)]] 43 (0, 0)) from blkT BK380))
          rintro e w39 ⟨v393, rfl, ho0, hb, hkp, hnx⟩
          refine ⟨_, rfl, ?_⟩
          replace BK377 := mkA (blk_kept (blk_g BK377.out) hkp (fun hs_ => (fun e_ => (Kd.R_ne HO391.out BK377.out (by decide)) e_) hs_))
          replace BK379 := mkA (blk_kept (blk_g BK379.out) hkp (fun hs_ => (fun e_ => (Kd.R_ne HO391.out BK379.out (by decide)) e_) hs_))
          replace BK380 := mkA (blk_kept (blk_g BK380.out) hkp (fun hs_ => (fun e_ => (Kd.R_ne HO391.out BK380.out (by decide)) e_) hs_))
          have HO394 := mkA (Kd.R_mono (ok' := fun k_ => (P0_ k_ ∨ w.heap.size ≤ k_) ∧ some k_ ≠ (.slice Ao9 l0.length co9 : Value).ownBlock ∧ some k_ ≠ (.slice Ao9 l0.length co9 : Value).ownBlock ∧ some k_ ≠ (.slice Ao37 y386.length co37 : Value).ownBlock ∧ k_ ≠ gB2) ho0 (fun k_ hk_ => ⟨Or.elim hk_ (fun hs_ => (HO391.out.1 k_ (hs_).symm).1) (fun hn_ => (.inr (Nat.le_trans (by first | exact HK.out.1 | exact (show Kept w _ (fun k_ => P0_ k_) from by repeat (first | (with_reducible first | exact HK.out | apply Kept.alloc | apply Kept.drewN | apply Kept.drew | refine Kept.setCell ?_ (.inr GW377.out) _ | refine Kept.setCell ?_ (.inr GW378.out) _ | refine Kept.setCell ?_ (.inr GW379.out) _ | refine Kept.setCell ?_ (.inr GW380.out) _) | exact HK.out)).1) hn_))), Or.elim hk_ (fun hs_ => fun e_ => (((HO_0.out).1 k_ e_.symm).2) hs_) (fun hn_ => (Kd.fresh' (Kd.R_lt (Kd.R_g HO_0.out)) k_ hn_)), Or.elim hk_ (fun hs_ => fun e_ => (((HO_24.out).1 k_ e_.symm).2) hs_) (fun hn_ => (Kd.fresh' (Kd.R_lt (Kd.R_g HO_24.out)) k_ hn_)), Or.elim hk_ (fun hs_ => fun e_ => (((HO388.out).1 k_ e_.symm).2) hs_) (fun hn_ => (Kd.fresh' (Kd.R_lt (Kd.R_g HO388.out)) k_ hn_)), Or.elim hk_ (fun hs_ => fun e_ => (Kd.R_away HO391.out (fun _ hk => hk.2.2.2.2)) (by rw [← e_]; exact hs_)) (fun hn_ => (Kd.freshB (g := gB2) (o := .cells #[.int .i64 a2_0] 3 (0, 0)) (blk_g BK378.out) k_ hn_))⟩))
          replace HO_0 := mkA (Kd.R_mono (ok' := fun k_ => (P0_ k_ ∨ w.heap.size ≤ k_) ∧ some k_ ≠ (.slice Ao37 y386.length co37 : Value).ownBlock ∧ k_ ≠ gB2 ∧ some k_ ≠ (v393 : Value).ownBlock) (Kd.R_keptB (HO_0.out) hkp (fun k_ hk_ hs_ => (hk_.2) hs_)) (fun k_ hk_ => ⟨hk_.1.1.1, hk_.1.1.2.1, hk_.1.1.2.2, fun e_ => Or.elim (ho0.1 k_ e_.symm) (fun hs_ => hk_.2.1 hs_) (fun hn_ => Nat.not_le.2 hk_.2.2 hn_)⟩))
          replace HO_24 := mkA (Kd.R_mono (ok' := fun k_ => (P0_ k_ ∨ w.heap.size ≤ k_) ∧ some k_ ≠ (.slice Ao37 y386.length co37 : Value).ownBlock ∧ k_ ≠ gB2 ∧ some k_ ≠ (v393 : Value).ownBlock) (Kd.R_keptB (HO_24.out) hkp (fun k_ hk_ hs_ => (hk_.2) hs_)) (fun k_ hk_ => ⟨hk_.1.1.1, hk_.1.1.2.1, hk_.1.1.2.2, fun e_ => Or.elim (ho0.1 k_ e_.symm) (fun hs_ => hk_.2.1 hs_) (fun hn_ => Nat.not_le.2 hk_.2.2 hn_)⟩))
          replace BK378 := mkA (blk_kept (blk_g BK378.out) hkp (fun hs_ => (fun e_ => (Kd.R_away HO391.out (fun _ hk => hk.2.2.2.2)) e_) hs_))
          replace HO388 := mkA (Kd.R_mono (ok' := fun k_ => (P0_ k_ ∨ w.heap.size ≤ k_) ∧ some k_ ≠ (.slice Ao9 l0.length co9 : Value).ownBlock ∧ some k_ ≠ (.slice Ao9 l0.length co9 : Value).ownBlock ∧ k_ ≠ gB2 ∧ some k_ ≠ (v393 : Value).ownBlock) (Kd.R_keptB (HO388.out) hkp (fun k_ hk_ hs_ => (hk_.2) hs_)) (fun k_ hk_ => ⟨hk_.1.1.1, hk_.1.1.2.1, hk_.1.1.2.2.1, hk_.1.1.2.2.2, fun e_ => Or.elim (ho0.1 k_ e_.symm) (fun hs_ => hk_.2.1 hs_) (fun hn_ => Nat.not_le.2 hk_.2.2 hn_)⟩))
          replace HK := mkA (Kept.then_ (S := (fun k_ => P0_ k_)) (by repeat (first | (with_reducible first | exact HK.out | apply Kept.alloc | apply Kept.drewN | apply Kept.drew | refine Kept.setCell ?_ (.inr GW377.out) _ | refine Kept.setCell ?_ (.inr GW378.out) _ | refine Kept.setCell ?_ (.inr GW379.out) _ | refine Kept.setCell ?_ (.inr GW380.out) _) | exact HK.out)) hkp (fun k_ hs_ => (fun e_ => (HO391.out.1 k_ e_.symm).1) hs_))
          replace HB := mkA (hb)
          clear HO391
          have NL_HO394 := mkA (fun (h_ : t392 = []) => (hnx.2 h_).resolve_right (fun h2_ => by have h3_ := h2_.2; first | (simp at h3_; done) | (rw [Ny389.out] at h3_; simp at h3_; done) | (rw [Ny389.out] at h3_; simp [Ny386.out] at h3_; done)))
          clear hnx
          (try clear hb)
          (try clear hkp)
          (try clear ho0)
          refine hK.out _ _ ((blk_cell BK380.out 0).trans rfl) (fun hHeld => ?_)
          clear hK K
          refine normW 55 ?_
          refine purW 7 12 8 255 HT_ ?_
          refine doneW HT_ ?_
          obtain ⟨Ao40, co40, rfl⟩ := Kd.R_slice HO394.out
          have nq41 := fun (W_ : World) => impl_ChainNumbers_1.nilNeq_ (P := Tryd.prog) W_ (t := 24) (e := 3) (c := co40) Tryd.underlying24 NL_HO394.out (fun h_ => Kd.R_form HO394.out h_)
          try go_wp2
          go_roundg k2
          case measure => have := HK1.out; have := HK2.out; omega
          case rel => exact ⟨(wrap64 (x21_1 + 1)), eqS, H', ⟨by have := HK1.out; have := HK2.out; omega⟩, ⟨Kd.R_g (Kd.R_mono HO_0.out (fun _ hk => ⟨hk.1, hk.2.2.1⟩))⟩, bg BK377, bg BK378, bg BK379, bg BK380, ⟨by repeat (first | (with_reducible first | exact HK.out | apply Kept.alloc | apply Kept.drewN | apply Kept.drew | refine Kept.setCell ?_ (.inr GW377.out) _ | refine Kept.setCell ?_ (.inr GW378.out) _ | refine Kept.setCell ?_ (.inr GW379.out) _ | refine Kept.setCell ?_ (.inr GW380.out) _) | exact HK.out)⟩, hbg HB⟩
         ·have c30b0 := beq_eq_false_iff_ne.mpr c30
          have c30b1 := bne_iff_ne.mpr c30
          obtain rfl := Option.some.inj H
          try go_wp2
          replace HO_0 := mkA (Kd.R_drew HO_0.out)
          replace HO_24 := mkA (Kd.R_drew HO_24.out)
          replace BK377 := mkA (blk_drew BK377.out)
          replace BK378 := mkA (blk_drew BK378.out)
          replace BK379 := mkA (blk_drew BK379.out)
          replace BK380 := mkA (blk_drew BK380.out)
          replace HK := mkA (Kept.drew HK.out)
          replace HB := mkA (below_drew1 HB.out)
          refine start_ (n := 8) (S := fun w' => w'.cell? ⟨gB4, 0, none⟩ = some (.func (.func 23) #[] #[.pointer (some ⟨gB1, 0, none⟩), .pointer (some ⟨gB2, 0, none⟩), .pointer (some ⟨gB3, 0, none⟩), .pointer (some ⟨gB4, 0, none⟩)])) (ds := []) (bm 8 0) (by kernel_rfl) rfl (by kernel_rfl) ((blk_cell BK380.out 0).trans rfl) (fun hHeld => ?_); refine with_tabW impl_ChainNumbers_1.tab14 impl_ChainNumbers_1.bits14 (fun HT_ HW_ => ?_)
          generalize wr.drew = w42 at HO_0 HO_24 BK377 BK378 BK379 BK380 HK HB hHeld ⊢
          refine purW 1 50 8 2 HT_ ?_
          refine purW 3 52 8 10 HT_ ?_
          refine takeW 0 (some 49) (bm 8 11) HT_ HW_ hHeld ?_
          refine join_ (σ := Value × Value) 3 (bm 8 31) (fun s_ => [(51, s_.1), (53, s_.2)]) (fun s_ w' => (w'.cell? ⟨gB4, 0, none⟩ = some (.func (.func 23) #[] #[.pointer (some ⟨gB1, 0, none⟩), .pointer (some ⟨gB2, 0, none⟩), .pointer (some ⟨gB3, 0, none⟩), .pointer (some ⟨gB4, 0, none⟩)])) ∧ (Kd.R (Kd.int .i64) 3 w' w0.heap.size (fun k_ => (P0_ k_ ∨ w.heap.size ≤ k_) ∧ some k_ ≠ (s_.2 : Value).ownBlock ∧ some k_ ≠ (.slice Ao9 l0.length co9 : Value).ownBlock ∧ some k_ ≠ (.slice Ao9 l0.length co9 : Value).ownBlock ∧ k_ ≠ gB2) s_.1 t383) ∧ (Kd.R (Kd.int .i64) 3 w' w0.heap.size (fun k_ => (P0_ k_ ∨ w.heap.size ≤ k_) ∧ some k_ ≠ (s_.1 : Value).ownBlock ∧ some k_ ≠ (.slice Ao9 l0.length co9 : Value).ownBlock ∧ some k_ ≠ (.slice Ao9 l0.length co9 : Value).ownBlock ∧ k_ ≠ gB2) s_.2 y386) ∧ (Kd.R (Kd.int .i64) 3 w' w0.heap.size (fun k_ => (P0_ k_ ∨ w.heap.size ≤ k_) ∧ some k_ ≠ (s_.1 : Value).ownBlock ∧ some k_ ≠ (s_.2 : Value).ownBlock ∧ k_ ≠ gB2) (.slice Ao9 l0.length co9) l0) ∧ (Kd.R (Kd.int .i64) 3 w' w0.heap.size (fun k_ => (P0_ k_ ∨ w.heap.size ≤ k_) ∧ some k_ ≠ (s_.1 : Value).ownBlock ∧ some k_ ≠ (s_.2 : Value).ownBlock ∧ k_ ≠ gB2) (.slice Ao9 l0.length co9) l0) ∧ (w'.heap[gB1]? = some (.cells #[.int .i64 a1_0, .slice A1_1 l1_1.length c1_1] 26 (0, 0))) ∧ (w'.heap[gB2]? = some (.cells #[.int .i64 a2_0] 3 (0, 0))) ∧ (w'.heap[gB3]? = some (.cells #[.slice A3_0 l3_0.length c3_0] 24 (0, 0))) ∧ (w'.heap[gB4]? = some (.cells #[.func (.func 23) #[] #[.pointer (some ⟨gB1, 0, none⟩), .pointer (some ⟨gB2, 0, none⟩), .pointer (some ⟨gB3, 0, none⟩), .pointer (some ⟨gB4, 0, none⟩)]] 43 (0, 0))) ∧ (Kept w w' (fun k_ => P0_ k_)) ∧ (Below w0.heap.size w0 w')) ?_ ?_
          rotate_left
          ·intro hCont
           refine two_ (i := 2) (j := 4) (Ni := some 51) (Nj := some 53) (bm 8 15) (bm 8 27) rfl rfl rfl rfl (two_of HT_.out (by kernel_rfl)) (by decide) (by decide) (fun K hK => ?_) (fun K hK => ?_)
           ·skip
            refine goesR Tryd.func24 #[.slice Ao9 l0.length co9] ?_
            with_reducible refine (slices_Clone_int_int.calls _ _ l0 t383 _ ?s1 ?s2 A27.out).mono ?_
            (case s1 => exact rC HO_0)
            (case s2 => exact rL HO_0)
            rintro e w43 ⟨v384, rfl, ho0, hb⟩
            refine ⟨_, rfl, ?_⟩
            have HO385 := rLo (Kd.R_newB (rN (rN (Kd.R_newM (M := fun k_ => (P0_ k_ ∨ w.heap.size ≤ k_)) ho0 (by first | exact HK.out.1 | exact (show Kept w _ (fun k_ => P0_ k_) from by repeat (first | (with_reducible first | exact HK.out | apply Kept.alloc | apply Kept.drewN | apply Kept.drew | refine Kept.setCell ?_ (.inr GW377.out) _ | refine Kept.setCell ?_ (.inr GW378.out) _ | refine Kept.setCell ?_ (.inr GW379.out) _ | refine Kept.setCell ?_ (.inr GW380.out) _) | exact HK.out)).1) (fun k_ h_ => .inr h_)) HO_0) HO_24) (g := gB2) (o := .cells #[.int .i64 a2_0] 3 (0, 0)) (blk_g BK378.out)) HB
            replace HO_0 := rE HO_0 ho0 hb
            replace HO_24 := rE HO_24 ho0 hb
            replace BK377 := blkB BK377 hb
            replace BK378 := blkB BK378 hb
            replace BK379 := blkB BK379 hb
            replace BK380 := blkB BK380 hb
            replace HK := mkA (Kept.below (S := (fun k_ => P0_ k_)) (by repeat (first | (with_reducible first | exact HK.out | apply Kept.alloc | apply Kept.drewN | apply Kept.drew | refine Kept.setCell ?_ (.inr GW377.out) _ | refine Kept.setCell ?_ (.inr GW378.out) _ | refine Kept.setCell ?_ (.inr GW379.out) _ | refine Kept.setCell ?_ (.inr GW380.out) _) | exact HK.out)) hb)
            replace HB := bst HB hb
            (try clear hb)
            (try clear hb2)
            (try clear hk)
            (try clear hi)
            (try clear ho0)
            refine hK.out _ _ ((blk_cell BK380.out 0).trans rfl) (fun hHeld => ?_)
            clear hK K
            refine normW 51 ?_
            refine oneW 4 (some 53) (bm 8 31) HT_ (fun K hK => ?_)
            refine Kd.R_lit_step (Kd.int .i64) _ 3 ?hg (N := 53) ?hd (xs := ([x21_1] : List Int)) (inner := [.int .i64 x21_1]) (ok := fun _ => True) (okp := fun _ => True) ?hr ?hp (fun _ hk => hk) trivial (Below.refl _ _) (Nat.le_refl _) (by simp) ?_; (case hd => rfl); (case hg => rfl); (case hr => first | (go_simp; done) | (go_simp; rfl)); (case hp => exact (Reps.one (show Kd.M (Kd.int .i64) _ _ _ x21_1 [.int .i64 x21_1] from rfl) (Reps.none _ _)))
            intro v387 w44 ho45 hb hg_ hnew_
            clear hg_ hnew_
            (first | rw [← Ny386.out] at ho45 | (simp only [Int.reduceToNat] at ho45; rw [← Ny386.out] at ho45))
            have HO388 := rLo (Kd.R_newB (rN (rN (rN (Kd.R_newM (M := fun k_ => (P0_ k_ ∨ w.heap.size ≤ k_)) ho45 (by first | exact HK.out.1 | exact (show Kept w _ (fun k_ => P0_ k_) from by repeat (first | (with_reducible first | exact HK.out | apply Kept.alloc | apply Kept.drewN | apply Kept.drew | refine Kept.setCell ?_ (.inr GW377.out) _ | refine Kept.setCell ?_ (.inr GW378.out) _ | refine Kept.setCell ?_ (.inr GW379.out) _ | refine Kept.setCell ?_ (.inr GW380.out) _) | exact HK.out)).1) (fun k_ h_ => .inr h_)) HO_0) HO_24) HO385) (g := gB2) (o := .cells #[.int .i64 a2_0] 3 (0, 0)) (blk_g BK378.out)) HB
            replace HO_0 := rE HO_0 ho45 hb
            replace HO_24 := rE HO_24 ho45 hb
            replace HO385 := rE HO385 ho45 hb
            replace BK377 := blkB BK377 hb
            replace BK378 := blkB BK378 hb
            replace BK379 := blkB BK379 hb
            replace BK380 := blkB BK380 hb
            replace HK := mkA (Kept.below (S := (fun k_ => P0_ k_)) (by repeat (first | (with_reducible first | exact HK.out | apply Kept.alloc | apply Kept.drewN | apply Kept.drew | refine Kept.setCell ?_ (.inr GW377.out) _ | refine Kept.setCell ?_ (.inr GW378.out) _ | refine Kept.setCell ?_ (.inr GW379.out) _ | refine Kept.setCell ?_ (.inr GW380.out) _) | exact HK.out)) hb)
            replace HB := bst HB hb
            clear hb ho45
            refine hK.out _ _ ((blk_cell BK380.out 0).trans rfl) (fun hHeld => ?_)
            clear hK K
            refine normW 53 ?_
            exact norm_ (by simp only [putAll, Act.put, List.setIfInBounds_toArray, List.set_cons_zero, List.set_cons_succ]) (hCont (v384, v387) _ ⟨hHeld, (Kd.R_g (Kd.R_mono HO385.out (fun _ hk => ⟨hk.1.1.1.1.1, ⟨hk.2, ⟨hk.1.1.1.2, ⟨hk.1.1.2, hk.1.2⟩⟩⟩⟩))), (Kd.R_g (Kd.R_mono HO388.out (fun _ hk => ⟨hk.1.1.1.1.1, ⟨hk.1.2, ⟨hk.1.1.1.2, ⟨hk.1.1.2, hk.2⟩⟩⟩⟩))), (Kd.R_g (Kd.R_mono HO_0.out (fun _ hk => ⟨hk.1.1.1, ⟨hk.1.2, ⟨hk.2, hk.1.1.2⟩⟩⟩))), (Kd.R_g (Kd.R_mono HO_24.out (fun _ hk => ⟨hk.1.1.1, ⟨hk.1.2, ⟨hk.2, hk.1.1.2⟩⟩⟩))), (blk_g BK377.out), (blk_g BK378.out), (blk_g BK379.out), (blk_g BK380.out), (by repeat (first | (with_reducible first | exact HK.out | apply Kept.alloc | apply Kept.drewN | apply Kept.drew | refine Kept.setCell ?_ (.inr GW377.out) _ | refine Kept.setCell ?_ (.inr GW378.out) _ | refine Kept.setCell ?_ (.inr GW379.out) _ | refine Kept.setCell ?_ (.inr GW380.out) _) | exact HK.out)), (bel_g HB.out)⟩)
           ·skip
            refine Kd.R_lit_step (Kd.int .i64) _ 3 ?hg (N := 53) ?hd (xs := ([x21_1] : List Int)) (inner := [.int .i64 x21_1]) (ok := fun _ => True) (okp := fun _ => True) ?hr ?hp (fun _ hk => hk) trivial (Below.refl _ _) (Nat.le_refl _) (by simp) ?_; (case hd => rfl); (case hg => rfl); (case hr => first | (go_simp; done) | (go_simp; rfl)); (case hp => exact (Reps.one (show Kd.M (Kd.int .i64) _ _ _ x21_1 [.int .i64 x21_1] from rfl) (Reps.none _ _)))
            intro v387 w43 ho44 hb hg_ hnew_
            clear hg_ hnew_
            (first | rw [← Ny386.out] at ho44 | (simp only [Int.reduceToNat] at ho44; rw [← Ny386.out] at ho44))
            have HO388 := rLo (Kd.R_newB (rN (rN (Kd.R_newM (M := fun k_ => (P0_ k_ ∨ w.heap.size ≤ k_)) ho44 (by first | exact HK.out.1 | exact (show Kept w _ (fun k_ => P0_ k_) from by repeat (first | (with_reducible first | exact HK.out | apply Kept.alloc | apply Kept.drewN | apply Kept.drew | refine Kept.setCell ?_ (.inr GW377.out) _ | refine Kept.setCell ?_ (.inr GW378.out) _ | refine Kept.setCell ?_ (.inr GW379.out) _ | refine Kept.setCell ?_ (.inr GW380.out) _) | exact HK.out)).1) (fun k_ h_ => .inr h_)) HO_0) HO_24) (g := gB2) (o := .cells #[.int .i64 a2_0] 3 (0, 0)) (blk_g BK378.out)) HB
            replace HO_0 := rE HO_0 ho44 hb
            replace HO_24 := rE HO_24 ho44 hb
            replace BK377 := blkB BK377 hb
            replace BK378 := blkB BK378 hb
            replace BK379 := blkB BK379 hb
            replace BK380 := blkB BK380 hb
            replace HK := mkA (Kept.below (S := (fun k_ => P0_ k_)) (by repeat (first | (with_reducible first | exact HK.out | apply Kept.alloc | apply Kept.drewN | apply Kept.drew | refine Kept.setCell ?_ (.inr GW377.out) _ | refine Kept.setCell ?_ (.inr GW378.out) _ | refine Kept.setCell ?_ (.inr GW379.out) _ | refine Kept.setCell ?_ (.inr GW380.out) _) | exact HK.out)) hb)
            replace HB := bst HB hb
            clear hb ho44
            refine hK.out _ _ ((blk_cell BK380.out 0).trans rfl) (fun hHeld => ?_)
            clear hK K
            refine normW 53 ?_
            refine oneW 2 (some 51) (bm 8 31) HT_ (fun K hK => ?_)
            refine goesR Tryd.func24 #[.slice Ao9 l0.length co9] ?_
            with_reducible refine (slices_Clone_int_int.calls _ _ l0 t383 _ ?s1 ?s2 A27.out).mono ?_
            (case s1 => exact rC HO_0)
            (case s2 => exact rL HO_0)
            rintro e w45 ⟨v384, rfl, ho0, hb⟩
            refine ⟨_, rfl, ?_⟩
            have HO385 := rLo (Kd.R_newB (rN (rN (rN (Kd.R_newM (M := fun k_ => (P0_ k_ ∨ w.heap.size ≤ k_)) ho0 (by first | exact HK.out.1 | exact (show Kept w _ (fun k_ => P0_ k_) from by repeat (first | (with_reducible first | exact HK.out | apply Kept.alloc | apply Kept.drewN | apply Kept.drew | refine Kept.setCell ?_ (.inr GW377.out) _ | refine Kept.setCell ?_ (.inr GW378.out) _ | refine Kept.setCell ?_ (.inr GW379.out) _ | refine Kept.setCell ?_ (.inr GW380.out) _) | exact HK.out)).1) (fun k_ h_ => .inr h_)) HO_0) HO_24) HO388) (g := gB2) (o := .cells #[.int .i64 a2_0] 3 (0, 0)) (blk_g BK378.out)) HB
            replace HO_0 := rE HO_0 ho0 hb
            replace HO_24 := rE HO_24 ho0 hb
            replace HO388 := rE HO388 ho0 hb
            replace BK377 := blkB BK377 hb
            replace BK378 := blkB BK378 hb
            replace BK379 := blkB BK379 hb
            replace BK380 := blkB BK380 hb
            replace HK := mkA (Kept.below (S := (fun k_ => P0_ k_)) (by repeat (first | (with_reducible first | exact HK.out | apply Kept.alloc | apply Kept.drewN | apply Kept.drew | refine Kept.setCell ?_ (.inr GW377.out) _ | refine Kept.setCell ?_ (.inr GW378.out) _ | refine Kept.setCell ?_ (.inr GW379.out) _ | refine Kept.setCell ?_ (.inr GW380.out) _) | exact HK.out)) hb)
            replace HB := bst HB hb
            (try clear hb)
            (try clear hb2)
            (try clear hk)
            (try clear hi)
            (try clear ho0)
            refine hK.out _ _ ((blk_cell BK380.out 0).trans rfl) (fun hHeld => ?_)
            clear hK K
            refine normW 51 ?_
            exact norm_ (by simp only [putAll, Act.put, List.setIfInBounds_toArray, List.set_cons_zero, List.set_cons_succ]) (hCont (v384, v387) _ ⟨hHeld, (Kd.R_g (Kd.R_mono HO385.out (fun _ hk => ⟨hk.1.1.1.1.1, ⟨hk.1.2, ⟨hk.1.1.1.2, ⟨hk.1.1.2, hk.2⟩⟩⟩⟩))), (Kd.R_g (Kd.R_mono HO388.out (fun _ hk => ⟨hk.1.1.1.1.1, ⟨hk.2, ⟨hk.1.1.1.2, ⟨hk.1.1.2, hk.1.2⟩⟩⟩⟩))), (Kd.R_g (Kd.R_mono HO_0.out (fun _ hk => ⟨hk.1.1.1, ⟨hk.2, ⟨hk.1.2, hk.1.1.2⟩⟩⟩))), (Kd.R_g (Kd.R_mono HO_24.out (fun _ hk => ⟨hk.1.1.1, ⟨hk.2, ⟨hk.1.2, hk.1.1.2⟩⟩⟩))), (blk_g BK377.out), (blk_g BK378.out), (blk_g BK379.out), (blk_g BK380.out), (by repeat (first | (with_reducible first | exact HK.out | apply Kept.alloc | apply Kept.drewN | apply Kept.drew | refine Kept.setCell ?_ (.inr GW377.out) _ | refine Kept.setCell ?_ (.inr GW378.out) _ | refine Kept.setCell ?_ (.inr GW379.out) _ | refine Kept.setCell ?_ (.inr GW380.out) _) | exact HK.out)), (bel_g HB.out)⟩)
          rintro ⟨v384, v387⟩ w46 ⟨hS_, h0_, h1_, h2_, h3_, h4_, h5_, h6_, h7_, h8_, h9_⟩
          have n0_ : Fc (Kd.R (Kd.int .i64) 3 w46 w0.heap.size (fun k_ => (P0_ k_ ∨ w.heap.size ≤ k_) ∧ some k_ ≠ (v387 : Value).ownBlock ∧ some k_ ≠ (.slice Ao9 l0.length co9 : Value).ownBlock ∧ some k_ ≠ (.slice Ao9 l0.length co9 : Value).ownBlock ∧ k_ ≠ gB2) v384 t383) := ⟨h0_⟩
          have n1_ : Fc (Kd.R (Kd.int .i64) 3 w46 w0.heap.size (fun k_ => (P0_ k_ ∨ w.heap.size ≤ k_) ∧ some k_ ≠ (v384 : Value).ownBlock ∧ some k_ ≠ (.slice Ao9 l0.length co9 : Value).ownBlock ∧ some k_ ≠ (.slice Ao9 l0.length co9 : Value).ownBlock ∧ k_ ≠ gB2) v387 y386) := ⟨h1_⟩
          have n2_ : Fc (Kd.R (Kd.int .i64) 3 w46 w0.heap.size (fun k_ => (P0_ k_ ∨ w.heap.size ≤ k_) ∧ some k_ ≠ (v384 : Value).ownBlock ∧ some k_ ≠ (v387 : Value).ownBlock ∧ k_ ≠ gB2) (.slice Ao9 l0.length co9) l0) := ⟨h2_⟩
          have n3_ : Fc (Kd.R (Kd.int .i64) 3 w46 w0.heap.size (fun k_ => (P0_ k_ ∨ w.heap.size ≤ k_) ∧ some k_ ≠ (v384 : Value).ownBlock ∧ some k_ ≠ (v387 : Value).ownBlock ∧ k_ ≠ gB2) (.slice Ao9 l0.length co9) l0) := ⟨h3_⟩
          have n4_ : Fc (w46.heap[gB1]? = some (.cells #[.int .i64 a1_0, .slice A1_1 l1_1.length c1_1] 26 (0, 0))) := ⟨h4_⟩
          have n5_ : Fc (w46.heap[gB2]? = some (.cells #[.int .i64 a2_0] 3 (0, 0))) := ⟨h5_⟩
          have n6_ : Fc (w46.heap[gB3]? = some (.cells #[.slice A3_0 l3_0.length c3_0] 24 (0, 0))) := ⟨h6_⟩
          have n7_ : Fc (w46.heap[gB4]? = some (.cells #[.func (.func 23) #[] #[.pointer (some ⟨gB1, 0, none⟩), .pointer (some ⟨gB2, 0, none⟩), .pointer (some ⟨gB3, 0, none⟩), .pointer (some ⟨gB4, 0, none⟩)]] 43 (0, 0))) := ⟨h7_⟩
          have n8_ : Fc (Kept w w46 (fun k_ => P0_ k_)) := ⟨h8_⟩
          have n9_ : Fc (Below w0.heap.size w0 w46) := ⟨h9_⟩
          clear HO_0
          clear HO_24
          clear BK377
          clear BK378
          clear BK379
          clear BK380
          clear HK
          clear HB
          clear h0_ h1_ h2_ h3_ h4_ h5_ h6_ h7_ h8_ h9_
          have HO385 := n0_
          have HO388 := n1_
          have HO_0 := n2_
          have HO_24 := n3_
          have BK377 := n4_
          have BK378 := n5_
          have BK379 := n6_
          have BK380 := n7_
          have HK := n8_
          have HB := n9_
          clear n0_ n1_ n2_ n3_ n4_ n5_ n6_ n7_ n8_ n9_
          have hHeld : w46.cell? ⟨gB4, 0, none⟩ = some (.func (.func 23) #[] #[.pointer (some ⟨gB1, 0, none⟩), .pointer (some ⟨gB2, 0, none⟩), .pointer (some ⟨gB3, 0, none⟩), .pointer (some ⟨gB4, 0, none⟩)]) := hS_
          obtain ⟨Ao48, co48, eo48⟩ := Kd.R_slice HO388.out
          (first | subst eo48 | (injection eo48 with f1_ f2_ f3_; have f4_ := f1_.symm; have f5_ := f3_.symm; clear f1_ f2_ f3_; subst f4_; subst f5_))
          refine norm_ (a' := ?_) ?_ ?_
          rotate_left
          ·simp only [putAll, Act.put, List.setIfInBounds_toArray, List.set_cons_zero, List.set_cons_succ]
           rfl
          refine oneW 5 (some 54) (bm 8 63) HT_ (fun K hK => ?_)
          refine Kd.R_append_rows_step (Kd.int .i64) (w0 := w0) w0.heap.size (by rfl) (.tmp 51) (.tmp 53) 24 3 (.int .i64 0) 8 rfl Tryd.underlying24 info3 rfl (by decide) (by omega) v384 t383 y386 _ _ _ (fun k_ => (P0_ k_ ∨ w.heap.size ≤ k_) ∧ some k_ ≠ (.slice Ao9 l0.length co9 : Value).ownBlock ∧ some k_ ≠ (.slice Ao9 l0.length co9 : Value).ownBlock ∧ some k_ ≠ (.slice Ao48 y386.length co48 : Value).ownBlock ∧ k_ ≠ gB2) (fun _ => False) rfl rfl ?aO ?aR (fun _ _ h => h) (fun _ h => h.elim) ?aF ?aB ?aS ?aL ?_
          (case aR => repeat (first | exact (Kd.R_reads' HO388.out).2.2 | (with_reducible refine Kd.C_alloc ?_ _) | (with_reducible refine Kd.C_drewN ?_ _) | (with_reducible refine Kd.C_drew ?_)))
          (case aB => exact (bel_g HB.out))
          (case aF => exact (fun k_ hk => ⟨(.inr (Nat.le_trans (by first | exact HK.out.1 | exact (show Kept w _ (fun k_ => P0_ k_) from by repeat (first | (with_reducible first | exact HK.out | apply Kept.alloc | apply Kept.drewN | apply Kept.drew | refine Kept.setCell ?_ (.inr GW377.out) _ | refine Kept.setCell ?_ (.inr GW378.out) _ | refine Kept.setCell ?_ (.inr GW379.out) _ | refine Kept.setCell ?_ (.inr GW380.out) _) | exact HK.out)).1) hk)), Kd.fresh' (Kd.R_lt (Kd.R_g HO_0.out)) k_ hk, Kd.fresh' (Kd.R_lt (Kd.R_g HO_24.out)) k_ hk, Kd.fresh' (Kd.R_lt (Kd.R_g HO388.out)) k_ hk, Kd.freshB (g := gB2) (o := .cells #[.int .i64 a2_0] 3 (0, 0)) (blk_g BK378.out) k_ hk⟩))
          (case aO => exact (Kd.R_g (Kd.R_mono HO385.out (fun _ hk => ⟨hk.1, ⟨hk.2.2.1, ⟨hk.2.2.2.1, ⟨hk.2.1, hk.2.2.2.2⟩⟩⟩⟩))))
          (case aS => exact (below_size (bel_g HB.out)))
          (case aL => have := LMc28.out; omega)
          intro v390 w47 ho hb hg hat
          rw [← Ny389.out] at ho
          replace HO_0 := mkA (Kd.R_after (ok := (fun k_ => (P0_ k_ ∨ w.heap.size ≤ k_) ∧ some k_ ≠ (.slice Ao48 y386.length co48 : Value).ownBlock ∧ k_ ≠ gB2)) (Kd.R_g (Kd.R_mono HO_0.out (fun _ hk => ⟨⟨hk.1, ⟨hk.2.2.1, hk.2.2.2⟩⟩, hk.2.1⟩))) hg hat)
          replace HO_24 := mkA (Kd.R_after (ok := (fun k_ => (P0_ k_ ∨ w.heap.size ≤ k_) ∧ some k_ ≠ (.slice Ao48 y386.length co48 : Value).ownBlock ∧ k_ ≠ gB2)) (Kd.R_g (Kd.R_mono HO_24.out (fun _ hk => ⟨⟨hk.1, ⟨hk.2.2.1, hk.2.2.2⟩⟩, hk.2.1⟩))) hg hat)
          replace BK377 := mkA (blk_grown (g := gB1) (o := .cells #[.int .i64 a1_0, .slice A1_1 l1_1.length c1_1] 26 (0, 0)) (blk_g BK377.out) hg (Kd.R_ne HO385.out BK377.out (by decide)))
          replace BK378 := mkA (blk_grown (g := gB2) (o := .cells #[.int .i64 a2_0] 3 (0, 0)) (blk_g BK378.out) hg (Kd.R_away HO385.out (fun _ hk => hk.2.2.2.2)))
          replace BK379 := mkA (blk_grown (g := gB3) (o := .cells #[.slice A3_0 l3_0.length c3_0] 24 (0, 0)) (blk_g BK379.out) hg (Kd.R_ne HO385.out BK379.out (by decide)))
          replace BK380 := mkA (blk_grown (g := gB4) (o := .cells #[.func (.func 23) #[] #[.pointer (some ⟨gB1, 0, none⟩), .pointer (some ⟨gB2, 0, none⟩), .pointer (some ⟨gB3, 0, none⟩), .pointer (some ⟨gB4, 0, none⟩)]] 43 (0, 0)) (blk_g BK380.out) hg (Kd.R_ne HO385.out BK380.out (by decide)))
          replace HO388 := mkA (Kd.R_after (ok := (fun k_ => (P0_ k_ ∨ w.heap.size ≤ k_) ∧ some k_ ≠ (.slice Ao9 l0.length co9 : Value).ownBlock ∧ some k_ ≠ (.slice Ao9 l0.length co9 : Value).ownBlock ∧ k_ ≠ gB2)) (Kd.R_g (Kd.R_mono HO388.out (fun _ hk => ⟨⟨hk.1, ⟨hk.2.2.1, ⟨hk.2.2.2.1, hk.2.2.2.2⟩⟩⟩, hk.2.1⟩))) hg hat)
          replace HK := mkA (Kept.of_grown (S := (fun k_ => P0_ k_)) hg (by repeat (first | (with_reducible first | exact HK.out | apply Kept.alloc | apply Kept.drewN | apply Kept.drew | refine Kept.setCell ?_ (.inr GW377.out) _ | refine Kept.setCell ?_ (.inr GW378.out) _ | refine Kept.setCell ?_ (.inr GW379.out) _ | refine Kept.setCell ?_ (.inr GW380.out) _) | exact HK.out)) (fun k_ e_ => (HO385.out.1 k_ e_).1))
          have HO391 := mkA (ho)
          replace HB := mkA (hb)
          clear HO385
          clear ho hb hg hat
          obtain ⟨Ao49, co49, eo49⟩ := Kd.R_slice HO391.out
          (first | subst eo49 | (injection eo49 with f1_ f2_ f3_; have f4_ := f1_.symm; have f5_ := f3_.symm; clear f1_ f2_ f3_; subst f4_; subst f5_))
          refine hK.out _ _ ((blk_cell BK380.out 0).trans rfl) (fun hHeld => ?_)
          clear hK K
          refine normW 54 ?_
          refine oneW 6 (some 55) (bm 8 127) HT_ (fun K hK => ?_)
          refine impl_ChainNumbers_1.goesv_ (fun args_ W_ => enters_ Tryd.func23 (by kernel_rfl) rfl args_ W_) #[.slice Ao49 y389.length co49, .pointer (some ⟨gB1, 0, none⟩), .pointer (some ⟨gB2, 0, none⟩), .pointer (some ⟨gB3, 0, none⟩), .pointer (some ⟨gB4, 0, none⟩)] (by rfl) rfl rfl (by rfl) (by (try simp only [List.map_toArray, List.map_cons, List.map_nil]); first | done | rfl | (simp only [List.length_drop, List.length_take]; rfl)) ?_
          with_reducible refine (ih k2 (by have := HK1.out; have := HK2.out; omega) (fun k_ => some k_ = (.slice Ao49 y389.length co49 : Value).ownBlock) (.slice Ao49 y389.length co49) y389 gB1 a1_0 A1_1 c1_1 l1_1 gB2 a2_0 gB3 A3_0 c3_0 l3_0 gB4 t392 w0 _ ?s1 ?s2 ?s3 ?s4 ?s5 ?s6 ?s7 ?s8 ?s9 ?s10 ?s11 A29.out).mono ?_
          (case s1 => exact bel_g HB.out)
          (case s2 => exact Kd.R_tight rfl HO391.out)
          (case s3 => exact fun k_ e_ => (HO391.out.1 k_ e_.symm).2.2.2.2)
          (case s4 => exact (show _ = some (Obj.cells #[.int .i64 a1_0, .slice A1_1 l1_1.length c1_1] 26 (0, 0)) from blkT BK377))
          (case s5 => exact Kd.C_kept_call HR1_1.out (by repeat (first | (with_reducible first | exact HK.out | apply Kept.alloc | apply Kept.drewN | apply Kept.drew | refine Kept.setCell ?_ (.inr GW377.out) _ | refine Kept.setCell ?_ (.inr GW378.out) _ | refine Kept.setCell ?_ (.inr GW379.out) _ | refine Kept.setCell ?_ (.inr GW380.out) _) | exact HK.out)) (fun k_ hs_ => (fun e_ => (HO391.out.1 k_ e_.symm).1) hs_))
          (case s6 => exact HC1_1.out)
          (case s7 => exact (show _ = some (Obj.cells #[.int .i64 a2_0] 3 (0, 0)) from blkT BK378))
          (case s8 => exact (show _ = some (Obj.cells #[.slice A3_0 l3_0.length c3_0] 24 (0, 0)) from blkT BK379))
          (case s9 => exact Kd.C_kept_call HR3_0.out (by repeat (first | (with_reducible first | exact HK.out | apply Kept.alloc | apply Kept.drewN | apply Kept.drew | refine Kept.setCell ?_ (.inr GW377.out) _ | refine Kept.setCell ?_ (.inr GW378.out) _ | refine Kept.setCell ?_ (.inr GW379.out) _ | refine Kept.setCell ?_ (.inr GW380.out) _) | exact HK.out)) (fun k_ hs_ => (fun e_ => (HO391.out.1 k_ e_.symm).1) hs_))
          (case s10 => exact HC3_0.out)
          (case s11 => exact (show _ = some (Obj.cells #[.func (.func 23) #[] #[.pointer (some ⟨gB1, 0, none⟩), .pointer (some ⟨gB2, 0, none⟩), .pointer (some ⟨gB3, 0, none⟩), .pointer (some ⟨gB4, 0, none⟩)]] 43 (0, 0)) from blkT BK380))
          rintro e w50 ⟨v393, rfl, ho0, hb, hkp, hnx⟩
          refine ⟨_, rfl, ?_⟩
          replace BK377 := mkA (blk_kept (blk_g BK377.out) hkp (fun hs_ => (fun e_ => (Kd.R_ne HO391.out BK377.out (by decide)) e_) hs_))
          replace BK379 := mkA (blk_kept (blk_g BK379.out) hkp (fun hs_ => (fun e_ => (Kd.R_ne HO391.out BK379.out (by decide)) e_) hs_))
          replace BK380 := mkA (blk_kept (blk_g BK380.out) hkp (fun hs_ => (fun e_ => (Kd.R_ne HO391.out BK380.out (by decide)) e_) hs_))
          have HO394 := mkA (Kd.R_mono (ok' := fun k_ => (P0_ k_ ∨ w.heap.size ≤ k_) ∧ some k_ ≠ (.slice Ao9 l0.length co9 : Value).ownBlock ∧ some k_ ≠ (.slice Ao9 l0.length co9 : Value).ownBlock ∧ some k_ ≠ (.slice Ao48 y386.length co48 : Value).ownBlock ∧ k_ ≠ gB2) ho0 (fun k_ hk_ => ⟨Or.elim hk_ (fun hs_ => (HO391.out.1 k_ (hs_).symm).1) (fun hn_ => (.inr (Nat.le_trans (by first | exact HK.out.1 | exact (show Kept w _ (fun k_ => P0_ k_) from by repeat (first | (with_reducible first | exact HK.out | apply Kept.alloc | apply Kept.drewN | apply Kept.drew | refine Kept.setCell ?_ (.inr GW377.out) _ | refine Kept.setCell ?_ (.inr GW378.out) _ | refine Kept.setCell ?_ (.inr GW379.out) _ | refine Kept.setCell ?_ (.inr GW380.out) _) | exact HK.out)).1) hn_))), Or.elim hk_ (fun hs_ => fun e_ => (((HO_0.out).1 k_ e_.symm).2) hs_) (fun hn_ => (Kd.fresh' (Kd.R_lt (Kd.R_g HO_0.out)) k_ hn_)), Or.elim hk_ (fun hs_ => fun e_ => (((HO_24.out).1 k_ e_.symm).2) hs_) (fun hn_ => (Kd.fresh' (Kd.R_lt (Kd.R_g HO_24.out)) k_ hn_)), Or.elim hk_ (fun hs_ => fun e_ => (((HO388.out).1 k_ e_.symm).2) hs_) (fun hn_ => (Kd.fresh' (Kd.R_lt (Kd.R_g HO388.out)) k_ hn_)), Or.elim hk_ (fun hs_ => fun e_ => (Kd.R_away HO391.out (fun _ hk => hk.2.2.2.2)) (by rw [← e_]; exact hs_)) (fun hn_ => (Kd.freshB (g := gB2) (o := .cells #[.int .i64 a2_0] 3 (0, 0)) (blk_g BK378.out) k_ hn_))⟩))
          replace HO_0 := mkA (Kd.R_mono (ok' := fun k_ => (P0_ k_ ∨ w.heap.size ≤ k_) ∧ some k_ ≠ (.slice Ao48 y386.length co48 : Value).ownBlock ∧ k_ ≠ gB2 ∧ some k_ ≠ (v393 : Value).ownBlock) (Kd.R_keptB (HO_0.out) hkp (fun k_ hk_ hs_ => (hk_.2) hs_)) (fun k_ hk_ => ⟨hk_.1.1.1, hk_.1.1.2.1, hk_.1.1.2.2, fun e_ => Or.elim (ho0.1 k_ e_.symm) (fun hs_ => hk_.2.1 hs_) (fun hn_ => Nat.not_le.2 hk_.2.2 hn_)⟩))
          replace HO_24 := mkA (Kd.R_mono (ok' := fun k_ => (P0_ k_ ∨ w.heap.size ≤ k_) ∧ some k_ ≠ (.slice Ao48 y386.length co48 : Value).ownBlock ∧ k_ ≠ gB2 ∧ some k_ ≠ (v393 : Value).ownBlock) (Kd.R_keptB (HO_24.out) hkp (fun k_ hk_ hs_ => (hk_.2) hs_)) (fun k_ hk_ => ⟨hk_.1.1.1, hk_.1.1.2.1, hk_.1.1.2.2, fun e_ => Or.elim (ho0.1 k_ e_.symm) (fun hs_ => hk_.2.1 hs_) (fun hn_ => Nat.not_le.2 hk_.2.2 hn_)⟩))
          replace BK378 := mkA (blk_kept (blk_g BK378.out) hkp (fun hs_ => (fun e_ => (Kd.R_away HO391.out (fun _ hk => hk.2.2.2.2)) e_) hs_))
          replace HO388 := mkA (Kd.R_mono (ok' := fun k_ => (P0_ k_ ∨ w.heap.size ≤ k_) ∧ some k_ ≠ (.slice Ao9 l0.length co9 : Value).ownBlock ∧ some k_ ≠ (.slice Ao9 l0.length co9 : Value).ownBlock ∧ k_ ≠ gB2 ∧ some k_ ≠ (v393 : Value).ownBlock) (Kd.R_keptB (HO388.out) hkp (fun k_ hk_ hs_ => (hk_.2) hs_)) (fun k_ hk_ => ⟨hk_.1.1.1, hk_.1.1.2.1, hk_.1.1.2.2.1, hk_.1.1.2.2.2, fun e_ => Or.elim (ho0.1 k_ e_.symm) (fun hs_ => hk_.2.1 hs_) (fun hn_ => Nat.not_le.2 hk_.2.2 hn_)⟩))
          replace HK := mkA (Kept.then_ (S := (fun k_ => P0_ k_)) (by repeat (first | (with_reducible first | exact HK.out | apply Kept.alloc | apply Kept.drewN | apply Kept.drew | refine Kept.setCell ?_ (.inr GW377.out) _ | refine Kept.setCell ?_ (.inr GW378.out) _ | refine Kept.setCell ?_ (.inr GW379.out) _ | refine Kept.setCell ?_ (.inr GW380.out) _) | exact HK.out)) hkp (fun k_ hs_ => (fun e_ => (HO391.out.1 k_ e_.symm).1) hs_))
          replace HB := mkA (hb)
          clear HO391
          have NL_HO394 := mkA (fun (h_ : t392 = []) => (hnx.2 h_).resolve_right (fun h2_ => by have h3_ := h2_.2; first | (simp at h3_; done) | (rw [Ny389.out] at h3_; simp at h3_; done) | (rw [Ny389.out] at h3_; simp [Ny386.out] at h3_; done)))
          clear hnx
          (try clear hb)
          (try clear hkp)
          (try clear ho0)
          refine hK.out _ _ ((blk_cell BK380.out 0).trans rfl) (fun hHeld => ?_)
          clear hK K
          refine normW 55 ?_
          refine purW 7 12 8 255 HT_ ?_
          refine doneW HT_ ?_
          obtain ⟨Ao51, co51, rfl⟩ := Kd.R_slice HO394.out
          have nq52 := fun (W_ : World) => impl_ChainNumbers_1.nilNeq_ (P := Tryd.prog) W_ (t := 24) (e := 3) (c := co51) Tryd.underlying24 NL_HO394.out (fun h_ => Kd.R_form HO394.out h_)
          try go_wp2
          go_ret
          exact ⟨_, eqE, Kd.R_g (Kd.R_mono HO394.out (fun _ hk => hk.1)), bel_g HB.out, by repeat (first | (with_reducible first | exact HK.out | apply Kept.alloc | apply Kept.drewN | apply Kept.drew | refine Kept.setCell ?_ (.inr GW377.out) _ | refine Kept.setCell ?_ (.inr GW378.out) _ | refine Kept.setCell ?_ (.inr GW379.out) _ | refine Kept.setCell ?_ (.inr GW380.out) _) | exact HK.out), ⟨by first | exact fun h_ => rfl | (intro h_; exfalso; simp [h_] at c6b0; done), by first | exact .inl rfl | exact fun h_ => .inl rfl | exact fun h_ => .inr ⟨by simpa using c6b0, h_⟩ | (intro h_; exfalso; simp [h_] at c30b0; done) | (intro h_; exfalso; simp [h_] at c30b1; done) | (intro h_; exfalso; simp [h_] at c30b0; done) | (intro h_; exfalso; simp [h_] at c30b1; done)⟩⟩
        ·replace c26 := Bool.eq_false_iff.mpr c26
         subst c26
         replace H := ifF H
         have H' := mkA H
         clear H
         go_wp2
         go_roundg k2
         case measure => have := HK1.out; have := HK2.out; omega
         case rel => exact ⟨(wrap64 (x21_1 + 1)), eqS, H', ⟨by have := HK1.out; have := HK2.out; omega⟩, rg HO_0, bg BK377, bg BK378, bg BK379, bg BK380, ⟨by repeat (first | (with_reducible first | exact HK.out | apply Kept.alloc | apply Kept.drewN | apply Kept.drew | refine Kept.setCell ?_ (.inr GW377.out) _ | refine Kept.setCell ?_ (.inr GW378.out) _ | refine Kept.setCell ?_ (.inr GW379.out) _ | refine Kept.setCell ?_ (.inr GW380.out) _) | exact HK.out)⟩, hbg HB⟩
    ·obtain rfl := Option.some.inj H
     go_wp2
     go_ret
     exact ⟨_, eqE, nilE, bel_g HB.out, by repeat (first | (with_reducible first | exact HK.out | apply Kept.alloc | apply Kept.drewN | apply Kept.drew | refine Kept.setCell ?_ (.inr GW377.out) _ | refine Kept.setCell ?_ (.inr GW378.out) _ | refine Kept.setCell ?_ (.inr GW379.out) _ | refine Kept.setCell ?_ (.inr GW380.out) _) | exact HK.out), ⟨by first | exact fun h_ => rfl | (intro h_; exfalso; simp [h_] at c6b0; done), by first | exact .inl rfl | exact fun h_ => .inl rfl | exact fun h_ => .inr ⟨by simpa using c6b0, h_⟩ | (intro h_; exfalso; simp [h_] at c30b0; done) | (intro h_; exfalso; simp [h_] at c30b1; done) | (intro h_; exfalso; simp [h_] at c30b0; done) | (intro h_; exfalso; simp [h_] at c30b1; done)⟩⟩
end Go.Proofs.YtpphkeijklffgaaDoor.Q
