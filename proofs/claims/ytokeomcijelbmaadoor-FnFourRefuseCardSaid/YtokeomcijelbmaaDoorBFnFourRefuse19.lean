import Derived.Test.YtokeomcijelbmaaDoorBFnFourRefuse18
namespace Go.Proofs.YtokeomcijelbmaaDoor.Q
open Go.RowKit Go.Proofs.YtokeomcijelbmaaDoorW.PrintWords Go.Proofs.YtokeomcijelbmaaDoorW.PrintLast Go.Proofs.YtokeomcijelbmaaDoorW.PrintMore
attribute [local go_sem] max2_int min2_int max_two min_two max_three min_three max_four min_four neB_f
set_option linter.unusedVariables false
set_option maxHeartbeats 8000000
set_option maxRecDepth 100000
set_option linter.unusedSimpArgs false
theorem impl_Order_pattern.goesV_ {P : Program} {ops : Array Oper} {Q : Exit → Act → World → Prop} {rest : List Oper} {oi : Oper} {a : Act} {w : World} (N : Option Tmp) (hd : oi.dst = N) (hg : oi.guard = none) {g : FuncId} {lb : Array Value} {x : Operand} {ax : Array Operand} {ts : Array TypeId}
  (he : ∀ args W, (callFunc g args).run P W = .ok (.enter g args) W) (args : Array Value) (hop : oi.op = .call { callee := .value x, args := ax, argTypes := ts }) (hx : a.eval x = .func (.func g) #[] lb) (hargs : ax.map a.eval ++ lb = args)
  (h : Calls P g args w fun e w' => ∃ v, e = .returned v ∧ wpList P ops Q rest (a.put N v) w') : wpList P ops Q (oi :: rest) a w := by
 refine wpList_plain hg fun K hK => ?_
 have he := he args w
 have hrun : (execOp a.eval oi).run P w = .ok (.enter g args) w := by
  unfold execOp
  simp [hop, resolve, Deferred.ofValue, invoke, hx, hargs, he]
 unfold Oper.wp
 rw [hrun, Oper.upon_enter]
 refine h.mono fun e w'' hh => ?_
 obtain ⟨v, rfl, hk⟩ := hh
 subst hd
 exact hK _ _ hk
theorem impl_Order_pattern.store_func (P : Program) (w : World) (a : Addr) (m : Mode) (fn : Fn) (first captured : Array Value) : (store a (.func fn first captured) m).run P w = stored P w a (.func fn first captured) m := run_store P w a _ m rfl
attribute [local go_sem] impl_Order_pattern.store_func
def impl_Order_pattern.f (k : Nat) (a0_0 : Int) (l0_1 : List Int) (a1_0 : Int) (l1_1 : List Int) : Option (List Int) := (impl_Order_pattern_1.f k (([] : List Int)) a1_0 l1_1 a0_0 l0_1).bind fun t576 => (some t576)
theorem impl_Order_pattern.mono : ∀ a0 a1 a2 a3 k, LeO (impl_Order_pattern.f k a0 a1 a2 a3) (impl_Order_pattern.f (k + 1) a0 a1 a2 a3) := by
 intro a0 a1 a2 a3 k
 unfold impl_Order_pattern.f
 repeat' (with_reducible first|apply impl_Order_pattern_1.mono|apply LeO.refl|apply LeO.none|apply LeO.ite|apply LeO.bind|intro)
theorem impl_Order_pattern.calls (k : Nat) (a0_0 : Int) (A0_1 : Option Addr) (c0_1 : Nat) (l0_1 : List Int) (a1_0 : Int) (A1_1 : Option Addr) (c1_1 : Nat) (l1_1 : List Int) (r : List Int) (w : World) (hr0_1 : Kd.C (Kd.int .i64) w A0_1 l0_1.length l0_1) (hc0_1 : l0_1.length ≤ c0_1) (hr1_1 : Kd.C (Kd.int .i64) w A1_1 l1_1.length l1_1) (hc1_1 : l1_1.length ≤ c1_1) (h : impl_Order_pattern.f k a0_0 l0_1 a1_0 l1_1 = some r) :
  Calls Tryd.prog 29 #[.agg #[.int .i64 a0_0, .slice A0_1 l0_1.length c0_1], .agg #[.int .i64 a1_0, .slice A1_1 l1_1.length c1_1]] w fun e w' => ∃ v0_ : Value, e = .returned (v0_) ∧ Kd.R (Kd.int .i64) 3 w' w.heap.size (fun _ => True) v0_ r ∧ Below w.heap.size w w' ∧ ((a1_0 = 0 → ∃ g_, v0_.ownBlock = some g_) ∧ (r = [] → ¬ a1_0 = 0 → v0_ = .slice none 0 0)) := by
 have hu26 := Tryd.underlying26
 have HR0_1 := mkA hr0_1
 have HC0_1 := mkA hc0_1
 clear hr0_1 hc0_1
 have HR1_1 := mkA hr1_1
 have HC1_1 := mkA hc1_1
 clear hr1_1 hc1_1
 have HB := mkA (Below.refl w.heap.size w)
 have H := h
 clear h
 unfold impl_Order_pattern.f at H
 obtain ⟨y573, hy573⟩ : ∃ y_ : List Int, y_ = (([] : List Int)) := ⟨_, rfl⟩
 rw [← hy573] at H
 have Ny573 := mkA hy573
 clear hy573
 obtain ⟨t576, A3, H⟩ := obE H
 obtain rfl := Option.some.inj H
 go_enter Tryd.func29, Tryd.ntmps29
 go_wp2_with (first | ((with_reducible refine gate_dst (N := 2) rfl ?_); refine boxG HB #[.int .i64 a0_0, .slice A0_1 l0_1.length c0_1] 26 ?_; intro gb570 hg w4 BK570 GE570 hb; replace HB := bst HB hb; clear hb hg) | ((with_reducible refine gate_dst (N := 3) rfl ?_); refine boxG HB #[.int .i64 a1_0, .slice A1_1 l1_1.length c1_1] 26 ?_; intro gb571 hg w5 BK571 GE571 hb; have NB570_571 := neL7 BK570 hg; have NB571_570 := neR7 BK570 hg; replace BK570 := blkB BK570 hb; replace HB := bst HB hb; clear hb hg) | ((with_reducible refine gate_dst (N := 5) rfl ?_); refine boxG HB #[.nilFunc] 55 ?_; intro gb572 hg w6 BK572 GE572 hb; have NB570_572 := neL7 BK570 hg; have NB572_570 := neR7 BK570 hg; replace BK570 := blkB BK570 hb; have NB571_572 := neL7 BK571 hg; have NB572_571 := neR7 BK571 hg; replace BK571 := blkB BK571 hb; replace HB := bst HB hb; clear hb hg; obtain ⟨_, _⟩ := blk1 BK572) | ((with_reducible refine gate_dst (N := 8) rfl ?_); refine litE (Kd.int .i64) 3 ([] : List Int) [] ?hp ?_; (case hp => exact (Reps.none _ _)); intro v574 w10 ho11 hb hg_ hnew_; have NN_574 := mkA hnew_; clear hg_ hnew_; (first | rw [← Ny573.out] at ho11 | (simp only [Int.reduceToNat] at ho11; rw [← Ny573.out] at ho11)); have HO575 := rLo ho11 HB; replace BK570 := blkS BK570 hb; replace BK571 := blkS BK571 hb; replace BK572 := blkS BK572 hb; replace HB := bst HB hb; clear hb ho11; obtain ⟨Ao12, co12, rfl⟩ := Kd.R_slice HO575.out) | ((with_reducible refine gate_dst (N := 9) rfl ?_); refine impl_Order_pattern.goesV_ (some 9) rfl rfl (fun args_ W_ => enters_ Tryd.func43 (by kernel_rfl) rfl args_ W_) #[.slice Ao12 y573.length co12, .pointer (some ⟨gb571, 0, none⟩), .pointer (some ⟨gb570, 0, none⟩), .pointer (some ⟨gb572, 0, none⟩)] rfl rfl (by (try simp only [List.map_toArray, List.map_cons, List.map_nil]); first | done | rfl | (simp only [List.length_drop, List.length_take]; rfl)) ?_; (with_reducible refine (impl_Order_pattern_1.calls k (fun k_ => some k_ = (.slice Ao12 y573.length co12 : Value).ownBlock) (.slice Ao12 y573.length co12) y573 gb571 a1_0 A1_1 c1_1 l1_1 gb570 a0_0 A0_1 c0_1 l0_1 gb572 t576 w _ ?_ ?_ ?_ ?_ ?_ ?_ ?_ ?_ ?_ A3.out).mono ?_); exact bel_g HB.out; exact Kd.R_tight rfl HO575.out; exact (show _ = some (Obj.cells #[.int .i64 a1_0, .slice A1_1 l1_1.length c1_1] 26 (0, 0)) from blkT BK571); exact Kd.C_kept_came (Kd.heap_int .i64) HR1_1.out (bel_g HB.out) (fun k_ hs_ => (fun e_ => Kd.R_base HO575.out k_ e_.symm) hs_); exact HC1_1.out; exact (show _ = some (Obj.cells #[.int .i64 a0_0, .slice A0_1 l0_1.length c0_1] 26 (0, 0)) from blkT BK570); exact Kd.C_kept_came (Kd.heap_int .i64) HR0_1.out (bel_g HB.out) (fun k_ hs_ => (fun e_ => Kd.R_base HO575.out k_ e_.symm) hs_); exact HC0_1.out; exact (show _ = some (Obj.cells #[.func (.func 43) #[] #[.pointer (some ⟨gb571, 0, none⟩), .pointer (some ⟨gb570, 0, none⟩), .pointer (some ⟨gb572, 0, none⟩)]] 55 (0, 0)) from blkT BK572); rintro e w13 ⟨v577, rfl, ho0, hb, hkp, hnx⟩; refine ⟨_, rfl, ?_⟩; replace BK570 := mkA (blk_kept (blk_g BK570.out) hkp (fun hs_ => (fun e_ => (Kd.R_ne HO575.out BK570.out (by decide)) e_) hs_)); replace BK571 := mkA (blk_kept (blk_g BK571.out) hkp (fun hs_ => (fun e_ => (Kd.R_ne HO575.out BK571.out (by decide)) e_) hs_)); replace BK572 := mkA (blk_kept (blk_g BK572.out) hkp (fun hs_ => (fun e_ => (Kd.R_ne HO575.out BK572.out (by decide)) e_) hs_)); have HO578 := mkA (Kd.R_mono (ok' := fun k_ => True) ho0 (fun k_ hk_ => trivial)); replace HB := mkA (hb); clear HO575; have NX_HO578 := mkA hnx; clear hnx; clear hb hkp ho0))
 go_ret
 exact ⟨_, eqE, Kd.R_g HO578.out, bel_g HB.out, ⟨fun h_ => by obtain ⟨b_, h1_, _⟩ := NN_574.out; exact ⟨b_, by rw [NX_HO578.out.1 (by rw [Ny573.out, h_]; rfl)]; exact h1_⟩, fun h1_ h2_ => (NX_HO578.out.2 h1_).resolve_right (fun h3_ => h2_ (by have h4_ := h3_.1; rw [Ny573.out] at h4_; simpa using h4_.symm))⟩⟩
theorem impl_FindPattern.nilB_ {W : World} {e base : Nat} {ok : Nat → Prop} {t : List Int} {s : Int} {v : Value} (ho : Kd.R (Kd.int .i64) e W base ok v t) (h1 : s = 0 → ∃ g, v.ownBlock = some g) (h2 : t = [] → ¬ s = 0 → v = .slice none 0 0) :
  ((t == ([] : List Int) && !(s == 0)) = true → v = .slice none 0 0) ∧ ((t == ([] : List Int) && !(s == 0)) = false → ∃ g, v.ownBlock = some g) := by
 by_cases hs : s = 0
 ·exact ⟨fun h => by simp [hs] at h, fun _ => h1 hs⟩
 ·cases t with
  | nil => exact ⟨fun _ => h2 rfl hs, fun h => by simp [hs] at h⟩
  | cons x l =>
   refine ⟨fun h => by simp at h, fun _ => ?_⟩
   obtain ⟨g, c', h3, _⟩ := Kd.R_form ho (by simp)
   exact ⟨g, by rw [h3]; rfl⟩
theorem impl_FindPattern.nilNeqB_ {P : Program} (W : World) {t e : TypeId} {A : Option Addr} {n c : Nat} {b : Bool} (hu : P.underlying t = some (.slice e)) (h : b = true → Value.slice A n c = .slice none 0 0) (h2 : b = false → ∃ g, (Value.slice A n c).ownBlock = some g) :
  (binOp .neq t (.slice A n c) (.slice none 0 0)).run P W = .ok (.bool (!b)) W := by
 rw [run_neq_slice_nil_any W t e A n c 0 0 hu]
 cases b with
 | true => injection h rfl with h1 _ _; subst h1; rfl
 | false =>
  obtain ⟨g, h1⟩ := h2 rfl
  cases A with
  | none => simp [Value.ownBlock] at h1
  | some a => rfl
def impl_FindPattern.f (k : Nat) (a0_0 : Int) (l0_1 : List Int) (a1_0 : Int) (l1_1 : List Int) : Option (List Int × Bool) := (impl_IsRelation.f k a0_0 l0_1).bind fun t581 => (if t581 = true then ((impl_IsRelation.f k a1_0 l1_1).bind fun t582 => (if t582 = true then (if a1_0 > 6 then (some (([] : List Int), false)) else ((impl_Order_pattern.f k a0_0 l0_1 a1_0 l1_1).bind fun t583 => (some (t583, (!(t583 == ([] : List Int) && !(a1_0 == 0))))))) else (some (([] : List Int), false)))) else (some (([] : List Int), false)))
theorem impl_FindPattern.mono : ∀ a0 a1 a2 a3 k, LeO (impl_FindPattern.f k a0 a1 a2 a3) (impl_FindPattern.f (k + 1) a0 a1 a2 a3) := by
 intro a0 a1 a2 a3 k
 unfold impl_FindPattern.f
 repeat' (with_reducible first|apply impl_IsRelation.mono|apply impl_Order_pattern.mono|apply LeO.refl|apply LeO.none|apply LeO.ite|apply LeO.bind|intro)
theorem impl_FindPattern.calls (k : Nat) (a0_0 : Int) (A0_1 : Option Addr) (c0_1 : Nat) (l0_1 : List Int) (a1_0 : Int) (A1_1 : Option Addr) (c1_1 : Nat) (l1_1 : List Int) (r1 : List Int) (r2 : Bool) (w : World) (hr0_1 : Kd.C (Kd.int .i64) w A0_1 l0_1.length l0_1) (hc0_1 : l0_1.length ≤ c0_1) (hr1_1 : Kd.C (Kd.int .i64) w A1_1 l1_1.length l1_1) (hc1_1 : l1_1.length ≤ c1_1) (h : impl_FindPattern.f k a0_0 l0_1 a1_0 l1_1 = some (r1, r2)) :
  Calls Tryd.prog 16 #[.agg #[.int .i64 a0_0, .slice A0_1 l0_1.length c0_1], .agg #[.int .i64 a1_0, .slice A1_1 l1_1.length c1_1]] w fun e w' => ∃ v0_ : Value, e = .returned (.tuple #[v0_, .bool r2]) ∧ Kd.R (Kd.int .i64) 3 w' w.heap.size (fun _ => True) v0_ r1 ∧ Below w.heap.size w w' := by
 have hu26 := Tryd.underlying26
 have HR0_1 := mkA hr0_1
 have HC0_1 := mkA hc0_1
 clear hr0_1 hc0_1
 have HR1_1 := mkA hr1_1
 have HC1_1 := mkA hc1_1
 clear hr1_1 hc1_1
 have HB := mkA (Below.refl w.heap.size w)
 have H := h
 clear h
 unfold impl_FindPattern.f at H
 obtain ⟨t581, A3, H⟩ := obE H
 by_cases c4 : t581 = true
 ·subst c4
  replace H := ifT H
  obtain ⟨t582, A5, H⟩ := obE H
  by_cases c6 : t582 = true
  ·subst c6
   replace H := ifT H
   rcases iteP H with ⟨c7, H⟩ | ⟨c7, H⟩
   ·have c7b0 := decide_eq_true c7
    clear c7
    simp only [Option.some.injEq, Prod.mk.injEq] at H
    obtain ⟨rfl, rfl⟩ := H
    go_enter Tryd.func16, Tryd.ntmps16
    go_wp2_with (first | ((with_reducible refine gate_dst (N := 2) rfl ?_); refine boxG HB #[.int .i64 a0_0, .slice A0_1 l0_1.length c0_1] 26 ?_; intro gb579 hg w8 BK579 GE579 hb; replace HB := bst HB hb; clear hb hg) | ((with_reducible refine gate_dst (N := 3) rfl ?_); refine boxG HB #[.int .i64 a1_0, .slice A1_1 l1_1.length c1_1] 26 ?_; intro gb580 hg w9 BK580 GE580 hb; have NB579_580 := neL7 BK579 hg; have NB580_579 := neR7 BK579 hg; replace BK579 := blkB BK579 hb; replace HB := bst HB hb; clear hb hg; obtain ⟨_, _, _, _⟩ := blk2 BK579) | ((with_reducible refine gate_callee (f := 26) rfl ?_); refine goesQ (some 8) Tryd.func26 #[.agg #[.int .i64 a0_0, .slice A0_1 l0_1.length c0_1]] ?_; (with_reducible refine (impl_IsRelation.calls k a0_0 _ _ l0_1 true _ ?_ ?_ A3.out).mono ?_); exact C_g HR0_1 HB; exact HC0_1.out; rintro e w12 ⟨rfl, hb⟩; refine ⟨_, rfl, ?_⟩; replace BK579 := blkB BK579 hb; replace BK580 := blkB BK580 hb; replace HB := bst HB hb; clear hb; obtain ⟨_, _, _, _⟩ := blk2 BK580) | (go_at_call 26; (with_reducible refine (impl_IsRelation.calls k a1_0 _ _ l1_1 true _ ?_ ?_ A5.out).mono ?_); exact C_g HR1_1 HB; exact HC1_1.out; rintro e w14 ⟨rfl, hb⟩; replace BK579 := blkB BK579 hb; replace BK580 := blkB BK580 hb; replace HB := bst HB hb; clear hb; obtain ⟨_, _, _, _⟩ := blk2 BK580))
    go_ret2
    exact ⟨_, eqE, nilE, bel_g HB.out⟩
   ·have c7b0 := decide_eq_false c7
    clear c7
    obtain ⟨t583, A16, H⟩ := obE H
    simp only [Option.some.injEq, Prod.mk.injEq] at H
    obtain ⟨rfl, rfl⟩ := H
    go_enter Tryd.func16, Tryd.ntmps16
    go_wp2_with (first | ((with_reducible refine gate_dst (N := 2) rfl ?_); refine boxG HB #[.int .i64 a0_0, .slice A0_1 l0_1.length c0_1] 26 ?_; intro gb579 hg w17 BK579 GE579 hb; replace HB := bst HB hb; clear hb hg) | ((with_reducible refine gate_dst (N := 3) rfl ?_); refine boxG HB #[.int .i64 a1_0, .slice A1_1 l1_1.length c1_1] 26 ?_; intro gb580 hg w18 BK580 GE580 hb; have NB579_580 := neL7 BK579 hg; have NB580_579 := neR7 BK579 hg; replace BK579 := blkB BK579 hb; replace HB := bst HB hb; clear hb hg; obtain ⟨_, _, _, _⟩ := blk2 BK579) | ((with_reducible refine gate_callee (f := 26) rfl ?_); refine goesQ (some 8) Tryd.func26 #[.agg #[.int .i64 a0_0, .slice A0_1 l0_1.length c0_1]] ?_; (with_reducible refine (impl_IsRelation.calls k a0_0 _ _ l0_1 true _ ?_ ?_ A3.out).mono ?_); exact C_g HR0_1 HB; exact HC0_1.out; rintro e w21 ⟨rfl, hb⟩; refine ⟨_, rfl, ?_⟩; replace BK579 := blkB BK579 hb; replace BK580 := blkB BK580 hb; replace HB := bst HB hb; clear hb; obtain ⟨_, _, _, _⟩ := blk2 BK580) | (go_at_call 26; (with_reducible refine (impl_IsRelation.calls k a1_0 _ _ l1_1 true _ ?_ ?_ A5.out).mono ?_); exact C_g HR1_1 HB; exact HC1_1.out; rintro e w23 ⟨rfl, hb⟩; replace BK579 := blkB BK579 hb; replace BK580 := blkB BK580 hb; replace HB := bst HB hb; clear hb; obtain ⟨_, _, _, _⟩ := blk2 BK580; obtain ⟨_, _, _, _⟩ := blk2 BK579) | ((with_reducible refine gate_callee (f := 29) rfl ?_); refine goesQ (some 22) Tryd.func29 #[.agg #[.int .i64 a0_0, .slice A0_1 l0_1.length c0_1], .agg #[.int .i64 a1_0, .slice A1_1 l1_1.length c1_1]] ?_; (with_reducible refine (impl_Order_pattern.calls k a0_0 _ _ l0_1 a1_0 _ _ l1_1 t583 _ ?_ ?_ ?_ ?_ A16.out).mono ?_); exact C_g HR0_1 HB; exact HC0_1.out; exact C_g HR1_1 HB; exact HC1_1.out; rintro e w26 ⟨v584, rfl, ho0, hb, hnx⟩; refine ⟨_, rfl, ?_⟩; have HO585 := rLo ho0 HB; replace BK579 := blkB BK579 hb; replace BK580 := blkB BK580 hb; replace HB := bst HB hb; clear hb ho0; have NL_HO585 := mkA (impl_FindPattern.nilB_ HO585.out hnx.1 hnx.2); clear hnx; obtain ⟨Ao27, co27, rfl⟩ := Kd.R_slice HO585.out; have nq28 := fun (W_ : World) => impl_FindPattern.nilNeqB_ (P := Tryd.prog) W_ (t := 24) (e := 3) (c := co27) (b := (t583 == ([] : List Int) && !(a1_0 == 0))) Tryd.underlying24 NL_HO585.out.1 NL_HO585.out.2))
    go_ret2
    exact ⟨_, eqE, Kd.R_g HO585.out, bel_g HB.out⟩
  ·replace c6 := Bool.eq_false_iff.mpr c6
   subst c6
   replace H := ifF H
   simp only [Option.some.injEq, Prod.mk.injEq] at H
   obtain ⟨rfl, rfl⟩ := H
   go_enter Tryd.func16, Tryd.ntmps16
   go_wp2_with (first | ((with_reducible refine gate_dst (N := 2) rfl ?_); refine boxG HB #[.int .i64 a0_0, .slice A0_1 l0_1.length c0_1] 26 ?_; intro gb579 hg w29 BK579 GE579 hb; replace HB := bst HB hb; clear hb hg) | ((with_reducible refine gate_dst (N := 3) rfl ?_); refine boxG HB #[.int .i64 a1_0, .slice A1_1 l1_1.length c1_1] 26 ?_; intro gb580 hg w30 BK580 GE580 hb; have NB579_580 := neL7 BK579 hg; have NB580_579 := neR7 BK579 hg; replace BK579 := blkB BK579 hb; replace HB := bst HB hb; clear hb hg; obtain ⟨_, _, _, _⟩ := blk2 BK579) | ((with_reducible refine gate_callee (f := 26) rfl ?_); refine goesQ (some 8) Tryd.func26 #[.agg #[.int .i64 a0_0, .slice A0_1 l0_1.length c0_1]] ?_; (with_reducible refine (impl_IsRelation.calls k a0_0 _ _ l0_1 true _ ?_ ?_ A3.out).mono ?_); exact C_g HR0_1 HB; exact HC0_1.out; rintro e w33 ⟨rfl, hb⟩; refine ⟨_, rfl, ?_⟩; replace BK579 := blkB BK579 hb; replace BK580 := blkB BK580 hb; replace HB := bst HB hb; clear hb; obtain ⟨_, _, _, _⟩ := blk2 BK580) | (go_at_call 26; (with_reducible refine (impl_IsRelation.calls k a1_0 _ _ l1_1 false _ ?_ ?_ A5.out).mono ?_); exact C_g HR1_1 HB; exact HC1_1.out; rintro e w35 ⟨rfl, hb⟩; replace BK579 := blkB BK579 hb; replace BK580 := blkB BK580 hb; replace HB := bst HB hb; clear hb))
   go_ret2
   exact ⟨_, eqE, nilE, bel_g HB.out⟩
 ·replace c4 := Bool.eq_false_iff.mpr c4
  subst c4
  replace H := ifF H
  simp only [Option.some.injEq, Prod.mk.injEq] at H
  obtain ⟨rfl, rfl⟩ := H
  go_enter Tryd.func16, Tryd.ntmps16
  go_wp2_with (first | ((with_reducible refine gate_dst (N := 2) rfl ?_); refine boxG HB #[.int .i64 a0_0, .slice A0_1 l0_1.length c0_1] 26 ?_; intro gb579 hg w36 BK579 GE579 hb; replace HB := bst HB hb; clear hb hg) | ((with_reducible refine gate_dst (N := 3) rfl ?_); refine boxG HB #[.int .i64 a1_0, .slice A1_1 l1_1.length c1_1] 26 ?_; intro gb580 hg w37 BK580 GE580 hb; have NB579_580 := neL7 BK579 hg; have NB580_579 := neR7 BK579 hg; replace BK579 := blkB BK579 hb; replace HB := bst HB hb; clear hb hg; obtain ⟨_, _, _, _⟩ := blk2 BK579) | ((with_reducible refine gate_callee (f := 26) rfl ?_); refine goesQ (some 8) Tryd.func26 #[.agg #[.int .i64 a0_0, .slice A0_1 l0_1.length c0_1]] ?_; (with_reducible refine (impl_IsRelation.calls k a0_0 _ _ l0_1 false _ ?_ ?_ A3.out).mono ?_); exact C_g HR0_1 HB; exact HC0_1.out; rintro e w40 ⟨rfl, hb⟩; refine ⟨_, rfl, ?_⟩; replace BK579 := blkB BK579 hb; replace BK580 := blkB BK580 hb; replace HB := bst HB hb; clear hb))
  go_ret2
  exact ⟨_, eqE, nilE, bel_g HB.out⟩
end Go.Proofs.YtokeomcijelbmaaDoor.Q
