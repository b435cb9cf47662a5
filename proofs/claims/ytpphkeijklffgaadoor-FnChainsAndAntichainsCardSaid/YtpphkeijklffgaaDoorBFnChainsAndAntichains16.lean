import Derived.Test.YtpphkeijklffgaaDoorBFnChainsAndAntichains15
namespace Go.Proofs.YtpphkeijklffgaaDoor.Q
open Go.RowKit Go.Proofs.YtpphkeijklffgaaDoorW.PrintWords Go.Proofs.YtpphkeijklffgaaDoorW.PrintLast Go.Proofs.YtpphkeijklffgaaDoorW.PrintMore
attribute [local go_sem] max2_int min2_int max_two min_two max_three min_three max_four min_four neB_f
set_option linter.unusedVariables false
set_option maxHeartbeats 8000000
set_option maxRecDepth 100000
set_option linter.unusedSimpArgs false
theorem impl_ChainNumbers.goesV_ {P : Program} {ops : Array Oper} {Q : Exit → Act → World → Prop} {rest : List Oper} {oi : Oper} {a : Act} {w : World} (N : Option Tmp) (hd : oi.dst = N) (hg : oi.guard = none) {g : FuncId} {lb : Array Value} {x : Operand} {ax : Array Operand} {ts : Array TypeId}
  (he : ∀ args W, (callFunc g args).run P W = .ok (.enter g args) W) (args : Array Value) (hop : oi.op = .call { callee := .value x, args := ax, argTypes := ts }) (hx : a.eval x = .func (.func g) #[] lb) (hargs : ax.map a.eval ++ lb = args)
  (h : Calls P g args w fun e w' => ∃ v, e = .returned v ∧ wpList P ops Q rest (a.put N v) w') : wpList P ops Q (oi :: rest) a w := by
 refine wpList_plain hg fun K hK => ?_
 have he := he args w
 have hrun : (execOp a.eval oi).run P w = .ok (.enter g args) w := by
  unfold execOp
  simp [hop, resolve, Deferred.ofValue, invoke, hx, hargs, he]
 unfold Oper.wp
 rw [hrun, Oper.upon_enter]
 refine h.mono fun e w'' hh => ?_
 obtain ⟨v, rfl, hk⟩ := hh
 subst hd
 exact hK _ _ hk
theorem impl_ChainNumbers.store_func (P : Program) (w : World) (a : Addr) (m : Mode) (fn : Fn) (first captured : Array Value) : (store a (.func fn first captured) m).run P w = stored P w a (.func fn first captured) m := run_store P w a _ m rfl
attribute [local go_sem] impl_ChainNumbers.store_func
def impl_ChainNumbers.f (k : Nat) (a0_0 : Int) (l0_1 : List Int) : Option (List Int × Bool) := (impl_IsOrder.f k a0_0 l0_1).bind fun t396 => (if t396 = true then ((impl_Order_antichain.f k a0_0 l0_1).bind fun t397 => ((impl_Order_indifferent.f k a0_0 l0_1).bind fun t400 => ((impl_ChainNumbers_1.f k (([] : List Int)) a0_0 l0_1 (t397.length : Int) t400).bind fun t409 => (some (t409, true))))) else (some (([] : List Int), false)))
theorem impl_ChainNumbers.mono : ∀ a0 a1 k, LeO (impl_ChainNumbers.f k a0 a1) (impl_ChainNumbers.f (k + 1) a0 a1) := by
 intro a0 a1 k
 unfold impl_ChainNumbers.f
 repeat' (with_reducible first|apply impl_ChainNumbers_1.mono|apply impl_IsOrder.mono|apply impl_Order_antichain.mono|apply impl_Order_indifferent.mono|apply LeO.refl|apply LeO.none|apply LeO.ite|apply LeO.bind|intro)
def impl_ChainNumbers.T3 : Bool × List (List Nat × List Nat) := (true, [([], []), ([0], [0]), ([1], [1]), ([], []), ([3, 1], [3]), ([], []), ([], []), ([5, 2, 4, 0, 1, 2, 5, 6], [2, 5]), ([6, 4, 7, 0, 1, 2, 3, 4, 5, 6, 7], [4, 6])])
def impl_ChainNumbers.B3 : List Nat := [0, 1, 3, 0, 11, 0, 0, 127, 255]
theorem impl_ChainNumbers.tab3 : rtab .any (opsOf Tryd.f6 3) = impl_ChainNumbers.T3 := by kernel_rfl
theorem impl_ChainNumbers.bits3 : waitsOk impl_ChainNumbers.T3.2 impl_ChainNumbers.B3 = true := by kernel_rfl
theorem impl_ChainNumbers.calls (k : Nat) (a0_0 : Int) (A0_1 : Option Addr) (c0_1 : Nat) (l0_1 : List Int) (r1 : List Int) (r2 : Bool) (w : World) (hr0_1 : Kd.C (Kd.int .i64) w A0_1 l0_1.length l0_1) (hc0_1 : l0_1.length ≤ c0_1) (hTAB : Tab w) (h : impl_ChainNumbers.f k a0_0 l0_1 = some (r1, r2)) :
  Calls Tryd.prog 6 #[.agg #[.int .i64 a0_0, .slice A0_1 l0_1.length c0_1]] w fun e w' => ∃ v0_ : Value, e = .returned (.tuple #[v0_, .bool r2]) ∧ Kd.R (Kd.int .i64) 3 w' w.heap.size (fun _ => True) v0_ r1 ∧ Below w.heap.size w w' := by
 have HTAB := mkA hTAB
 clear hTAB
 have hu26 := Tryd.underlying26
 have HR0_1 := mkA hr0_1
 have HC0_1 := mkA hc0_1
 clear hr0_1 hc0_1
 have HB := mkA (Below.refl w.heap.size w)
 have H := h
 clear h
 unfold impl_ChainNumbers.f at H
 obtain ⟨t396, A2, H⟩ := obE H
 by_cases c3 : t396 = true
 ·subst c3
  replace H := ifT H
  obtain ⟨t397, A4, H⟩ := obE H
  obtain ⟨t400, A5, H⟩ := obE H
  obtain ⟨y406, hy406⟩ : ∃ y_ : List Int, y_ = (([] : List Int)) := ⟨_, rfl⟩
  rw [← hy406] at H
  have Ny406 := mkA hy406
  clear hy406
  obtain ⟨t409, A6, H⟩ := obE H
  simp only [Option.some.injEq, Prod.mk.injEq] at H
  obtain ⟨rfl, rfl⟩ := H
  go_enter Tryd.func6, Tryd.ntmps6
  try go_wp2_with (first | ((with_reducible refine gate_dst (N := 1) rfl ?_); refine boxG HB #[.int .i64 a0_0, .slice A0_1 l0_1.length c0_1] 26 ?_; intro gb395 hg w7 BK395 GE395 hb; replace HB := bst HB hb; clear hb hg; obtain ⟨_, _, _, _⟩ := blk2 BK395) | ((with_reducible refine gate_callee (f := 20) rfl ?_); refine goesQ (some 8) Tryd.func20 #[.agg #[.int .i64 a0_0, .slice A0_1 l0_1.length c0_1]] ?_; (with_reducible refine (impl_IsOrder.calls k a0_0 _ _ l0_1 true _ ?_ ?_ ?_ A2.out).mono ?_); exact C_g HR0_1 HB; exact HC0_1.out; exact Tab.below HTAB.out (bel_g HB.out); rintro e w9 ⟨rfl, hb⟩; refine ⟨_, rfl, ?_⟩; replace BK395 := blkB BK395 hb; replace HB := bst HB hb; clear hb))
  replace BK395 := mkA (blk_drew BK395.out)
  replace HB := mkA (below_drew1 HB.out)
  refine start_ (n := 9) (S := fun w' => w'.cell? ⟨gb395, 0, none⟩ = some (.int .i64 a0_0) ∧ w'.cell? ⟨gb395, 1, none⟩ = some (.slice A0_1 l0_1.length c0_1)) (ds := []) (bm 9 0) (by kernel_rfl) rfl (by kernel_rfl) ⟨(blk_cell BK395.out 0).trans rfl, (blk_cell BK395.out 1).trans rfl⟩ (fun hHeld => ?_); refine with_tabW impl_ChainNumbers.tab3 impl_ChainNumbers.bits3 (fun HT_ HW_ => ?_)
  generalize w9.drew = w10 at BK395 HB hHeld ⊢
  refine takeW 0 (some 10) (bm 9 1) HT_ HW_ hHeld ?_
  refine takeW 3 (some 13) (bm 9 9) HT_ HW_ hHeld ?_
  refine join_ (σ := Value × Value × Nat × Nat) 2 (bm 9 127) (fun s_ => [(11, s_.1), (14, s_.2.1), (4, .pointer (some ⟨s_.2.2.1, 0, none⟩)), (5, .pointer (some ⟨s_.2.2.2, 0, none⟩)), (12, .int .i64 (t397.length : Int))]) (fun s_ w' => (w'.cell? ⟨gb395, 0, none⟩ = some (.int .i64 a0_0) ∧ w'.cell? ⟨gb395, 1, none⟩ = some (.slice A0_1 l0_1.length c0_1)) ∧ (Kd.R (Kd.int .i64) 3 w' w.heap.size (fun k_ => some k_ ≠ (s_.2.1 : Value).ownBlock ∧ k_ ≠ s_.2.2.1) s_.1 t397) ∧ (Kd.R (Kd.int .i64) 3 w' w.heap.size (fun k_ => some k_ ≠ (s_.1 : Value).ownBlock ∧ k_ ≠ s_.2.2.1) s_.2.1 t400) ∧ (w'.heap[gb395]? = some (.cells #[.int .i64 a0_0, .slice A0_1 l0_1.length c0_1] 26 (0, 0))) ∧ (w'.heap[s_.2.2.1]? = some (.cells #[.int .i64 0] 3 (0, 0))) ∧ (w'.heap[s_.2.2.2]? = some (.cells #[.slice none 0 0] 24 (0, 0))) ∧ (w.heap.size ≤ s_.2.2.1) ∧ (w.heap.size ≤ s_.2.2.1) ∧ (gb395 ≠ s_.2.2.1) ∧ (s_.2.2.1 ≠ gb395) ∧ (s_.2.2.2 ≠ s_.2.2.1) ∧ (s_.2.2.1 ≠ s_.2.2.2) ∧ (w.heap.size ≤ s_.2.2.2) ∧ (w.heap.size ≤ s_.2.2.2) ∧ (gb395 ≠ s_.2.2.2) ∧ (s_.2.2.2 ≠ gb395) ∧ (Below w.heap.size w w')) ?_ ?_
  rotate_left
  ·intro hJ1_4_5_6
   refine join_ (σ := Value × Value × Nat) 3 (bm 9 63) (fun s_ => [(11, s_.1), (14, s_.2.1), (4, .pointer (some ⟨s_.2.2, 0, none⟩)), (12, .int .i64 (t397.length : Int))]) (fun s_ w' => (w'.cell? ⟨gb395, 0, none⟩ = some (.int .i64 a0_0) ∧ w'.cell? ⟨gb395, 1, none⟩ = some (.slice A0_1 l0_1.length c0_1)) ∧ (Kd.R (Kd.int .i64) 3 w' w.heap.size (fun k_ => some k_ ≠ (s_.2.1 : Value).ownBlock ∧ k_ ≠ s_.2.2) s_.1 t397) ∧ (Kd.R (Kd.int .i64) 3 w' w.heap.size (fun k_ => some k_ ≠ (s_.1 : Value).ownBlock ∧ k_ ≠ s_.2.2) s_.2.1 t400) ∧ (w'.heap[gb395]? = some (.cells #[.int .i64 a0_0, .slice A0_1 l0_1.length c0_1] 26 (0, 0))) ∧ (w'.heap[s_.2.2]? = some (.cells #[.int .i64 0] 3 (0, 0))) ∧ (w.heap.size ≤ s_.2.2) ∧ (w.heap.size ≤ s_.2.2) ∧ (gb395 ≠ s_.2.2) ∧ (s_.2.2 ≠ gb395) ∧ (Below w.heap.size w w')) ?_ ?_
   rotate_left
   ·intro hJ1_4_5
    refine join_ (σ := Value × Value × Nat) 3 (bm 9 95) (fun s_ => [(11, s_.1), (14, s_.2.1), (5, .pointer (some ⟨s_.2.2, 0, none⟩)), (12, .int .i64 (t397.length : Int))]) (fun s_ w' => (w'.cell? ⟨gb395, 0, none⟩ = some (.int .i64 a0_0) ∧ w'.cell? ⟨gb395, 1, none⟩ = some (.slice A0_1 l0_1.length c0_1)) ∧ (Kd.R (Kd.int .i64) 3 w' w.heap.size (fun k_ => some k_ ≠ (s_.2.1 : Value).ownBlock) s_.1 t397) ∧ (Kd.R (Kd.int .i64) 3 w' w.heap.size (fun k_ => some k_ ≠ (s_.1 : Value).ownBlock) s_.2.1 t400) ∧ (w'.heap[gb395]? = some (.cells #[.int .i64 a0_0, .slice A0_1 l0_1.length c0_1] 26 (0, 0))) ∧ (w'.heap[s_.2.2]? = some (.cells #[.slice none 0 0] 24 (0, 0))) ∧ (w.heap.size ≤ s_.2.2) ∧ (w.heap.size ≤ s_.2.2) ∧ (gb395 ≠ s_.2.2) ∧ (s_.2.2 ≠ gb395) ∧ (Below w.heap.size w w')) ?_ ?_
    rotate_left
    ·intro hJ1_4_6
     refine join_ (σ := Value × Nat × Nat) 3 (bm 9 111) (fun s_ => [(11, s_.1), (4, .pointer (some ⟨s_.2.1, 0, none⟩)), (5, .pointer (some ⟨s_.2.2, 0, none⟩)), (12, .int .i64 (t397.length : Int))]) (fun s_ w' => (w'.cell? ⟨gb395, 0, none⟩ = some (.int .i64 a0_0) ∧ w'.cell? ⟨gb395, 1, none⟩ = some (.slice A0_1 l0_1.length c0_1)) ∧ (Kd.R (Kd.int .i64) 3 w' w.heap.size (fun k_ => k_ ≠ s_.2.1) s_.1 t397) ∧ (w'.heap[gb395]? = some (.cells #[.int .i64 a0_0, .slice A0_1 l0_1.length c0_1] 26 (0, 0))) ∧ (w'.heap[s_.2.1]? = some (.cells #[.int .i64 0] 3 (0, 0))) ∧ (w'.heap[s_.2.2]? = some (.cells #[.slice none 0 0] 24 (0, 0))) ∧ (w.heap.size ≤ s_.2.1) ∧ (w.heap.size ≤ s_.2.1) ∧ (gb395 ≠ s_.2.1) ∧ (s_.2.1 ≠ gb395) ∧ (s_.2.2 ≠ s_.2.1) ∧ (s_.2.1 ≠ s_.2.2) ∧ (w.heap.size ≤ s_.2.2) ∧ (w.heap.size ≤ s_.2.2) ∧ (gb395 ≠ s_.2.2) ∧ (s_.2.2 ≠ gb395) ∧ (Below w.heap.size w w')) ?_ ?_
     rotate_left
     ·intro hJ1_5_6
      refine join_ (σ := Value × Value) 4 (bm 9 31) (fun s_ => [(11, s_.1), (14, s_.2), (12, .int .i64 (t397.length : Int))]) (fun s_ w' => (w'.cell? ⟨gb395, 0, none⟩ = some (.int .i64 a0_0) ∧ w'.cell? ⟨gb395, 1, none⟩ = some (.slice A0_1 l0_1.length c0_1)) ∧ (Kd.R (Kd.int .i64) 3 w' w.heap.size (fun k_ => some k_ ≠ (s_.2 : Value).ownBlock) s_.1 t397) ∧ (Kd.R (Kd.int .i64) 3 w' w.heap.size (fun k_ => some k_ ≠ (s_.1 : Value).ownBlock) s_.2 t400) ∧ (w'.heap[gb395]? = some (.cells #[.int .i64 a0_0, .slice A0_1 l0_1.length c0_1] 26 (0, 0))) ∧ (Below w.heap.size w w')) ?_ ?_
      rotate_left
      ·intro hJ1_4
       refine join_ (σ := Value × Nat) 4 (bm 9 47) (fun s_ => [(11, s_.1), (4, .pointer (some ⟨s_.2, 0, none⟩)), (12, .int .i64 (t397.length : Int))]) (fun s_ w' => (w'.cell? ⟨gb395, 0, none⟩ = some (.int .i64 a0_0) ∧ w'.cell? ⟨gb395, 1, none⟩ = some (.slice A0_1 l0_1.length c0_1)) ∧ (Kd.R (Kd.int .i64) 3 w' w.heap.size (fun k_ => k_ ≠ s_.2) s_.1 t397) ∧ (w'.heap[gb395]? = some (.cells #[.int .i64 a0_0, .slice A0_1 l0_1.length c0_1] 26 (0, 0))) ∧ (w'.heap[s_.2]? = some (.cells #[.int .i64 0] 3 (0, 0))) ∧ (w.heap.size ≤ s_.2) ∧ (w.heap.size ≤ s_.2) ∧ (gb395 ≠ s_.2) ∧ (s_.2 ≠ gb395) ∧ (Below w.heap.size w w')) ?_ ?_
       rotate_left
       ·intro hJ1_5
        refine join_ (σ := Value × Nat) 4 (bm 9 79) (fun s_ => [(11, s_.1), (5, .pointer (some ⟨s_.2, 0, none⟩)), (12, .int .i64 (t397.length : Int))]) (fun s_ w' => (w'.cell? ⟨gb395, 0, none⟩ = some (.int .i64 a0_0) ∧ w'.cell? ⟨gb395, 1, none⟩ = some (.slice A0_1 l0_1.length c0_1)) ∧ (Kd.R (Kd.int .i64) 3 w' w.heap.size (fun _ => True) s_.1 t397) ∧ (w'.heap[gb395]? = some (.cells #[.int .i64 a0_0, .slice A0_1 l0_1.length c0_1] 26 (0, 0))) ∧ (w'.heap[s_.2]? = some (.cells #[.slice none 0 0] 24 (0, 0))) ∧ (w.heap.size ≤ s_.2) ∧ (w.heap.size ≤ s_.2) ∧ (gb395 ≠ s_.2) ∧ (s_.2 ≠ gb395) ∧ (Below w.heap.size w w')) ?_ ?_
        rotate_left
        ·intro hJ1_6
         refine join_ (σ := Nat × Nat) 5 (bm 9 105) (fun s_ => [(4, .pointer (some ⟨s_.1, 0, none⟩)), (5, .pointer (some ⟨s_.2, 0, none⟩))]) (fun s_ w' => (w'.cell? ⟨gb395, 0, none⟩ = some (.int .i64 a0_0) ∧ w'.cell? ⟨gb395, 1, none⟩ = some (.slice A0_1 l0_1.length c0_1)) ∧ (w'.heap[gb395]? = some (.cells #[.int .i64 a0_0, .slice A0_1 l0_1.length c0_1] 26 (0, 0))) ∧ (w'.heap[s_.1]? = some (.cells #[.int .i64 0] 3 (0, 0))) ∧ (w'.heap[s_.2]? = some (.cells #[.slice none 0 0] 24 (0, 0))) ∧ (w.heap.size ≤ s_.1) ∧ (w.heap.size ≤ s_.1) ∧ (gb395 ≠ s_.1) ∧ (s_.1 ≠ gb395) ∧ (s_.2 ≠ s_.1) ∧ (s_.1 ≠ s_.2) ∧ (w.heap.size ≤ s_.2) ∧ (w.heap.size ≤ s_.2) ∧ (gb395 ≠ s_.2) ∧ (s_.2 ≠ gb395) ∧ (Below w.heap.size w w')) ?_ ?_
         rotate_left
         ·intro hJ5_6
          refine join_ (σ := Value) 5 (bm 9 15) (fun s_ => [(11, s_), (12, .int .i64 (t397.length : Int))]) (fun s_ w' => (w'.cell? ⟨gb395, 0, none⟩ = some (.int .i64 a0_0) ∧ w'.cell? ⟨gb395, 1, none⟩ = some (.slice A0_1 l0_1.length c0_1)) ∧ (Kd.R (Kd.int .i64) 3 w' w.heap.size (fun _ => True) s_ t397) ∧ (w'.heap[gb395]? = some (.cells #[.int .i64 a0_0, .slice A0_1 l0_1.length c0_1] 26 (0, 0))) ∧ (Below w.heap.size w w')) ?_ ?_
          rotate_left
          ·intro hJ1
           refine join_ (σ := Nat) 6 (bm 9 41) (fun s_ => [(4, .pointer (some ⟨s_, 0, none⟩))]) (fun s_ w' => (w'.cell? ⟨gb395, 0, none⟩ = some (.int .i64 a0_0) ∧ w'.cell? ⟨gb395, 1, none⟩ = some (.slice A0_1 l0_1.length c0_1)) ∧ (w'.heap[gb395]? = some (.cells #[.int .i64 a0_0, .slice A0_1 l0_1.length c0_1] 26 (0, 0))) ∧ (w'.heap[s_]? = some (.cells #[.int .i64 0] 3 (0, 0))) ∧ (w.heap.size ≤ s_) ∧ (w.heap.size ≤ s_) ∧ (gb395 ≠ s_) ∧ (s_ ≠ gb395) ∧ (Below w.heap.size w w')) ?_ ?_
           rotate_left
           ·intro hJ5
            refine join_ (σ := Nat) 6 (bm 9 73) (fun s_ => [(5, .pointer (some ⟨s_, 0, none⟩))]) (fun s_ w' => (w'.cell? ⟨gb395, 0, none⟩ = some (.int .i64 a0_0) ∧ w'.cell? ⟨gb395, 1, none⟩ = some (.slice A0_1 l0_1.length c0_1)) ∧ (w'.heap[gb395]? = some (.cells #[.int .i64 a0_0, .slice A0_1 l0_1.length c0_1] 26 (0, 0))) ∧ (w'.heap[s_]? = some (.cells #[.slice none 0 0] 24 (0, 0))) ∧ (w.heap.size ≤ s_) ∧ (w.heap.size ≤ s_) ∧ (gb395 ≠ s_) ∧ (s_ ≠ gb395) ∧ (Below w.heap.size w w')) ?_ ?_
            rotate_left
            ·intro hJ6
             refine three_ (i := 1) (j := 5) (k := 6) (Ni := some 11) (Nj := some 4) (Nk := some 5) (bm 9 11) (bm 9 41) (bm 9 73) rfl rfl rfl rfl rfl rfl (three_of HT_.out (by kernel_rfl)) (by decide) (by decide) (by decide) (fun K hK => ?_) (fun K hK => ?_) (fun K hK => ?_)
             ·skip
              refine goesR Tryd.func21 #[.agg #[.int .i64 a0_0, .slice A0_1 l0_1.length c0_1]] ?_
              with_reducible refine (impl_Order_antichain.calls k a0_0 _ _ l0_1 t397 _ ?s1 ?s2 ?s3 A4.out).mono ?_
              (case s1 => exact C_g HR0_1 HB)
              (case s2 => exact HC0_1.out)
              (case s3 => exact Tab.below HTAB.out (bel_g HB.out))
              rintro e w11 ⟨v398, rfl, ho0, hb⟩
              refine ⟨_, rfl, ?_⟩
              have HO399 := rLo ho0 HB
              replace BK395 := blkB BK395 hb
              replace HB := bst HB hb
              (try clear hb)
              (try clear hb2)
              (try clear hk)
              (try clear hi)
              (try clear ho0)
              obtain ⟨Ao12, co12, eo12⟩ := Kd.R_slice HO399.out
              (first | subst eo12 | (injection eo12 with f1_ f2_ f3_; have f4_ := f1_.symm; have f5_ := f3_.symm; clear f1_ f2_ f3_; subst f4_; subst f5_))
              refine hK.out _ _ ⟨(blk_cell BK395.out 0).trans rfl, (blk_cell BK395.out 1).trans rfl⟩ (fun hHeld => ?_)
              clear hK K
              refine normW 11 ?_
              refine purW 2 12 9 15 HT_ ?_
              exact norm_ (by first | (simp only [putAll, Act.put, List.setIfInBounds_toArray, List.set_cons_zero, List.set_cons_succ]; done) | (simp only [putAll, Act.put, List.setIfInBounds_toArray, List.set_cons_zero, List.set_cons_succ]; rfl)) (hJ1 (.slice Ao12 t397.length co12) _ ⟨hHeld, (Kd.R_g HO399.out), (blk_g BK395.out), (bel_g HB.out)⟩)
             ·skip
              refine box_step ?hg (N := 4) ?hd (cs := #[.int .i64 0]) (t := 3) ?hr ?_; (case hd => rfl); (case hg => rfl); (case hr => first | (go_simp; done) | (go_simp; rfl))
              intro gb403 hg w11 hbox hb
              have BK403 := mkA (hbox)
              have GW403 := geB HB hg
              have GE403 := geB HB hg
              have NB395_403 := neL7 BK395 hg
              have NB403_395 := neR7 BK395 hg
              replace BK395 := blkB BK395 hb
              replace HB := bst HB hb
              clear hb hbox hg
              refine hK.out _ _ ⟨(blk_cell BK395.out 0).trans rfl, (blk_cell BK395.out 1).trans rfl⟩ (fun hHeld => ?_)
              clear hK K
              refine normW 4 ?_
              exact norm_ (by first | (simp only [putAll, Act.put, List.setIfInBounds_toArray, List.set_cons_zero, List.set_cons_succ]; done) | (simp only [putAll, Act.put, List.setIfInBounds_toArray, List.set_cons_zero, List.set_cons_succ]; rfl)) (hJ5 (gb403) _ ⟨hHeld, (blk_g BK395.out), (blk_g BK403.out), GW403.out, GE403.out, NB395_403.out, NB403_395.out, (bel_g HB.out)⟩)
             ·skip
              refine box_step ?hg (N := 5) ?hd (cs := #[.slice none 0 0]) (t := 24) ?hr ?_; (case hd => rfl); (case hg => rfl); (case hr => first | (go_simp; done) | (go_simp; rfl))
              intro gb404 hg w11 hbox hb
              have BK404 := mkA (hbox)
              have GW404 := geB HB hg
              have GE404 := geB HB hg
              have NB395_404 := neL7 BK395 hg
              have NB404_395 := neR7 BK395 hg
              replace BK395 := blkB BK395 hb
              replace HB := bst HB hb
              clear hb hbox hg
              refine hK.out _ _ ⟨(blk_cell BK395.out 0).trans rfl, (blk_cell BK395.out 1).trans rfl⟩ (fun hHeld => ?_)
              clear hK K
              refine normW 5 ?_
              exact norm_ (by first | (simp only [putAll, Act.put, List.setIfInBounds_toArray, List.set_cons_zero, List.set_cons_succ]; done) | (simp only [putAll, Act.put, List.setIfInBounds_toArray, List.set_cons_zero, List.set_cons_succ]; rfl)) (hJ6 (gb404) _ ⟨hHeld, (blk_g BK395.out), (blk_g BK404.out), GW404.out, GE404.out, NB395_404.out, NB404_395.out, (bel_g HB.out)⟩)
            ·skip
             rintro gb404 w12 ⟨hS_, h0_, h1_, h2_, h3_, h4_, h5_, h6_⟩
             have n0_ : Fc (w12.heap[gb395]? = some (.cells #[.int .i64 a0_0, .slice A0_1 l0_1.length c0_1] 26 (0, 0))) := ⟨h0_⟩
             have n1_ : Fc (w12.heap[gb404]? = some (.cells #[.slice none 0 0] 24 (0, 0))) := ⟨h1_⟩
             have n2_ : Ge w.heap.size gb404 := ⟨h2_⟩
             have n3_ : Ge w.heap.size gb404 := ⟨h3_⟩
             have n4_ : NeB gb395 gb404 := ⟨h4_⟩
             have n5_ : NeB gb404 gb395 := ⟨h5_⟩
             have n6_ : Fc (Below w.heap.size w w12) := ⟨h6_⟩
             clear BK395
             clear HB
             clear h0_ h1_ h2_ h3_ h4_ h5_ h6_
             have BK395 := n0_
             have BK404 := n1_
             have GW404 := n2_
             have GE404 := n3_
             have NB395_404 := n4_
             have NB404_395 := n5_
             have HB := n6_
             clear n0_ n1_ n2_ n3_ n4_ n5_ n6_
             have hHeld : w12.cell? ⟨gb395, 0, none⟩ = some (.int .i64 a0_0) ∧ w12.cell? ⟨gb395, 1, none⟩ = some (.slice A0_1 l0_1.length c0_1) := hS_
             refine norm_ (a' := ?_) ?_ ?_
             rotate_left
             ·simp only [putAll, Act.put, List.setIfInBounds_toArray, List.set_cons_zero, List.set_cons_succ]
              rfl
             refine two_ (i := 1) (j := 5) (Ni := some 11) (Nj := some 4) (bm 9 75) (bm 9 105) rfl rfl rfl rfl (two_of HT_.out (by kernel_rfl)) (by decide) (by decide) (fun K hK => ?_) (fun K hK => ?_)
             ·skip
              refine goesR Tryd.func21 #[.agg #[.int .i64 a0_0, .slice A0_1 l0_1.length c0_1]] ?_
              with_reducible refine (impl_Order_antichain.calls k a0_0 _ _ l0_1 t397 _ ?s1 ?s2 ?s3 A4.out).mono ?_
              (case s1 => exact C_g HR0_1 HB)
              (case s2 => exact HC0_1.out)
              (case s3 => exact Tab.below HTAB.out (bel_g HB.out))
              rintro e w13 ⟨v398, rfl, ho0, hb⟩
              refine ⟨_, rfl, ?_⟩
              have HO399 := rLo ho0 HB
              replace BK395 := blkB BK395 hb
              replace BK404 := blkB BK404 hb
              replace HB := bst HB hb
              (try clear hb)
              (try clear hb2)
              (try clear hk)
              (try clear hi)
              (try clear ho0)
              obtain ⟨Ao14, co14, eo14⟩ := Kd.R_slice HO399.out
              (first | subst eo14 | (injection eo14 with f1_ f2_ f3_; have f4_ := f1_.symm; have f5_ := f3_.symm; clear f1_ f2_ f3_; subst f4_; subst f5_))
              refine hK.out _ _ ⟨(blk_cell BK395.out 0).trans rfl, (blk_cell BK395.out 1).trans rfl⟩ (fun hHeld => ?_)
              clear hK K
              refine normW 11 ?_
              refine purW 2 12 9 79 HT_ ?_
              exact norm_ (by first | (simp only [putAll, Act.put, List.setIfInBounds_toArray, List.set_cons_zero, List.set_cons_succ]; done) | (simp only [putAll, Act.put, List.setIfInBounds_toArray, List.set_cons_zero, List.set_cons_succ]; rfl)) (hJ1_6 (.slice Ao14 t397.length co14, gb404) _ ⟨hHeld, (Kd.R_g HO399.out), (blk_g BK395.out), (blk_g BK404.out), GW404.out, GE404.out, NB395_404.out, NB404_395.out, (bel_g HB.out)⟩)
             ·skip
              refine box_step ?hg (N := 4) ?hd (cs := #[.int .i64 0]) (t := 3) ?hr ?_; (case hd => rfl); (case hg => rfl); (case hr => first | (go_simp; done) | (go_simp; rfl))
              intro gb403 hg w13 hbox hb
              have BK403 := mkA (hbox)
              have GW403 := geB HB hg
              have GE403 := geB HB hg
              have NB395_403 := neL7 BK395 hg
              have NB403_395 := neR7 BK395 hg
              replace BK395 := blkB BK395 hb
              have NB404_403 := neL7 BK404 hg
              have NB403_404 := neR7 BK404 hg
              replace BK404 := blkB BK404 hb
              replace HB := bst HB hb
              clear hb hbox hg
              refine hK.out _ _ ⟨(blk_cell BK395.out 0).trans rfl, (blk_cell BK395.out 1).trans rfl⟩ (fun hHeld => ?_)
              clear hK K
              refine normW 4 ?_
              exact norm_ (by first | (simp only [putAll, Act.put, List.setIfInBounds_toArray, List.set_cons_zero, List.set_cons_succ]; done) | (simp only [putAll, Act.put, List.setIfInBounds_toArray, List.set_cons_zero, List.set_cons_succ]; rfl)) (hJ5_6 (gb403, gb404) _ ⟨hHeld, (blk_g BK395.out), (blk_g BK403.out), (blk_g BK404.out), GW403.out, GE403.out, NB395_403.out, NB403_395.out, NB404_403.out, NB403_404.out, GW404.out, GE404.out, NB395_404.out, NB404_395.out, (bel_g HB.out)⟩)
           ·skip
            rintro gb403 w12 ⟨hS_, h0_, h1_, h2_, h3_, h4_, h5_, h6_⟩
            have n0_ : Fc (w12.heap[gb395]? = some (.cells #[.int .i64 a0_0, .slice A0_1 l0_1.length c0_1] 26 (0, 0))) := ⟨h0_⟩
            have n1_ : Fc (w12.heap[gb403]? = some (.cells #[.int .i64 0] 3 (0, 0))) := ⟨h1_⟩
            have n2_ : Ge w.heap.size gb403 := ⟨h2_⟩
            have n3_ : Ge w.heap.size gb403 := ⟨h3_⟩
            have n4_ : NeB gb395 gb403 := ⟨h4_⟩
            have n5_ : NeB gb403 gb395 := ⟨h5_⟩
            have n6_ : Fc (Below w.heap.size w w12) := ⟨h6_⟩
            clear BK395
            clear HB
            clear h0_ h1_ h2_ h3_ h4_ h5_ h6_
            have BK395 := n0_
            have BK403 := n1_
            have GW403 := n2_
            have GE403 := n3_
            have NB395_403 := n4_
            have NB403_395 := n5_
            have HB := n6_
            clear n0_ n1_ n2_ n3_ n4_ n5_ n6_
            have hHeld : w12.cell? ⟨gb395, 0, none⟩ = some (.int .i64 a0_0) ∧ w12.cell? ⟨gb395, 1, none⟩ = some (.slice A0_1 l0_1.length c0_1) := hS_
            refine norm_ (a' := ?_) ?_ ?_
            rotate_left
            ·simp only [putAll, Act.put, List.setIfInBounds_toArray, List.set_cons_zero, List.set_cons_succ]
             rfl
            refine two_ (i := 1) (j := 6) (Ni := some 11) (Nj := some 5) (bm 9 43) (bm 9 105) rfl rfl rfl rfl (two_of HT_.out (by kernel_rfl)) (by decide) (by decide) (fun K hK => ?_) (fun K hK => ?_)
            ·skip
             refine goesR Tryd.func21 #[.agg #[.int .i64 a0_0, .slice A0_1 l0_1.length c0_1]] ?_
             with_reducible refine (impl_Order_antichain.calls k a0_0 _ _ l0_1 t397 _ ?s1 ?s2 ?s3 A4.out).mono ?_
             (case s1 => exact C_g HR0_1 HB)
             (case s2 => exact HC0_1.out)
             (case s3 => exact Tab.below HTAB.out (bel_g HB.out))
             rintro e w13 ⟨v398, rfl, ho0, hb⟩
             refine ⟨_, rfl, ?_⟩
             have HO399 := rLo (Kd.R_newB ho0 (g := gb403) (o := .cells #[.int .i64 0] 3 (0, 0)) (blk_g BK403.out)) HB
             replace BK395 := blkB BK395 hb
             replace BK403 := blkB BK403 hb
             replace HB := bst HB hb
             (try clear hb)
             (try clear hb2)
             (try clear hk)
             (try clear hi)
             (try clear ho0)
             obtain ⟨Ao14, co14, eo14⟩ := Kd.R_slice HO399.out
             (first | subst eo14 | (injection eo14 with f1_ f2_ f3_; have f4_ := f1_.symm; have f5_ := f3_.symm; clear f1_ f2_ f3_; subst f4_; subst f5_))
             refine hK.out _ _ ⟨(blk_cell BK395.out 0).trans rfl, (blk_cell BK395.out 1).trans rfl⟩ (fun hHeld => ?_)
             clear hK K
             refine normW 11 ?_
             refine purW 2 12 9 47 HT_ ?_
             exact norm_ (by first | (simp only [putAll, Act.put, List.setIfInBounds_toArray, List.set_cons_zero, List.set_cons_succ]; done) | (simp only [putAll, Act.put, List.setIfInBounds_toArray, List.set_cons_zero, List.set_cons_succ]; rfl)) (hJ1_5 (.slice Ao14 t397.length co14, gb403) _ ⟨hHeld, (Kd.R_g (Kd.R_mono HO399.out (fun _ hk => hk.2))), (blk_g BK395.out), (blk_g BK403.out), GW403.out, GE403.out, NB395_403.out, NB403_395.out, (bel_g HB.out)⟩)
            ·skip
             refine box_step ?hg (N := 5) ?hd (cs := #[.slice none 0 0]) (t := 24) ?hr ?_; (case hd => rfl); (case hg => rfl); (case hr => first | (go_simp; done) | (go_simp; rfl))
             intro gb404 hg w13 hbox hb
             have BK404 := mkA (hbox)
             have GW404 := geB HB hg
             have GE404 := geB HB hg
             have NB395_404 := neL7 BK395 hg
             have NB404_395 := neR7 BK395 hg
             replace BK395 := blkB BK395 hb
             have NB403_404 := neL7 BK403 hg
             have NB404_403 := neR7 BK403 hg
             replace BK403 := blkB BK403 hb
             replace HB := bst HB hb
             clear hb hbox hg
             refine hK.out _ _ ⟨(blk_cell BK395.out 0).trans rfl, (blk_cell BK395.out 1).trans rfl⟩ (fun hHeld => ?_)
             clear hK K
             refine normW 5 ?_
             exact norm_ (by first | (simp only [putAll, Act.put, List.setIfInBounds_toArray, List.set_cons_zero, List.set_cons_succ]; done) | (simp only [putAll, Act.put, List.setIfInBounds_toArray, List.set_cons_zero, List.set_cons_succ]; rfl)) (hJ5_6 (gb403, gb404) _ ⟨hHeld, (blk_g BK395.out), (blk_g BK403.out), (blk_g BK404.out), GW403.out, GE403.out, NB395_403.out, NB403_395.out, NB404_403.out, NB403_404.out, GW404.out, GE404.out, NB395_404.out, NB404_395.out, (bel_g HB.out)⟩)
          ·skip
           rintro v398 w13 ⟨hS_, h0_, h1_, h2_⟩
           have n0_ : Fc (Kd.R (Kd.int .i64) 3 w13 w.heap.size (fun _ => True) v398 t397) := ⟨h0_⟩
           have n1_ : Fc (w13.heap[gb395]? = some (.cells #[.int .i64 a0_0, .slice A0_1 l0_1.length c0_1] 26 (0, 0))) := ⟨h1_⟩
           have n2_ : Fc (Below w.heap.size w w13) := ⟨h2_⟩
           clear BK395
           clear HB
           clear h0_ h1_ h2_
           have HO399 := n0_
           have BK395 := n1_
           have HB := n2_
           clear n0_ n1_ n2_
           have hHeld : w13.cell? ⟨gb395, 0, none⟩ = some (.int .i64 a0_0) ∧ w13.cell? ⟨gb395, 1, none⟩ = some (.slice A0_1 l0_1.length c0_1) := hS_
           obtain ⟨Ao14, co14, eo14⟩ := Kd.R_slice HO399.out
           (first | subst eo14 | (injection eo14 with f1_ f2_ f3_; have f4_ := f1_.symm; have f5_ := f3_.symm; clear f1_ f2_ f3_; subst f4_; subst f5_))
           refine norm_ (a' := ?_) ?_ ?_
           rotate_left
           ·simp only [putAll, Act.put, List.setIfInBounds_toArray, List.set_cons_zero, List.set_cons_succ]
            rfl
           refine three_ (i := 4) (j := 5) (k := 6) (Ni := some 14) (Nj := some 4) (Nk := some 5) (bm 9 31) (bm 9 47) (bm 9 79) rfl rfl rfl rfl rfl rfl (three_of HT_.out (by kernel_rfl)) (by decide) (by decide) (by decide) (fun K hK => ?_) (fun K hK => ?_) (fun K hK => ?_)
           ·skip
            refine goesR Tryd.func22 #[.agg #[.int .i64 a0_0, .slice A0_1 l0_1.length c0_1]] ?_
            with_reducible refine (impl_Order_indifferent.calls k a0_0 _ _ l0_1 t400 _ ?s1 ?s2 A5.out).mono ?_
            (case s1 => exact C_g HR0_1 HB)
            (case s2 => exact HC0_1.out)
            rintro e w15 ⟨v401, rfl, ho0, hb⟩
            refine ⟨_, rfl, ?_⟩
            have HO402 := rLo (rN ho0 HO399) HB
            replace HO399 := rE HO399 ho0 hb
            replace BK395 := blkB BK395 hb
            replace HB := bst HB hb
            (try clear hb)
            (try clear hb2)
            (try clear hk)
            (try clear hi)
            (try clear ho0)
            refine hK.out _ _ ⟨(blk_cell BK395.out 0).trans rfl, (blk_cell BK395.out 1).trans rfl⟩ (fun hHeld => ?_)
            clear hK K
            refine normW 14 ?_
            exact norm_ (by first | (simp only [putAll, Act.put, List.setIfInBounds_toArray, List.set_cons_zero, List.set_cons_succ]; done) | (simp only [putAll, Act.put, List.setIfInBounds_toArray, List.set_cons_zero, List.set_cons_succ]; rfl)) (hJ1_4 (.slice Ao14 t397.length co14, v401) _ ⟨hHeld, (Kd.R_g (Kd.R_mono HO399.out (fun _ hk => hk.2))), (Kd.R_g (Kd.R_mono HO402.out (fun _ hk => hk.2))), (blk_g BK395.out), (bel_g HB.out)⟩)
           ·skip
            refine box_step ?hg (N := 4) ?hd (cs := #[.int .i64 0]) (t := 3) ?hr ?_; (case hd => rfl); (case hg => rfl); (case hr => first | (go_simp; done) | (go_simp; rfl))
            intro gb403 hg w15 hbox hb
            replace HO399 := mkA (Kd.R_below (Kd.R_elderB (Kd.R_g HO399.out) gb403 (Nat.le_of_eq hg.symm)) hb)
            have BK403 := mkA (hbox)
            have GW403 := geB HB hg
            have GE403 := geB HB hg
            have NB395_403 := neL7 BK395 hg
            have NB403_395 := neR7 BK395 hg
            replace BK395 := blkB BK395 hb
            replace HB := bst HB hb
            clear hb hbox hg
            refine hK.out _ _ ⟨(blk_cell BK395.out 0).trans rfl, (blk_cell BK395.out 1).trans rfl⟩ (fun hHeld => ?_)
            clear hK K
            refine normW 4 ?_
            exact norm_ (by first | (simp only [putAll, Act.put, List.setIfInBounds_toArray, List.set_cons_zero, List.set_cons_succ]; done) | (simp only [putAll, Act.put, List.setIfInBounds_toArray, List.set_cons_zero, List.set_cons_succ]; rfl)) (hJ1_5 (.slice Ao14 t397.length co14, gb403) _ ⟨hHeld, (Kd.R_g (Kd.R_mono HO399.out (fun _ hk => hk.2))), (blk_g BK395.out), (blk_g BK403.out), GW403.out, GE403.out, NB395_403.out, NB403_395.out, (bel_g HB.out)⟩)
           ·skip
            refine box_step ?hg (N := 5) ?hd (cs := #[.slice none 0 0]) (t := 24) ?hr ?_; (case hd => rfl); (case hg => rfl); (case hr => first | (go_simp; done) | (go_simp; rfl))
            intro gb404 hg w15 hbox hb
            replace HO399 := rB HO399 hb
            have BK404 := mkA (hbox)
            have GW404 := geB HB hg
            have GE404 := geB HB hg
            have NB395_404 := neL7 BK395 hg
            have NB404_395 := neR7 BK395 hg
            replace BK395 := blkB BK395 hb
            replace HB := bst HB hb
            clear hb hbox hg
            refine hK.out _ _ ⟨(blk_cell BK395.out 0).trans rfl, (blk_cell BK395.out 1).trans rfl⟩ (fun hHeld => ?_)
            clear hK K
            refine normW 5 ?_
            exact norm_ (by first | (simp only [putAll, Act.put, List.setIfInBounds_toArray, List.set_cons_zero, List.set_cons_succ]; done) | (simp only [putAll, Act.put, List.setIfInBounds_toArray, List.set_cons_zero, List.set_cons_succ]; rfl)) (hJ1_6 (.slice Ao14 t397.length co14, gb404) _ ⟨hHeld, (Kd.R_g HO399.out), (blk_g BK395.out), (blk_g BK404.out), GW404.out, GE404.out, NB395_404.out, NB404_395.out, (bel_g HB.out)⟩)
         ·skip
          rintro ⟨gb403, gb404⟩ w13 ⟨hS_, h0_, h1_, h2_, h3_, h4_, h5_, h6_, h7_, h8_, h9_, h10_, h11_, h12_, h13_⟩
          have n0_ : Fc (w13.heap[gb395]? = some (.cells #[.int .i64 a0_0, .slice A0_1 l0_1.length c0_1] 26 (0, 0))) := ⟨h0_⟩
          have n1_ : Fc (w13.heap[gb403]? = some (.cells #[.int .i64 0] 3 (0, 0))) := ⟨h1_⟩
          have n2_ : Fc (w13.heap[gb404]? = some (.cells #[.slice none 0 0] 24 (0, 0))) := ⟨h2_⟩
          have n3_ : Ge w.heap.size gb403 := ⟨h3_⟩
          have n4_ : Ge w.heap.size gb403 := ⟨h4_⟩
          have n5_ : NeB gb395 gb403 := ⟨h5_⟩
          have n6_ : NeB gb403 gb395 := ⟨h6_⟩
          have n7_ : NeB gb404 gb403 := ⟨h7_⟩
          have n8_ : NeB gb403 gb404 := ⟨h8_⟩
          have n9_ : Ge w.heap.size gb404 := ⟨h9_⟩
          have n10_ : Ge w.heap.size gb404 := ⟨h10_⟩
          have n11_ : NeB gb395 gb404 := ⟨h11_⟩
          have n12_ : NeB gb404 gb395 := ⟨h12_⟩
          have n13_ : Fc (Below w.heap.size w w13) := ⟨h13_⟩
          clear BK395
          clear HB
          clear h0_ h1_ h2_ h3_ h4_ h5_ h6_ h7_ h8_ h9_ h10_ h11_ h12_ h13_
          have BK395 := n0_
          have BK403 := n1_
          have BK404 := n2_
          have GW403 := n3_
          have GE403 := n4_
          have NB395_403 := n5_
          have NB403_395 := n6_
          have NB404_403 := n7_
          have NB403_404 := n8_
          have GW404 := n9_
          have GE404 := n10_
          have NB395_404 := n11_
          have NB404_395 := n12_
          have HB := n13_
          clear n0_ n1_ n2_ n3_ n4_ n5_ n6_ n7_ n8_ n9_ n10_ n11_ n12_ n13_
          have hHeld : w13.cell? ⟨gb395, 0, none⟩ = some (.int .i64 a0_0) ∧ w13.cell? ⟨gb395, 1, none⟩ = some (.slice A0_1 l0_1.length c0_1) := hS_
          refine norm_ (a' := ?_) ?_ ?_
          rotate_left
          ·simp only [putAll, Act.put, List.setIfInBounds_toArray, List.set_cons_zero, List.set_cons_succ]
           rfl
          refine oneW 1 (some 11) (bm 9 107) HT_ (fun K hK => ?_)
          refine goesR Tryd.func21 #[.agg #[.int .i64 a0_0, .slice A0_1 l0_1.length c0_1]] ?_
          with_reducible refine (impl_Order_antichain.calls k a0_0 _ _ l0_1 t397 _ ?s1 ?s2 ?s3 A4.out).mono ?_
          (case s1 => exact C_g HR0_1 HB)
          (case s2 => exact HC0_1.out)
          (case s3 => exact Tab.below HTAB.out (bel_g HB.out))
          rintro e w14 ⟨v398, rfl, ho0, hb⟩
          refine ⟨_, rfl, ?_⟩
          have HO399 := rLo (Kd.R_newB ho0 (g := gb403) (o := .cells #[.int .i64 0] 3 (0, 0)) (blk_g BK403.out)) HB
          replace BK395 := blkB BK395 hb
          replace BK403 := blkB BK403 hb
          replace BK404 := blkB BK404 hb
          replace HB := bst HB hb
          (try clear hb)
          (try clear hb2)
          (try clear hk)
          (try clear hi)
          (try clear ho0)
          obtain ⟨Ao15, co15, eo15⟩ := Kd.R_slice HO399.out
          (first | subst eo15 | (injection eo15 with f1_ f2_ f3_; have f4_ := f1_.symm; have f5_ := f3_.symm; clear f1_ f2_ f3_; subst f4_; subst f5_))
          refine hK.out _ _ ⟨(blk_cell BK395.out 0).trans rfl, (blk_cell BK395.out 1).trans rfl⟩ (fun hHeld => ?_)
          clear hK K
          refine normW 11 ?_
          refine purW 2 12 9 111 HT_ ?_
          exact norm_ (by first | (simp only [putAll, Act.put, List.setIfInBounds_toArray, List.set_cons_zero, List.set_cons_succ]; done) | (simp only [putAll, Act.put, List.setIfInBounds_toArray, List.set_cons_zero, List.set_cons_succ]; rfl)) (hJ1_5_6 (.slice Ao15 t397.length co15, gb403, gb404) _ ⟨hHeld, (Kd.R_g (Kd.R_mono HO399.out (fun _ hk => hk.2))), (blk_g BK395.out), (blk_g BK403.out), (blk_g BK404.out), GW403.out, GE403.out, NB395_403.out, NB403_395.out, NB404_403.out, NB403_404.out, GW404.out, GE404.out, NB395_404.out, NB404_395.out, (bel_g HB.out)⟩)
        ·skip
         rintro ⟨v398, gb404⟩ w14 ⟨hS_, h0_, h1_, h2_, h3_, h4_, h5_, h6_, h7_⟩
         have n0_ : Fc (Kd.R (Kd.int .i64) 3 w14 w.heap.size (fun _ => True) v398 t397) := ⟨h0_⟩
         have n1_ : Fc (w14.heap[gb395]? = some (.cells #[.int .i64 a0_0, .slice A0_1 l0_1.length c0_1] 26 (0, 0))) := ⟨h1_⟩
         have n2_ : Fc (w14.heap[gb404]? = some (.cells #[.slice none 0 0] 24 (0, 0))) := ⟨h2_⟩
         have n3_ : Ge w.heap.size gb404 := ⟨h3_⟩
         have n4_ : Ge w.heap.size gb404 := ⟨h4_⟩
         have n5_ : NeB gb395 gb404 := ⟨h5_⟩
         have n6_ : NeB gb404 gb395 := ⟨h6_⟩
         have n7_ : Fc (Below w.heap.size w w14) := ⟨h7_⟩
         clear BK395
         clear HB
         clear h0_ h1_ h2_ h3_ h4_ h5_ h6_ h7_
         have HO399 := n0_
         have BK395 := n1_
         have BK404 := n2_
         have GW404 := n3_
         have GE404 := n4_
         have NB395_404 := n5_
         have NB404_395 := n6_
         have HB := n7_
         clear n0_ n1_ n2_ n3_ n4_ n5_ n6_ n7_
         have hHeld : w14.cell? ⟨gb395, 0, none⟩ = some (.int .i64 a0_0) ∧ w14.cell? ⟨gb395, 1, none⟩ = some (.slice A0_1 l0_1.length c0_1) := hS_
         obtain ⟨Ao15, co15, eo15⟩ := Kd.R_slice HO399.out
         (first | subst eo15 | (injection eo15 with f1_ f2_ f3_; have f4_ := f1_.symm; have f5_ := f3_.symm; clear f1_ f2_ f3_; subst f4_; subst f5_))
         refine norm_ (a' := ?_) ?_ ?_
         rotate_left
         ·simp only [putAll, Act.put, List.setIfInBounds_toArray, List.set_cons_zero, List.set_cons_succ]
          rfl
         refine two_ (i := 4) (j := 5) (Ni := some 14) (Nj := some 4) (bm 9 95) (bm 9 111) rfl rfl rfl rfl (two_of HT_.out (by kernel_rfl)) (by decide) (by decide) (fun K hK => ?_) (fun K hK => ?_)
         ·skip
          refine goesR Tryd.func22 #[.agg #[.int .i64 a0_0, .slice A0_1 l0_1.length c0_1]] ?_
          with_reducible refine (impl_Order_indifferent.calls k a0_0 _ _ l0_1 t400 _ ?s1 ?s2 A5.out).mono ?_
          (case s1 => exact C_g HR0_1 HB)
          (case s2 => exact HC0_1.out)
          rintro e w16 ⟨v401, rfl, ho0, hb⟩
          refine ⟨_, rfl, ?_⟩
          have HO402 := rLo (rN ho0 HO399) HB
          replace HO399 := rE HO399 ho0 hb
          replace BK395 := blkB BK395 hb
          replace BK404 := blkB BK404 hb
          replace HB := bst HB hb
          (try clear hb)
          (try clear hb2)
          (try clear hk)
          (try clear hi)
          (try clear ho0)
          refine hK.out _ _ ⟨(blk_cell BK395.out 0).trans rfl, (blk_cell BK395.out 1).trans rfl⟩ (fun hHeld => ?_)
          clear hK K
          refine normW 14 ?_
          exact norm_ (by first | (simp only [putAll, Act.put, List.setIfInBounds_toArray, List.set_cons_zero, List.set_cons_succ]; done) | (simp only [putAll, Act.put, List.setIfInBounds_toArray, List.set_cons_zero, List.set_cons_succ]; rfl)) (hJ1_4_6 (.slice Ao15 t397.length co15, v401, gb404) _ ⟨hHeld, (Kd.R_g (Kd.R_mono HO399.out (fun _ hk => hk.2))), (Kd.R_g (Kd.R_mono HO402.out (fun _ hk => hk.2))), (blk_g BK395.out), (blk_g BK404.out), GW404.out, GE404.out, NB395_404.out, NB404_395.out, (bel_g HB.out)⟩)
         ·skip
          refine box_step ?hg (N := 4) ?hd (cs := #[.int .i64 0]) (t := 3) ?hr ?_; (case hd => rfl); (case hg => rfl); (case hr => first | (go_simp; done) | (go_simp; rfl))
          intro gb403 hg w16 hbox hb
          replace HO399 := mkA (Kd.R_below (Kd.R_elderB (Kd.R_g HO399.out) gb403 (Nat.le_of_eq hg.symm)) hb)
          have BK403 := mkA (hbox)
          have GW403 := geB HB hg
          have GE403 := geB HB hg
          have NB395_403 := neL7 BK395 hg
          have NB403_395 := neR7 BK395 hg
          replace BK395 := blkB BK395 hb
          have NB404_403 := neL7 BK404 hg
          have NB403_404 := neR7 BK404 hg
          replace BK404 := blkB BK404 hb
          replace HB := bst HB hb
          clear hb hbox hg
          refine hK.out _ _ ⟨(blk_cell BK395.out 0).trans rfl, (blk_cell BK395.out 1).trans rfl⟩ (fun hHeld => ?_)
          clear hK K
          refine normW 4 ?_
          exact norm_ (by first | (simp only [putAll, Act.put, List.setIfInBounds_toArray, List.set_cons_zero, List.set_cons_succ]; done) | (simp only [putAll, Act.put, List.setIfInBounds_toArray, List.set_cons_zero, List.set_cons_succ]; rfl)) (hJ1_5_6 (.slice Ao15 t397.length co15, gb403, gb404) _ ⟨hHeld, (Kd.R_g (Kd.R_mono HO399.out (fun _ hk => hk.2))), (blk_g BK395.out), (blk_g BK403.out), (blk_g BK404.out), GW403.out, GE403.out, NB395_403.out, NB403_395.out, NB404_403.out, NB403_404.out, GW404.out, GE404.out, NB395_404.out, NB404_395.out, (bel_g HB.out)⟩)
       ·skip
        rintro ⟨v398, gb403⟩ w14 ⟨hS_, h0_, h1_, h2_, h3_, h4_, h5_, h6_, h7_⟩
        have n0_ : Fc (Kd.R (Kd.int .i64) 3 w14 w.heap.size (fun k_ => k_ ≠ gb403) v398 t397) := ⟨h0_⟩
        have n1_ : Fc (w14.heap[gb395]? = some (.cells #[.int .i64 a0_0, .slice A0_1 l0_1.length c0_1] 26 (0, 0))) := ⟨h1_⟩
        have n2_ : Fc (w14.heap[gb403]? = some (.cells #[.int .i64 0] 3 (0, 0))) := ⟨h2_⟩
        have n3_ : Ge w.heap.size gb403 := ⟨h3_⟩
        have n4_ : Ge w.heap.size gb403 := ⟨h4_⟩
        have n5_ : NeB gb395 gb403 := ⟨h5_⟩
        have n6_ : NeB gb403 gb395 := ⟨h6_⟩
        have n7_ : Fc (Below w.heap.size w w14) := ⟨h7_⟩
        clear BK395
        clear HB
        clear h0_ h1_ h2_ h3_ h4_ h5_ h6_ h7_
        have HO399 := n0_
        have BK395 := n1_
        have BK403 := n2_
        have GW403 := n3_
        have GE403 := n4_
        have NB395_403 := n5_
        have NB403_395 := n6_
        have HB := n7_
        clear n0_ n1_ n2_ n3_ n4_ n5_ n6_ n7_
        have hHeld : w14.cell? ⟨gb395, 0, none⟩ = some (.int .i64 a0_0) ∧ w14.cell? ⟨gb395, 1, none⟩ = some (.slice A0_1 l0_1.length c0_1) := hS_
        obtain ⟨Ao15, co15, eo15⟩ := Kd.R_slice HO399.out
        (first | subst eo15 | (injection eo15 with f1_ f2_ f3_; have f4_ := f1_.symm; have f5_ := f3_.symm; clear f1_ f2_ f3_; subst f4_; subst f5_))
        refine norm_ (a' := ?_) ?_ ?_
        rotate_left
        ·simp only [putAll, Act.put, List.setIfInBounds_toArray, List.set_cons_zero, List.set_cons_succ]
         rfl
        refine two_ (i := 4) (j := 6) (Ni := some 14) (Nj := some 5) (bm 9 63) (bm 9 111) rfl rfl rfl rfl (two_of HT_.out (by kernel_rfl)) (by decide) (by decide) (fun K hK => ?_) (fun K hK => ?_)
        ·skip
         refine goesR Tryd.func22 #[.agg #[.int .i64 a0_0, .slice A0_1 l0_1.length c0_1]] ?_
         with_reducible refine (impl_Order_indifferent.calls k a0_0 _ _ l0_1 t400 _ ?s1 ?s2 A5.out).mono ?_
         (case s1 => exact C_g HR0_1 HB)
         (case s2 => exact HC0_1.out)
         rintro e w16 ⟨v401, rfl, ho0, hb⟩
         refine ⟨_, rfl, ?_⟩
         have HO402 := rLo (Kd.R_newB (rN ho0 HO399) (g := gb403) (o := .cells #[.int .i64 0] 3 (0, 0)) (blk_g BK403.out)) HB
         replace HO399 := rE HO399 ho0 hb
         replace BK395 := blkB BK395 hb
         replace BK403 := blkB BK403 hb
         replace HB := bst HB hb
         (try clear hb)
         (try clear hb2)
         (try clear hk)
         (try clear hi)
         (try clear ho0)
         refine hK.out _ _ ⟨(blk_cell BK395.out 0).trans rfl, (blk_cell BK395.out 1).trans rfl⟩ (fun hHeld => ?_)
         clear hK K
         refine normW 14 ?_
         exact norm_ (by first | (simp only [putAll, Act.put, List.setIfInBounds_toArray, List.set_cons_zero, List.set_cons_succ]; done) | (simp only [putAll, Act.put, List.setIfInBounds_toArray, List.set_cons_zero, List.set_cons_succ]; rfl)) (hJ1_4_5 (.slice Ao15 t397.length co15, v401, gb403) _ ⟨hHeld, (Kd.R_g (Kd.R_mono HO399.out (fun _ hk => ⟨hk.2, hk.1⟩))), (Kd.R_g (Kd.R_mono HO402.out (fun _ hk => ⟨hk.1.2, hk.2⟩))), (blk_g BK395.out), (blk_g BK403.out), GW403.out, GE403.out, NB395_403.out, NB403_395.out, (bel_g HB.out)⟩)
        ·skip
         refine box_step ?hg (N := 5) ?hd (cs := #[.slice none 0 0]) (t := 24) ?hr ?_; (case hd => rfl); (case hg => rfl); (case hr => first | (go_simp; done) | (go_simp; rfl))
         intro gb404 hg w16 hbox hb
         replace HO399 := rB HO399 hb
         have BK404 := mkA (hbox)
         have GW404 := geB HB hg
         have GE404 := geB HB hg
         have NB395_404 := neL7 BK395 hg
         have NB404_395 := neR7 BK395 hg
         replace BK395 := blkB BK395 hb
         have NB403_404 := neL7 BK403 hg
         have NB404_403 := neR7 BK403 hg
         replace BK403 := blkB BK403 hb
         replace HB := bst HB hb
         clear hb hbox hg
         refine hK.out _ _ ⟨(blk_cell BK395.out 0).trans rfl, (blk_cell BK395.out 1).trans rfl⟩ (fun hHeld => ?_)
         clear hK K
         refine normW 5 ?_
         exact norm_ (by first | (simp only [putAll, Act.put, List.setIfInBounds_toArray, List.set_cons_zero, List.set_cons_succ]; done) | (simp only [putAll, Act.put, List.setIfInBounds_toArray, List.set_cons_zero, List.set_cons_succ]; rfl)) (hJ1_5_6 (.slice Ao15 t397.length co15, gb403, gb404) _ ⟨hHeld, (Kd.R_g HO399.out), (blk_g BK395.out), (blk_g BK403.out), (blk_g BK404.out), GW403.out, GE403.out, NB395_403.out, NB403_395.out, NB404_403.out, NB403_404.out, GW404.out, GE404.out, NB395_404.out, NB404_395.out, (bel_g HB.out)⟩)
      ·skip
       rintro ⟨v398, v401⟩ w14 ⟨hS_, h0_, h1_, h2_, h3_⟩
       have n0_ : Fc (Kd.R (Kd.int .i64) 3 w14 w.heap.size (fun k_ => some k_ ≠ (v401 : Value).ownBlock) v398 t397) := ⟨h0_⟩
       have n1_ : Fc (Kd.R (Kd.int .i64) 3 w14 w.heap.size (fun k_ => some k_ ≠ (v398 : Value).ownBlock) v401 t400) := ⟨h1_⟩
       have n2_ : Fc (w14.heap[gb395]? = some (.cells #[.int .i64 a0_0, .slice A0_1 l0_1.length c0_1] 26 (0, 0))) := ⟨h2_⟩
       have n3_ : Fc (Below w.heap.size w w14) := ⟨h3_⟩
       clear BK395
       clear HB
       clear h0_ h1_ h2_ h3_
       have HO399 := n0_
       have HO402 := n1_
       have BK395 := n2_
       have HB := n3_
       clear n0_ n1_ n2_ n3_
       have hHeld : w14.cell? ⟨gb395, 0, none⟩ = some (.int .i64 a0_0) ∧ w14.cell? ⟨gb395, 1, none⟩ = some (.slice A0_1 l0_1.length c0_1) := hS_
       obtain ⟨Ao15, co15, eo15⟩ := Kd.R_slice HO399.out
       (first | subst eo15 | (injection eo15 with f1_ f2_ f3_; have f4_ := f1_.symm; have f5_ := f3_.symm; clear f1_ f2_ f3_; subst f4_; subst f5_))
       refine norm_ (a' := ?_) ?_ ?_
       rotate_left
       ·simp only [putAll, Act.put, List.setIfInBounds_toArray, List.set_cons_zero, List.set_cons_succ]
        rfl
       refine two_ (i := 5) (j := 6) (Ni := some 4) (Nj := some 5) (bm 9 63) (bm 9 95) rfl rfl rfl rfl (two_of HT_.out (by kernel_rfl)) (by decide) (by decide) (fun K hK => ?_) (fun K hK => ?_)
       ·skip
        refine box_step ?hg (N := 4) ?hd (cs := #[.int .i64 0]) (t := 3) ?hr ?_; (case hd => rfl); (case hg => rfl); (case hr => first | (go_simp; done) | (go_simp; rfl))
        intro gb403 hg w16 hbox hb
        replace HO399 := mkA (Kd.R_below (Kd.R_elderB (Kd.R_g HO399.out) gb403 (Nat.le_of_eq hg.symm)) hb)
        replace HO402 := mkA (Kd.R_below (Kd.R_elderB (Kd.R_g HO402.out) gb403 (Nat.le_of_eq hg.symm)) hb)
        have BK403 := mkA (hbox)
        have GW403 := geB HB hg
        have GE403 := geB HB hg
        have NB395_403 := neL7 BK395 hg
        have NB403_395 := neR7 BK395 hg
        replace BK395 := blkB BK395 hb
        replace HB := bst HB hb
        clear hb hbox hg
        refine hK.out _ _ ⟨(blk_cell BK395.out 0).trans rfl, (blk_cell BK395.out 1).trans rfl⟩ (fun hHeld => ?_)
        clear hK K
        refine normW 4 ?_
        exact norm_ (by first | (simp only [putAll, Act.put, List.setIfInBounds_toArray, List.set_cons_zero, List.set_cons_succ]; done) | (simp only [putAll, Act.put, List.setIfInBounds_toArray, List.set_cons_zero, List.set_cons_succ]; rfl)) (hJ1_4_5 (.slice Ao15 t397.length co15, v401, gb403) _ ⟨hHeld, (Kd.R_g HO399.out), (Kd.R_g HO402.out), (blk_g BK395.out), (blk_g BK403.out), GW403.out, GE403.out, NB395_403.out, NB403_395.out, (bel_g HB.out)⟩)
       ·skip
        refine box_step ?hg (N := 5) ?hd (cs := #[.slice none 0 0]) (t := 24) ?hr ?_; (case hd => rfl); (case hg => rfl); (case hr => first | (go_simp; done) | (go_simp; rfl))
        intro gb404 hg w16 hbox hb
        replace HO399 := rB HO399 hb
        replace HO402 := rB HO402 hb
        have BK404 := mkA (hbox)
        have GW404 := geB HB hg
        have GE404 := geB HB hg
        have NB395_404 := neL7 BK395 hg
        have NB404_395 := neR7 BK395 hg
        replace BK395 := blkB BK395 hb
        replace HB := bst HB hb
        clear hb hbox hg
        refine hK.out _ _ ⟨(blk_cell BK395.out 0).trans rfl, (blk_cell BK395.out 1).trans rfl⟩ (fun hHeld => ?_)
        clear hK K
        refine normW 5 ?_
        exact norm_ (by first | (simp only [putAll, Act.put, List.setIfInBounds_toArray, List.set_cons_zero, List.set_cons_succ]; done) | (simp only [putAll, Act.put, List.setIfInBounds_toArray, List.set_cons_zero, List.set_cons_succ]; rfl)) (hJ1_4_6 (.slice Ao15 t397.length co15, v401, gb404) _ ⟨hHeld, (Kd.R_g HO399.out), (Kd.R_g HO402.out), (blk_g BK395.out), (blk_g BK404.out), GW404.out, GE404.out, NB395_404.out, NB404_395.out, (bel_g HB.out)⟩)
     ·skip
      rintro ⟨v398, gb403, gb404⟩ w15 ⟨hS_, h0_, h1_, h2_, h3_, h4_, h5_, h6_, h7_, h8_, h9_, h10_, h11_, h12_, h13_, h14_⟩
      have n0_ : Fc (Kd.R (Kd.int .i64) 3 w15 w.heap.size (fun k_ => k_ ≠ gb403) v398 t397) := ⟨h0_⟩
      have n1_ : Fc (w15.heap[gb395]? = some (.cells #[.int .i64 a0_0, .slice A0_1 l0_1.length c0_1] 26 (0, 0))) := ⟨h1_⟩
      have n2_ : Fc (w15.heap[gb403]? = some (.cells #[.int .i64 0] 3 (0, 0))) := ⟨h2_⟩
      have n3_ : Fc (w15.heap[gb404]? = some (.cells #[.slice none 0 0] 24 (0, 0))) := ⟨h3_⟩
      have n4_ : Ge w.heap.size gb403 := ⟨h4_⟩
      have n5_ : Ge w.heap.size gb403 := ⟨h5_⟩
      have n6_ : NeB gb395 gb403 := ⟨h6_⟩
      have n7_ : NeB gb403 gb395 := ⟨h7_⟩
      have n8_ : NeB gb404 gb403 := ⟨h8_⟩
      have n9_ : NeB gb403 gb404 := ⟨h9_⟩
      have n10_ : Ge w.heap.size gb404 := ⟨h10_⟩
      have n11_ : Ge w.heap.size gb404 := ⟨h11_⟩
      have n12_ : NeB gb395 gb404 := ⟨h12_⟩
      have n13_ : NeB gb404 gb395 := ⟨h13_⟩
      have n14_ : Fc (Below w.heap.size w w15) := ⟨h14_⟩
      clear BK395
      clear HB
      clear h0_ h1_ h2_ h3_ h4_ h5_ h6_ h7_ h8_ h9_ h10_ h11_ h12_ h13_ h14_
      have HO399 := n0_
      have BK395 := n1_
      have BK403 := n2_
      have BK404 := n3_
      have GW403 := n4_
      have GE403 := n5_
      have NB395_403 := n6_
      have NB403_395 := n7_
      have NB404_403 := n8_
      have NB403_404 := n9_
      have GW404 := n10_
      have GE404 := n11_
      have NB395_404 := n12_
      have NB404_395 := n13_
      have HB := n14_
      clear n0_ n1_ n2_ n3_ n4_ n5_ n6_ n7_ n8_ n9_ n10_ n11_ n12_ n13_ n14_
      have hHeld : w15.cell? ⟨gb395, 0, none⟩ = some (.int .i64 a0_0) ∧ w15.cell? ⟨gb395, 1, none⟩ = some (.slice A0_1 l0_1.length c0_1) := hS_
      obtain ⟨Ao16, co16, eo16⟩ := Kd.R_slice HO399.out
      (first | subst eo16 | (injection eo16 with f1_ f2_ f3_; have f4_ := f1_.symm; have f5_ := f3_.symm; clear f1_ f2_ f3_; subst f4_; subst f5_))
      refine norm_ (a' := ?_) ?_ ?_
      rotate_left
      ·simp only [putAll, Act.put, List.setIfInBounds_toArray, List.set_cons_zero, List.set_cons_succ]
       rfl
      refine oneW 4 (some 14) (bm 9 127) HT_ (fun K hK => ?_)
      refine goesR Tryd.func22 #[.agg #[.int .i64 a0_0, .slice A0_1 l0_1.length c0_1]] ?_
      with_reducible refine (impl_Order_indifferent.calls k a0_0 _ _ l0_1 t400 _ ?s1 ?s2 A5.out).mono ?_
      (case s1 => exact C_g HR0_1 HB)
      (case s2 => exact HC0_1.out)
      rintro e w17 ⟨v401, rfl, ho0, hb⟩
      refine ⟨_, rfl, ?_⟩
      have HO402 := rLo (Kd.R_newB (rN ho0 HO399) (g := gb403) (o := .cells #[.int .i64 0] 3 (0, 0)) (blk_g BK403.out)) HB
      replace HO399 := rE HO399 ho0 hb
      replace BK395 := blkB BK395 hb
      replace BK403 := blkB BK403 hb
      replace BK404 := blkB BK404 hb
      replace HB := bst HB hb
      (try clear hb)
      (try clear hb2)
      (try clear hk)
      (try clear hi)
      (try clear ho0)
      refine hK.out _ _ ⟨(blk_cell BK395.out 0).trans rfl, (blk_cell BK395.out 1).trans rfl⟩ (fun hHeld => ?_)
      clear hK K
      refine normW 14 ?_
      exact norm_ (by first | (simp only [putAll, Act.put, List.setIfInBounds_toArray, List.set_cons_zero, List.set_cons_succ]; done) | (simp only [putAll, Act.put, List.setIfInBounds_toArray, List.set_cons_zero, List.set_cons_succ]; rfl)) (hJ1_4_5_6 (.slice Ao16 t397.length co16, v401, gb403, gb404) _ ⟨hHeld, (Kd.R_g (Kd.R_mono HO399.out (fun _ hk => ⟨hk.2, hk.1⟩))), (Kd.R_g (Kd.R_mono HO402.out (fun _ hk => ⟨hk.1.2, hk.2⟩))), (blk_g BK395.out), (blk_g BK403.out), (blk_g BK404.out), GW403.out, GE403.out, NB395_403.out, NB403_395.out, NB404_403.out, NB403_404.out, GW404.out, GE404.out, NB395_404.out, NB404_395.out, (bel_g HB.out)⟩)
    ·skip
     rintro ⟨v398, v401, gb404⟩ w15 ⟨hS_, h0_, h1_, h2_, h3_, h4_, h5_, h6_, h7_, h8_⟩
     have n0_ : Fc (Kd.R (Kd.int .i64) 3 w15 w.heap.size (fun k_ => some k_ ≠ (v401 : Value).ownBlock) v398 t397) := ⟨h0_⟩
     have n1_ : Fc (Kd.R (Kd.int .i64) 3 w15 w.heap.size (fun k_ => some k_ ≠ (v398 : Value).ownBlock) v401 t400) := ⟨h1_⟩
     have n2_ : Fc (w15.heap[gb395]? = some (.cells #[.int .i64 a0_0, .slice A0_1 l0_1.length c0_1] 26 (0, 0))) := ⟨h2_⟩
     have n3_ : Fc (w15.heap[gb404]? = some (.cells #[.slice none 0 0] 24 (0, 0))) := ⟨h3_⟩
     have n4_ : Ge w.heap.size gb404 := ⟨h4_⟩
     have n5_ : Ge w.heap.size gb404 := ⟨h5_⟩
     have n6_ : NeB gb395 gb404 := ⟨h6_⟩
     have n7_ : NeB gb404 gb395 := ⟨h7_⟩
     have n8_ : Fc (Below w.heap.size w w15) := ⟨h8_⟩
     clear BK395
     clear HB
     clear h0_ h1_ h2_ h3_ h4_ h5_ h6_ h7_ h8_
     have HO399 := n0_
     have HO402 := n1_
     have BK395 := n2_
     have BK404 := n3_
     have GW404 := n4_
     have GE404 := n5_
     have NB395_404 := n6_
     have NB404_395 := n7_
     have HB := n8_
     clear n0_ n1_ n2_ n3_ n4_ n5_ n6_ n7_ n8_
     have hHeld : w15.cell? ⟨gb395, 0, none⟩ = some (.int .i64 a0_0) ∧ w15.cell? ⟨gb395, 1, none⟩ = some (.slice A0_1 l0_1.length c0_1) := hS_
     obtain ⟨Ao16, co16, eo16⟩ := Kd.R_slice HO399.out
     (first | subst eo16 | (injection eo16 with f1_ f2_ f3_; have f4_ := f1_.symm; have f5_ := f3_.symm; clear f1_ f2_ f3_; subst f4_; subst f5_))
     refine norm_ (a' := ?_) ?_ ?_
     rotate_left
     ·simp only [putAll, Act.put, List.setIfInBounds_toArray, List.set_cons_zero, List.set_cons_succ]
      rfl
     refine oneW 5 (some 4) (bm 9 127) HT_ (fun K hK => ?_)
     refine box_step ?hg (N := 4) ?hd (cs := #[.int .i64 0]) (t := 3) ?hr ?_; (case hd => rfl); (case hg => rfl); (case hr => first | (go_simp; done) | (go_simp; rfl))
     intro gb403 hg w17 hbox hb
     replace HO399 := mkA (Kd.R_below (Kd.R_elderB (Kd.R_g HO399.out) gb403 (Nat.le_of_eq hg.symm)) hb)
     replace HO402 := mkA (Kd.R_below (Kd.R_elderB (Kd.R_g HO402.out) gb403 (Nat.le_of_eq hg.symm)) hb)
     have BK403 := mkA (hbox)
     have GW403 := geB HB hg
     have GE403 := geB HB hg
     have NB395_403 := neL7 BK395 hg
     have NB403_395 := neR7 BK395 hg
     replace BK395 := blkB BK395 hb
     have NB404_403 := neL7 BK404 hg
     have NB403_404 := neR7 BK404 hg
     replace BK404 := blkB BK404 hb
     replace HB := bst HB hb
     clear hb hbox hg
     refine hK.out _ _ ⟨(blk_cell BK395.out 0).trans rfl, (blk_cell BK395.out 1).trans rfl⟩ (fun hHeld => ?_)
     clear hK K
     refine normW 4 ?_
     exact norm_ (by first | (simp only [putAll, Act.put, List.setIfInBounds_toArray, List.set_cons_zero, List.set_cons_succ]; done) | (simp only [putAll, Act.put, List.setIfInBounds_toArray, List.set_cons_zero, List.set_cons_succ]; rfl)) (hJ1_4_5_6 (.slice Ao16 t397.length co16, v401, gb403, gb404) _ ⟨hHeld, (Kd.R_g HO399.out), (Kd.R_g HO402.out), (blk_g BK395.out), (blk_g BK403.out), (blk_g BK404.out), GW403.out, GE403.out, NB395_403.out, NB403_395.out, NB404_403.out, NB403_404.out, GW404.out, GE404.out, NB395_404.out, NB404_395.out, (bel_g HB.out)⟩)
   ·skip
    rintro ⟨v398, v401, gb403⟩ w15 ⟨hS_, h0_, h1_, h2_, h3_, h4_, h5_, h6_, h7_, h8_⟩
    have n0_ : Fc (Kd.R (Kd.int .i64) 3 w15 w.heap.size (fun k_ => some k_ ≠ (v401 : Value).ownBlock ∧ k_ ≠ gb403) v398 t397) := ⟨h0_⟩
    have n1_ : Fc (Kd.R (Kd.int .i64) 3 w15 w.heap.size (fun k_ => some k_ ≠ (v398 : Value).ownBlock ∧ k_ ≠ gb403) v401 t400) := ⟨h1_⟩
    have n2_ : Fc (w15.heap[gb395]? = some (.cells #[.int .i64 a0_0, .slice A0_1 l0_1.length c0_1] 26 (0, 0))) := ⟨h2_⟩
    have n3_ : Fc (w15.heap[gb403]? = some (.cells #[.int .i64 0] 3 (0, 0))) := ⟨h3_⟩
    have n4_ : Ge w.heap.size gb403 := ⟨h4_⟩
    have n5_ : Ge w.heap.size gb403 := ⟨h5_⟩
    have n6_ : NeB gb395 gb403 := ⟨h6_⟩
    have n7_ : NeB gb403 gb395 := ⟨h7_⟩
    have n8_ : Fc (Below w.heap.size w w15) := ⟨h8_⟩
    clear BK395
    clear HB
    clear h0_ h1_ h2_ h3_ h4_ h5_ h6_ h7_ h8_
    have HO399 := n0_
    have HO402 := n1_
    have BK395 := n2_
    have BK403 := n3_
    have GW403 := n4_
    have GE403 := n5_
    have NB395_403 := n6_
    have NB403_395 := n7_
    have HB := n8_
    clear n0_ n1_ n2_ n3_ n4_ n5_ n6_ n7_ n8_
    have hHeld : w15.cell? ⟨gb395, 0, none⟩ = some (.int .i64 a0_0) ∧ w15.cell? ⟨gb395, 1, none⟩ = some (.slice A0_1 l0_1.length c0_1) := hS_
    obtain ⟨Ao16, co16, eo16⟩ := Kd.R_slice HO399.out
    (first | subst eo16 | (injection eo16 with f1_ f2_ f3_; have f4_ := f1_.symm; have f5_ := f3_.symm; clear f1_ f2_ f3_; subst f4_; subst f5_))
    refine norm_ (a' := ?_) ?_ ?_
    rotate_left
    ·simp only [putAll, Act.put, List.setIfInBounds_toArray, List.set_cons_zero, List.set_cons_succ]
     rfl
    refine oneW 6 (some 5) (bm 9 127) HT_ (fun K hK => ?_)
    refine box_step ?hg (N := 5) ?hd (cs := #[.slice none 0 0]) (t := 24) ?hr ?_; (case hd => rfl); (case hg => rfl); (case hr => first | (go_simp; done) | (go_simp; rfl))
    intro gb404 hg w17 hbox hb
    replace HO399 := rB HO399 hb
    replace HO402 := rB HO402 hb
    have BK404 := mkA (hbox)
    have GW404 := geB HB hg
    have GE404 := geB HB hg
    have NB395_404 := neL7 BK395 hg
    have NB404_395 := neR7 BK395 hg
    replace BK395 := blkB BK395 hb
    have NB403_404 := neL7 BK403 hg
    have NB404_403 := neR7 BK403 hg
    replace BK403 := blkB BK403 hb
    replace HB := bst HB hb
    clear hb hbox hg
    refine hK.out _ _ ⟨(blk_cell BK395.out 0).trans rfl, (blk_cell BK395.out 1).trans rfl⟩ (fun hHeld => ?_)
    clear hK K
    refine normW 5 ?_
    exact norm_ (by first | (simp only [putAll, Act.put, List.setIfInBounds_toArray, List.set_cons_zero, List.set_cons_succ]; done) | (simp only [putAll, Act.put, List.setIfInBounds_toArray, List.set_cons_zero, List.set_cons_succ]; rfl)) (hJ1_4_5_6 (.slice Ao16 t397.length co16, v401, gb403, gb404) _ ⟨hHeld, (Kd.R_g HO399.out), (Kd.R_g HO402.out), (blk_g BK395.out), (blk_g BK403.out), (blk_g BK404.out), GW403.out, GE403.out, NB395_403.out, NB403_395.out, NB404_403.out, NB403_404.out, GW404.out, GE404.out, NB395_404.out, NB404_395.out, (bel_g HB.out)⟩)
  rintro ⟨v398, v401, gb403, gb404⟩ w16 ⟨hS_, h0_, h1_, h2_, h3_, h4_, h5_, h6_, h7_, h8_, h9_, h10_, h11_, h12_, h13_, h14_, h15_⟩
  have n0_ : Fc (Kd.R (Kd.int .i64) 3 w16 w.heap.size (fun k_ => some k_ ≠ (v401 : Value).ownBlock ∧ k_ ≠ gb403) v398 t397) := ⟨h0_⟩
  have n1_ : Fc (Kd.R (Kd.int .i64) 3 w16 w.heap.size (fun k_ => some k_ ≠ (v398 : Value).ownBlock ∧ k_ ≠ gb403) v401 t400) := ⟨h1_⟩
  have n2_ : Fc (w16.heap[gb395]? = some (.cells #[.int .i64 a0_0, .slice A0_1 l0_1.length c0_1] 26 (0, 0))) := ⟨h2_⟩
  have n3_ : Fc (w16.heap[gb403]? = some (.cells #[.int .i64 0] 3 (0, 0))) := ⟨h3_⟩
  have n4_ : Fc (w16.heap[gb404]? = some (.cells #[.slice none 0 0] 24 (0, 0))) := ⟨h4_⟩
  have n5_ : Ge w.heap.size gb403 := ⟨h5_⟩
  have n6_ : Ge w.heap.size gb403 := ⟨h6_⟩
  have n7_ : NeB gb395 gb403 := ⟨h7_⟩
  have n8_ : NeB gb403 gb395 := ⟨h8_⟩
  have n9_ : NeB gb404 gb403 := ⟨h9_⟩
  have n10_ : NeB gb403 gb404 := ⟨h10_⟩
  have n11_ : Ge w.heap.size gb404 := ⟨h11_⟩
  have n12_ : Ge w.heap.size gb404 := ⟨h12_⟩
  have n13_ : NeB gb395 gb404 := ⟨h13_⟩
  have n14_ : NeB gb404 gb395 := ⟨h14_⟩
  have n15_ : Fc (Below w.heap.size w w16) := ⟨h15_⟩
  clear BK395
  clear HB
  clear h0_ h1_ h2_ h3_ h4_ h5_ h6_ h7_ h8_ h9_ h10_ h11_ h12_ h13_ h14_ h15_
  have HO399 := n0_
  have HO402 := n1_
  have BK395 := n2_
  have BK403 := n3_
  have BK404 := n4_
  have GW403 := n5_
  have GE403 := n6_
  have NB395_403 := n7_
  have NB403_395 := n8_
  have NB404_403 := n9_
  have NB403_404 := n10_
  have GW404 := n11_
  have GE404 := n12_
  have NB395_404 := n13_
  have NB404_395 := n14_
  have HB := n15_
  clear n0_ n1_ n2_ n3_ n4_ n5_ n6_ n7_ n8_ n9_ n10_ n11_ n12_ n13_ n14_ n15_
  have hHeld : w16.cell? ⟨gb395, 0, none⟩ = some (.int .i64 a0_0) ∧ w16.cell? ⟨gb395, 1, none⟩ = some (.slice A0_1 l0_1.length c0_1) := hS_
  obtain ⟨Ao17, co17, eo17⟩ := Kd.R_slice HO399.out
  (first | subst eo17 | (injection eo17 with f1_ f2_ f3_; have f4_ := f1_.symm; have f5_ := f3_.symm; clear f1_ f2_ f3_; subst f4_; subst f5_))
  obtain ⟨Ao19, co19, eo19⟩ := Kd.R_slice HO402.out
  (first | subst eo19 | (injection eo19 with f1_ f2_ f3_; have f4_ := f1_.symm; have f5_ := f3_.symm; clear f1_ f2_ f3_; subst f4_; subst f5_))
  refine norm_ (a' := ?_) ?_ ?_
  rotate_left
  ·simp only [putAll, Act.put, List.setIfInBounds_toArray, List.set_cons_zero, List.set_cons_succ]
   rfl
  refine oneW 7 (none) (bm 9 255) HT_ (fun K hK => ?_)
  have hs18 : w16.cell? ⟨gb403, 0, none⟩ = some (.int .i64 0) := (blk_cell BK403.out 0).trans rfl
  have hfs18 := blk_frozen BK403.out 0
  refine skip_ (w1 := ?_) (by rfl) rfl ?_ ?_
  rotate_left
  ·go_simp
   rfl
  refine hK.out _ _ ⟨(cF hHeld.1), (cF hHeld.2)⟩ (fun hHeld => ?_)
  clear hK K
  refine oneW 8 (none) (bm 9 511) HT_ (fun K hK => ?_)
  have hs20 : w16.cell? ⟨gb404, 0, none⟩ = some (.slice none 0 0) := (blk_cell BK404.out 0).trans rfl
  have hfs20 := blk_frozen BK404.out 0
  refine skip_ (w1 := ?_) (by rfl) rfl ?_ ?_
  rotate_left
  ·go_simp
   rfl
  refine hK.out _ _ ⟨(cF hHeld.1), (cF hHeld.2)⟩ (fun hHeld => ?_)
  clear hK K
  refine doneW HT_ ?_
  try go_wp2_with (first | ((with_reducible refine gate_dst (N := 6) rfl ?_); refine boxE (N := 6) (cs := #[.nilFunc]) (t := 43) ?_; intro gb405 hg w21 hbox hb; replace HO399 := mkA (Kd.R_below (Kd.R_g ((Kd.R_mono (Kd.R_mono (Kd.R_far (p := ⟨gb404, 0, none⟩) (Kd.R_far (p := ⟨gb403, 0, none⟩) (Kd.R_types (Kd.R_mono HO399.out (fun k_ hk => (⟨hk, hk.2⟩ : _ ∧ k_ ≠ gb403))) BK404.out (by decide)) (fun _ hk => hk.1.2) (.int .i64 (t397.length : Int))) (fun _ hk => hk.2) (.slice Ao19 t400.length co19)) (fun _ h_ => h_.1)) (fun _ h_ => h_.1)))) hb); replace HO402 := mkA (Kd.R_below (Kd.R_g ((Kd.R_mono (Kd.R_mono (Kd.R_far (p := ⟨gb404, 0, none⟩) (Kd.R_far (p := ⟨gb403, 0, none⟩) (Kd.R_types (Kd.R_mono HO402.out (fun k_ hk => (⟨hk, hk.2⟩ : _ ∧ k_ ≠ gb403))) BK404.out (by decide)) (fun _ hk => hk.1.2) (.int .i64 (t397.length : Int))) (fun _ hk => hk.2) (.slice Ao19 t400.length co19)) (fun _ h_ => h_.1)) (fun _ h_ => h_.1)))) hb); have BK405 := mkA (hbox); have GE405 := geB HB hg; have NB395_405 : NeB _ _ := ⟨(by rw [hg]; exact Nat.ne_of_lt (blk_lt (g := gb395) (o := .cells #[.int .i64 a0_0, .slice A0_1 l0_1.length c0_1] 26 (0, 0)) (blkT BK395)) : gb395 ≠ gb405)⟩; have NB405_395 : NeB _ _ := ⟨(by rw [hg]; exact Nat.ne_of_gt (blk_lt (g := gb395) (o := .cells #[.int .i64 a0_0, .slice A0_1 l0_1.length c0_1] 26 (0, 0)) (blkT BK395)) : gb405 ≠ gb395)⟩; replace BK395 := blkS BK395 hb; have NB403_405 : NeB _ _ := ⟨(by rw [hg]; exact Nat.ne_of_lt (blk_lt (g := gb403) (o := .cells #[.int .i64 (t397.length : Int)] 3 (0, 0)) (blkT BK403)) : gb403 ≠ gb405)⟩; have NB405_403 : NeB _ _ := ⟨(by rw [hg]; exact Nat.ne_of_gt (blk_lt (g := gb403) (o := .cells #[.int .i64 (t397.length : Int)] 3 (0, 0)) (blkT BK403)) : gb405 ≠ gb403)⟩; replace BK403 := blkS BK403 hb; have NB404_405 : NeB _ _ := ⟨(by rw [hg]; exact Nat.ne_of_lt (blk_lt (g := gb404) (o := .cells #[.slice Ao19 t400.length co19] 24 (0, 0)) (blkT BK404)) : gb404 ≠ gb405)⟩; have NB405_404 : NeB _ _ := ⟨(by rw [hg]; exact Nat.ne_of_gt (blk_lt (g := gb404) (o := .cells #[.slice Ao19 t400.length co19] 24 (0, 0)) (blkT BK404)) : gb405 ≠ gb404)⟩; replace BK404 := blkS BK404 hb; replace HB := bst HB hb; clear hb hbox hg; obtain ⟨_, _⟩ := blk1 BK405) | ((with_reducible refine gate_dst (N := 17) rfl ?_); refine litE (Kd.int .i64) 3 ([] : List Int) [] ?hp ?_; (case hp => exact (Reps.none _ _)); intro v407 w26 ho27 hb hg_ hnew_; clear hg_ hnew_; (first | rw [← Ny406.out] at ho27 | (simp only [Int.reduceToNat] at ho27; rw [← Ny406.out] at ho27)); have HO408 := rLo (Kd.R_newB (Kd.R_new' (Kd.R_new' ho27 (Kd.R_lt (Kd.R_g ((Kd.R_mono (Kd.R_far (p := ⟨gb405, 0, none⟩) (Kd.R_types HO399.out BK405.out (by decide)) (fun _ hk => hk.2) (.func (.func 23) #[] #[.pointer (some ⟨gb395, 0, none⟩), .pointer (some ⟨gb403, 0, none⟩), .pointer (some ⟨gb404, 0, none⟩), .pointer (some ⟨gb405, 0, none⟩)])) (fun _ h_ => h_.1)))))) (Kd.R_lt (Kd.R_g ((Kd.R_mono (Kd.R_far (p := ⟨gb405, 0, none⟩) (Kd.R_types HO402.out BK405.out (by decide)) (fun _ hk => hk.2) (.func (.func 23) #[] #[.pointer (some ⟨gb395, 0, none⟩), .pointer (some ⟨gb403, 0, none⟩), .pointer (some ⟨gb404, 0, none⟩), .pointer (some ⟨gb405, 0, none⟩)])) (fun _ h_ => h_.1)))))) (g := gb403) (o := .cells #[.int .i64 (t397.length : Int)] 3 (0, 0)) (blkT BK403)) HB; replace HO399 := mkA (Kd.R_elder' (Kd.R_g ((Kd.R_mono (Kd.R_far (p := ⟨gb405, 0, none⟩) (Kd.R_types HO399.out BK405.out (by decide)) (fun _ hk => hk.2) (.func (.func 23) #[] #[.pointer (some ⟨gb395, 0, none⟩), .pointer (some ⟨gb403, 0, none⟩), .pointer (some ⟨gb404, 0, none⟩), .pointer (some ⟨gb405, 0, none⟩)])) (fun _ h_ => h_.1)))) (Kd.R_base ho27) hb); replace HO402 := mkA (Kd.R_elder' (Kd.R_g ((Kd.R_mono (Kd.R_far (p := ⟨gb405, 0, none⟩) (Kd.R_types HO402.out BK405.out (by decide)) (fun _ hk => hk.2) (.func (.func 23) #[] #[.pointer (some ⟨gb395, 0, none⟩), .pointer (some ⟨gb403, 0, none⟩), .pointer (some ⟨gb404, 0, none⟩), .pointer (some ⟨gb405, 0, none⟩)])) (fun _ h_ => h_.1)))) (Kd.R_base ho27) hb); replace BK395 := blkS BK395 hb; replace BK403 := blkS BK403 hb; replace BK404 := blkS BK404 hb; replace BK405 := blkS BK405 hb; replace HB := bst HB hb; clear hb ho27; obtain ⟨Ao28, co28, rfl⟩ := Kd.R_slice HO408.out) | ((with_reducible refine gate_dst (N := 18) rfl ?_); refine impl_ChainNumbers.goesV_ (some 18) rfl rfl (fun args_ W_ => enters_ Tryd.func23 (by kernel_rfl) rfl args_ W_) #[.slice Ao28 y406.length co28, .pointer (some ⟨gb395, 0, none⟩), .pointer (some ⟨gb403, 0, none⟩), .pointer (some ⟨gb404, 0, none⟩), .pointer (some ⟨gb405, 0, none⟩)] rfl rfl (by (try simp only [List.map_toArray, List.map_cons, List.map_nil]); first | done | rfl | (simp only [List.length_drop, List.length_take]; rfl)) ?_; (with_reducible refine (impl_ChainNumbers_1.calls k (fun k_ => some k_ = (.slice Ao28 y406.length co28 : Value).ownBlock) (.slice Ao28 y406.length co28) y406 gb395 a0_0 A0_1 c0_1 l0_1 gb403 (t397.length : Int) gb404 Ao19 co19 t400 gb405 t409 w _ ?_ ?_ ?_ ?_ ?_ ?_ ?_ ?_ ?_ ?_ ?_ A6.out).mono ?_); exact bel_g HB.out; exact Kd.R_tight rfl HO408.out; exact fun k_ e_ => (HO408.out.1 k_ e_.symm).2; exact (show _ = some (Obj.cells #[.int .i64 a0_0, .slice A0_1 l0_1.length c0_1] 26 (0, 0)) from blkT BK395); exact Kd.C_kept_came (Kd.heap_int .i64) HR0_1.out (bel_g HB.out) (fun k_ hs_ => (fun e_ => Kd.R_base HO408.out k_ e_.symm) hs_); exact HC0_1.out; exact (show _ = some (Obj.cells #[.int .i64 (t397.length : Int)] 3 (0, 0)) from blkT BK403); exact (show _ = some (Obj.cells #[.slice Ao19 t400.length co19] 24 (0, 0)) from blkT BK404); exact Kd.C_kept_own (HO402.out) (fun k_ hk_ hs_ => (hk_.2) hs_); exact rL HO402; exact (show _ = some (Obj.cells #[.func (.func 23) #[] #[.pointer (some ⟨gb395, 0, none⟩), .pointer (some ⟨gb403, 0, none⟩), .pointer (some ⟨gb404, 0, none⟩), .pointer (some ⟨gb405, 0, none⟩)]] 43 (0, 0)) from blkT BK405); rintro e w29 ⟨v410, rfl, ho0, hb, hkp, hnx⟩; refine ⟨_, rfl, ?_⟩; replace BK395 := mkA (blk_kept (blk_g BK395.out) hkp (fun hs_ => (fun e_ => (Kd.R_ne HO408.out BK395.out (by decide)) e_) hs_)); replace BK404 := mkA (blk_kept (blk_g BK404.out) hkp (fun hs_ => (fun e_ => (Kd.R_ne HO408.out BK404.out (by decide)) e_) hs_)); replace BK405 := mkA (blk_kept (blk_g BK405.out) hkp (fun hs_ => (fun e_ => (Kd.R_ne HO408.out BK405.out (by decide)) e_) hs_)); have HO411 := mkA (Kd.R_mono (ok' := fun k_ => some k_ ≠ (.slice Ao17 t397.length co17 : Value).ownBlock ∧ some k_ ≠ (.slice Ao19 t400.length co19 : Value).ownBlock ∧ k_ ≠ gb403) ho0 (fun k_ hk_ => ⟨Or.elim hk_ (fun hs_ => fun e_ => (((HO399.out).1 k_ e_.symm).2) hs_) (fun hn_ => (Kd.fresh' (Kd.R_lt (Kd.R_g HO399.out)) k_ hn_)), Or.elim hk_ (fun hs_ => fun e_ => (((HO402.out).1 k_ e_.symm).2) hs_) (fun hn_ => (Kd.fresh' (Kd.R_lt (Kd.R_g HO402.out)) k_ hn_)), Or.elim hk_ (fun hs_ => fun e_ => (Kd.R_away HO408.out (fun _ hk => hk.2)) (by rw [← e_]; exact hs_)) (fun hn_ => (Kd.freshB (g := gb403) (o := .cells #[.int .i64 (t397.length : Int)] 3 (0, 0)) (blk_g BK403.out) k_ hn_))⟩)); replace HO399 := mkA (Kd.R_mono (ok' := fun k_ => some k_ ≠ (.slice Ao19 t400.length co19 : Value).ownBlock ∧ k_ ≠ gb403 ∧ some k_ ≠ (v410 : Value).ownBlock) (Kd.R_keptB (HO399.out) hkp (fun k_ hk_ hs_ => (hk_.2) hs_)) (fun k_ hk_ => ⟨hk_.1.1.1, hk_.1.1.2, fun e_ => Or.elim (ho0.1 k_ e_.symm) (fun hs_ => hk_.2.1 hs_) (fun hn_ => Nat.not_le.2 hk_.2.2 hn_)⟩)); replace HO402 := mkA (Kd.R_mono (ok' := fun k_ => some k_ ≠ (.slice Ao17 t397.length co17 : Value).ownBlock ∧ k_ ≠ gb403 ∧ some k_ ≠ (v410 : Value).ownBlock) (Kd.R_keptB (HO402.out) hkp (fun k_ hk_ hs_ => (hk_.2) hs_)) (fun k_ hk_ => ⟨hk_.1.1.1, hk_.1.1.2, fun e_ => Or.elim (ho0.1 k_ e_.symm) (fun hs_ => hk_.2.1 hs_) (fun hn_ => Nat.not_le.2 hk_.2.2 hn_)⟩)); replace BK403 := mkA (blk_kept (blk_g BK403.out) hkp (fun hs_ => (fun e_ => (Kd.R_away HO408.out (fun _ hk => hk.2)) e_) hs_)); replace HB := mkA (hb); clear HO408; clear hnx; clear hb hkp ho0))
  go_ret2
  exact ⟨_, eqE, Kd.R_g (Kd.R_mono HO411.out (fun _ hk => trivial)), bel_g HB.out⟩
 ·replace c3 := Bool.eq_false_iff.mpr c3
  subst c3
  replace H := ifF H
  simp only [Option.some.injEq, Prod.mk.injEq] at H
  obtain ⟨rfl, rfl⟩ := H
  go_enter Tryd.func6, Tryd.ntmps6
  go_wp2_with (first | ((with_reducible refine gate_dst (N := 1) rfl ?_); refine boxG HB #[.int .i64 a0_0, .slice A0_1 l0_1.length c0_1] 26 ?_; intro gb395 hg w30 BK395 GE395 hb; replace HB := bst HB hb; clear hb hg; obtain ⟨_, _, _, _⟩ := blk2 BK395) | ((with_reducible refine gate_callee (f := 20) rfl ?_); refine goesQ (some 8) Tryd.func20 #[.agg #[.int .i64 a0_0, .slice A0_1 l0_1.length c0_1]] ?_; (with_reducible refine (impl_IsOrder.calls k a0_0 _ _ l0_1 false _ ?_ ?_ ?_ A2.out).mono ?_); exact C_g HR0_1 HB; exact HC0_1.out; exact Tab.below HTAB.out (bel_g HB.out); rintro e w32 ⟨rfl, hb⟩; refine ⟨_, rfl, ?_⟩; replace BK395 := blkB BK395 hb; replace HB := bst HB hb; clear hb))
  go_ret2
  exact ⟨_, eqE, nilE, bel_g HB.out⟩
end Go.Proofs.YtpphkeijklffgaaDoor.Q
