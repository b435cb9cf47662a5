import Derived.Test.YtpphkeijklffgaaDoorBFnChainsAndAntichains14
namespace Go.Proofs.YtpphkeijklffgaaDoor.Q
open Go.RowKit Go.Proofs.YtpphkeijklffgaaDoorW.PrintWords Go.Proofs.YtpphkeijklffgaaDoorW.PrintLast Go.Proofs.YtpphkeijklffgaaDoorW.PrintMore
attribute [local go_sem] max2_int min2_int max_two min_two max_three min_three max_four min_four neB_f
set_option linter.unusedVariables false
set_option maxHeartbeats 8000000
set_option maxRecDepth 100000
set_option linter.unusedSimpArgs false
theorem impl_LongestChain_1.goesV_ {P : Program} {ops : Array Oper} {Q : Exit → Act → World → Prop} {rest : List Oper} {oi : Oper} {a : Act} {w : World} (N : Option Tmp) (hd : oi.dst = N) (hg : oi.guard = none) {g : FuncId} {lb : Array Value} {x : Operand} {ax : Array Operand} {ts : Array TypeId}
  (he : ∀ args W, (callFunc g args).run P W = .ok (.enter g args) W) (args : Array Value) (hop : oi.op = .call { callee := .value x, args := ax, argTypes := ts }) (hx : a.eval x = .func (.func g) #[] lb) (hargs : ax.map a.eval ++ lb = args)
  (h : Calls P g args w fun e w' => ∃ v, e = .returned v ∧ wpList P ops Q rest (a.put N v) w') : wpList P ops Q (oi :: rest) a w := by
 refine wpList_plain hg fun K hK => ?_
 have he := he args w
 have hrun : (execOp a.eval oi).run P w = .ok (.enter g args) w := by
  unfold execOp
  simp [hop, resolve, Deferred.ofValue, invoke, hx, hargs, he]
 unfold Oper.wp
 rw [hrun, Oper.upon_enter]
 refine h.mono fun e w'' hh => ?_
 obtain ⟨v, rfl, hk⟩ := hh
 subst hd
 exact hK _ _ hk
mutual
def impl_LongestChain_1.l0 : Nat → Int → List Int → List Int → Int → Int → Int → List Int → Option (List Int)
 | 0, _, _, _, _, _, _, _ => none
 | k + 1, x0, x5, x15, x16, x17, x462000, x462001 => if x17 < x16 then (if 0 ≤ x17 then (if x17 < (x15.length : Int) then ((impl_LongestChain_1.f k (rd x15 x17) x462000 x462001).bind fun t471 => (if (t471.length : Int) > (x5.length : Int) then (impl_LongestChain_1.l0 k x0 t471 x15 x16 (wrap64 (x17 + 1)) x462000 x462001) else (impl_LongestChain_1.l0 k x0 x5 x15 x16 (wrap64 (x17 + 1)) x462000 x462001))) else (none)) else (none)) else ((some (([x0] : List Int) : List Int)).bind fun y474 => (if y474.length + x5.length < 17592186044416 then (some (y474 ++ x5)) else (none)))
def impl_LongestChain_1.f : Nat → Int → Int → List Int → Option (List Int)
 | 0, _, _, _ => none
 | k + 1, a0, a1_0, l1_1 => if 0 ≤ a0 then (if a0 < (l1_1.length : Int) then ((impl_members.f k (rd l1_1 a0)).bind fun t467 => (impl_LongestChain_1.l0 k a0 (([] : List Int)) t467 (t467.length : Int) 0 a1_0 l1_1)) else (none)) else (none)
end
theorem impl_LongestChain_1.mono_l : ∀ k, (∀ y0 y1 y2, LeO (impl_LongestChain_1.f k y0 y1 y2) (impl_LongestChain_1.f (k + 1) y0 y1 y2)) ∧ (∀ y0 y1 y2 y3 y4 y5 y6, LeO (impl_LongestChain_1.l0 k y0 y1 y2 y3 y4 y5 y6) (impl_LongestChain_1.l0 (k + 1) y0 y1 y2 y3 y4 y5 y6))
 | 0 => ⟨fun _ _ _ r h => by simp [impl_LongestChain_1.f] at h, fun _ _ _ _ _ _ _ r h => by simp [impl_LongestChain_1.l0] at h⟩
 | k + 1 => by
  obtain ⟨ih0, ih1⟩ := impl_LongestChain_1.mono_l k
  refine ⟨?_, ?_⟩ <;> intros
  unfold impl_LongestChain_1.f
  rotate_left
  unfold impl_LongestChain_1.l0
  rotate_left
  all_goals repeat' (with_reducible first|apply ih0|apply ih1|apply impl_members.mono|apply LeO.refl|apply LeO.none|apply LeO.ite|apply LeO.bind|intro)
theorem impl_LongestChain_1.mono : ∀ a0 a1 a2 k, LeO (impl_LongestChain_1.f k a0 a1 a2) (impl_LongestChain_1.f (k + 1) a0 a1 a2) := by
 intro a0 a1 a2 k
 obtain ⟨ih0, ih1⟩ := impl_LongestChain_1.mono_l k
 exact ih0 a0 a1 a2
theorem impl_LongestChain_1.calls (k : Nat) : ∀ (a0 : Int) (gB1 : Nat) (a1_0 : Int) (A1_1 : Option Addr) (c1_1 : Nat) (l1_1 : List Int) (gB2 : Nat)  (r : List Int) (w : World) (hb1 : w.heap[gB1]? = some (.cells #[.int .i64 a1_0, .slice A1_1 l1_1.length c1_1] 26 (0, 0))) (hr1_1 : Kd.C (Kd.int .i64) w A1_1 l1_1.length l1_1) (hc1_1 : l1_1.length ≤ c1_1) (hb2 : w.heap[gB2]? = some (.cells #[.func (.func 27) #[] #[.pointer (some ⟨gB1, 0, none⟩), .pointer (some ⟨gB2, 0, none⟩)]] 39 (0, 0))) (hTAB : Tab w) (h : impl_LongestChain_1.f k a0 a1_0 l1_1 = some r),
  Calls Tryd.prog 27 #[.int .i64 a0, .pointer (some ⟨gB1, 0, none⟩), .pointer (some ⟨gB2, 0, none⟩)] w fun e w' => ∃ v0_ : Value, e = .returned (v0_) ∧ Kd.R (Kd.int .i64) 3 w' w.heap.size (fun _ => True) v0_ r ∧ Below w.heap.size w w' := by
 induction k using Nat.strongRecOn with
 | _ k ih =>
 intro a0 gB1 a1_0 A1_1 c1_1 l1_1 gB2 r w hb1 hr1_1 hc1_1 hb2 hTAB h
 cases k with
 | zero => exact absurd h (by simp [impl_LongestChain_1.f])
 | succ k =>
 simp only [impl_LongestChain_1.f] at h
 have HTAB := mkA hTAB
 clear hTAB
 have BK461 := mkA hb1
 clear hb1
 have BK462 := mkA hb2
 clear hb2
 have HR1_1 := mkA hr1_1
 have HC1_1 := mkA hc1_1
 clear hr1_1 hc1_1
 have HB := mkA (Below.refl w.heap.size w)
 have H := h
 clear h
 unfold impl_LongestChain_1.f at H
 obtain ⟨y463, hy463⟩ : ∃ y_ : List Int, y_ = (([] : List Int)) := ⟨_, rfl⟩
 rw [← hy463] at H
 have Ny463 := mkA hy463
 clear hy463
 obtain ⟨c4b0, H⟩ := itND H
 obtain ⟨c5b0, H⟩ := itND H
 obtain ⟨t467, A6, H⟩ := obE H
 have H' := mkA H
 clear H
 go_enter Tryd.func27, Tryd.ntmps27
 go_wp2_with (first | ((with_reducible refine gate_dst (N := 9) rfl ?_); refine litE (Kd.int .i64) 3 ([] : List Int) [] ?hp ?_; (case hp => exact (Reps.none _ _)); intro v464 w7 ho8 hb hg_ hnew_; clear hg_ hnew_; (first | rw [← Ny463.out] at ho8 | (simp only [Int.reduceToNat] at ho8; rw [← Ny463.out] at ho8)); have HO465 := rLo ho8 HB; replace BK461 := blkB BK461 hb; replace BK462 := blkB BK462 hb; replace HB := bst HB hb; clear hb ho8; obtain ⟨_, _, _, _⟩ := blk2 BK461; have p466 : 0 ≤ (a0 : Int) := ofd; have q466 : a0 < (l1_1.length : Int) := ofd; obtain ⟨ad466, e466, hx466_0⟩ := Kd.at_int HR1_1.out a0 p466 q466; cases e466; replace hx466_0 := (HB.out.cell (World.block_lt_of_cell? w _ hx466_0)).trans hx466_0; replace p466 := eq_true p466; replace q466 := eq_true q466) | ((with_reducible refine gate_callee (f := 28) rfl ?_); refine goesQ (some 15) Tryd.func28 #[.int .i64 (rd l1_1 a0)] ?_; (with_reducible refine (impl_members.calls k (rd l1_1 a0) t467 _ ?_ A6.out).mono ?_); exact Tab.below HTAB.out (bel_g HB.out); rintro e w10 ⟨v468, rfl, ho0, hb⟩; refine ⟨_, rfl, ?_⟩; have HO469 := rLo (rN ho0 HO465) HB; replace HO465 := rE HO465 ho0 hb; replace BK461 := blkB BK461 hb; replace BK462 := blkB BK462 hb; replace HB := bst HB hb; clear hb ho0; obtain ⟨Ao11, co11, rfl⟩ := Kd.R_slice HO469.out))
 go_loopg [5, 17] k (fun kq v5 v17 w' => ∃ (x5_1 : List Int) (x17_1 : Int), v17 = .int .i64 x17_1 ∧ Fc (impl_LongestChain_1.l0 kq a0 x5_1 t467 (t467.length : Int) x17_1 a1_0 l1_1 = some r) ∧ Fc (kq ≤ k) ∧ Fc (Kd.R (Kd.int .i64) 3 w' w.heap.size (fun k_ => some k_ ≠ ((.slice Ao11 t467.length co11) : Value).ownBlock) v5 x5_1) ∧ Fc (Kd.R (Kd.int .i64) 3 w' w.heap.size (fun k_ => some k_ ≠ (v5 : Value).ownBlock) (.slice Ao11 t467.length co11) t467) ∧ Fc (w'.heap[gB1]? = some (.cells #[.int .i64 a1_0, (.slice (some ad466) l1_1.length c1_1)] 26 (0, 0))) ∧ Fc (w'.heap[gB2]? = some (.cells #[.func (.func 27) #[] #[.pointer (some ⟨gB1, 0, none⟩), .pointer (some ⟨gB2, 0, none⟩)]] 39 (0, 0))) ∧ Fc (Below w.heap.size w w'))
 case atStart => exact ⟨(y463), (0), eqS, H', ⟨Nat.le_refl _⟩, ⟨Kd.R_g (Kd.R_mono HO465.out (fun _ hk => hk.2))⟩, ⟨Kd.R_g (Kd.R_mono HO469.out (fun _ hk => hk.2))⟩, bg BK461, bg BK462, hbg HB⟩
 case round =>
  clear H'
  try clear c4
  try clear c4b0
  try clear c5
  try clear c5b0
  try clear hx466_0
  try clear p466
  try clear q466
  obtain ⟨x5_1, x17_1, rfl, HA, HK1, HO_5, HO_15, BK461, BK462, HB⟩ := hrel
  cases gk with
  | zero => exact absurd HA.out (by simp [impl_LongestChain_1.l0])
  | succ k1 =>
   have H := HA.out
   clear HA
   simp only [impl_LongestChain_1.l0] at H
   rcases iteE H with ⟨c12b0, H⟩ | ⟨c12b0, H⟩
   ·obtain ⟨c13b0, H⟩ := itND H
    obtain ⟨c14b0, H⟩ := itND H
    obtain ⟨t471, A15, H⟩ := obE H
    rcases iteP H with ⟨c16, H⟩ | ⟨c16, H⟩
    ·have c16b0 := decide_eq_true c16
     have c16b1 : decide (x5_1.length < t471.length) = true := decide_eq_true (Int.ofNat_lt.mp c16)
     clear c16
     have H' := mkA H
     clear H
     obtain ⟨p470, q470, ad470, e470, hx470_0⟩ := atI (Kd.R_reads' HO_15.out).2.2 x17_1
     cases e470
     obtain ⟨_, _⟩ := blk1 BK462
     go_wp2_with (first | ((with_reducible refine gate_dst (N := 23) rfl ?_); refine impl_LongestChain_1.goesV_ (some 23) rfl rfl (fun args_ W_ => enters_ Tryd.func27 (by kernel_rfl) rfl args_ W_) #[.int .i64 (rd t467 x17_1), .pointer (some ⟨gB1, 0, none⟩), .pointer (some ⟨gB2, 0, none⟩)] rfl rfl (by (try simp only [List.map_toArray, List.map_cons, List.map_nil]); first | done | rfl | (simp only [List.length_drop, List.length_take]; rfl)) ?_; (with_reducible refine (ih k1 (by have := HK1.out; omega) (rd t467 x17_1) gB1 a1_0 (some ad466) c1_1 l1_1 gB2 t471 _ ?_ ?_ ?_ ?_ ?_ A15.out).mono ?_); exact (show _ = some (Obj.cells #[.int .i64 a1_0, .slice (some ad466) l1_1.length c1_1] 26 (0, 0)) from blkT BK461); exact C_g HR1_1 HB; exact HC1_1.out; exact (show _ = some (Obj.cells #[.func (.func 27) #[] #[.pointer (some ⟨gB1, 0, none⟩), .pointer (some ⟨gB2, 0, none⟩)]] 39 (0, 0)) from blkT BK462); exact Tab.below HTAB.out (bel_g HB.out); rintro e w19 ⟨v472, rfl, ho0, hb⟩; refine ⟨_, rfl, ?_⟩; have HO473 := rLo (rN (rN ho0 HO_5) HO_15) HB; replace HO_5 := rE HO_5 ho0 hb; replace HO_15 := rE HO_15 ho0 hb; replace BK461 := blkB BK461 hb; replace BK462 := blkB BK462 hb; replace HB := bst HB hb; clear hb ho0; obtain ⟨Ao20, co20, rfl⟩ := Kd.R_slice HO473.out; obtain ⟨Ao21, co21, rfl⟩ := Kd.R_slice HO_5.out))
     go_roundg k1
     case measure => have := HK1.out; omega
     case rel => exact ⟨(t471), (wrap64 (x17_1 + 1)), eqS, H', ⟨by have := HK1.out; omega⟩, ⟨Kd.R_g (Kd.R_mono HO473.out (fun _ hk => hk.2))⟩, ⟨Kd.R_g (Kd.R_mono HO_15.out (fun _ hk => hk.2))⟩, bg BK461, bg BK462, hbg HB⟩
    ·have c16b0 := decide_eq_false c16
     have c16b1 : decide (x5_1.length < t471.length) = false := decide_eq_false (fun h => c16 (Int.ofNat_lt.mpr h))
     clear c16
     have H' := mkA H
     clear H
     obtain ⟨p470, q470, ad470, e470, hx470_0⟩ := atI (Kd.R_reads' HO_15.out).2.2 x17_1
     cases e470
     obtain ⟨_, _⟩ := blk1 BK462
     go_wp2_with (first | ((with_reducible refine gate_dst (N := 23) rfl ?_); refine impl_LongestChain_1.goesV_ (some 23) rfl rfl (fun args_ W_ => enters_ Tryd.func27 (by kernel_rfl) rfl args_ W_) #[.int .i64 (rd t467 x17_1), .pointer (some ⟨gB1, 0, none⟩), .pointer (some ⟨gB2, 0, none⟩)] rfl rfl (by (try simp only [List.map_toArray, List.map_cons, List.map_nil]); first | done | rfl | (simp only [List.length_drop, List.length_take]; rfl)) ?_; (with_reducible refine (ih k1 (by have := HK1.out; omega) (rd t467 x17_1) gB1 a1_0 (some ad466) c1_1 l1_1 gB2 t471 _ ?_ ?_ ?_ ?_ ?_ A15.out).mono ?_); exact (show _ = some (Obj.cells #[.int .i64 a1_0, .slice (some ad466) l1_1.length c1_1] 26 (0, 0)) from blkT BK461); exact C_g HR1_1 HB; exact HC1_1.out; exact (show _ = some (Obj.cells #[.func (.func 27) #[] #[.pointer (some ⟨gB1, 0, none⟩), .pointer (some ⟨gB2, 0, none⟩)]] 39 (0, 0)) from blkT BK462); exact Tab.below HTAB.out (bel_g HB.out); rintro e w24 ⟨v472, rfl, ho0, hb⟩; refine ⟨_, rfl, ?_⟩; have HO473 := rLo (rN (rN ho0 HO_5) HO_15) HB; replace HO_5 := rE HO_5 ho0 hb; replace HO_15 := rE HO_15 ho0 hb; replace BK461 := blkB BK461 hb; replace BK462 := blkB BK462 hb; replace HB := bst HB hb; clear hb ho0; obtain ⟨Ao25, co25, rfl⟩ := Kd.R_slice HO473.out; obtain ⟨Ao26, co26, rfl⟩ := Kd.R_slice HO_5.out))
     go_roundg k1
     case measure => have := HK1.out; omega
     case rel => exact ⟨(x5_1), (wrap64 (x17_1 + 1)), eqS, H', ⟨by have := HK1.out; omega⟩, ⟨Kd.R_g (Kd.R_mono HO_5.out (fun _ hk => hk.1))⟩, ⟨Kd.R_g (Kd.R_mono HO_15.out (fun _ hk => hk.1))⟩, bg BK461, bg BK462, hbg HB⟩
   ·obtain ⟨y474, Ny474, H⟩ := nmE H
    obtain ⟨c27, H⟩ := itNP H
    have LMc27 := mkA c27
    clear c27
    obtain ⟨y477, hy477⟩ : ∃ y_ : List Int, y_ = (y474 ++ x5_1) := ⟨_, rfl⟩
    rw [← hy477] at H
    have Ny477 := mkA hy477
    clear hy477
    obtain rfl := Option.some.inj H
    go_wp2_with (first | ((with_reducible refine gate_dst (N := 32) rfl ?_); refine litE (Kd.int .i64) 3 ([a0] : List Int) [.int .i64 a0] ?hp ?_; (case hp => exact (Reps.one (show Kd.M (Kd.int .i64) _ _ _ a0 [.int .i64 a0] from rfl) (Reps.none _ _))); intro v475 w28 ho29 hb hg_ hnew_; clear hg_ hnew_; (first | rw [← Ny474.out] at ho29 | (simp only [Int.reduceToNat] at ho29; rw [← Ny474.out] at ho29)); have HO476 := rLo (rN (rN ho29 HO_5) HO_15) HB; replace HO_5 := rE HO_5 ho29 hb; replace HO_15 := rE HO_15 ho29 hb; replace BK461 := blkB BK461 hb; replace BK462 := blkB BK462 hb; replace HB := bst HB hb; clear hb ho29; obtain ⟨Ao31, co31, rfl⟩ := Kd.R_slice HO_5.out) | ((with_reducible refine gate_builtin (b := .append) (xs := #[.tmp 32, .tmp 33]) rfl ?_); at_builtin; refine Kd.R_append_rows (Kd.int .i64) (w0 := w) w.heap.size rfl (.tmp 32) (.tmp 33) 24 3 (.int .i64 0) 8 rfl Tryd.underlying24 info3 rfl (by decide) (by omega) v475 y474 x5_1 _ _ _ (fun k_ => some k_ ≠ (.slice Ao31 x5_1.length co31 : Value).ownBlock ∧ some k_ ≠ (.slice Ao11 t467.length co11 : Value).ownBlock) (fun _ => False) rfl rfl ?aO ?aR (fun _ _ h => h) (fun _ h => h.elim) ?aF ?aB ?aS ?aL ?_; (case aR => repeat (first | exact (Kd.R_reads' HO_5.out).2.2 | (with_reducible refine Kd.C_alloc ?_ _) | (with_reducible refine Kd.C_drewN ?_ _) | (with_reducible refine Kd.C_drew ?_))); (case aB => exact (bel_g HB.out)); (case aF => exact (fun k_ hk => ⟨Kd.fresh' (Kd.R_lt (Kd.R_g HO_5.out)) k_ hk, Kd.fresh' (Kd.R_lt (Kd.R_g HO_15.out)) k_ hk⟩)); (case aO => exact (Kd.R_g (Kd.R_mono HO476.out (fun _ hk => ⟨hk.1.2, hk.2⟩)))); (case aS => exact (below_size (bel_g HB.out))); (case aL => have := LMc27.out; omega); intro v478 w30 ho hb hg hat; rw [← Ny477.out] at ho; replace HO_5 := mkA (Kd.R_after (ok := (fun k_ => some k_ ≠ (.slice Ao11 t467.length co11 : Value).ownBlock)) (Kd.R_g HO_5.out) hg hat); replace HO_15 := mkA (Kd.R_after (ok := (fun k_ => some k_ ≠ (.slice Ao31 x5_1.length co31 : Value).ownBlock)) (Kd.R_g HO_15.out) hg hat); replace BK461 := mkA (blk_grown (g := gB1) (o := .cells #[.int .i64 a1_0, .slice (some ad466) l1_1.length c1_1] 26 (0, 0)) (blk_g BK461.out) hg (Kd.R_ne HO476.out BK461.out (by decide))); replace BK462 := mkA (blk_grown (g := gB2) (o := .cells #[.func (.func 27) #[] #[.pointer (some ⟨gB1, 0, none⟩), .pointer (some ⟨gB2, 0, none⟩)]] 39 (0, 0)) (blk_g BK462.out) hg (Kd.R_ne HO476.out BK462.out (by decide))); have HO479 := mkA (ho); replace HB := mkA (hb); clear HO476; clear ho hb hg hat))
    go_ret
    exact ⟨_, eqE, Kd.R_g (Kd.R_mono HO479.out (fun _ hk => trivial)), bel_g HB.out⟩
theorem impl_LongestChain.goesV_ {P : Program} {ops : Array Oper} {Q : Exit → Act → World → Prop} {rest : List Oper} {oi : Oper} {a : Act} {w : World} (N : Option Tmp) (hd : oi.dst = N) (hg : oi.guard = none) {g : FuncId} {lb : Array Value} {x : Operand} {ax : Array Operand} {ts : Array TypeId}
  (he : ∀ args W, (callFunc g args).run P W = .ok (.enter g args) W) (args : Array Value) (hop : oi.op = .call { callee := .value x, args := ax, argTypes := ts }) (hx : a.eval x = .func (.func g) #[] lb) (hargs : ax.map a.eval ++ lb = args)
  (h : Calls P g args w fun e w' => ∃ v, e = .returned v ∧ wpList P ops Q rest (a.put N v) w') : wpList P ops Q (oi :: rest) a w := by
 refine wpList_plain hg fun K hK => ?_
 have he := he args w
 have hrun : (execOp a.eval oi).run P w = .ok (.enter g args) w := by
  unfold execOp
  simp [hop, resolve, Deferred.ofValue, invoke, hx, hargs, he]
 unfold Oper.wp
 rw [hrun, Oper.upon_enter]
 refine h.mono fun e w'' hh => ?_
 obtain ⟨v, rfl, hk⟩ := hh
 subst hd
 exact hK _ _ hk
theorem impl_LongestChain.store_func (P : Program) (w : World) (a : Addr) (m : Mode) (fn : Fn) (first captured : Array Value) : (store a (.func fn first captured) m).run P w = stored P w a (.func fn first captured) m := run_store P w a _ m rfl
attribute [local go_sem] impl_LongestChain.store_func
def impl_LongestChain.l0 : Nat → List Int → Int → Int → Int → List Int → Option (List Int × Bool)
 | 0, _, _, _, _, _ => none
 | k + 1, x5, x14, x15, x481000, x481001 => if x15 < x14 then ((impl_LongestChain_1.f k x15 x481000 x481001).bind fun t486 => (if (t486.length : Int) > (x5.length : Int) then (impl_LongestChain.l0 k t486 x14 (wrap64 (x15 + 1)) x481000 x481001) else (impl_LongestChain.l0 k x5 x14 (wrap64 (x15 + 1)) x481000 x481001))) else (some (x5, true))
def impl_LongestChain.f (k : Nat) (a0_0 : Int) (l0_1 : List Int) : Option (List Int × Bool) := (impl_IsOrder.f k a0_0 l0_1).bind fun t481 => (if t481 = true then (impl_LongestChain.l0 k (([] : List Int)) a0_0 0 a0_0 l0_1) else (some (([] : List Int), false)))
theorem impl_LongestChain.mono_l : ∀ k, (∀ y0 y1 y2 y3 y4, LeO (impl_LongestChain.l0 k y0 y1 y2 y3 y4) (impl_LongestChain.l0 (k + 1) y0 y1 y2 y3 y4))
 | 0 => fun _ _ _ _ _ r h => by simp [impl_LongestChain.l0] at h
 | k + 1 => by
  have ih0 := impl_LongestChain.mono_l k
  ·intro y0 y1 y2 y3 y4
   unfold impl_LongestChain.l0
   repeat' (with_reducible first|apply ih0|apply impl_IsOrder.mono|apply impl_LongestChain_1.mono|apply LeO.refl|apply LeO.none|apply LeO.ite|apply LeO.bind|intro)
theorem impl_LongestChain.mono : ∀ a0 a1 k, LeO (impl_LongestChain.f k a0 a1) (impl_LongestChain.f (k + 1) a0 a1) := by
 intro a0 a1 k
 have ih0 := impl_LongestChain.mono_l k
 unfold impl_LongestChain.f
 repeat' (with_reducible first|apply ih0|apply impl_IsOrder.mono|apply impl_LongestChain_1.mono|apply LeO.refl|apply LeO.none|apply LeO.ite|apply LeO.bind|intro)
theorem impl_LongestChain.calls (k : Nat) (a0_0 : Int) (A0_1 : Option Addr) (c0_1 : Nat) (l0_1 : List Int) (r1 : List Int) (r2 : Bool) (w : World) (hr0_1 : Kd.C (Kd.int .i64) w A0_1 l0_1.length l0_1) (hc0_1 : l0_1.length ≤ c0_1) (hTAB : Tab w) (h : impl_LongestChain.f k a0_0 l0_1 = some (r1, r2)) :
  Calls Tryd.prog 9 #[.agg #[.int .i64 a0_0, .slice A0_1 l0_1.length c0_1]] w fun e w' => ∃ v0_ : Value, e = .returned (.tuple #[v0_, .bool r2]) ∧ Kd.R (Kd.int .i64) 3 w' w.heap.size (fun _ => True) v0_ r1 ∧ Below w.heap.size w w' := by
 have HTAB := mkA hTAB
 clear hTAB
 have hu26 := Tryd.underlying26
 have HR0_1 := mkA hr0_1
 have HC0_1 := mkA hc0_1
 clear hr0_1 hc0_1
 have HB := mkA (Below.refl w.heap.size w)
 have H := h
 clear h
 unfold impl_LongestChain.f at H
 obtain ⟨t481, A2, H⟩ := obE H
 by_cases c3 : t481 = true
 ·subst c3
  replace H := ifT H
  obtain ⟨y483, hy483⟩ : ∃ y_ : List Int, y_ = (([] : List Int)) := ⟨_, rfl⟩
  rw [← hy483] at H
  have Ny483 := mkA hy483
  clear hy483
  have H' := mkA H
  clear H
  go_enter Tryd.func9, Tryd.ntmps9
  go_wp2_with (first | ((with_reducible refine gate_dst (N := 1) rfl ?_); refine boxG HB #[.int .i64 a0_0, .slice A0_1 l0_1.length c0_1] 26 ?_; intro gb480 hg w4 BK480 GE480 hb; replace HB := bst HB hb; clear hb hg; obtain ⟨_, _, _, _⟩ := blk2 BK480) | ((with_reducible refine gate_callee (f := 20) rfl ?_); refine goesQ (some 9) Tryd.func20 #[.agg #[.int .i64 a0_0, .slice A0_1 l0_1.length c0_1]] ?_; (with_reducible refine (impl_IsOrder.calls k a0_0 _ _ l0_1 true _ ?_ ?_ ?_ A2.out).mono ?_); exact C_g HR0_1 HB; exact HC0_1.out; exact Tab.below HTAB.out (bel_g HB.out); rintro e w6 ⟨rfl, hb⟩; refine ⟨_, rfl, ?_⟩; replace BK480 := blkB BK480 hb; replace HB := bst HB hb; clear hb) | ((with_reducible refine gate_dst (N := 4) rfl ?_); refine boxG HB #[.nilFunc] 39 ?_; intro gb482 hg w7 BK482 GE482 hb; have NB480_482 := neL7 BK480 hg; have NB482_480 := neR7 BK480 hg; replace BK480 := blkB BK480 hb; replace HB := bst HB hb; clear hb hg; obtain ⟨_, _⟩ := blk1 BK482) | ((with_reducible refine gate_dst (N := 12) rfl ?_); refine litE (Kd.int .i64) 3 ([] : List Int) [] ?hp ?_; (case hp => exact (Reps.none _ _)); intro v484 w10 ho11 hb hg_ hnew_; clear hg_ hnew_; (first | rw [← Ny483.out] at ho11 | (simp only [Int.reduceToNat] at ho11; rw [← Ny483.out] at ho11)); have HO485 := rLo ho11 HB; replace BK480 := blkS BK480 hb; replace BK482 := blkS BK482 hb; replace HB := bst HB hb; clear hb ho11; obtain ⟨_, _, _, _⟩ := blk2 BK480))
  go_loopg [5, 15] k (fun kq v5 v15 w' => ∃ (x5_1 : List Int) (x15_1 : Int), v15 = .int .i64 x15_1 ∧ Fc (impl_LongestChain.l0 kq x5_1 a0_0 x15_1 a0_0 l0_1 = some (r1, r2)) ∧ Fc (kq ≤ k) ∧ Fc (Kd.R (Kd.int .i64) 3 w' w.heap.size (fun _ => True) v5 x5_1) ∧ Fc (w'.heap[gb480]? = some (.cells #[.int .i64 a0_0, (.slice A0_1 l0_1.length c0_1)] 26 (0, 0))) ∧ Fc (w'.heap[gb482]? = some (.cells #[.func (.func 27) #[] #[.pointer (some ⟨gb480, 0, none⟩), .pointer (some ⟨gb482, 0, none⟩)]] 39 (0, 0))) ∧ Fc (Below w.heap.size w w'))
  case atStart => exact ⟨(y483), (0), eqS, H', ⟨Nat.le_refl _⟩, rg HO485, bg BK480, bg BK482, hbg HB⟩
  case round =>
   clear H'
   try clear c3
   obtain ⟨x5_1, x15_1, rfl, HA, HK1, HO_5, BK480, BK482, HB⟩ := hrel
   cases gk with
   | zero => exact absurd HA.out (by simp [impl_LongestChain.l0])
   | succ k1 =>
    have H := HA.out
    clear HA
    simp only [impl_LongestChain.l0] at H
    rcases iteE H with ⟨c13b0, H⟩ | ⟨c13b0, H⟩
    ·obtain ⟨t486, A14, H⟩ := obE H
     rcases iteP H with ⟨c15, H⟩ | ⟨c15, H⟩
     ·have c15b0 := decide_eq_true c15
      have c15b1 : decide (x5_1.length < t486.length) = true := decide_eq_true (Int.ofNat_lt.mp c15)
      clear c15
      have H' := mkA H
      clear H
      obtain ⟨_, _⟩ := blk1 BK482
      go_wp2_with (first | ((with_reducible refine gate_dst (N := 20) rfl ?_); refine impl_LongestChain.goesV_ (some 20) rfl rfl (fun args_ W_ => enters_ Tryd.func27 (by kernel_rfl) rfl args_ W_) #[.int .i64 x15_1, .pointer (some ⟨gb480, 0, none⟩), .pointer (some ⟨gb482, 0, none⟩)] rfl rfl (by (try simp only [List.map_toArray, List.map_cons, List.map_nil]); first | done | rfl | (simp only [List.length_drop, List.length_take]; rfl)) ?_; (with_reducible refine (impl_LongestChain_1.calls k1 x15_1 gb480 a0_0 A0_1 c0_1 l0_1 gb482 t486 _ ?_ ?_ ?_ ?_ ?_ A14.out).mono ?_); exact (show _ = some (Obj.cells #[.int .i64 a0_0, .slice A0_1 l0_1.length c0_1] 26 (0, 0)) from blkT BK480); exact C_g HR0_1 HB; exact HC0_1.out; exact (show _ = some (Obj.cells #[.func (.func 27) #[] #[.pointer (some ⟨gb480, 0, none⟩), .pointer (some ⟨gb482, 0, none⟩)]] 39 (0, 0)) from blkT BK482); exact Tab.below HTAB.out (bel_g HB.out); rintro e w18 ⟨v487, rfl, ho0, hb⟩; refine ⟨_, rfl, ?_⟩; have HO488 := rLo (rN ho0 HO_5) HB; replace HO_5 := rE HO_5 ho0 hb; replace BK480 := blkB BK480 hb; replace BK482 := blkB BK482 hb; replace HB := bst HB hb; clear hb ho0; obtain ⟨Ao19, co19, rfl⟩ := Kd.R_slice HO488.out; obtain ⟨Ao20, co20, rfl⟩ := Kd.R_slice HO_5.out))
      go_roundg k1
      case measure => have := HK1.out; omega
      case rel => exact ⟨(t486), (wrap64 (x15_1 + 1)), eqS, H', ⟨by have := HK1.out; omega⟩, ⟨Kd.R_g (Kd.R_mono HO488.out (fun _ hk => trivial))⟩, bg BK480, bg BK482, hbg HB⟩
     ·have c15b0 := decide_eq_false c15
      have c15b1 : decide (x5_1.length < t486.length) = false := decide_eq_false (fun h => c15 (Int.ofNat_lt.mpr h))
      clear c15
      have H' := mkA H
      clear H
      obtain ⟨_, _⟩ := blk1 BK482
      go_wp2_with (first | ((with_reducible refine gate_dst (N := 20) rfl ?_); refine impl_LongestChain.goesV_ (some 20) rfl rfl (fun args_ W_ => enters_ Tryd.func27 (by kernel_rfl) rfl args_ W_) #[.int .i64 x15_1, .pointer (some ⟨gb480, 0, none⟩), .pointer (some ⟨gb482, 0, none⟩)] rfl rfl (by (try simp only [List.map_toArray, List.map_cons, List.map_nil]); first | done | rfl | (simp only [List.length_drop, List.length_take]; rfl)) ?_; (with_reducible refine (impl_LongestChain_1.calls k1 x15_1 gb480 a0_0 A0_1 c0_1 l0_1 gb482 t486 _ ?_ ?_ ?_ ?_ ?_ A14.out).mono ?_); exact (show _ = some (Obj.cells #[.int .i64 a0_0, .slice A0_1 l0_1.length c0_1] 26 (0, 0)) from blkT BK480); exact C_g HR0_1 HB; exact HC0_1.out; exact (show _ = some (Obj.cells #[.func (.func 27) #[] #[.pointer (some ⟨gb480, 0, none⟩), .pointer (some ⟨gb482, 0, none⟩)]] 39 (0, 0)) from blkT BK482); exact Tab.below HTAB.out (bel_g HB.out); rintro e w23 ⟨v487, rfl, ho0, hb⟩; refine ⟨_, rfl, ?_⟩; have HO488 := rLo (rN ho0 HO_5) HB; replace HO_5 := rE HO_5 ho0 hb; replace BK480 := blkB BK480 hb; replace BK482 := blkB BK482 hb; replace HB := bst HB hb; clear hb ho0; obtain ⟨Ao24, co24, rfl⟩ := Kd.R_slice HO488.out; obtain ⟨Ao25, co25, rfl⟩ := Kd.R_slice HO_5.out))
      go_roundg k1
      case measure => have := HK1.out; omega
      case rel => exact ⟨(x5_1), (wrap64 (x15_1 + 1)), eqS, H', ⟨by have := HK1.out; omega⟩, ⟨Kd.R_g (Kd.R_mono HO_5.out (fun _ hk => trivial))⟩, bg BK480, bg BK482, hbg HB⟩
    ·simp only [Option.some.injEq, Prod.mk.injEq] at H
     obtain ⟨rfl, rfl⟩ := H
     go_wp2
     go_ret2
     exact ⟨_, eqE, Kd.R_g HO_5.out, bel_g HB.out⟩
 ·replace c3 := Bool.eq_false_iff.mpr c3
  subst c3
  replace H := ifF H
  simp only [Option.some.injEq, Prod.mk.injEq] at H
  obtain ⟨rfl, rfl⟩ := H
  go_enter Tryd.func9, Tryd.ntmps9
  go_wp2_with (first | ((with_reducible refine gate_dst (N := 1) rfl ?_); refine boxG HB #[.int .i64 a0_0, .slice A0_1 l0_1.length c0_1] 26 ?_; intro gb480 hg w26 BK480 GE480 hb; replace HB := bst HB hb; clear hb hg; obtain ⟨_, _, _, _⟩ := blk2 BK480) | ((with_reducible refine gate_callee (f := 20) rfl ?_); refine goesQ (some 9) Tryd.func20 #[.agg #[.int .i64 a0_0, .slice A0_1 l0_1.length c0_1]] ?_; (with_reducible refine (impl_IsOrder.calls k a0_0 _ _ l0_1 false _ ?_ ?_ ?_ A2.out).mono ?_); exact C_g HR0_1 HB; exact HC0_1.out; exact Tab.below HTAB.out (bel_g HB.out); rintro e w28 ⟨rfl, hb⟩; refine ⟨_, rfl, ?_⟩; replace BK480 := blkB BK480 hb; replace HB := bst HB hb; clear hb))
  go_ret2
  exact ⟨_, eqE, nilE, bel_g HB.out⟩
def impl_LargestAntichain.f (k : Nat) (a0_0 : Int) (l0_1 : List Int) : Option (List Int × Bool) := (impl_IsOrder.f k a0_0 l0_1).bind fun t490 => (if t490 = true then ((impl_Order_antichain.f k a0_0 l0_1).bind fun t491 => (some (t491, true))) else (some (([] : List Int), false)))
theorem impl_LargestAntichain.mono : ∀ a0 a1 k, LeO (impl_LargestAntichain.f k a0 a1) (impl_LargestAntichain.f (k + 1) a0 a1) := by
 intro a0 a1 k
 unfold impl_LargestAntichain.f
 repeat' (with_reducible first|apply impl_IsOrder.mono|apply impl_Order_antichain.mono|apply LeO.refl|apply LeO.none|apply LeO.ite|apply LeO.bind|intro)
theorem impl_LargestAntichain.calls (k : Nat) (a0_0 : Int) (A0_1 : Option Addr) (c0_1 : Nat) (l0_1 : List Int) (r1 : List Int) (r2 : Bool) (w : World) (hr0_1 : Kd.C (Kd.int .i64) w A0_1 l0_1.length l0_1) (hc0_1 : l0_1.length ≤ c0_1) (hTAB : Tab w) (h : impl_LargestAntichain.f k a0_0 l0_1 = some (r1, r2)) :
  Calls Tryd.prog 10 #[.agg #[.int .i64 a0_0, .slice A0_1 l0_1.length c0_1]] w fun e w' => ∃ v0_ : Value, e = .returned (.tuple #[v0_, .bool r2]) ∧ Kd.R (Kd.int .i64) 3 w' w.heap.size (fun _ => True) v0_ r1 ∧ Below w.heap.size w w' := by
 have HTAB := mkA hTAB
 clear hTAB
 have hu26 := Tryd.underlying26
 have HR0_1 := mkA hr0_1
 have HC0_1 := mkA hc0_1
 clear hr0_1 hc0_1
 have HB := mkA (Below.refl w.heap.size w)
 have H := h
 clear h
 unfold impl_LargestAntichain.f at H
 obtain ⟨t490, A2, H⟩ := obE H
 by_cases c3 : t490 = true
 ·subst c3
  replace H := ifT H
  obtain ⟨t491, A4, H⟩ := obE H
  simp only [Option.some.injEq, Prod.mk.injEq] at H
  obtain ⟨rfl, rfl⟩ := H
  go_enter Tryd.func10, Tryd.ntmps10
  go_wp2_with (first | ((with_reducible refine gate_dst (N := 1) rfl ?_); refine boxG HB #[.int .i64 a0_0, .slice A0_1 l0_1.length c0_1] 26 ?_; intro gb489 hg w5 BK489 GE489 hb; replace HB := bst HB hb; clear hb hg; obtain ⟨_, _, _, _⟩ := blk2 BK489) | ((with_reducible refine gate_callee (f := 20) rfl ?_); refine goesQ (some 5) Tryd.func20 #[.agg #[.int .i64 a0_0, .slice A0_1 l0_1.length c0_1]] ?_; (with_reducible refine (impl_IsOrder.calls k a0_0 _ _ l0_1 true _ ?_ ?_ ?_ A2.out).mono ?_); exact C_g HR0_1 HB; exact HC0_1.out; exact Tab.below HTAB.out (bel_g HB.out); rintro e w7 ⟨rfl, hb⟩; refine ⟨_, rfl, ?_⟩; replace BK489 := blkB BK489 hb; replace HB := bst HB hb; clear hb; obtain ⟨_, _, _, _⟩ := blk2 BK489) | ((with_reducible refine gate_callee (f := 21) rfl ?_); refine goesQ (some 8) Tryd.func21 #[.agg #[.int .i64 a0_0, .slice A0_1 l0_1.length c0_1]] ?_; (with_reducible refine (impl_Order_antichain.calls k a0_0 _ _ l0_1 t491 _ ?_ ?_ ?_ A4.out).mono ?_); exact C_g HR0_1 HB; exact HC0_1.out; exact Tab.below HTAB.out (bel_g HB.out); rintro e w9 ⟨v492, rfl, ho0, hb⟩; refine ⟨_, rfl, ?_⟩; have HO493 := rLo ho0 HB; replace BK489 := blkB BK489 hb; replace HB := bst HB hb; clear hb ho0))
  go_ret2
  exact ⟨_, eqE, Kd.R_g HO493.out, bel_g HB.out⟩
 ·replace c3 := Bool.eq_false_iff.mpr c3
  subst c3
  replace H := ifF H
  simp only [Option.some.injEq, Prod.mk.injEq] at H
  obtain ⟨rfl, rfl⟩ := H
  go_enter Tryd.func10, Tryd.ntmps10
  go_wp2_with (first | ((with_reducible refine gate_dst (N := 1) rfl ?_); refine boxG HB #[.int .i64 a0_0, .slice A0_1 l0_1.length c0_1] 26 ?_; intro gb489 hg w10 BK489 GE489 hb; replace HB := bst HB hb; clear hb hg; obtain ⟨_, _, _, _⟩ := blk2 BK489) | ((with_reducible refine gate_callee (f := 20) rfl ?_); refine goesQ (some 5) Tryd.func20 #[.agg #[.int .i64 a0_0, .slice A0_1 l0_1.length c0_1]] ?_; (with_reducible refine (impl_IsOrder.calls k a0_0 _ _ l0_1 false _ ?_ ?_ ?_ A2.out).mono ?_); exact C_g HR0_1 HB; exact HC0_1.out; exact Tab.below HTAB.out (bel_g HB.out); rintro e w12 ⟨rfl, hb⟩; refine ⟨_, rfl, ?_⟩; replace BK489 := blkB BK489 hb; replace HB := bst HB hb; clear hb))
  go_ret2
  exact ⟨_, eqE, nilE, bel_g HB.out⟩
end Go.Proofs.YtpphkeijklffgaaDoor.Q
