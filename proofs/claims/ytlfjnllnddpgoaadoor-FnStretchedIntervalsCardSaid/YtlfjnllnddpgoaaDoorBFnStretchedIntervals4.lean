import Derived.Test.YtlfjnllnddpgoaaDoorBFnStretchedIntervals3
namespace Go.Proofs.YtlfjnllnddpgoaaDoor.Q
open Go.RowKit Go.Proofs.YtlfjnllnddpgoaaDoorW.PrintWords Go.Proofs.YtlfjnllnddpgoaaDoorW.PrintLast Go.Proofs.YtlfjnllnddpgoaaDoorW.PrintMore
attribute [local go_sem] max2_int min2_int max_two min_two max_three min_three max_four min_four neB_f
set_option linter.unusedVariables false
set_option maxHeartbeats 8000000
set_option maxRecDepth 100000
set_option linter.unusedSimpArgs false
theorem impl_StretchIntervals.goesv_ {P : Program} {ops : Array Oper} {Q : Exit → Act → World → Prop} {oi : Oper} {N : Option Tmp} {a : Act} {w : World} {K : Act → World → Prop} {g : FuncId} {lb : Array Value} {x : Operand} {ax : Array Operand} {ts : Array TypeId}
  (he : ∀ args W, (callFunc g args).run P W = .ok (.enter g args) W) (args : Array Value) (hw : Region.wanted oi (yielded ops a.tmps) = true) (hN : oi.dst = N) (hop : oi.op = .call { callee := .value x, args := ax, argTypes := ts }) (hx : a.eval x = .func (.func g) #[] lb) (hargs : ax.map a.eval ++ lb = args)
  (h : Calls P g args w fun e w' => ∃ v, e = .returned v ∧ K (a.put N v) w') : if Region.wanted oi (yielded ops a.tmps) = true then Oper.wp P oi a w K Q else K (a.put N undef) w := by
 refine call_ g args hw hN ?_ h
 have he := he args w
 unfold execOp
 simp [hop, resolve, Deferred.ofValue, invoke, hx, hargs, he]
mutual
def impl_StretchIntervals.j0 : Nat → List (S37) → Bool → Int → Int → Option ((List (S37)) × Bool)
 | 0, _, _, _, _ => none
 | k + 1, x0, x24, x192000, x193000 => if x24 = true then (some (([] : List (S37)), false)) else (impl_StretchIntervals.l0 k (([] : List (S37))) x0 (x0.length : Int) 0 x192000 x193000)
def impl_StretchIntervals.l0 : Nat → List (S37) → List (S37) → Int → Int → Int → Int → Option ((List (S37)) × Bool)
 | 0, _, _, _, _, _, _ => none
 | k + 1, x9, x27, x28, x29, x192000, x193000 => if x29 < x28 then (if 0 ≤ x29 then (if x29 < (x27.length : Int) then ((impl_StretchIntervals_1.f ((rd_T37 x27 x29).f0) x192000 x193000).bind fun t201 => ((impl_StretchIntervals_1.f ((rd_T37 x27 x29).f1) x192000 x193000).bind fun t202 => (if x9.length < 8796093022208 then (impl_StretchIntervals.l0 k (x9 ++ [(⟨t201, t202⟩ : S37)]) x27 x28 (wrap64 (x29 + 1)) x192000 x193000) else (none)))) else (none)) else (none)) else ((impl_AreIntervals.f k x9).bind fun t206 => (if t206 = true then (some (x9, true)) else (some (([] : List (S37)), false))))
end
def impl_StretchIntervals.f (k : Nat) (l0 : List (S37)) (a1 : Int) (a2 : Int) : Option ((List (S37)) × Bool) := (impl_AreIntervals.f k l0).bind fun t193 => (if t193 = true then ((impl_within.f a1 (-1000) 1000).bind fun t194 => (if t194 = true then ((impl_within.f a2 0 1000).bind fun t195 => (impl_StretchIntervals.j0 k l0 (!t195) a1 a2)) else (impl_StretchIntervals.j0 k l0 true a1 a2))) else (impl_StretchIntervals.j0 k l0 true a1 a2))
theorem impl_StretchIntervals.mono_l : ∀ k, (∀ y0 y1 y2 y3, LeO (impl_StretchIntervals.j0 k y0 y1 y2 y3) (impl_StretchIntervals.j0 (k + 1) y0 y1 y2 y3)) ∧ (∀ y0 y1 y2 y3 y4 y5, LeO (impl_StretchIntervals.l0 k y0 y1 y2 y3 y4 y5) (impl_StretchIntervals.l0 (k + 1) y0 y1 y2 y3 y4 y5))
 | 0 => ⟨fun _ _ _ _ r h => by simp [impl_StretchIntervals.j0] at h, fun _ _ _ _ _ _ r h => by simp [impl_StretchIntervals.l0] at h⟩
 | k + 1 => by
  obtain ⟨ih0, ih1⟩ := impl_StretchIntervals.mono_l k
  refine ⟨?_, ?_⟩ <;> intros
  unfold impl_StretchIntervals.j0
  rotate_left
  unfold impl_StretchIntervals.l0
  rotate_left
  all_goals repeat' (with_reducible first|apply ih0|apply ih1|apply impl_AreIntervals.mono|apply LeO.refl|apply LeO.none|apply LeO.ite|apply LeO.bind|intro)
theorem impl_StretchIntervals.mono : ∀ a0 a1 a2 k, LeO (impl_StretchIntervals.f k a0 a1 a2) (impl_StretchIntervals.f (k + 1) a0 a1 a2) := by
 intro a0 a1 a2 k
 obtain ⟨ih0, ih1⟩ := impl_StretchIntervals.mono_l k
 unfold impl_StretchIntervals.f
 repeat' (with_reducible first|apply ih0|apply ih1|apply impl_AreIntervals.mono|apply LeO.refl|apply LeO.none|apply LeO.ite|apply LeO.bind|intro)
def impl_StretchIntervals.T8 : Bool × List (List Nat × List Nat) := (true, [([], []), ([], []), ([], []), ([2], [2]), ([1, 3], [1, 3]), ([], []), ([], []), ([6], [6]), ([5, 7, 4], [5, 7]), ([4, 8], [4, 8]), ([9], [9]), ([0, 10, 8], [0, 10]), ([11, 11, 0, 1, 2, 3, 4, 5, 6, 7, 8, 9, 10, 11], [0, 11])])
def impl_StretchIntervals.B8 : List Nat := [0, 0, 0, 4, 14, 0, 0, 64, 254, 510, 1022, 2047, 4095]
theorem impl_StretchIntervals.tab8 : rtab .any (opsOf Tryd.f6 8) = impl_StretchIntervals.T8 := by kernel_rfl
theorem impl_StretchIntervals.bits8 : waitsOk impl_StretchIntervals.T8.2 impl_StretchIntervals.B8 = true := by kernel_rfl
theorem impl_StretchIntervals.calls (k : Nat) (A0 : Option Addr) (c0 : Nat) (l0 : List (S37)) (a1 : Int) (a2 : Int) (r1 : List (S37)) (r2 : Bool) (w : World) (hr0 : Kd.C k37 w A0 l0.length l0) (hc0 : l0.length ≤ c0) (h : impl_StretchIntervals.f k l0 a1 a2 = some (r1, r2)) :
  Calls Tryd.prog 6 #[.slice A0 l0.length c0, .int .i64 a1, .int .i64 a2] w fun e w' => ∃ v0_ : Value, e = .returned (.tuple #[v0_, .bool r2]) ∧ Kd.R k37 37 w' w.heap.size (fun _ => True) v0_ r1 ∧ Below w.heap.size w w' := by
 have hu37 := Tryd.underlying37
 have HR0 := mkA hr0
 have HC0 := mkA hc0
 clear hr0 hc0
 have HB := mkA (Below.refl w.heap.size w)
 have H := h
 clear h
 unfold impl_StretchIntervals.f at H
 have HC4 := mkA H
 clear H
 go_enter Tryd.func6, Tryd.ntmps6
 go_upto_region 1 with (first | ((with_reducible refine gate_dst (N := 4) rfl ?_); refine boxG HB #[.int .i64 a1] 3 ?_; intro gb191 hg w5 BK191 GE191 hb; replace HB := bst HB hb; clear hb hg) | ((with_reducible refine gate_dst (N := 5) rfl ?_); refine boxG HB #[.int .i64 a2] 3 ?_; intro gb192 hg w6 BK192 GE192 hb; have NB191_192 := neL7 BK191 hg; have NB192_191 := neR7 BK191 hg; replace BK191 := blkB BK191 hb; replace HB := bst HB hb; clear hb hg))
 (try simp only [Act.put, List.setIfInBounds_toArray, List.set_cons_zero, List.set_cons_succ])
 go_cut [24] (fun v24 wc => ∃ (kq : Nat) (x24_3 : Bool), v24 = .bool x24_3 ∧ Fc (impl_StretchIntervals.j0 kq l0 x24_3 a1 a2 = some (r1, r2)) ∧ Fc (kq ≤ k) ∧ Fc (wc.heap[gb191]? = some (.cells #[.int .i64 a1] 3 (0, 0))) ∧ Fc (wc.heap[gb192]? = some (.cells #[.int .i64 a2] 3 (0, 0))) ∧ Fc (Below w.heap.size w wc))
 case first =>
  have H := HC4.out
  clear HC4
  obtain ⟨t193, A7, H⟩ := obE H
  by_cases c8 : t193 = true
  ·subst c8
   replace H := ifT H
   obtain ⟨t194, A9, H⟩ := obE H
   by_cases c10 : t194 = true
   ·subst c10
    replace H := ifT H
    obtain ⟨t195, A11, H⟩ := obE H
    have H' := mkA H
    clear H
    go_wp2_with (first | ((with_reducible refine gate_callee (f := 21) rfl ?_); refine goesQ (some 13) Tryd.func21 #[.slice A0 l0.length c0] ?_; (with_reducible refine (impl_AreIntervals.calls k _ _ l0 true _ ?_ ?_ A7.out).mono ?_); exact C_g HR0 HB; exact HC0.out; rintro e w12 ⟨rfl, hb⟩; refine ⟨_, rfl, ?_⟩; replace BK191 := blkB BK191 hb; replace BK192 := blkB BK192 hb; replace HB := bst HB hb; clear hb; obtain ⟨_, _⟩ := blk1 BK191) | (go_at_call 22; (with_reducible refine (impl_within.calls a1 (-1000) 1000 true _ A9.out).mono ?_); rintro e w' ⟨rfl, ⟨nd, rfl⟩⟩; obtain ⟨_, _⟩ := blk1 BK192) | (go_at_call 22; (with_reducible refine (impl_within.calls a2 0 1000 t195 _ A11.out).mono ?_); rintro e w' ⟨rfl, ⟨nd, rfl⟩⟩))
    go_meet
    case rel => exact ⟨_, (!t195), eqS, H', ⟨by first | omega | exact Nat.le_refl _⟩, bg BK191, bg BK192, hbg HB⟩
   ·replace c10 := Bool.eq_false_iff.mpr c10
    subst c10
    replace H := ifF H
    have H' := mkA H
    clear H
    go_wp2_with (first | ((with_reducible refine gate_callee (f := 21) rfl ?_); refine goesQ (some 13) Tryd.func21 #[.slice A0 l0.length c0] ?_; (with_reducible refine (impl_AreIntervals.calls k _ _ l0 true _ ?_ ?_ A7.out).mono ?_); exact C_g HR0 HB; exact HC0.out; rintro e w16 ⟨rfl, hb⟩; refine ⟨_, rfl, ?_⟩; replace BK191 := blkB BK191 hb; replace BK192 := blkB BK192 hb; replace HB := bst HB hb; clear hb; obtain ⟨_, _⟩ := blk1 BK191) | (go_at_call 22; (with_reducible refine (impl_within.calls a1 (-1000) 1000 false _ A9.out).mono ?_); rintro e w' ⟨rfl, ⟨nd, rfl⟩⟩))
    go_meet
    case rel => exact ⟨_, (true), eqS, H', ⟨by first | omega | exact Nat.le_refl _⟩, bg BK191, bg BK192, hbg HB⟩
  ·replace c8 := Bool.eq_false_iff.mpr c8
   subst c8
   replace H := ifF H
   have H' := mkA H
   clear H
   go_wp2_with (first | ((with_reducible refine gate_callee (f := 21) rfl ?_); refine goesQ (some 13) Tryd.func21 #[.slice A0 l0.length c0] ?_; (with_reducible refine (impl_AreIntervals.calls k _ _ l0 false _ ?_ ?_ A7.out).mono ?_); exact C_g HR0 HB; exact HC0.out; rintro e w19 ⟨rfl, hb⟩; refine ⟨_, rfl, ?_⟩; replace BK191 := blkB BK191 hb; replace BK192 := blkB BK192 hb; replace HB := bst HB hb; clear hb))
   go_meet
   case rel => exact ⟨_, (true), eqS, H', ⟨by first | omega | exact Nat.le_refl _⟩, bg BK191, bg BK192, hbg HB⟩
 case rest =>
  clear HC4
  try clear c8
  try clear c10
  obtain ⟨kq, x24_3, rfl, HA, HJ3, BK191, BK192, HB⟩ := hcut
  cases kq with
  | zero => exact absurd HA.out (by simp [impl_StretchIntervals.j0])
  | succ kj3 =>
   have H := HA.out
   clear HA
   simp only [impl_StretchIntervals.j0] at H
   by_cases c20 : x24_3 = true
   ·subst c20
    replace H := ifT H
    simp only [Option.some.injEq, Prod.mk.injEq] at H
    obtain ⟨rfl, rfl⟩ := H
    go_wp2
    go_ret2
    exact ⟨_, eqE, nilE, bel_g HB.out⟩
   ·replace c20 := Bool.eq_false_iff.mpr c20
    subst c20
    replace H := ifF H
    obtain ⟨y196, hy196⟩ : ∃ y_ : List (S37), y_ = (([] : List (S37))) := ⟨_, rfl⟩
    rw [← hy196] at H
    have Ny196 := mkA hy196
    clear hy196
    have H' := mkA H
    clear H
    go_wp2_with (first | ((with_reducible refine gate_dst (N := 26) rfl ?_); refine Kd.R_lit k37 _ 37 ?hg (N := 26) ?hd (xs := ([] : List (S37))) (inner := []) (ok := fun _ => True) (okp := fun _ => True) ?hr ?hp (fun _ hk => hk) trivial (Below.refl _ _) (Nat.le_refl _) (by simp) ?_; (case hd => rfl); (case hg => rfl); (case hr => first | (go_simp; done) | (go_simp; rfl)); (case hp => exact (Reps.none _ _)); intro v197 w21 ho22 hb hg_ hnew_; clear hg_ hnew_; (first | rw [← Ny196.out] at ho22 | (simp only [Int.reduceToNat] at ho22; rw [← Ny196.out] at ho22)); have HO198 := rLo ho22 HB; replace BK191 := blkB BK191 hb; replace BK192 := blkB BK192 hb; replace HB := bst HB hb; clear hb ho22))
    go_loopg [9, 29] kj3 (fun kq v9 v29 w' => ∃ (x9_2 : List (S37)) (x29_2 : Int), v29 = .int .i64 x29_2 ∧ Fc (impl_StretchIntervals.l0 kq x9_2 l0 (l0.length : Int) x29_2 a1 a2 = some (r1, r2)) ∧ Fc (kq ≤ kj3) ∧ Fc (Kd.R k37 37 w' w.heap.size (fun _ => True) v9 x9_2) ∧ Fc (w'.heap[gb191]? = some (.cells #[.int .i64 a1] 3 (0, 0))) ∧ Fc (w'.heap[gb192]? = some (.cells #[.int .i64 a2] 3 (0, 0))) ∧ Fc (Below w.heap.size w w'))
    case atStart => exact ⟨(y196), (0), eqS, H', ⟨Nat.le_refl _⟩, rg HO198, bg BK191, bg BK192, hbg HB⟩
    case round =>
     clear H'
     try clear c8
     try clear c10
     try clear c20
     obtain ⟨x9_2, x29_2, rfl, HA, HK2, HO_9, BK191, BK192, HB⟩ := hrel
     cases gk with
     | zero => exact absurd HA.out (by simp [impl_StretchIntervals.l0])
     | succ k2 =>
      have H := HA.out
      clear HA
      simp only [impl_StretchIntervals.l0] at H
      rcases iteE H with ⟨c23b0, H⟩ | ⟨c23b0, H⟩
      ·obtain ⟨c24b0, H⟩ := itND H
       obtain ⟨c25b0, H⟩ := itND H
       obtain ⟨t201, A26, H⟩ := obE H
       obtain ⟨t202, A27, H⟩ := obE H
       obtain ⟨c28, H⟩ := itNP H
       have LMc28 := mkA c28
       clear c28
       obtain ⟨y203, hy203⟩ : ∃ y_ : List (S37), y_ = (x9_2 ++ [(⟨t201, t202⟩ : S37)]) := ⟨_, rfl⟩
       rw [← hy203] at H
       have Ny203 := mkA hy203
       clear hy203
       have H' := mkA H
       clear H
       have p199 : 0 ≤ (x29_2 : Int) := ofd
       have q199 : x29_2 < (l0.length : Int) := ofd
       obtain ⟨ad199, e199, hx199_0, hx199_1⟩ := at_T37 HR0.out x29_2 p199 q199
       cases e199
       replace hx199_0 := (HB.out.cell (World.block_lt_of_cell? w _ hx199_0)).trans hx199_0
       replace hx199_1 := (HB.out.cell (World.block_lt_of_cell? w _ hx199_1)).trans hx199_1
       replace p199 := eq_true p199
       replace q199 := eq_true q199
       try go_wp2_with (first | ((with_reducible refine gate_dst (N := 11) rfl ?_); refine boxE (N := 11) (cs := #[.int .i64 0, .int .i64 0]) (t := 37) ?_; intro gb200 hg w29 hbox hb; replace HO_9 := mkA (Kd.R_below (Kd.R_elderB (Kd.R_g HO_9.out) gb200 (Nat.le_of_eq hg.symm)) hb); have BK200 := mkA (hbox); have GE200 := geB HB hg; have NB191_200 := neL7 BK191 hg; have NB200_191 := neR7 BK191 hg; replace BK191 := blkB BK191 hb; have NB192_200 := neL7 BK192 hg; have NB200_192 := neR7 BK192 hg; replace BK192 := blkB BK192 hb; replace HB := bst HB hb; clear hb hbox hg; obtain ⟨_, _, _, _⟩ := blk2 BK200))
       have n0_ : Fc (Kd.R k37 37 ((w29.setCell ⟨gb200, 0, none⟩ (.int .i64 ((rd_T37 l0 x29_2).f0))).setCell ⟨gb200, 1, none⟩ (.int .i64 ((rd_T37 l0 x29_2).f1))) w.heap.size (fun k_ => k_ ≠ gb200) u9 x9_2) := ⟨Kd.R_g (Kd.R_mono (Kd.R_far (p := ⟨gb200, 1, none⟩) (Kd.R_far (p := ⟨gb200, 0, none⟩) (Kd.R_mono HO_9.out (fun k_ hk => (⟨hk, hk.2⟩ : _ ∧ k_ ≠ gb200))) (fun _ hk => hk.2) (.int .i64 ((rd_T37 l0 x29_2).f0))) (fun _ hk => hk.2) (.int .i64 ((rd_T37 l0 x29_2).f1))) (fun _ hk => hk.1.2))⟩
       have n1_ : Fc (((w29.setCell ⟨gb200, 0, none⟩ (.int .i64 ((rd_T37 l0 x29_2).f0))).setCell ⟨gb200, 1, none⟩ (.int .i64 ((rd_T37 l0 x29_2).f1))).heap[gb191]? = some (.cells #[.int .i64 a1] 3 (0, 0))) := ⟨blkT BK191⟩
       have n2_ : Fc (((w29.setCell ⟨gb200, 0, none⟩ (.int .i64 ((rd_T37 l0 x29_2).f0))).setCell ⟨gb200, 1, none⟩ (.int .i64 ((rd_T37 l0 x29_2).f1))).heap[gb192]? = some (.cells #[.int .i64 a2] 3 (0, 0))) := ⟨blkT BK192⟩
       have n3_ : Fc (((w29.setCell ⟨gb200, 0, none⟩ (.int .i64 ((rd_T37 l0 x29_2).f0))).setCell ⟨gb200, 1, none⟩ (.int .i64 ((rd_T37 l0 x29_2).f1))).heap[gb200]? = some (.cells #[.int .i64 ((rd_T37 l0 x29_2).f0), .int .i64 ((rd_T37 l0 x29_2).f1)] 37 (0, 0))) := ⟨blkT BK200⟩
       have n4_ : Fc (Below w.heap.size w ((w29.setCell ⟨gb200, 0, none⟩ (.int .i64 ((rd_T37 l0 x29_2).f0))).setCell ⟨gb200, 1, none⟩ (.int .i64 ((rd_T37 l0 x29_2).f1)))) := ⟨bel_g HB.out⟩
       (try clear HO_9)
       (try clear BK191)
       (try clear BK192)
       (try clear BK200)
       (try clear HB)
       generalize ((w29.setCell ⟨gb200, 0, none⟩ (.int .i64 ((rd_T37 l0 x29_2).f0))).setCell ⟨gb200, 1, none⟩ (.int .i64 ((rd_T37 l0 x29_2).f1))) = w33 at n0_ n1_ n2_ n3_ n4_ ⊢
       have HO_9 := n0_
       have BK191 := n1_
       have BK192 := n2_
       have BK200 := n3_
       have HB := n4_
       clear n0_ n1_ n2_ n3_ n4_
       replace HO_9 := mkA (Kd.R_drew HO_9.out)
       replace BK191 := mkA (blk_drew BK191.out)
       replace BK192 := mkA (blk_drew BK192.out)
       replace BK200 := mkA (blk_drew BK200.out)
       replace HB := mkA (below_drew1 HB.out)
       refine start_ (n := 13) (S := fun w' => w'.cell? ⟨gb200, 0, none⟩ = some (.int .i64 ((rd_T37 l0 x29_2).f0)) ∧ w'.cell? ⟨gb200, 1, none⟩ = some (.int .i64 ((rd_T37 l0 x29_2).f1))) (ds := []) (bm 13 0) (by kernel_rfl) rfl (by kernel_rfl) ⟨(blk_cell BK200.out 0).trans rfl, (blk_cell BK200.out 1).trans rfl⟩ (fun hHeld => ?_); refine with_tabW impl_StretchIntervals.tab8 impl_StretchIntervals.bits8 (fun HT_ HW_ => ?_)
       generalize w33.drew = w34 at HO_9 BK191 BK192 BK200 HB hHeld ⊢
       refine purW 0 33 13 1 HT_ ?_
       refine purW 1 34 13 3 HT_ ?_
       refine purW 2 35 13 7 HT_ ?_
       refine purW 5 38 13 39 HT_ ?_
       refine purW 6 39 13 103 HT_ ?_
       refine takeW 3 (some 36) (bm 13 111) HT_ HW_ hHeld ?_
       refine takeW 7 (some 40) (bm 13 239) HT_ HW_ hHeld ?_
       refine oneW 4 (some 37) (bm 13 255) HT_ (fun K hK => ?_)
       refine impl_StretchIntervals.goesv_ (fun args_ W_ => enters_ Tryd.func23 (by kernel_rfl) rfl args_ W_) #[.int .i64 ((rd_T37 l0 x29_2).f0), .pointer (some ⟨gb191, 0, none⟩), .pointer (some ⟨gb192, 0, none⟩)] (by rfl) rfl rfl (by rfl) (by (try simp only [List.map_toArray, List.map_cons, List.map_nil]); first | done | rfl | (simp only [List.length_drop, List.length_take]; rfl)) ?_
       with_reducible refine (impl_StretchIntervals_1.calls ((rd_T37 l0 x29_2).f0) gb191 a1 gb192 a2 t201 _ ?s1 ?s2 A26.out).mono ?_
       (case s1 => exact (show _ = some (Obj.cells #[.int .i64 a1] 3 (0, 0)) from blkT BK191))
       (case s2 => exact (show _ = some (Obj.cells #[.int .i64 a2] 3 (0, 0)) from blkT BK192))
       rintro e w' ⟨rfl, ⟨nd, rfl⟩⟩
       refine ⟨_, rfl, ?_⟩
       refine hK.out _ _ ⟨(blk_cell BK200.out 0).trans rfl, (blk_cell BK200.out 1).trans rfl⟩ (fun hHeld => ?_)
       clear hK K
       refine normW 37 ?_
       refine oneW 8 (some 41) (bm 13 511) HT_ (fun K hK => ?_)
       refine impl_StretchIntervals.goesv_ (fun args_ W_ => enters_ Tryd.func23 (by kernel_rfl) rfl args_ W_) #[.int .i64 ((rd_T37 l0 x29_2).f1), .pointer (some ⟨gb191, 0, none⟩), .pointer (some ⟨gb192, 0, none⟩)] (by rfl) rfl rfl (by rfl) (by (try simp only [List.map_toArray, List.map_cons, List.map_nil]); first | done | rfl | (simp only [List.length_drop, List.length_take]; rfl)) ?_
       with_reducible refine (impl_StretchIntervals_1.calls ((rd_T37 l0 x29_2).f1) gb191 a1 gb192 a2 t202 _ ?s1 ?s2 A27.out).mono ?_
       (case s1 => exact (show _ = some (Obj.cells #[.int .i64 a1] 3 (0, 0)) from blkT BK191))
       (case s2 => exact (show _ = some (Obj.cells #[.int .i64 a2] 3 (0, 0)) from blkT BK192))
       rintro e w' ⟨rfl, ⟨nd, rfl⟩⟩
       refine ⟨_, rfl, ?_⟩
       refine hK.out _ _ ⟨(blk_cell BK200.out 0).trans rfl, (blk_cell BK200.out 1).trans rfl⟩ (fun hHeld => ?_)
       clear hK K
       refine normW 41 ?_
       refine purW 9 42 13 1023 HT_ ?_
       refine oneW 10 (some 43) (bm 13 2047) HT_ (fun K hK => ?_)
       refine value_ (w1 := ?_) (v := ?_) (by rfl) rfl ?_ ?_
       rotate_left 2
       ·go_simp
        constructor
        ·rfl
        ·rfl
       refine hK.out _ _ ⟨(blk_cell (blk_alloc BK200.out _) 0).trans rfl, (blk_cell (blk_alloc BK200.out _) 1).trans rfl⟩ (fun hHeld => ?_)
       clear hK K
       refine normW 43 ?_
       refine oneW 11 (some 44) (bm 13 4095) HT_ (fun K hK => ?_)
       refine Kd.R_append_step k37 (w0 := w) w.heap.size (by rfl) (.tmp 33) (.tmp 43) 24 37 (.agg #[(.int .i64 0), (.int .i64 0)]) 16 rfl Tryd.underlying24 info37 rfl (by decide) (by omega) u9 x9_2 (⟨t201, t202⟩ : S37) [.int .i64 t201, .int .i64 t202] (fun k_ => k_ ≠ gb200) (fun _ => False) rfl rfl ?aP (fun _ hk => hk.elim) ?aF ?aO ?aB ?aS ?aL ?_
       (case aP => exact k37_mkM _ _ _ (⟨t201, t202⟩ : S37))
       (case aB => exact (bel_g HB.out))
       (case aF => exact (fun k_ hk => Kd.freshB (g := gb200) (o := .cells #[.int .i64 ((rd_T37 l0 x29_2).f0), .int .i64 ((rd_T37 l0 x29_2).f1)] 37 (0, 0)) (blk_g BK200.out) k_ hk))
       (case aO => exact (Kd.R_g HO_9.out))
       (case aS => exact (below_size (bel_g HB.out)))
       (case aL => have := LMc28.out; omega)
       intro v204 w35 ho hb hg hat
       rw [← Ny203.out] at ho
       replace BK191 := mkA (blk_grown (g := gb191) (o := .cells #[.int .i64 a1] 3 (0, 0)) (blk_g BK191.out) hg (Kd.R_ne HO_9.out BK191.out (by decide)))
       replace BK192 := mkA (blk_grown (g := gb192) (o := .cells #[.int .i64 a2] 3 (0, 0)) (blk_g BK192.out) hg (Kd.R_ne HO_9.out BK192.out (by decide)))
       replace BK200 := mkA (blk_grown (g := gb200) (o := .cells #[.int .i64 ((rd_T37 l0 x29_2).f0), .int .i64 ((rd_T37 l0 x29_2).f1)] 37 (0, 0)) (blk_g BK200.out) hg (Kd.R_away HO_9.out (fun _ hk => hk)))
       have HO205 := mkA (ho)
       replace HB := mkA (hb)
       clear HO_9
       clear ho hb hg hat
       refine hK.out _ _ ⟨(blk_cell BK200.out 0).trans rfl, (blk_cell BK200.out 1).trans rfl⟩ (fun hHeld => ?_)
       clear hK K
       refine normW 44 ?_
       refine purW 12 9 13 8191 HT_ ?_
       refine doneW HT_ ?_
       try go_wp2
       go_roundg k2
       case measure => have := HJ3.out; have := HK2.out; omega
       case rel => exact ⟨(y203), (wrap64 (x29_2 + 1)), eqS, H', ⟨by have := HJ3.out; have := HK2.out; omega⟩, ⟨Kd.R_g (Kd.R_mono HO205.out (fun _ hk => trivial))⟩, bg BK191, bg BK192, hbg HB⟩
      ·obtain ⟨t206, A36, H⟩ := obE H
       by_cases c37 : t206 = true
       ·subst c37
        replace H := ifT H
        simp only [Option.some.injEq, Prod.mk.injEq] at H
        obtain ⟨rfl, rfl⟩ := H
        obtain ⟨Ao38, co38, rfl⟩ := Kd.R_slice HO_9.out
        go_wp2_with (first | ((with_reducible refine gate_callee (f := 21) rfl ?_); refine goesQ (some 47) Tryd.func21 #[.slice Ao38 x9_2.length co38] ?_; (with_reducible refine (impl_AreIntervals.calls k2 _ _ x9_2 true _ ?_ ?_ A36.out).mono ?_); exact rC HO_9; exact rL HO_9; rintro e w39 ⟨rfl, hb⟩; refine ⟨_, rfl, ?_⟩; replace HO_9 := rB HO_9 hb; replace BK191 := blkB BK191 hb; replace BK192 := blkB BK192 hb; replace HB := bst HB hb; clear hb))
        go_ret2
        exact ⟨_, eqE, Kd.R_g HO_9.out, bel_g HB.out⟩
       ·replace c37 := Bool.eq_false_iff.mpr c37
        subst c37
        replace H := ifF H
        simp only [Option.some.injEq, Prod.mk.injEq] at H
        obtain ⟨rfl, rfl⟩ := H
        obtain ⟨Ao40, co40, rfl⟩ := Kd.R_slice HO_9.out
        go_wp2_with (first | ((with_reducible refine gate_callee (f := 21) rfl ?_); refine goesQ (some 47) Tryd.func21 #[.slice Ao40 x9_2.length co40] ?_; (with_reducible refine (impl_AreIntervals.calls k2 _ _ x9_2 false _ ?_ ?_ A36.out).mono ?_); exact rC HO_9; exact rL HO_9; rintro e w41 ⟨rfl, hb⟩; refine ⟨_, rfl, ?_⟩; replace HO_9 := rB HO_9 hb; replace BK191 := blkB BK191 hb; replace BK192 := blkB BK192 hb; replace HB := bst HB hb; clear hb))
        go_ret2
        exact ⟨_, eqE, nilE, bel_g HB.out⟩
def spec_l1In.f (a0 : Int) (a1 : Int) (a2 : Int) : Option (Bool) := if a0 ≥ a1 then (some (decide (a0 ≤ a2))) else (some false)
theorem spec_l1In.calls (a0 : Int) (a1 : Int) (a2 : Int) (r : Bool) (w : World) (h : spec_l1In.f a0 a1 a2 = some r) :
  Calls Tryd.prog 25 #[.int .i64 a0, .int .i64 a1, .int .i64 a2] w fun e w' => e = .returned (.bool r) ∧ Drawn0 w w' := by
 have H := h
 clear h
 unfold spec_l1In.f at H
 rcases iteP H with ⟨c4, H⟩ | ⟨c4, H⟩
 ·have c4b0 := decide_eq_true c4
  clear c4
  obtain rfl := Option.some.inj H
  go_enter Tryd.func25, Tryd.ntmps25
  go_wp2
  go_ret
  exact ⟨eqS, drE⟩
 ·have c4b0 := decide_eq_false c4
  clear c4
  obtain rfl := Option.some.inj H
  go_enter Tryd.func25, Tryd.ntmps25
  go_wp2
  go_ret
  exact ⟨eqS, drE⟩
def spec_ivGood.l0 : Nat → List (S37) → List (S37) → Int → Int → Option (Bool)
 | 0, _, _, _, _ => none
 | k + 1, x0, x5, x6, x7 => if x7 < x6 then (if 0 ≤ x7 then (if x7 < (x5.length : Int) then ((spec_l1In.f ((rd_T37 x5 x7).f0) (-1000) ((rd_T37 x5 x7).f1)).bind fun t209 => (if t209 = true then (if ((rd_T37 x5 x7).f1) > 1000 then (some false) else (spec_ivGood.l0 k x0 x5 x6 (wrap64 (x7 + 1)))) else (some false))) else (none)) else (none)) else (some (decide ((x0.length : Int) ≤ 10)))
def spec_ivGood.f (k : Nat) (l0 : List (S37)) : Option (Bool) := spec_ivGood.l0 k l0 l0 (l0.length : Int) 0
theorem spec_ivGood.mono_l : ∀ k, (∀ y0 y1 y2 y3, LeO (spec_ivGood.l0 k y0 y1 y2 y3) (spec_ivGood.l0 (k + 1) y0 y1 y2 y3))
 | 0 => fun _ _ _ _ r h => by simp [spec_ivGood.l0] at h
 | k + 1 => by
  have ih0 := spec_ivGood.mono_l k
  ·intro y0 y1 y2 y3
   unfold spec_ivGood.l0
   repeat' (with_reducible first|apply ih0|apply LeO.refl|apply LeO.none|apply LeO.ite|apply LeO.bind|intro)
theorem spec_ivGood.mono : ∀ a0 k, LeO (spec_ivGood.f k a0) (spec_ivGood.f (k + 1) a0) := by
 intro a0 k
 have ih0 := spec_ivGood.mono_l k
 unfold spec_ivGood.f
 repeat' (with_reducible first|apply ih0|apply LeO.refl|apply LeO.none|apply LeO.ite|apply LeO.bind|intro)
theorem spec_ivGood.calls (k : Nat) (A0 : Option Addr) (c0 : Nat) (l0 : List (S37)) (r : Bool) (w : World) (hr0 : Kd.C k37 w A0 l0.length l0) (hc0 : l0.length ≤ c0) (h : spec_ivGood.f k l0 = some r) :
  Calls Tryd.prog 24 #[.slice A0 l0.length c0] w fun e w' => e = .returned (.bool r) ∧ Below w.heap.size w w' := by
 have hu37 := Tryd.underlying37
 have HR0 := mkA hr0
 have HC0 := mkA hc0
 clear hr0 hc0
 have HB := mkA (Below.refl w.heap.size w)
 have H := h
 clear h
 unfold spec_ivGood.f at H
 have H' := mkA H
 clear H
 go_enter Tryd.func24, Tryd.ntmps24
 go_wp2
 go_loopg [7] k (fun kq v7 w' => ∃ (x7_1 : Int), v7 = .int .i64 x7_1 ∧ Fc (spec_ivGood.l0 kq l0 l0 (l0.length : Int) x7_1 = some r) ∧ Fc (kq ≤ k) ∧ Fc (Below w.heap.size w w'))
 case atStart => exact ⟨(0), eqS, H', ⟨Nat.le_refl _⟩, hbg HB⟩
 case round =>
  clear H'
  obtain ⟨x7_1, rfl, HA, HK1, HB⟩ := hrel
  cases gk with
  | zero => exact absurd HA.out (by simp [spec_ivGood.l0])
  | succ k1 =>
   have H := HA.out
   clear HA
   simp only [spec_ivGood.l0] at H
   rcases iteE H with ⟨c2b0, H⟩ | ⟨c2b0, H⟩
   ·obtain ⟨c3b0, H⟩ := itND H
    obtain ⟨c4b0, H⟩ := itND H
    obtain ⟨t209, A5, H⟩ := obE H
    by_cases c6 : t209 = true
    ·subst c6
     replace H := ifT H
     rcases iteP H with ⟨c7, H⟩ | ⟨c7, H⟩
     ·have c7b0 := decide_eq_true c7
      clear c7
      obtain rfl := Option.some.inj H
      have p207 : 0 ≤ (x7_1 : Int) := ofd
      have q207 : x7_1 < (l0.length : Int) := ofd
      obtain ⟨ad207, e207, hx207_0, hx207_1⟩ := at_T37 HR0.out x7_1 p207 q207
      cases e207
      replace hx207_0 := (HB.out.cell (World.block_lt_of_cell? w _ hx207_0)).trans hx207_0
      replace hx207_1 := (HB.out.cell (World.block_lt_of_cell? w _ hx207_1)).trans hx207_1
      replace p207 := eq_true p207
      replace q207 := eq_true q207
      go_wp2_with (first | ((with_reducible refine gate_dst (N := 4) rfl ?_); refine boxG HB #[.int .i64 0, .int .i64 0] 37 ?_; intro gb208 hg w8 BK208 GE208 hb; replace HB := bst HB hb; clear hb hg; obtain ⟨_, _, _, _⟩ := blk2 BK208) | ((with_reducible refine gate_callee (f := 25) rfl ?_); refine goesQ (some 15) Tryd.func25 #[.int .i64 ((rd_T37 l0 x7_1).f0), .int .i64 (-1000), .int .i64 ((rd_T37 l0 x7_1).f1)] ?_; (with_reducible refine (spec_l1In.calls ((rd_T37 l0 x7_1).f0) (-1000) ((rd_T37 l0 x7_1).f1) true _ A5.out).mono ?_); rintro e w' ⟨rfl, ⟨nd, rfl⟩⟩; refine ⟨_, rfl, ?_⟩))
      go_ret
      exact ⟨eqE, bel_g HB.out⟩
     ·have c7b0 := decide_eq_false c7
      clear c7
      have H' := mkA H
      clear H
      have p207 : 0 ≤ (x7_1 : Int) := ofd
      have q207 : x7_1 < (l0.length : Int) := ofd
      obtain ⟨ad207, e207, hx207_0, hx207_1⟩ := at_T37 HR0.out x7_1 p207 q207
      cases e207
      replace hx207_0 := (HB.out.cell (World.block_lt_of_cell? w _ hx207_0)).trans hx207_0
      replace hx207_1 := (HB.out.cell (World.block_lt_of_cell? w _ hx207_1)).trans hx207_1
      replace p207 := eq_true p207
      replace q207 := eq_true q207
      go_wp2_with (first | ((with_reducible refine gate_dst (N := 4) rfl ?_); refine boxG HB #[.int .i64 0, .int .i64 0] 37 ?_; intro gb208 hg w10 BK208 GE208 hb; replace HB := bst HB hb; clear hb hg; obtain ⟨_, _, _, _⟩ := blk2 BK208) | ((with_reducible refine gate_callee (f := 25) rfl ?_); refine goesQ (some 15) Tryd.func25 #[.int .i64 ((rd_T37 l0 x7_1).f0), .int .i64 (-1000), .int .i64 ((rd_T37 l0 x7_1).f1)] ?_; (with_reducible refine (spec_l1In.calls ((rd_T37 l0 x7_1).f0) (-1000) ((rd_T37 l0 x7_1).f1) true _ A5.out).mono ?_); rintro e w' ⟨rfl, ⟨nd, rfl⟩⟩; refine ⟨_, rfl, ?_⟩))
      go_roundg k1
      case measure => have := HK1.out; omega
      case rel => exact ⟨(wrap64 (x7_1 + 1)), eqS, H', ⟨by have := HK1.out; omega⟩, hbg HB⟩
    ·replace c6 := Bool.eq_false_iff.mpr c6
     subst c6
     replace H := ifF H
     obtain rfl := Option.some.inj H
     have p207 : 0 ≤ (x7_1 : Int) := ofd
     have q207 : x7_1 < (l0.length : Int) := ofd
     obtain ⟨ad207, e207, hx207_0, hx207_1⟩ := at_T37 HR0.out x7_1 p207 q207
     cases e207
     replace hx207_0 := (HB.out.cell (World.block_lt_of_cell? w _ hx207_0)).trans hx207_0
     replace hx207_1 := (HB.out.cell (World.block_lt_of_cell? w _ hx207_1)).trans hx207_1
     replace p207 := eq_true p207
     replace q207 := eq_true q207
     go_wp2_with (first | ((with_reducible refine gate_dst (N := 4) rfl ?_); refine boxG HB #[.int .i64 0, .int .i64 0] 37 ?_; intro gb208 hg w12 BK208 GE208 hb; replace HB := bst HB hb; clear hb hg; obtain ⟨_, _, _, _⟩ := blk2 BK208) | ((with_reducible refine gate_callee (f := 25) rfl ?_); refine goesQ (some 15) Tryd.func25 #[.int .i64 ((rd_T37 l0 x7_1).f0), .int .i64 (-1000), .int .i64 ((rd_T37 l0 x7_1).f1)] ?_; (with_reducible refine (spec_l1In.calls ((rd_T37 l0 x7_1).f0) (-1000) ((rd_T37 l0 x7_1).f1) false _ A5.out).mono ?_); rintro e w' ⟨rfl, ⟨nd, rfl⟩⟩; refine ⟨_, rfl, ?_⟩))
     go_ret
     exact ⟨eqE, bel_g HB.out⟩
   ·obtain rfl := Option.some.inj H
    go_wp2
    go_ret
    exact ⟨eqE, bel_g HB.out⟩
end Go.Proofs.YtlfjnllnddpgoaaDoor.Q
