import Derived.Test.YtdmheeenoklijaaDoorBFnEndsAreLeast2
import Derived.Test.YtdmheeenoklijaaDoorBFnEndsAreLeast13
namespace Go.Proofs.YtdmheeenoklijaaDoor.Q
open Go.RowKit Go.Proofs.YtdmheeenoklijaaDoorW.PrintWords Go.Proofs.YtdmheeenoklijaaDoorW.PrintLast Go.Proofs.YtdmheeenoklijaaDoorW.PrintMore
attribute [local go_sem] max2_int min2_int max_two min_two max_three min_three max_four min_four neB_f
set_option linter.unusedVariables false
set_option maxHeartbeats 8000000
set_option maxRecDepth 100000
set_option linter.unusedSimpArgs false
def impl_DoRepresent.j0 : Nat → List (S39) → Bool → Int → List Int → Option (Bool × Bool)
 | 0, _, _, _, _ => none
 | k + 1, x0, x13, x697000, x697001 => if x13 = true then (some (false, false)) else ((impl_orderOf.f k x0).bind fun bt699 => ((impl_Order_same.f k bt699.1 bt699.2 x697000 x697001).bind fun t703 => (some (t703, true))))
def impl_DoRepresent.f (k : Nat) (l0 : List (S39)) (a1_0 : Int) (l1_1 : List Int) : Option (Bool × Bool) := (impl_AreIntervals.f k l0).bind fun t697 => (if t697 = true then ((impl_IsOrder.f k a1_0 l1_1).bind fun t698 => (impl_DoRepresent.j0 k l0 (!t698) a1_0 l1_1)) else (impl_DoRepresent.j0 k l0 true a1_0 l1_1))
theorem impl_DoRepresent.mono_l : ∀ k, (∀ y0 y1 y2 y3, LeO (impl_DoRepresent.j0 k y0 y1 y2 y3) (impl_DoRepresent.j0 (k + 1) y0 y1 y2 y3))
 | 0 => fun _ _ _ _ r h => by simp [impl_DoRepresent.j0] at h
 | k + 1 => by
  have ih0 := impl_DoRepresent.mono_l k
  ·intro y0 y1 y2 y3
   unfold impl_DoRepresent.j0
   repeat' (with_reducible first|apply ih0|apply impl_AreIntervals.mono|apply impl_IsOrder.mono|apply impl_Order_same.mono|apply impl_orderOf.mono|apply LeO.refl|apply LeO.none|apply LeO.ite|apply LeO.bind|intro)
theorem impl_DoRepresent.mono : ∀ a0 a1 a2 k, LeO (impl_DoRepresent.f k a0 a1 a2) (impl_DoRepresent.f (k + 1) a0 a1 a2) := by
 intro a0 a1 a2 k
 have ih0 := impl_DoRepresent.mono_l k
 unfold impl_DoRepresent.f
 repeat' (with_reducible first|apply ih0|apply impl_AreIntervals.mono|apply impl_IsOrder.mono|apply impl_Order_same.mono|apply impl_orderOf.mono|apply LeO.refl|apply LeO.none|apply LeO.ite|apply LeO.bind|intro)
theorem impl_DoRepresent.calls (k : Nat) (A0 : Option Addr) (c0 : Nat) (l0 : List (S39)) (a1_0 : Int) (A1_1 : Option Addr) (c1_1 : Nat) (l1_1 : List Int) (r1 : Bool) (r2 : Bool) (w : World) (hr0 : Kd.C k39 w A0 l0.length l0) (hc0 : l0.length ≤ c0) (hr1_1 : Kd.C (Kd.int .i64) w A1_1 l1_1.length l1_1) (hc1_1 : l1_1.length ≤ c1_1) (hTAB : Tab w) (h : impl_DoRepresent.f k l0 a1_0 l1_1 = some (r1, r2)) :
  Calls Tryd.prog 15 #[.slice A0 l0.length c0, .agg #[.int .i64 a1_0, .slice A1_1 l1_1.length c1_1]] w fun e w' => e = .returned (.tuple #[.bool r1, .bool r2]) ∧ Below w.heap.size w w' := by
 have HTAB := mkA hTAB
 clear hTAB
 have hu26 := Tryd.underlying26
 have HR0 := mkA hr0
 have HC0 := mkA hc0
 clear hr0 hc0
 have HR1_1 := mkA hr1_1
 have HC1_1 := mkA hc1_1
 clear hr1_1 hc1_1
 have HB := mkA (Below.refl w.heap.size w)
 have H := h
 clear h
 unfold impl_DoRepresent.f at H
 have HC3 := mkA H
 clear H
 go_enter Tryd.func15, Tryd.ntmps15
 go_upto_region 1 with (first | ((with_reducible refine gate_dst (N := 3) rfl ?_); refine boxG HB #[.int .i64 a1_0, .slice A1_1 l1_1.length c1_1] 26 ?_; intro gb696 hg w4 BK696 GE696 hb; replace HB := bst HB hb; clear hb hg))
 (try simp only [Act.put, List.setIfInBounds_toArray, List.set_cons_zero, List.set_cons_succ])
 go_cut [13] (fun v13 wc => ∃ (kq : Nat) (x13_2 : Bool), v13 = .bool x13_2 ∧ Fc (impl_DoRepresent.j0 kq l0 x13_2 a1_0 l1_1 = some (r1, r2)) ∧ Fc (kq ≤ k) ∧ Fc (wc.heap[gb696]? = some (.cells #[.int .i64 a1_0, (.slice A1_1 l1_1.length c1_1)] 26 (0, 0))) ∧ Fc (Below w.heap.size w wc))
 case first =>
  have H := HC3.out
  clear HC3
  obtain ⟨t697, A5, H⟩ := obE H
  by_cases c6 : t697 = true
  ·subst c6
   replace H := ifT H
   obtain ⟨t698, A7, H⟩ := obE H
   have H' := mkA H
   clear H
   go_wp2_with (first | ((with_reducible refine gate_callee (f := 20) rfl ?_); refine goesQ (some 7) Tryd.func20 #[.slice A0 l0.length c0] ?_; (with_reducible refine (impl_AreIntervals.calls k _ _ l0 true _ ?_ ?_ A5.out).mono ?_); exact C_g HR0 HB; exact HC0.out; rintro e w8 ⟨rfl, hb⟩; refine ⟨_, rfl, ?_⟩; replace BK696 := blkB BK696 hb; replace HB := bst HB hb; clear hb; obtain ⟨_, _, _, _⟩ := blk2 BK696) | (go_at_call 39; (with_reducible refine (impl_IsOrder.calls k a1_0 _ _ l1_1 t698 _ ?_ ?_ ?_ A7.out).mono ?_); exact C_g HR1_1 HB; exact HC1_1.out; exact Tab.below HTAB.out (bel_g HB.out); rintro e w10 ⟨rfl, hb⟩; replace BK696 := blkB BK696 hb; replace HB := bst HB hb; clear hb))
   go_meet
   case rel => exact ⟨_, (!t698), eqS, H', ⟨by first | omega | exact Nat.le_refl _⟩, bg BK696, hbg HB⟩
  ·replace c6 := Bool.eq_false_iff.mpr c6
   subst c6
   replace H := ifF H
   have H' := mkA H
   clear H
   go_wp2_with (first | ((with_reducible refine gate_callee (f := 20) rfl ?_); refine goesQ (some 7) Tryd.func20 #[.slice A0 l0.length c0] ?_; (with_reducible refine (impl_AreIntervals.calls k _ _ l0 false _ ?_ ?_ A5.out).mono ?_); exact C_g HR0 HB; exact HC0.out; rintro e w11 ⟨rfl, hb⟩; refine ⟨_, rfl, ?_⟩; replace BK696 := blkB BK696 hb; replace HB := bst HB hb; clear hb))
   go_meet
   case rel => exact ⟨_, (true), eqS, H', ⟨by first | omega | exact Nat.le_refl _⟩, bg BK696, hbg HB⟩
 case rest =>
  clear HC3
  try clear c6
  obtain ⟨kq, x13_2, rfl, HA, HJ2, BK696, HB⟩ := hcut
  cases kq with
  | zero => exact absurd HA.out (by simp [impl_DoRepresent.j0])
  | succ kj2 =>
   have H := HA.out
   clear HA
   simp only [impl_DoRepresent.j0] at H
   by_cases c12 : x13_2 = true
   ·subst c12
    replace H := ifT H
    simp only [Option.some.injEq, Prod.mk.injEq] at H
    obtain ⟨rfl, rfl⟩ := H
    go_wp2
    go_ret2
    exact ⟨eqE, bel_g HB.out⟩
   ·replace c12 := Bool.eq_false_iff.mpr c12
    subst c12
    replace H := ifF H
    obtain ⟨⟨t699, t700⟩, A13, H⟩ := obE H
    dsimp only at H
    obtain ⟨t703, A14, H⟩ := obE H
    simp only [Option.some.injEq, Prod.mk.injEq] at H
    obtain ⟨rfl, rfl⟩ := H
    try go_wp2
    replace BK696 := mkA (blk_drew BK696.out)
    replace HB := mkA (below_drew1 HB.out)
    refine start_ (n := 6) (S := fun w' => w'.cell? ⟨gb696, 0, none⟩ = some (.int .i64 a1_0) ∧ w'.cell? ⟨gb696, 1, none⟩ = some (.slice A1_1 l1_1.length c1_1)) (ds := []) (bm 6 0) (by kernel_rfl) rfl (by kernel_rfl) ⟨(blk_cell BK696.out 0).trans rfl, (blk_cell BK696.out 1).trans rfl⟩ (fun hHeld => ?_)
    generalize wc.drew = w15 at BK696 HB hHeld ⊢
    refine pure_ (i := 0) (N := some 14) (v := ?_) (a' := ?_) (bm 6 1) rfl rfl (by kernel_rfl) (fun _ _ _ h => h) (Or.inl ⟨by rfl, ?_⟩) ?_ ?_
    rotate_left
    ·intro w'
     go_simp
     with_reducible rfl
    rotate_left
    ·simp only [Act.put, List.setIfInBounds_toArray, List.set_cons_zero, List.set_cons_succ, i64_w, i32_w]
     rfl
    refine take_ (i := 2) (N := some 16) (v := ?_) (a' := ?_) (bm 6 5) rfl rfl (by kernel_rfl) (fun _ _ _ h => h) (Or.inl ⟨by rfl, ?_⟩) hHeld ?_ ?_
    rotate_left
    ·rintro w' ⟨s0, s1⟩
     go_simp
     with_reducible rfl
    rotate_left
    ·simp only [Act.put, List.setIfInBounds_toArray, List.set_cons_zero, List.set_cons_succ, i64_w, i32_w]
     rfl
    refine one_ (i := 1) (N := some 15) (bm 6 7) rfl rfl (by kernel_rfl) (by decide) (fun K hK => ?_)
    refine goesR Tryd.func40 #[.slice A0 l0.length c0] ?_
    with_reducible refine (impl_orderOf.calls kj2 _ _ l0 t699 t700 _ ?s1 ?s2 A13.out).mono ?_
    (case s1 => exact C_g HR0 HB)
    (case s2 => exact HC0.out)
    rintro e w16 ⟨v701, rfl, ho0, hb⟩
    refine ⟨_, rfl, ?_⟩
    have HO702 := rLo ho0 HB
    replace BK696 := blkB BK696 hb
    replace HB := bst HB hb
    (try clear hb)
    (try clear hb2)
    (try clear hk)
    (try clear hi)
    (try clear ho0)
    obtain ⟨Ao17, co17, eo17⟩ := Kd.R_slice HO702.out
    (first | subst eo17 | (injection eo17 with f1_ f2_ f3_; have f4_ := f1_.symm; have f5_ := f3_.symm; clear f1_ f2_ f3_; subst f4_; subst f5_))
    refine hK.out _ _ ⟨(blk_cell BK696.out 0).trans rfl, (blk_cell BK696.out 1).trans rfl⟩ (fun hHeld => ?_)
    clear hK K
    refine normW 15 ?_
    refine one_ (i := 3) (N := some 17) (bm 6 15) rfl rfl (by kernel_rfl) (by decide) (fun K hK => ?_)
    refine goesR Tryd.func41 #[.agg #[.int .i64 t699, .slice Ao17 t700.length co17], .agg #[.int .i64 a1_0, .slice A1_1 l1_1.length c1_1]] ?_
    with_reducible refine (impl_Order_same.calls kj2 t699 _ _ t700 a1_0 _ _ l1_1 t703 _ ?s1 ?s2 ?s3 ?s4 A14.out).mono ?_
    (case s1 => exact rC HO702)
    (case s2 => exact rL HO702)
    (case s3 => exact C_g HR1_1 HB)
    (case s4 => exact HC1_1.out)
    rintro e w18 ⟨rfl, hb⟩
    refine ⟨_, rfl, ?_⟩
    replace HO702 := rB HO702 hb
    replace BK696 := blkB BK696 hb
    replace HB := bst HB hb
    (try clear hb)
    (try clear hb2)
    (try clear hk)
    (try clear hi)
    refine hK.out _ _ ⟨(blk_cell BK696.out 0).trans rfl, (blk_cell BK696.out 1).trans rfl⟩ (fun hHeld => ?_)
    clear hK K
    refine normW 17 ?_
    refine pure_ (i := 4) (N := some 4) (v := ?_) (a' := ?_) (bm 6 31) rfl rfl (by kernel_rfl) (fun _ _ _ h => h) (Or.inl ⟨by rfl, ?_⟩) ?_ ?_
    rotate_left
    ·intro w'
     go_simp
     with_reducible rfl
    rotate_left
    ·simp only [Act.put, List.setIfInBounds_toArray, List.set_cons_zero, List.set_cons_succ, i64_w, i32_w]
     rfl
    refine pure_ (i := 5) (N := some 5) (v := ?_) (a' := ?_) (bm 6 63) rfl rfl (by kernel_rfl) (fun _ _ _ h => h) (Or.inl ⟨by rfl, ?_⟩) ?_ ?_
    rotate_left
    ·intro w'
     go_simp
     with_reducible rfl
    rotate_left
    ·simp only [Act.put, List.setIfInBounds_toArray, List.set_cons_zero, List.set_cons_succ, i64_w, i32_w]
     rfl
    refine done_ (by kernel_rfl) ?_
    try go_wp2
    go_ret2
    exact ⟨eqE, bel_g HB.out⟩
def IsS55 (w0 W : World) (g : Nat) (f0 : List Int) (f1 : Int) (f2 : Int) : Prop := ∃ A0 c0, W.heap[g]? = some (.cells #[.slice A0 f0.length c0, .int .i64 f1, .int .u64 f2] 55 (0, 0)) ∧ w0.heap.size ≤ g ∧ Kd.C (Kd.int .u8) w0 A0 f0.length f0
theorem IsS55.grown {w0 W : World} {g : Nat} {f0 : List Int} {f1 : Int} {f2 : Int} {W1 : World} {row : Option Nat} (h : IsS55 w0 W g f0 f1 f2) (hw : W.grownBy W1 row) (hne : some g ≠ row) : IsS55 w0 W1 g f0 f1 f2 := by
  obtain ⟨A0, c0, hb, hg, hr0⟩ := h
  exact ⟨A0, c0, blk_grown hb hw hne, hg, hr0⟩
theorem IsS55.below {w0 W : World} {g : Nat} {f0 : List Int} {f1 : Int} {f2 : Int} {W1 : World} (h : IsS55 w0 W g f0 f1 f2) (hw : Below W.heap.size W W1) : IsS55 w0 W1 g f0 f1 f2 := h.grown (grown_of_below hw none) (by simp)
theorem IsS55.alloc {w0 W : World} {g : Nat} {f0 : List Int} {f1 : Int} {f2 : Int} (h : IsS55 w0 W g f0 f1 f2) (o : Obj) : IsS55 w0 (W.alloc o) g f0 f1 f2 := h.below (below_alloc (Below.refl _ _) o)
theorem IsS55.drewN {w0 W : World} {g : Nat} {f0 : List Int} {f1 : Int} {f2 : Int} (h : IsS55 w0 W g f0 f1 f2) (m : Nat) : IsS55 w0 (W.drewN m) g f0 f1 f2 := h
theorem IsS55.drew {w0 W : World} {g : Nat} {f0 : List Int} {f1 : Int} {f2 : Int} (h : IsS55 w0 W g f0 f1 f2) : IsS55 w0 W.drew g f0 f1 f2 := h
theorem IsS55.apart {w0 W : World} {g : Nat} {f0 : List Int} {f1 : Int} {f2 : Int} {α : Type} {d : Kd α} {e : Nat} {base : Nat} {ok : Nat → Prop} {v : Value} {xs : List α} (h : IsS55 w0 W g f0 f1 f2) (ho : d.R e W base ok v xs) (ht : ∀ q, q ∈ e :: d.E → q ≠ 55) : d.R e W base (fun k => ok k ∧ k ≠ g) v xs := by
  obtain ⟨A0, c0, hb, hg, hr0⟩ := h
  exact Kd.R_types ho hb ht
theorem IsS55.own_ne {w0 W : World} {g : Nat} {f0 : List Int} {f1 : Int} {f2 : Int} {α : Type} {d : Kd α} {e : Nat} {base : Nat} {ok : Nat → Prop} {v : Value} {xs : List α} (h : IsS55 w0 W g f0 f1 f2) (ho : d.R e W base ok v xs) (ht : e ≠ 55) : some g ≠ v.ownBlock := by
  obtain ⟨A0, c0, hb, hg, hr0⟩ := h
  exact Kd.R_ne ho hb ht
theorem IsS55.lt {w0 W : World} {g : Nat} {f0 : List Int} {f1 : Int} {f2 : Int} (h : IsS55 w0 W g f0 f1 f2) : g < W.heap.size := by
  obtain ⟨A0, c0, hb, hg, hr0⟩ := h
  exact blk_lt hb
theorem IsS55.ge {w0 W : World} {g : Nat} {f0 : List Int} {f1 : Int} {f2 : Int} (h : IsS55 w0 W g f0 f1 f2) : w0.heap.size ≤ g := by
  obtain ⟨A0, c0, hb, hg, hr0⟩ := h
  exact hg
theorem IsS55.far {w0 W : World} {g : Nat} {f0 : List Int} {f1 : Int} {f2 : Int} {p : Addr} (h : IsS55 w0 W g f0 f1 f2) (hne : g ≠ p.block) (u : Value) : IsS55 w0 (W.setCell p u) g f0 f1 f2 := by
  obtain ⟨A0, c0, hb, hg, hr0⟩ := h
  exact ⟨A0, c0, blk_far hb hne u, hg, hr0⟩
theorem cellS55_0 {W : World} {g : Nat} {A0 : Option Addr} {c0 : Nat} {f0 : List Int} {f1 : Int} {f2 : Int} (h : W.heap[g]? = some (.cells #[.slice A0 f0.length c0, .int .i64 f1, .int .u64 f2] 55 (0, 0))) : W.cell? ⟨g, 0, none⟩ = some (.slice A0 f0.length c0) := (blk_cell h 0).trans rfl
theorem cellS55_1 {W : World} {g : Nat} {A0 : Option Addr} {c0 : Nat} {f0 : List Int} {f1 : Int} {f2 : Int} (h : W.heap[g]? = some (.cells #[.slice A0 f0.length c0, .int .i64 f1, .int .u64 f2] 55 (0, 0))) : W.cell? ⟨g, 1, none⟩ = some (.int .i64 f1) := (blk_cell h 1).trans rfl
theorem IsS55.set_1 {w0 W : World} {g : Nat} {f0 : List Int} {f1 : Int} {f2 : Int} (h : IsS55 w0 W g f0 f1 f2) (x : Int) : IsS55 w0 (W.setCell ⟨g, 1, none⟩ (.int .i64 x)) g f0 x f2 := by
  obtain ⟨A0, c0, hb, hg, hr0⟩ := h
  exact ⟨A0, c0, by simpa using blk_set hb 1 (.int .i64 x), hg, hr0⟩
theorem cellS55_2 {W : World} {g : Nat} {A0 : Option Addr} {c0 : Nat} {f0 : List Int} {f1 : Int} {f2 : Int} (h : W.heap[g]? = some (.cells #[.slice A0 f0.length c0, .int .i64 f1, .int .u64 f2] 55 (0, 0))) : W.cell? ⟨g, 2, none⟩ = some (.int .u64 f2) := (blk_cell h 2).trans rfl
theorem IsS55.set_2 {w0 W : World} {g : Nat} {f0 : List Int} {f1 : Int} {f2 : Int} (h : IsS55 w0 W g f0 f1 f2) (x : Int) : IsS55 w0 (W.setCell ⟨g, 2, none⟩ (.int .u64 x)) g f0 f1 x := by
  obtain ⟨A0, c0, hb, hg, hr0⟩ := h
  exact ⟨A0, c0, by simpa using blk_set hb 2 (.int .u64 x), hg, hr0⟩
theorem IsS55.new (w0 W : World) (A0 : Option Addr) (c0 : Nat) (f0 : List Int) (f1 : Int) (f2 : Int) (hB : Below w0.heap.size w0 W) (hr0 : Kd.C (Kd.int .u8) w0 A0 f0.length f0) : IsS55 w0 (W.alloc (.cells #[.slice A0 f0.length c0, .int .i64 f1, .int .u64 f2] 55)) W.heap.size f0 f1 f2 := ⟨A0, c0, by simpa using heap_alloc_new W _, hB.size, hr0⟩
theorem bl55_0 {q p r : Prop} (h : q) (hr : r) (t : q → r → p := by intro x_ z_; repeat (first | (with_reducible first | exact x_ | apply below_alloc | apply pw_below_drewN | apply below_drew1 | refine below_set ?_ (IsS55.ge z_)) | exact x_)) : p := t h hr
theorem bl55_1 {q p r a0_ : Prop} (h : q) (hr : r) (h0_ : a0_) (t : q → r → a0_ → p := by intro x_ z_ y0_; repeat (first | (with_reducible first | exact x_ | apply below_alloc | apply pw_below_drewN | apply below_drew1 | refine below_set ?_ (IsS55.ge z_) | refine below_set ?_ y0_) | exact x_)) : p := t h hr h0_
theorem bl55_2 {q p r a0_ a1_ : Prop} (h : q) (hr : r) (h0_ : a0_) (h1_ : a1_) (t : q → r → a0_ → a1_ → p := by intro x_ z_ y0_ y1_; repeat (first | (with_reducible first | exact x_ | apply below_alloc | apply pw_below_drewN | apply below_drew1 | refine below_set ?_ (IsS55.ge z_) | refine below_set ?_ y0_ | refine below_set ?_ y1_) | exact x_)) : p := t h hr h0_ h1_
theorem bl55_3 {q p r a0_ a1_ a2_ : Prop} (h : q) (hr : r) (h0_ : a0_) (h1_ : a1_) (h2_ : a2_) (t : q → r → a0_ → a1_ → a2_ → p := by intro x_ z_ y0_ y1_ y2_; repeat (first | (with_reducible first | exact x_ | apply below_alloc | apply pw_below_drewN | apply below_drew1 | refine below_set ?_ (IsS55.ge z_) | refine below_set ?_ y0_ | refine below_set ?_ y1_ | refine below_set ?_ y2_) | exact x_)) : p := t h hr h0_ h1_ h2_
theorem kb55_0 {q p : Prop} (h : q) (t : q → p := by intro x_; repeat (first | (with_reducible first | exact x_ | apply KeepBut.set_ | apply keep_drewN | apply keep_drew | apply keep_alloc) | exact x_)) : p := t h
theorem kb55_1 {q p a0_ : Prop} (h : q) (h0_ : a0_) (t : q → a0_ → p := by intro x_ y0_; repeat (first | (with_reducible first | exact x_ | apply KeepBut.set_ | apply keep_drewN | apply keep_drew | apply keep_alloc | refine keep_far ?_ y0_ _) | exact x_)) : p := t h h0_
theorem kb55_2 {q p a0_ a1_ : Prop} (h : q) (h0_ : a0_) (h1_ : a1_) (t : q → a0_ → a1_ → p := by intro x_ y0_ y1_; repeat (first | (with_reducible first | exact x_ | apply KeepBut.set_ | apply keep_drewN | apply keep_drew | apply keep_alloc | refine keep_far ?_ y0_ _ | refine keep_far ?_ y1_ _) | exact x_)) : p := t h h0_ h1_
theorem kb55_3 {q p a0_ a1_ a2_ : Prop} (h : q) (h0_ : a0_) (h1_ : a1_) (h2_ : a2_) (t : q → a0_ → a1_ → a2_ → p := by intro x_ y0_ y1_ y2_; repeat (first | (with_reducible first | exact x_ | apply KeepBut.set_ | apply keep_drewN | apply keep_drew | apply keep_alloc | refine keep_far ?_ y0_ _ | refine keep_far ?_ y1_ _ | refine keep_far ?_ y2_ _) | exact x_)) : p := t h h0_ h1_ h2_
theorem st55_0 {q p : Prop} (h : q) (t : q → p := by intro x_; repeat (first | (with_reducible first | exact x_ | apply IsS55.alloc | apply IsS55.drewN | apply IsS55.drew | apply IsS55.set_1 | apply IsS55.set_2) | exact x_)) : p := t h
theorem st55_1 {q p a0_ : Prop} (h : q) (h0_ : a0_) (t : q → a0_ → p := by intro x_ y0_; repeat (first | (with_reducible first | exact x_ | apply IsS55.alloc | apply IsS55.drewN | apply IsS55.drew | apply IsS55.set_1 | apply IsS55.set_2 | refine IsS55.far ?_ y0_ _) | exact x_)) : p := t h h0_
theorem st55_2 {q p a0_ a1_ : Prop} (h : q) (h0_ : a0_) (h1_ : a1_) (t : q → a0_ → a1_ → p := by intro x_ y0_ y1_; repeat (first | (with_reducible first | exact x_ | apply IsS55.alloc | apply IsS55.drewN | apply IsS55.drew | apply IsS55.set_1 | apply IsS55.set_2 | refine IsS55.far ?_ y0_ _ | refine IsS55.far ?_ y1_ _) | exact x_)) : p := t h h0_ h1_
theorem st55_3 {q p a0_ a1_ a2_ : Prop} (h : q) (h0_ : a0_) (h1_ : a1_) (h2_ : a2_) (t : q → a0_ → a1_ → a2_ → p := by intro x_ y0_ y1_ y2_; repeat (first | (with_reducible first | exact x_ | apply IsS55.alloc | apply IsS55.drewN | apply IsS55.drew | apply IsS55.set_1 | apply IsS55.set_2 | refine IsS55.far ?_ y0_ _ | refine IsS55.far ?_ y1_ _ | refine IsS55.far ?_ y2_ _) | exact x_)) : p := t h h0_ h1_ h2_
def spec_l1Cur_next.f (s0_0 : List Int) (s0_1 : Int) (s0_2 : Int) : Option (Int × Int × Int) := if s0_1 < (s0_0.length : Int) then (if 0 ≤ s0_1 then (if (wrap64 (s0_1 + 1)) ≤ (s0_0.length : Int) then (some (wrap64 (rd s0_0 s0_1), wrap64 (s0_1 + 1), IntKind.u64.wrap ((IntKind.u64.wrap ((IntKind.u64.wrap (s0_2 * 6364136223846793005)) + (IntKind.u64.wrap (wrap64 (rd s0_0 s0_1))))) + 1442695040888963407))) else (some (wrap64 (Go.bits .and .u64 ((IntKind.u64.wrap ((IntKind.u64.wrap ((IntKind.u64.wrap (s0_2 * 6364136223846793005)) + (IntKind.u64.wrap (wrap64 (rd s0_0 s0_1))))) + 1442695040888963407)) / 1099511627776) 255), wrap64 (s0_1 + 1), IntKind.u64.wrap ((IntKind.u64.wrap ((IntKind.u64.wrap (s0_2 * 6364136223846793005)) + (IntKind.u64.wrap (wrap64 (rd s0_0 s0_1))))) + 1442695040888963407)))) else (none)) else (if (wrap64 (s0_1 + 1)) ≤ (s0_0.length : Int) then (some (0, wrap64 (s0_1 + 1), IntKind.u64.wrap ((IntKind.u64.wrap ((IntKind.u64.wrap (s0_2 * 6364136223846793005)) + 0)) + 1442695040888963407))) else (some (wrap64 (Go.bits .and .u64 ((IntKind.u64.wrap ((IntKind.u64.wrap ((IntKind.u64.wrap (s0_2 * 6364136223846793005)) + 0)) + 1442695040888963407)) / 1099511627776) 255), wrap64 (s0_1 + 1), IntKind.u64.wrap ((IntKind.u64.wrap ((IntKind.u64.wrap (s0_2 * 6364136223846793005)) + 0)) + 1442695040888963407))))
theorem spec_l1Cur_next.calls (g : Nat) (s0_0 : List Int) (s0_1 : Int) (s0_2 : Int) (r1 : Int) (r2 : Int) (r3 : Int) (w0 w : World) (hI : IsS55 w0 w g s0_0 s0_1 s0_2) (hB : Below w0.heap.size w0 w) (h : spec_l1Cur_next.f s0_0 s0_1 s0_2 = some (r1, r2, r3)) :
  Calls Tryd.prog 84 #[.pointer (some ⟨g, 0, none⟩)] w fun e w' => e = .returned (.int .i64 r1) ∧ IsS55 w0 w' g s0_0 r2 r3 ∧ Below w0.heap.size w0 w' ∧ KeepBut w w' g none := by
 have HI0 := mkA hI
 have HK := mkA (KeepBut.refl w g none)
 have HL := mkA hB.size
 clear hI
 have HW0 := mkA hB.size
 have HB := mkA hB
 clear hB
 have H := h
 clear h
 unfold spec_l1Cur_next.f at H
 rcases iteE H with ⟨c2b0, H⟩ | ⟨c2b0, H⟩
 ·obtain ⟨c3b0, H⟩ := itND H
  rcases iteE H with ⟨c4b0, H⟩ | ⟨c4b0, H⟩
  ·simp only [Option.some.injEq, Prod.mk.injEq] at H
   obtain ⟨rfl, rfl, rfl⟩ := H
   obtain ⟨ASz5_0, cSz5_0, HGz5, hgz5, HSz5_0⟩ := HI0.out
   have hcz5_0 := cellS55_0 HGz5
   have hcz5_1 := cellS55_1 HGz5
   have hcz5_2 := cellS55_2 HGz5
   have hfz5_1 := blk_frozen HGz5 1
   have hfz5_2 := blk_frozen HGz5 2
   clear HGz5 hgz5
   obtain ⟨p101, q101, ad101, e101, hx101_0⟩ := atI HSz5_0 s0_1
   cases e101
   replace hx101_0 := pw_cell_below HB.out hx101_0
   go_enter Tryd.func84, Tryd.ntmps84
   go_wp2
   repeat (go_quiet (fail); try go_wp2)
   go_ret
   exact ⟨eqE, by (try simp only [Int.add_zero]); exact st55_0 HI0.out, by exact bl55_0 HB.out HI0.out, by exact kb55_0 HK.out⟩
  ·simp only [Option.some.injEq, Prod.mk.injEq] at H
   obtain ⟨rfl, rfl, rfl⟩ := H
   obtain ⟨ASz6_0, cSz6_0, HGz6, hgz6, HSz6_0⟩ := HI0.out
   have hcz6_0 := cellS55_0 HGz6
   have hcz6_1 := cellS55_1 HGz6
   have hcz6_2 := cellS55_2 HGz6
   have hfz6_1 := blk_frozen HGz6 1
   have hfz6_2 := blk_frozen HGz6 2
   clear HGz6 hgz6
   obtain ⟨p101, q101, ad101, e101, hx101_0⟩ := atI HSz6_0 s0_1
   cases e101
   replace hx101_0 := pw_cell_below HB.out hx101_0
   go_enter Tryd.func84, Tryd.ntmps84
   go_wp2
   repeat (go_quiet (fail); try go_wp2)
   go_ret
   exact ⟨eqE, by (try simp only [Int.add_zero]); exact st55_0 HI0.out, by exact bl55_0 HB.out HI0.out, by exact kb55_0 HK.out⟩
 ·rcases iteE H with ⟨c7b0, H⟩ | ⟨c7b0, H⟩
  ·simp only [Option.some.injEq, Prod.mk.injEq] at H
   obtain ⟨rfl, rfl, rfl⟩ := H
   obtain ⟨ASz8_0, cSz8_0, HGz8, hgz8, HSz8_0⟩ := HI0.out
   have hcz8_0 := cellS55_0 HGz8
   have hcz8_1 := cellS55_1 HGz8
   have hcz8_2 := cellS55_2 HGz8
   have hfz8_1 := blk_frozen HGz8 1
   have hfz8_2 := blk_frozen HGz8 2
   clear HGz8 hgz8
   go_enter Tryd.func84, Tryd.ntmps84
   go_wp2
   repeat (go_quiet (fail); try go_wp2)
   go_ret
   exact ⟨eqE, by (try simp only [Int.add_zero]); exact st55_0 HI0.out, by exact bl55_0 HB.out HI0.out, by exact kb55_0 HK.out⟩
  ·simp only [Option.some.injEq, Prod.mk.injEq] at H
   obtain ⟨rfl, rfl, rfl⟩ := H
   obtain ⟨ASz9_0, cSz9_0, HGz9, hgz9, HSz9_0⟩ := HI0.out
   have hcz9_0 := cellS55_0 HGz9
   have hcz9_1 := cellS55_1 HGz9
   have hcz9_2 := cellS55_2 HGz9
   have hfz9_1 := blk_frozen HGz9 1
   have hfz9_2 := blk_frozen HGz9 2
   clear HGz9 hgz9
   go_enter Tryd.func84, Tryd.ntmps84
   go_wp2
   repeat (go_quiet (fail); try go_wp2)
   go_ret
   exact ⟨eqE, by (try simp only [Int.add_zero]); exact st55_0 HI0.out, by exact bl55_0 HB.out HI0.out, by exact kb55_0 HK.out⟩
def spec_l1Cur_pick.f (s0_0 : List Int) (s0_1 : Int) (s0_2 : Int) (a1 : Int) : Option (Int × Int × Int) := if a1 ≤ 1 then (some (0, s0_1, s0_2)) else ((spec_l1Cur_next.f s0_0 s0_1 s0_2).bind fun bt102 => (if a1 > 200 then ((spec_l1Cur_next.f s0_0 bt102.2.1 bt102.2.2).bind fun bt105 => (if a1 = 0 then (none) else (some (Int.tmod (wrap64 ((wrap64 (bt102.1 * 256)) + bt105.1)) a1, bt105.2.1, bt105.2.2)))) else (if a1 = 0 then (none) else (some (Int.tmod bt102.1 a1, bt102.2.1, bt102.2.2)))))
theorem spec_l1Cur_pick.calls (g : Nat) (s0_0 : List Int) (s0_1 : Int) (s0_2 : Int) (a1 : Int) (r1 : Int) (r2 : Int) (r3 : Int) (w0 w : World) (hI : IsS55 w0 w g s0_0 s0_1 s0_2) (hB : Below w0.heap.size w0 w) (h : spec_l1Cur_pick.f s0_0 s0_1 s0_2 a1 = some (r1, r2, r3)) :
  Calls Tryd.prog 69 #[.pointer (some ⟨g, 0, none⟩), .int .i64 a1] w fun e w' => e = .returned (.int .i64 r1) ∧ IsS55 w0 w' g s0_0 r2 r3 ∧ Below w0.heap.size w0 w' ∧ KeepBut w w' g none := by
 have HI0 := mkA hI
 have HK := mkA (KeepBut.refl w g none)
 have HL := mkA hB.size
 clear hI
 have HW0 := mkA hB.size
 have HB := mkA hB
 clear hB
 have H := h
 clear h
 unfold spec_l1Cur_pick.f at H
 rcases iteE H with ⟨c3b0, H⟩ | ⟨c3b0, H⟩
 ·simp only [Option.some.injEq, Prod.mk.injEq] at H
  obtain ⟨rfl, rfl, rfl⟩ := H
  go_enter Tryd.func69, Tryd.ntmps69
  go_wp2
  go_ret
  exact ⟨eqE, by exact st55_0 HI0.out, by exact bl55_0 HB.out HI0.out, by exact kb55_0 HK.out⟩
 ·obtain ⟨⟨t102, t103, t104⟩, A4, H⟩ := obE H
  dsimp only at H
  rcases iteP H with ⟨c5, H⟩ | ⟨c5, H⟩
  ·have c5b0 := decide_eq_true c5
   clear c5
   obtain ⟨⟨t105, t106, t107⟩, A6, H⟩ := obE H
   dsimp only at H
   obtain ⟨c7, H⟩ := itMP H
   have c7b0 := beq_eq_false_iff_ne.mpr c7
   have c7b1 := bne_iff_ne.mpr c7
   simp only [Option.some.injEq, Prod.mk.injEq] at H
   obtain ⟨rfl, rfl, rfl⟩ := H
   go_enter Tryd.func69, Tryd.ntmps69
   go_wp2_with (first | ((with_reducible refine gate_callee (f := 84) rfl ?_); refine goesQ (some 9) Tryd.func84 #[.pointer (some ⟨g, 0, none⟩)] ?_; (with_reducible refine (spec_l1Cur_next.calls g s0_0 s0_1 s0_2 t102 t103 t104 w0 _ ?_ ?_ A4.out).mono ?_); exact st55_0 HI0.out; exact bl55_0 HB.out HI0.out; rintro e w8 ⟨rfl, hi, hb, hk⟩; refine ⟨_, rfl, ?_⟩; replace HK := kT (by exact kb55_0 HK.out) hk; replace HI0 := mkA (hi); replace HB := mkA (hb); clear hb hk hi) | ((with_reducible refine gate_callee (f := 84) rfl ?_); refine goesQ (some 15) Tryd.func84 #[.pointer (some ⟨g, 0, none⟩)] ?_; (with_reducible refine (spec_l1Cur_next.calls g s0_0 t103 t104 t105 t106 t107 w0 _ ?_ ?_ A6.out).mono ?_); exact st55_0 HI0.out; exact bl55_0 HB.out HI0.out; rintro e w9 ⟨rfl, hi, hb, hk⟩; refine ⟨_, rfl, ?_⟩; replace HK := kT (by exact kb55_0 HK.out) hk; replace HI0 := mkA (hi); replace HB := mkA (hb); clear hb hk hi))
   go_ret
   exact ⟨eqE, by exact st55_0 HI0.out, by exact bl55_0 HB.out HI0.out, by exact kb55_0 HK.out⟩
  ·have c5b0 := decide_eq_false c5
   clear c5
   obtain ⟨c10, H⟩ := itMP H
   have c10b0 := beq_eq_false_iff_ne.mpr c10
   have c10b1 := bne_iff_ne.mpr c10
   simp only [Option.some.injEq, Prod.mk.injEq] at H
   obtain ⟨rfl, rfl, rfl⟩ := H
   go_enter Tryd.func69, Tryd.ntmps69
   go_wp2_with (first | ((with_reducible refine gate_callee (f := 84) rfl ?_); refine goesQ (some 9) Tryd.func84 #[.pointer (some ⟨g, 0, none⟩)] ?_; (with_reducible refine (spec_l1Cur_next.calls g s0_0 s0_1 s0_2 t102 t103 t104 w0 _ ?_ ?_ A4.out).mono ?_); exact st55_0 HI0.out; exact bl55_0 HB.out HI0.out; rintro e w11 ⟨rfl, hi, hb, hk⟩; refine ⟨_, rfl, ?_⟩; replace HK := kT (by exact kb55_0 HK.out) hk; replace HI0 := mkA (hi); replace HB := mkA (hb); clear hb hk hi))
   go_ret
   exact ⟨eqE, by exact st55_0 HI0.out, by exact bl55_0 HB.out HI0.out, by exact kb55_0 HK.out⟩
end Go.Proofs.YtdmheeenoklijaaDoor.Q
