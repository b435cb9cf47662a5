import Derived.Test.YthdlkadfhbbilaaDoorBFnClosures10
import Derived.Test.YthdlkadfhbbilaaDoorBFnClosures11
namespace Go.Proofs.YthdlkadfhbbilaaDoor.Q
open Go.RowKit Go.Proofs.YthdlkadfhbbilaaDoorW.PrintWords Go.Proofs.YthdlkadfhbbilaaDoorW.PrintLast Go.Proofs.YthdlkadfhbbilaaDoorW.PrintMore
attribute [local go_sem] max2_int min2_int max_two min_two max_three min_three max_four min_four neB_f
set_option linter.unusedVariables false
set_option maxHeartbeats 8000000
set_option maxRecDepth 100000
set_option linter.unusedSimpArgs false
theorem impl_CoversOf_1.more_ {P : Program} {md : Region.Mode} {ops : Array Oper} {Q : Exit → Act → World → Prop} {S S' : World → Prop} (hss : ∀ w, S' w → S w) : ∀ (fuel : Nat) (l : Array Bool) (a : Act) (w : World), S' w → wpAnyLast P md ops Q S' [] fuel l a w → wpAnyLast P md ops Q S [] fuel l a w
 | 0, _, _, _, _, h => h
 | fuel + 1, l, a, w, hS, h => ⟨h.1, fun i hi => wpOp_mono (fun a' w' h' => ⟨fun _ _ => hss w' (h'.1 (by simp) hS), impl_CoversOf_1.more_ hss fuel _ a' w' (h'.1 (by simp) hS) h'.2⟩) (h.2 i hi)⟩
theorem impl_CoversOf_1.more1_ {P : Program} {md : Region.Mode} {ops : Array Oper} {Q : Exit → Act → World → Prop} {S S' : World → Prop} (hss : ∀ w, S' w → S w) {fuel : Nat} {l : Array Bool} {a : Act} {w : World} (hS : S' w) (h : S' w → wpAnyLast P md ops Q S' [] fuel l a w) : wpAnyLast P md ops Q S [] fuel l a w := impl_CoversOf_1.more_ hss fuel l a w hS (h hS)
def impl_CoversOf_1.f (k : Nat) (a0 : Int) (a1 : Int) (a2_0 : Int) (l2_1 : List Int) : Option (Bool) := if 0 ≤ a0 then (if a0 < (l2_1.length : Int) then ((impl_Order_mirror.f k a2_0 l2_1).bind fun bt315 => (if 0 ≤ a1 then (if a1 < (bt315.2.length : Int) then ((impl_Order_better.f a2_0 l2_1 a0 a1).bind fun t320 => (if t320 = true then (some ((Go.bits .and .i64 (rd l2_1 a0) (rd bt315.2 a1)) == 0)) else (some false))) else (none)) else (none))) else (none)) else (none)
theorem impl_CoversOf_1.mono : ∀ a0 a1 a2 a3 k, LeO (impl_CoversOf_1.f k a0 a1 a2 a3) (impl_CoversOf_1.f (k + 1) a0 a1 a2 a3) := by
 intro a0 a1 a2 a3 k
 unfold impl_CoversOf_1.f
 repeat' (with_reducible first|apply impl_Order_mirror.mono|apply LeO.refl|apply LeO.none|apply LeO.ite|apply LeO.bind|intro)
def impl_CoversOf_1.T1 : Bool × List (List Nat × List Nat) := (true, [([], []), ([0], [0]), ([], []), ([1, 2], [1, 2]), ([3], [3]), ([], []), ([5], [5]), ([6], [6]), ([], []), ([7, 8], [7, 8]), ([9], [9]), ([4, 10], [4, 10]), ([11, 6, 0, 1, 2, 3, 4, 5, 6, 7, 8, 9, 10, 11], [11])])
def impl_CoversOf_1.B1 : List Nat := [0, 1, 0, 7, 15, 0, 32, 96, 0, 480, 992, 2047, 4095]
theorem impl_CoversOf_1.tab1 : rtab .any (opsOf Tryd.f23 1) = impl_CoversOf_1.T1 := by kernel_rfl
theorem impl_CoversOf_1.bits1 : waitsOk impl_CoversOf_1.T1.2 impl_CoversOf_1.B1 = true := by kernel_rfl
theorem impl_CoversOf_1.calls (k : Nat) (a0 : Int) (a1 : Int) (gB2 : Nat) (a2_0 : Int) (A2_1 : Option Addr) (c2_1 : Nat) (l2_1 : List Int) (r : Bool) (w : World) (hb2 : w.heap[gB2]? = some (.cells #[.int .i64 a2_0, .slice A2_1 l2_1.length c2_1] 26 (0, 0))) (hr2_1 : Kd.C (Kd.int .i64) w A2_1 l2_1.length l2_1) (hc2_1 : l2_1.length ≤ c2_1) (h : impl_CoversOf_1.f k a0 a1 a2_0 l2_1 = some r) :
  Calls Tryd.prog 23 #[.int .i64 a0, .int .i64 a1, .pointer (some ⟨gB2, 0, none⟩)] w fun e w' => e = .returned (.bool r) ∧ Below w.heap.size w w' := by
 have hfd26_1 := fun (W_ : World) (v0_ v1_ : Value) => (show Sem.run Tryd.prog (Instr.field 26 (.agg #[v0_, v1_]) 1) W_ = .ok v1_ W_ from by simp [go_sem, Instr.field, asAgg])
 have hu26 := Tryd.underlying26
 have BK313 := mkA hb2
 clear hb2
 have HR2_1 := mkA hr2_1
 have HC2_1 := mkA hc2_1
 clear hr2_1 hc2_1
 have HB := mkA (Below.refl w.heap.size w)
 have H := h
 clear h
 unfold impl_CoversOf_1.f at H
 obtain ⟨c4b0, H⟩ := itND H
 obtain ⟨c5b0, H⟩ := itND H
 obtain ⟨⟨t315, t316⟩, A6, H⟩ := obE H
 dsimp only at H
 obtain ⟨c7b0, H⟩ := itND H
 obtain ⟨c8b0, H⟩ := itND H
 obtain ⟨t320, A9, H⟩ := obE H
 by_cases c10 : t320 = true
 ·subst c10
  replace H := ifT H
  obtain rfl := Option.some.inj H
  go_enter Tryd.func23, Tryd.ntmps23
  try go_wp2
  replace BK313 := mkA (blk_drew BK313.out)
  replace HB := mkA (below_drew1 HB.out)
  obtain ⟨p314, q314, ad314, e314, hx314_0⟩ := atI HR2_1.out a0
  have hw314_0 := hx314_0
  cases e314
  replace hx314_0 := (HB.out.cell (World.block_lt_of_cell? w _ hx314_0)).trans hx314_0
  refine start_ (n := 13) (S := fun w' => w'.cell? ⟨gB2, 0, none⟩ = some (.int .i64 a2_0) ∧ w'.cell? ⟨gB2, 1, none⟩ = some (.slice (some ad314) l2_1.length c2_1) ∧ w'.cell? (ad314.add (a0).toNat) = some (.int .i64 (rd l2_1 a0))) (ds := []) (bm 13 0) (by kernel_rfl) rfl (by kernel_rfl) ⟨(blk_cell BK313.out 0).trans rfl, (blk_cell BK313.out 1).trans rfl, ((HB.out.cell (World.block_lt_of_cell? w _ hw314_0)).trans hw314_0)⟩ (fun hHeld => ?_); refine with_tabW impl_CoversOf_1.tab1 impl_CoversOf_1.bits1 (fun HT_ HW_ => ?_)
  generalize w.drew = w11 at BK313 HB hx314_0 hHeld ⊢
  refine purW 0 7 13 1 HT_ ?_
  refine purW 2 9 13 5 HT_ ?_
  refine purW 8 15 13 261 HT_ ?_
  refine takeW 1 (some 8) (bm 13 263) HT_ HW_ hHeld ?_
  refine purW 3 10 13 271 HT_ ?_
  refine takeW 4 (some 11) (bm 13 287) HT_ HW_ hHeld ?_
  refine takeW 5 (some 12) (bm 13 319) HT_ HW_ hHeld ?_
  refine oneW 6 (some 13) (bm 13 383) HT_ (fun K hK => ?_)
  refine goesR Tryd.func24 #[.agg #[.int .i64 a2_0, .slice (some ad314) l2_1.length c2_1]] ?_
  with_reducible refine (impl_Order_mirror.calls k a2_0 _ _ l2_1 t315 t316 _ ?s1 ?s2 A6.out).mono ?_
  (case s1 => exact C_g HR2_1 HB)
  (case s2 => exact HC2_1.out)
  rintro e w12 ⟨v317, rfl, ho0, hb⟩
  skip
  refine ⟨_, rfl, ?_⟩
  have HO318 := rLo ho0 HB
  replace BK313 := blkB BK313 hb
  replace HB := bst HB hb
  (try clear hb)
  (try clear hb2)
  (try clear hk)
  (try clear hi)
  (try clear ho0)
  obtain ⟨Ao13, co13, eo13⟩ := Kd.R_slice HO318.out
  (first | subst eo13 | (injection eo13 with f1_ f2_ f3_; have f4_ := f1_.symm; have f5_ := f3_.symm; clear f1_ f2_ f3_; subst f4_; subst f5_))
  obtain ⟨p319, q319, ad319, e319, hx319_0⟩ := atI (Kd.R_reads' HO318.out).2.2 a1
  cases e319
  refine hK.out _ _ ⟨(blk_cell BK313.out 0).trans rfl, (blk_cell BK313.out 1).trans rfl, ((HB.out.cell (World.block_lt_of_cell? w _ hw314_0)).trans hw314_0)⟩ (fun hHeld => ?_)
  clear hK K
  refine impl_CoversOf_1.more1_ (S' := fun w' => w'.cell? ⟨gB2, 0, none⟩ = some (.int .i64 a2_0) ∧ w'.cell? ⟨gB2, 1, none⟩ = some (.slice (some ad314) l2_1.length c2_1) ∧ w'.cell? (ad314.add (a0).toNat) = some (.int .i64 (rd l2_1 a0)) ∧ w'.cell? (ad319.add (a1).toNat) = some (.int .i64 (rd t316 a1))) (fun _ h_ => ⟨h_.1, h_.2.1, h_.2.2.1⟩) ⟨hHeld.1, hHeld.2.1, hHeld.2.2, hx319_0⟩ (fun hHeld => ?_)
  refine normW 13 ?_
  refine purW 7 14 13 511 HT_ ?_
  refine purW 9 16 13 1023 HT_ ?_
  refine takeW 10 (some 17) (bm 13 2047) HT_ HW_ hHeld ?_
  refine purW 11 18 13 4095 HT_ ?_
  refine purW 12 6 13 8191 HT_ ?_
  refine doneW HT_ ?_
  obtain ⟨_, _, _, _⟩ := blk2 BK313
  try go_wp2_with (first | ((with_reducible refine gate_callee (f := 25) rfl ?_); refine goesQ (some 22) Tryd.func25 #[.agg #[.int .i64 a2_0, .slice (some ad314) l2_1.length c2_1], .int .i64 a0, .int .i64 a1] ?_; (with_reducible refine (impl_Order_better.calls a2_0 _ _ l2_1 a0 a1 true _ ?_ ?_ A9.out).mono ?_); exact C_g HR2_1 HB; exact HC2_1.out; rintro e w15 ⟨rfl, hb⟩; refine ⟨_, rfl, ?_⟩; replace HO318 := rB HO318 hb; replace BK313 := blkB BK313 hb; replace HB := bst HB hb; clear hb))
  go_ret
  exact ⟨eqE, bel_g HB.out⟩
 ·replace c10 := Bool.eq_false_iff.mpr c10
  subst c10
  replace H := ifF H
  obtain rfl := Option.some.inj H
  go_enter Tryd.func23, Tryd.ntmps23
  try go_wp2
  replace BK313 := mkA (blk_drew BK313.out)
  replace HB := mkA (below_drew1 HB.out)
  obtain ⟨p314, q314, ad314, e314, hx314_0⟩ := atI HR2_1.out a0
  have hw314_0 := hx314_0
  cases e314
  replace hx314_0 := (HB.out.cell (World.block_lt_of_cell? w _ hx314_0)).trans hx314_0
  refine start_ (n := 13) (S := fun w' => w'.cell? ⟨gB2, 0, none⟩ = some (.int .i64 a2_0) ∧ w'.cell? ⟨gB2, 1, none⟩ = some (.slice (some ad314) l2_1.length c2_1) ∧ w'.cell? (ad314.add (a0).toNat) = some (.int .i64 (rd l2_1 a0))) (ds := []) (bm 13 0) (by kernel_rfl) rfl (by kernel_rfl) ⟨(blk_cell BK313.out 0).trans rfl, (blk_cell BK313.out 1).trans rfl, ((HB.out.cell (World.block_lt_of_cell? w _ hw314_0)).trans hw314_0)⟩ (fun hHeld => ?_); refine with_tabW impl_CoversOf_1.tab1 impl_CoversOf_1.bits1 (fun HT_ HW_ => ?_)
  generalize w.drew = w16 at BK313 HB hx314_0 hHeld ⊢
  refine purW 0 7 13 1 HT_ ?_
  refine purW 2 9 13 5 HT_ ?_
  refine purW 8 15 13 261 HT_ ?_
  refine takeW 1 (some 8) (bm 13 263) HT_ HW_ hHeld ?_
  refine purW 3 10 13 271 HT_ ?_
  refine takeW 4 (some 11) (bm 13 287) HT_ HW_ hHeld ?_
  refine takeW 5 (some 12) (bm 13 319) HT_ HW_ hHeld ?_
  refine oneW 6 (some 13) (bm 13 383) HT_ (fun K hK => ?_)
  refine goesR Tryd.func24 #[.agg #[.int .i64 a2_0, .slice (some ad314) l2_1.length c2_1]] ?_
  with_reducible refine (impl_Order_mirror.calls k a2_0 _ _ l2_1 t315 t316 _ ?s1 ?s2 A6.out).mono ?_
  (case s1 => exact C_g HR2_1 HB)
  (case s2 => exact HC2_1.out)
  rintro e w17 ⟨v317, rfl, ho0, hb⟩
  skip
  refine ⟨_, rfl, ?_⟩
  have HO318 := rLo ho0 HB
  replace BK313 := blkB BK313 hb
  replace HB := bst HB hb
  (try clear hb)
  (try clear hb2)
  (try clear hk)
  (try clear hi)
  (try clear ho0)
  obtain ⟨Ao18, co18, eo18⟩ := Kd.R_slice HO318.out
  (first | subst eo18 | (injection eo18 with f1_ f2_ f3_; have f4_ := f1_.symm; have f5_ := f3_.symm; clear f1_ f2_ f3_; subst f4_; subst f5_))
  obtain ⟨p319, q319, ad319, e319, hx319_0⟩ := atI (Kd.R_reads' HO318.out).2.2 a1
  cases e319
  refine hK.out _ _ ⟨(blk_cell BK313.out 0).trans rfl, (blk_cell BK313.out 1).trans rfl, ((HB.out.cell (World.block_lt_of_cell? w _ hw314_0)).trans hw314_0)⟩ (fun hHeld => ?_)
  clear hK K
  refine impl_CoversOf_1.more1_ (S' := fun w' => w'.cell? ⟨gB2, 0, none⟩ = some (.int .i64 a2_0) ∧ w'.cell? ⟨gB2, 1, none⟩ = some (.slice (some ad314) l2_1.length c2_1) ∧ w'.cell? (ad314.add (a0).toNat) = some (.int .i64 (rd l2_1 a0)) ∧ w'.cell? (ad319.add (a1).toNat) = some (.int .i64 (rd t316 a1))) (fun _ h_ => ⟨h_.1, h_.2.1, h_.2.2.1⟩) ⟨hHeld.1, hHeld.2.1, hHeld.2.2, hx319_0⟩ (fun hHeld => ?_)
  refine normW 13 ?_
  refine purW 7 14 13 511 HT_ ?_
  refine purW 9 16 13 1023 HT_ ?_
  refine takeW 10 (some 17) (bm 13 2047) HT_ HW_ hHeld ?_
  refine purW 11 18 13 4095 HT_ ?_
  refine purW 12 6 13 8191 HT_ ?_
  refine doneW HT_ ?_
  obtain ⟨_, _, _, _⟩ := blk2 BK313
  try go_wp2_with (first | ((with_reducible refine gate_callee (f := 25) rfl ?_); refine goesQ (some 22) Tryd.func25 #[.agg #[.int .i64 a2_0, .slice (some ad314) l2_1.length c2_1], .int .i64 a0, .int .i64 a1] ?_; (with_reducible refine (impl_Order_better.calls a2_0 _ _ l2_1 a0 a1 false _ ?_ ?_ A9.out).mono ?_); exact C_g HR2_1 HB; exact HC2_1.out; rintro e w20 ⟨rfl, hb⟩; refine ⟨_, rfl, ?_⟩; replace HO318 := rB HO318 hb; replace BK313 := blkB BK313 hb; replace HB := bst HB hb; clear hb))
  go_ret
  exact ⟨eqE, bel_g HB.out⟩
def impl_CoversOf.f (k : Nat) (a0_0 : Int) (l0_1 : List Int) : Option (Int × List Int × Bool) := (impl_IsOrder.f k a0_0 l0_1).bind fun t323 => (if t323 = true then ((impl_relation.f k a0_0 (fun u0_ u1_ => impl_CoversOf_1.f k u0_ u1_ a0_0 l0_1)).bind fun bt324 => (some (bt324.1, bt324.2, true))) else (some (0, ([] : List Int), false)))
theorem impl_CoversOf.mono : ∀ a0 a1 k, LeO (impl_CoversOf.f k a0 a1) (impl_CoversOf.f (k + 1) a0 a1) := by
 intro a0 a1 k
 unfold impl_CoversOf.f
 repeat' first
   | (with_reducible exact impl_relation.mono _ _ _)
   | (refine impl_relation.monoF ?_ _ _; intros)
   | (with_reducible exact impl_CoversOf_1.mono _ _ _ _ _)
   | (with_reducible exact impl_IsOrder.mono _ _ _)
   | (with_reducible exact impl_relation.mono _ _ _)
   | (with_reducible exact LeO.refl _)
   | (with_reducible exact LeO.none _)
   | (with_reducible refine LeO.ite ?_ ?_)
   | (with_reducible refine LeO.bind ?_ (fun _ => ?_))
   | exact impl_CoversOf_1.mono _ _ _ _ _
   | exact impl_IsOrder.mono _ _ _
   | exact impl_relation.mono _ _ _
   | exact LeO.none _
   | refine LeO.ite ?_ ?_
   | refine LeO.bind ?_ (fun _ => ?_)
theorem impl_CoversOf.calls (k : Nat) (a0_0 : Int) (A0_1 : Option Addr) (c0_1 : Nat) (l0_1 : List Int) (r1 : Int) (r2 : List Int) (r3 : Bool) (w : World) (hr0_1 : Kd.C (Kd.int .i64) w A0_1 l0_1.length l0_1) (hc0_1 : l0_1.length ≤ c0_1) (hTAB : Tab w) (h : impl_CoversOf.f k a0_0 l0_1 = some (r1, r2, r3)) :
  Calls Tryd.prog 9 #[.agg #[.int .i64 a0_0, .slice A0_1 l0_1.length c0_1]] w fun e w' => ∃ v1_ : Value, e = .returned (.tuple #[.agg #[.int .i64 r1, v1_], .bool r3]) ∧ Kd.R (Kd.int .i64) 3 w' w.heap.size (fun _ => True) v1_ r2 ∧ Below w.heap.size w w' := by
 have HTAB := mkA hTAB
 clear hTAB
 have hu26 := Tryd.underlying26
 have HR0_1 := mkA hr0_1
 have HC0_1 := mkA hc0_1
 clear hr0_1 hc0_1
 have HB := mkA (Below.refl w.heap.size w)
 have H := h
 clear h
 unfold impl_CoversOf.f at H
 obtain ⟨t323, A2, H⟩ := obE H
 by_cases c3 : t323 = true
 ·subst c3
  replace H := ifT H
  obtain ⟨⟨t324, t325⟩, A4, H⟩ := obE H
  dsimp only at H
  simp only [Option.some.injEq, Prod.mk.injEq] at H
  obtain ⟨rfl, rfl, rfl⟩ := H
  go_enter Tryd.func9, Tryd.ntmps9
  go_wp2_with (first | ((with_reducible refine gate_dst (N := 1) rfl ?_); refine boxG HB #[.int .i64 a0_0, .slice A0_1 l0_1.length c0_1] 26 ?_; intro gb321 hg w5 BK321 GE321 hb; replace HB := bst HB hb; clear hb hg) | ((with_reducible refine gate_dst (N := 2) rfl ?_); refine boxG HB #[.int .i64 0, .slice none 0 0] 26 ?_; intro gb322 hg w6 BK322 GE322 hb; have NB321_322 := neL7 BK321 hg; have NB322_321 := neR7 BK321 hg; replace BK321 := blkB BK321 hb; replace HB := bst HB hb; clear hb hg; obtain ⟨_, _, _, _⟩ := blk2 BK321) | ((with_reducible refine gate_callee (f := 11) rfl ?_); refine goesQ (some 5) Tryd.func11 #[.agg #[.int .i64 a0_0, .slice A0_1 l0_1.length c0_1]] ?_; (with_reducible refine (impl_IsOrder.calls k a0_0 _ _ l0_1 true _ ?_ ?_ ?_ A2.out).mono ?_); exact C_g HR0_1 HB; exact HC0_1.out; exact Tab.below HTAB.out (bel_g HB.out); rintro e w9 ⟨rfl, hb⟩; refine ⟨_, rfl, ?_⟩; replace BK321 := blkB BK321 hb; replace BK322 := blkB BK322 hb; replace HB := bst HB hb; clear hb; obtain ⟨_, _, _, _⟩ := blk2 BK321) | ((with_reducible refine gate_callee (f := 22) rfl ?_); refine goesQ (some 11) Tryd.func22 #[.int .i64 a0_0, .func (.func 23) #[] #[.pointer (some ⟨gb321, 0, none⟩)]] ?_; (with_reducible refine (impl_relation.calls k a0_0 (fun u0_ u1_ => impl_CoversOf_1.f k u0_ u1_ a0_0 l0_1) 23 #[.pointer (some ⟨gb321, 0, none⟩)] (fun args_ W_ => enters_ Tryd.func23 (by kernel_rfl) rfl args_ W_) t324 t325 _ ?s1 A4.out).mono ?_); (case s1 => exact fun u0_ u1_ q_ W_ hb_ hq_ => (impl_CoversOf_1.calls k u0_ u1_ gb321 a0_0 A0_1 c0_1 l0_1 q_ W_ (blk_below (show _ = some (Obj.cells #[.int .i64 a0_0, .slice A0_1 l0_1.length c0_1] 26 (0, 0)) from blkT BK321) hb_) (Kd.C_below (show Kd.C (Kd.int .i64) _ A0_1 l0_1.length l0_1 from by exact C_g HR0_1 HB) hb_) (by exact HC0_1.out) hq_).mono (fun _ _ h_ => ⟨h_.1, h_.2⟩)); rintro e w11 ⟨v326, rfl, ho0, hb⟩; refine ⟨_, rfl, ?_⟩; have HO327 := rLo ho0 HB; replace BK321 := blkB BK321 hb; replace BK322 := blkB BK322 hb; replace HB := bst HB hb; clear hb ho0; obtain ⟨_, _, _, _⟩ := blk2 BK322; obtain ⟨Ao13, co13, rfl⟩ := Kd.R_slice HO327.out))
  refine bodyPost_ret (results_ct rfl _ _ gb322 26 #[.int .i64 t324, .slice Ao13 t325.length co13] (0, 0) _ rfl (blkT BK322) Tryd.underlying26 rfl (by kernel_rfl)) rfl ?_
  exact ⟨_, eqE, Kd.R_g (Kd.R_mono (rF HO327 BK322) (fun _ _ => trivial)), bel_g HB.out⟩
 ·replace c3 := Bool.eq_false_iff.mpr c3
  subst c3
  replace H := ifF H
  simp only [Option.some.injEq, Prod.mk.injEq] at H
  obtain ⟨rfl, rfl, rfl⟩ := H
  go_enter Tryd.func9, Tryd.ntmps9
  go_wp2_with (first | ((with_reducible refine gate_dst (N := 1) rfl ?_); refine boxG HB #[.int .i64 a0_0, .slice A0_1 l0_1.length c0_1] 26 ?_; intro gb321 hg w14 BK321 GE321 hb; replace HB := bst HB hb; clear hb hg) | ((with_reducible refine gate_dst (N := 2) rfl ?_); refine boxG HB #[.int .i64 0, .slice none 0 0] 26 ?_; intro gb322 hg w15 BK322 GE322 hb; have NB321_322 := neL7 BK321 hg; have NB322_321 := neR7 BK321 hg; replace BK321 := blkB BK321 hb; replace HB := bst HB hb; clear hb hg; obtain ⟨_, _, _, _⟩ := blk2 BK321) | ((with_reducible refine gate_callee (f := 11) rfl ?_); refine goesQ (some 5) Tryd.func11 #[.agg #[.int .i64 a0_0, .slice A0_1 l0_1.length c0_1]] ?_; (with_reducible refine (impl_IsOrder.calls k a0_0 _ _ l0_1 false _ ?_ ?_ ?_ A2.out).mono ?_); exact C_g HR0_1 HB; exact HC0_1.out; exact Tab.below HTAB.out (bel_g HB.out); rintro e w18 ⟨rfl, hb⟩; refine ⟨_, rfl, ?_⟩; replace BK321 := blkB BK321 hb; replace BK322 := blkB BK322 hb; replace HB := bst HB hb; clear hb; obtain ⟨_, _, _, _⟩ := blk2 BK322))
  refine bodyPost_ret (results_ct rfl _ _ gb322 26 #[.int .i64 0, .slice none 0 0] (0, 0) _ rfl (blkT BK322) Tryd.underlying26 rfl (by kernel_rfl)) rfl ?_
  exact ⟨_, eqE, nilE, bel_g HB.out⟩
def spec_orList.l0 : Nat → Int → List Int → Int → Option (List Int)
 | 0, _, _, _ => none
 | k + 1, x0, x3, x4 => if 0 ≤ x4 then (if (shr .i64 x0 x4) > 0 then ((spec_orHas.f x0 x4).bind fun t328 => (if t328 = true then (if x3.length < 17592186044416 then (spec_orList.l0 k x0 (x3 ++ [x4]) (wrap64 (x4 + 1))) else (none)) else (spec_orList.l0 k x0 x3 (wrap64 (x4 + 1))))) else (some x3)) else (none)
def spec_orList.f (k : Nat) (a0 : Int) : Option (List Int) := spec_orList.l0 k a0 ([] : List Int) 0
theorem spec_orList.mono_l : ∀ k, (∀ y0 y1 y2, LeO (spec_orList.l0 k y0 y1 y2) (spec_orList.l0 (k + 1) y0 y1 y2))
 | 0 => fun _ _ _ r h => by simp [spec_orList.l0] at h
 | k + 1 => by
  have ih0 := spec_orList.mono_l k
  ·intro y0 y1 y2
   unfold spec_orList.l0
   repeat' (with_reducible first|apply ih0|apply LeO.refl|apply LeO.none|apply LeO.ite|apply LeO.bind|intro)
theorem spec_orList.mono : ∀ a0 k, LeO (spec_orList.f k a0) (spec_orList.f (k + 1) a0) := by
 intro a0 k
 have ih0 := spec_orList.mono_l k
 unfold spec_orList.f
 repeat' (with_reducible first|apply ih0|apply LeO.refl|apply LeO.none|apply LeO.ite|apply LeO.bind|intro)
theorem spec_orList.calls (k : Nat) (a0 : Int) (r : List Int) (w : World) (h : spec_orList.f k a0 = some r) :
  Calls Tryd.prog 27 #[.int .i64 a0] w fun e w' => ∃ v0_ : Value, e = .returned (v0_) ∧ Kd.R (Kd.int .i64) 3 w' w.heap.size (fun _ => True) v0_ r ∧ Below w.heap.size w w' := by
 have HB := mkA (Below.refl w.heap.size w)
 have H := h
 clear h
 unfold spec_orList.f at H
 have H' := mkA H
 clear H
 go_enter Tryd.func27, Tryd.ntmps27
 go_wp2
 go_loopg [3, 4] k (fun kq v3 v4 w' => ∃ (x3_1 : List Int) (x4_1 : Int), v4 = .int .i64 x4_1 ∧ Fc (spec_orList.l0 kq a0 x3_1 x4_1 = some r) ∧ Fc (kq ≤ k) ∧ Fc (Kd.R (Kd.int .i64) 3 w' w.heap.size (fun _ => True) v3 x3_1) ∧ Fc (Below w.heap.size w w'))
 case atStart => exact ⟨(([] : List Int)), (0), eqS, H', ⟨Nat.le_refl _⟩, ⟨nilE⟩, hbg HB⟩
 case round =>
  clear H'
  obtain ⟨x3_1, x4_1, rfl, HA, HK1, HO_3, HB⟩ := hrel
  cases gk with
  | zero => exact absurd HA.out (by simp [spec_orList.l0])
  | succ k1 =>
   have H := HA.out
   clear HA
   simp only [spec_orList.l0] at H
   obtain ⟨c2b0, c2b1, H⟩ := itNQ H
   obtain ⟨ji3, hji3⟩ : ∃ j_ : Int, (shr .i64 a0 x4_1) = j_ := ⟨_, rfl⟩
   first | rw [hji3] at H | simp only [hji3] at H
   have hji3_ : (a0 / 2 ^ min x4_1.toNat 64) = ji3 := hji3
   have hji3z : x4_1 ≤ 64 → (a0 / 2 ^ x4_1.toNat) = ji3 := shr_small hji3
   rcases iteP H with ⟨c4, H⟩ | ⟨c4, H⟩
   ·have c4b0 := decide_eq_true c4
    clear c4
    obtain ⟨t328, A5, H⟩ := obE H
    by_cases c6 : t328 = true
    ·subst c6
     replace H := ifT H
     obtain ⟨c7, H⟩ := itNP H
     have LMc7 := mkA c7
     clear c7
     obtain ⟨y329, hy329⟩ : ∃ y_ : List Int, y_ = (x3_1 ++ [x4_1]) := ⟨_, rfl⟩
     rw [← hy329] at H
     have Ny329 := mkA hy329
     clear hy329
     have H' := mkA H
     clear H
     go_wp2_with (first | ((with_reducible refine gate_callee (f := 20) rfl ?_); refine goesQ (some 13) Tryd.func20 #[.int .i64 a0, .int .i64 x4_1] ?_; (with_reducible refine (spec_orHas.calls a0 x4_1 true _ A5.out).mono ?_); rintro e w' ⟨rfl, ⟨nd, rfl⟩⟩; refine ⟨_, rfl, ?_⟩) | ((with_reducible refine gate_builtin (b := .append) (xs := #[.tmp 14, .tmp 16]) rfl ?_); at_builtin; refine Kd.R_append (Kd.int .i64) (w0 := w) w.heap.size rfl (.tmp 14) (.tmp 16) 24 3 (.int .i64 0) 8 rfl Tryd.underlying24 info3 rfl (by decide) (by omega) u3 x3_1 x4_1 [.int .i64 x4_1] (fun _ => True) (fun _ => False) rfl rfl ?aP (fun _ hk => hk.elim) ?aF ?aO ?aB ?aS ?aL ?_; (case aP => exact rfl); (case aB => exact (bel_g HB.out)); (case aF => exact (fun _ _ => trivial)); (case aO => exact (Kd.R_g HO_3.out)); (case aS => exact (below_size (bel_g HB.out))); (case aL => have := LMc7.out; omega); intro v330 w8 ho hb hg hat; rw [← Ny329.out] at ho; have HO331 := mkA (ho); replace HB := mkA (hb); clear HO_3; clear ho hb hg hat))
     go_roundg k1
     case measure => have := HK1.out; omega
     case rel => exact ⟨(y329), (wrap64 (x4_1 + 1)), eqS, H', ⟨by have := HK1.out; omega⟩, rg HO331, hbg HB⟩
    ·replace c6 := Bool.eq_false_iff.mpr c6
     subst c6
     replace H := ifF H
     have H' := mkA H
     clear H
     go_wp2_with (first | ((with_reducible refine gate_callee (f := 20) rfl ?_); refine goesQ (some 13) Tryd.func20 #[.int .i64 a0, .int .i64 x4_1] ?_; (with_reducible refine (spec_orHas.calls a0 x4_1 false _ A5.out).mono ?_); rintro e w' ⟨rfl, ⟨nd, rfl⟩⟩; refine ⟨_, rfl, ?_⟩))
     go_roundg k1
     case measure => have := HK1.out; omega
     case rel => exact ⟨(x3_1), (wrap64 (x4_1 + 1)), eqS, H', ⟨by have := HK1.out; omega⟩, rg HO_3, hbg HB⟩
   ·have c4b0 := decide_eq_false c4
    clear c4
    obtain rfl := Option.some.inj H
    go_wp2
    go_ret
    exact ⟨_, by first | rfl | (simp [errW_none, errW_some] <;> rfl) | (simp only [← hji3]; first | rfl | (simp [errW_none, errW_some] <;> rfl)) | (simp [*, errW_none, errW_some] <;> rfl), Kd.R_g HO_3.out, bel_g HB.out⟩
end Go.Proofs.YthdlkadfhbbilaaDoor.Q
