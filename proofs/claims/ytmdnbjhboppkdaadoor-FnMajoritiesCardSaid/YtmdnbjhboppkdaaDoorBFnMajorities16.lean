import Derived.Test.YtmdnbjhboppkdaaDoorBFnMajorities15
namespace Go.Proofs.YtmdnbjhboppkdaaDoor.Q
open Go.RowKit Go.Proofs.YtmdnbjhboppkdaaDoorW.PrintWords Go.Proofs.YtmdnbjhboppkdaaDoorW.PrintLast Go.Proofs.YtmdnbjhboppkdaaDoorW.PrintMore
attribute [local go_sem] max2_int min2_int max_two min_two max_three min_three max_four min_four neB_f
set_option linter.unusedVariables false
set_option maxHeartbeats 8000000
set_option maxRecDepth 100000
set_option linter.unusedSimpArgs false
def spec_l1Own.f (l0 : List Int) : Option (List Int) := (some (([] : List Int) : List Int)).bind fun y514 => (if y514.length + l0.length < 17592186044416 then (some (y514 ++ l0)) else (none))
theorem spec_l1Own.calls (A0 : Option Addr) (c0 : Nat) (l0 : List Int) (r : List Int) (w : World) (hr0 : Kd.C (Kd.int .i64) w A0 l0.length l0) (hc0 : l0.length ≤ c0) (h : spec_l1Own.f l0 = some r) :
  Calls Tryd.prog 70 #[.slice A0 l0.length c0] w fun e w' => ∃ v0_ : Value, e = .returned (v0_) ∧ Kd.R (Kd.int .i64) 3 w' w.heap.size (fun _ => True) v0_ r ∧ Below w.heap.size w w' := by
 have HR0 := mkA hr0
 have HC0 := mkA hc0
 clear hr0 hc0
 have HB := mkA (Below.refl w.heap.size w)
 have H := h
 clear h
 unfold spec_l1Own.f at H
 obtain ⟨y514, Ny514, H⟩ := nmE H
 obtain ⟨c2, H⟩ := itNP H
 have LMc2 := mkA c2
 clear c2
 obtain ⟨y517, hy517⟩ : ∃ y_ : List Int, y_ = (y514 ++ l0) := ⟨_, rfl⟩
 rw [← hy517] at H
 have Ny517 := mkA hy517
 clear hy517
 obtain rfl := Option.some.inj H
 go_enter Tryd.func70, Tryd.ntmps70
 go_wp2_with (first | ((with_reducible refine gate_dst (N := 3) rfl ?_); refine litE (Kd.int .i64) 3 ([] : List Int) [] ?hp ?_; (case hp => exact (Reps.none _ _)); intro v515 w3 ho4 hb hg_ hnew_; clear hg_ hnew_; (first | rw [← Ny514.out] at ho4 | (simp only [Int.reduceToNat] at ho4; rw [← Ny514.out] at ho4)); have HO516 := rLo ho4 HB; replace HB := bst HB hb; clear hb ho4) | ((with_reducible refine gate_builtin (b := .append) (xs := #[.tmp 3, .tmp 4]) rfl ?_); at_builtin; refine Kd.R_append_rows (Kd.int .i64) (w0 := w) w.heap.size rfl (.tmp 3) (.tmp 4) 26 3 (.int .i64 0) 8 rfl Tryd.underlying26 info3 rfl (by decide) (by omega) v515 y514 l0 _ _ _ (fun _ => True) (fun _ => False) rfl rfl ?aO ?aR (fun _ _ h => h) (fun _ h => h.elim) ?aF ?aB ?aS ?aL ?_; (case aR => exact C_g HR0 HB); (case aB => exact (bel_g HB.out)); (case aF => exact (fun _ _ => trivial)); (case aO => exact (Kd.R_g HO516.out)); (case aS => exact (below_size (bel_g HB.out))); (case aL => have := LMc2.out; omega); intro v518 w5 ho hb hg hat; rw [← Ny517.out] at ho; have HO519 := mkA (ho); replace HB := mkA (hb); clear HO516; clear ho hb hg hat))
 go_ret
 exact ⟨_, eqE, Kd.R_g HO519.out, bel_g HB.out⟩
mutual
def spec_CloseRelation.l0 : Nat → Int → Int → Int → List Int → Option (Int × List Int × Bool)
 | 0, _, _, _, _ => none
 | k + 1, x19, x20, x527000, x527001 => if x20 < x19 then (spec_CloseRelation.l1 k x20 x19 x20 (x527001.length : Int) 0 x527000 x527001) else (some (x527000, x527001, true))
def spec_CloseRelation.l1 : Nat → Int → Int → Int → Int → Int → Int → List Int → Option (Int × List Int × Bool)
 | 0, _, _, _, _, _, _, _ => none
 | k + 1, x5, x19, x20, x25, x26, x527000, x527001 => if x26 < x25 then (if 0 ≤ x26 then (if x26 < (x527001.length : Int) then ((spec_orHas.f (rd x527001 x26) x5).bind fun t528 => (if t528 = true then (if 0 ≤ x5 then (if x5 < (x527001.length : Int) then (spec_CloseRelation.l1 k x5 x19 x20 x25 (wrap64 (x26 + 1)) x527000 (x527001.set (x26 : Int).toNat (Go.bits .or .i64 (rd x527001 x26) (rd x527001 x5)))) else (none)) else (none)) else (spec_CloseRelation.l1 k x5 x19 x20 x25 (wrap64 (x26 + 1)) x527000 x527001))) else (none)) else (none)) else (spec_CloseRelation.l0 k x19 (wrap64 (x20 + 1)) x527000 x527001)
end
def spec_CloseRelation.f (k : Nat) (a0_0 : Int) (l0_1 : List Int) : Option (Int × List Int × Bool) := (spec_orRelation.f k a0_0 l0_1).bind fun t522 => (if t522 = true then ((spec_l1Own.f l0_1).bind fun t523 => (spec_CloseRelation.l0 k (t523.length : Int) 0 a0_0 t523)) else (some (0, ([] : List Int), false)))
theorem spec_CloseRelation.mono_l : ∀ k, (∀ y0 y1 y2 y3, LeO (spec_CloseRelation.l0 k y0 y1 y2 y3) (spec_CloseRelation.l0 (k + 1) y0 y1 y2 y3)) ∧ (∀ y0 y1 y2 y3 y4 y5 y6, LeO (spec_CloseRelation.l1 k y0 y1 y2 y3 y4 y5 y6) (spec_CloseRelation.l1 (k + 1) y0 y1 y2 y3 y4 y5 y6))
 | 0 => ⟨fun _ _ _ _ r h => by simp [spec_CloseRelation.l0] at h, fun _ _ _ _ _ _ _ r h => by simp [spec_CloseRelation.l1] at h⟩
 | k + 1 => by
  obtain ⟨ih0, ih1⟩ := spec_CloseRelation.mono_l k
  refine ⟨?_, ?_⟩ <;> intros
  unfold spec_CloseRelation.l0
  rotate_left
  unfold spec_CloseRelation.l1
  rotate_left
  all_goals repeat' (with_reducible first|apply ih0|apply ih1|apply spec_orRelation.mono|apply LeO.refl|apply LeO.none|apply LeO.ite|apply LeO.bind|intro)
theorem spec_CloseRelation.mono : ∀ a0 a1 k, LeO (spec_CloseRelation.f k a0 a1) (spec_CloseRelation.f (k + 1) a0 a1) := by
 intro a0 a1 k
 obtain ⟨ih0, ih1⟩ := spec_CloseRelation.mono_l k
 unfold spec_CloseRelation.f
 repeat' (with_reducible first|apply ih0|apply ih1|apply spec_orRelation.mono|apply LeO.refl|apply LeO.none|apply LeO.ite|apply LeO.bind|intro)
def spec_CloseRelation.T3 : Bool × List (List Nat × List Nat) := (true, [([], []), ([0], [0]), ([], []), ([2], [2]), ([3], [3]), ([1, 4], [1, 4]), ([], []), ([6, 5, 4, 0, 1, 2, 3, 4, 5, 6], [5, 6])])
def spec_CloseRelation.B3 : List Nat := [0, 1, 0, 4, 12, 31, 0, 127]
theorem spec_CloseRelation.tab3 : rtab .any (opsOf Tryd.f92 3) = spec_CloseRelation.T3 := by kernel_rfl
theorem spec_CloseRelation.bits3 : waitsOk spec_CloseRelation.T3.2 spec_CloseRelation.B3 = true := by kernel_rfl
def spec_CloseRelation.T11 : Bool × List (List Nat × List Nat) := (true, [([], []), ([0], [0]), ([], []), ([1, 2], [1, 2]), ([3], [3]), ([], []), ([5], [5]), ([], []), ([6, 7], [6, 7]), ([8], [8]), ([4, 9], [4, 9]), ([1, 2, 0, 1, 2, 3, 4, 5, 6, 7, 8, 9, 10], [1, 2]), ([11, 10, 0, 1, 2, 3, 4, 5, 6, 7, 8, 9, 10], [10, 11])])
def spec_CloseRelation.B11 : List Nat := [0, 1, 0, 7, 15, 0, 32, 0, 224, 480, 1023, 2047, 4095]
theorem spec_CloseRelation.tab11 : rtab .any (opsOf Tryd.f92 11) = spec_CloseRelation.T11 := by kernel_rfl
theorem spec_CloseRelation.bits11 : waitsOk spec_CloseRelation.T11.2 spec_CloseRelation.B11 = true := by kernel_rfl
theorem spec_CloseRelation.calls (k : Nat) (a0_0 : Int) (A0_1 : Option Addr) (c0_1 : Nat) (l0_1 : List Int) (r1 : Int) (r2 : List Int) (r3 : Bool) (w : World) (hr0_1 : Kd.C (Kd.int .i64) w A0_1 l0_1.length l0_1) (hc0_1 : l0_1.length ≤ c0_1) (h : spec_CloseRelation.f k a0_0 l0_1 = some (r1, r2, r3)) :
  Calls Tryd.prog 92 #[.agg #[.int .i64 a0_0, .slice A0_1 l0_1.length c0_1]] w fun e w' => ∃ v1_ : Value, e = .returned (.tuple #[.agg #[.int .i64 r1, v1_], .bool r3]) ∧ Kd.R (Kd.int .i64) 3 w' w.heap.size (fun _ => True) v1_ r2 ∧ Below w.heap.size w w' := by
 have hu28 := Tryd.underlying28
 have HR0_1 := mkA hr0_1
 have HC0_1 := mkA hc0_1
 clear hr0_1 hc0_1
 have HB := mkA (Below.refl w.heap.size w)
 have H := h
 clear h
 unfold spec_CloseRelation.f at H
 obtain ⟨t522, A2, H⟩ := obE H
 by_cases c3 : t522 = true
 ·subst c3
  replace H := ifT H
  obtain ⟨t523, A4, H⟩ := obE H
  have H' := mkA H
  clear H
  go_enter Tryd.func92, Tryd.ntmps92
  try go_wp2_with (first | ((with_reducible refine gate_dst (N := 1) rfl ?_); refine boxG HB #[.int .i64 a0_0, .slice A0_1 l0_1.length c0_1] 28 ?_; intro gb520 hg w5 BK520 GE520 hb; replace HB := bst HB hb; clear hb hg) | ((with_reducible refine gate_dst (N := 2) rfl ?_); refine boxG HB #[.int .i64 0, .slice none 0 0] 28 ?_; intro gb521 hg w6 BK521 GE521 hb; have NB520_521 := neL7 BK520 hg; have NB521_520 := neR7 BK520 hg; replace BK520 := blkB BK520 hb; replace HB := bst HB hb; clear hb hg; obtain ⟨_, _, _, _⟩ := blk2 BK520) | ((with_reducible refine gate_callee (f := 54) rfl ?_); refine goesQ (some 8) Tryd.func54 #[.agg #[.int .i64 a0_0, .slice A0_1 l0_1.length c0_1]] ?_; (with_reducible refine (spec_orRelation.calls k a0_0 _ _ l0_1 true _ ?_ ?_ A2.out).mono ?_); exact C_g HR0_1 HB; exact HC0_1.out; rintro e w9 ⟨rfl, hb⟩; refine ⟨_, rfl, ?_⟩; replace BK520 := blkB BK520 hb; replace BK521 := blkB BK521 hb; replace HB := bst HB hb; clear hb))
  replace BK520 := mkA (blk_drew BK520.out)
  replace BK521 := mkA (blk_drew BK521.out)
  replace HB := mkA (below_drew1 HB.out)
  refine start_ (n := 8) (S := fun w' => w'.cell? ⟨gb520, 0, none⟩ = some (.int .i64 a0_0) ∧ w'.cell? ⟨gb520, 1, none⟩ = some (.slice A0_1 l0_1.length c0_1)) (ds := []) (bm 8 0) (by kernel_rfl) rfl (by kernel_rfl) ⟨(blk_cell BK520.out 0).trans rfl, (blk_cell BK520.out 1).trans rfl⟩ (fun hHeld => ?_); refine with_tabW spec_CloseRelation.tab3 spec_CloseRelation.bits3 (fun HT_ HW_ => ?_)
  generalize w9.drew = w10 at BK520 BK521 HB hHeld ⊢
  refine purW 0 11 8 1 HT_ ?_
  refine purW 2 13 8 5 HT_ ?_
  refine takeW 1 (some 12) (bm 8 7) HT_ HW_ hHeld ?_
  refine takeW 3 (some 14) (bm 8 15) HT_ HW_ hHeld ?_
  refine join_ (σ := Value × Nat) 1 (bm 8 127) (fun s_ => [(15, s_.1), (4, .pointer (some ⟨s_.2, 0, none⟩)), (16, .agg #[.int .i64 a0_0, s_.1])]) (fun s_ w' => (w'.cell? ⟨gb520, 0, none⟩ = some (.int .i64 a0_0) ∧ w'.cell? ⟨gb520, 1, none⟩ = some (.slice A0_1 l0_1.length c0_1)) ∧ (Kd.R (Kd.int .i64) 3 w' w.heap.size (fun _ => True) s_.1 t523) ∧ (w'.heap[gb520]? = some (.cells #[.int .i64 a0_0, .slice A0_1 l0_1.length c0_1] 28 (0, 0))) ∧ (w'.heap[gb521]? = some (.cells #[.int .i64 0, .slice none 0 0] 28 (0, 0))) ∧ (w'.heap[s_.2]? = some (.cells #[.int .i64 0, .slice none 0 0] 28 (0, 0))) ∧ (w.heap.size ≤ s_.2) ∧ (w.heap.size ≤ s_.2) ∧ (gb520 ≠ s_.2) ∧ (s_.2 ≠ gb520) ∧ (gb521 ≠ s_.2) ∧ (s_.2 ≠ gb521) ∧ (Below w.heap.size w w')) ?_ ?_
  rotate_left
  ·intro hCont
   refine two_ (i := 4) (j := 6) (Ni := some 15) (Nj := some 4) (bm 8 31) (bm 8 79) rfl rfl rfl rfl (two_of HT_.out (by kernel_rfl)) (by decide) (by decide) (fun K hK => ?_) (fun K hK => ?_)
   ·skip
    refine goesR Tryd.func70 #[.slice A0_1 l0_1.length c0_1] ?_
    with_reducible refine (spec_l1Own.calls _ _ l0_1 t523 _ ?s1 ?s2 A4.out).mono ?_
    (case s1 => exact C_g HR0_1 HB)
    (case s2 => exact HC0_1.out)
    rintro e w11 ⟨v524, rfl, ho0, hb⟩
    refine ⟨_, rfl, ?_⟩
    have HO525 := rLo ho0 HB
    replace BK520 := blkB BK520 hb
    replace BK521 := blkB BK521 hb
    replace HB := bst HB hb
    (try clear hb)
    (try clear hb2)
    (try clear hk)
    (try clear hi)
    (try clear ho0)
    obtain ⟨Ao12, co12, eo12⟩ := Kd.R_slice HO525.out
    (first | subst eo12 | (injection eo12 with f1_ f2_ f3_; have f4_ := f1_.symm; have f5_ := f3_.symm; clear f1_ f2_ f3_; subst f4_; subst f5_))
    refine hK.out _ _ ⟨(blk_cell BK520.out 0).trans rfl, (blk_cell BK520.out 1).trans rfl⟩ (fun hHeld => ?_)
    clear hK K
    refine normW 15 ?_
    refine purW 5 16 8 63 HT_ ?_
    refine oneW 6 (some 4) (bm 8 127) HT_ (fun K hK => ?_)
    refine box_step ?hg (N := 4) ?hd (cs := #[.int .i64 0, .slice none 0 0]) (t := 28) ?hr ?_; (case hd => rfl); (case hg => rfl); (case hr => first | (go_simp; done) | (go_simp; rfl))
    intro gb526 hg w13 hbox hb
    replace HO525 := rB HO525 hb
    have BK526 := mkA (hbox)
    have GW526 := geB HB hg
    have GE526 := geB HB hg
    have NB520_526 := neL7 BK520 hg
    have NB526_520 := neR7 BK520 hg
    replace BK520 := blkB BK520 hb
    have NB521_526 := neL7 BK521 hg
    have NB526_521 := neR7 BK521 hg
    replace BK521 := blkB BK521 hb
    replace HB := bst HB hb
    clear hb hbox hg
    refine hK.out _ _ ⟨(blk_cell BK520.out 0).trans rfl, (blk_cell BK520.out 1).trans rfl⟩ (fun hHeld => ?_)
    clear hK K
    refine normW 4 ?_
    exact norm_ (by simp only [putAll, Act.put, List.setIfInBounds_toArray, List.set_cons_zero, List.set_cons_succ]) (hCont (.slice Ao12 t523.length co12, gb526) _ ⟨hHeld, (Kd.R_g HO525.out), (blk_g BK520.out), (blk_g BK521.out), (blk_g BK526.out), GW526.out, GE526.out, NB520_526.out, NB526_520.out, NB521_526.out, NB526_521.out, (bel_g HB.out)⟩)
   ·skip
    refine box_step ?hg (N := 4) ?hd (cs := #[.int .i64 0, .slice none 0 0]) (t := 28) ?hr ?_; (case hd => rfl); (case hg => rfl); (case hr => first | (go_simp; done) | (go_simp; rfl))
    intro gb526 hg w11 hbox hb
    have BK526 := mkA (hbox)
    have GW526 := geB HB hg
    have GE526 := geB HB hg
    have NB520_526 := neL7 BK520 hg
    have NB526_520 := neR7 BK520 hg
    replace BK520 := blkB BK520 hb
    have NB521_526 := neL7 BK521 hg
    have NB526_521 := neR7 BK521 hg
    replace BK521 := blkB BK521 hb
    replace HB := bst HB hb
    clear hb hbox hg
    refine hK.out _ _ ⟨(blk_cell BK520.out 0).trans rfl, (blk_cell BK520.out 1).trans rfl⟩ (fun hHeld => ?_)
    clear hK K
    refine normW 4 ?_
    refine oneW 4 (some 15) (bm 8 95) HT_ (fun K hK => ?_)
    refine goesR Tryd.func70 #[.slice A0_1 l0_1.length c0_1] ?_
    with_reducible refine (spec_l1Own.calls _ _ l0_1 t523 _ ?s1 ?s2 A4.out).mono ?_
    (case s1 => exact C_g HR0_1 HB)
    (case s2 => exact HC0_1.out)
    rintro e w12 ⟨v524, rfl, ho0, hb⟩
    refine ⟨_, rfl, ?_⟩
    have HO525 := rLo ho0 HB
    replace BK520 := blkB BK520 hb
    replace BK521 := blkB BK521 hb
    replace BK526 := blkB BK526 hb
    replace HB := bst HB hb
    (try clear hb)
    (try clear hb2)
    (try clear hk)
    (try clear hi)
    (try clear ho0)
    obtain ⟨Ao13, co13, eo13⟩ := Kd.R_slice HO525.out
    (first | subst eo13 | (injection eo13 with f1_ f2_ f3_; have f4_ := f1_.symm; have f5_ := f3_.symm; clear f1_ f2_ f3_; subst f4_; subst f5_))
    refine hK.out _ _ ⟨(blk_cell BK520.out 0).trans rfl, (blk_cell BK520.out 1).trans rfl⟩ (fun hHeld => ?_)
    clear hK K
    refine normW 15 ?_
    refine purW 5 16 8 127 HT_ ?_
    exact norm_ (by simp only [putAll, Act.put, List.setIfInBounds_toArray, List.set_cons_zero, List.set_cons_succ]) (hCont (.slice Ao13 t523.length co13, gb526) _ ⟨hHeld, (Kd.R_g HO525.out), (blk_g BK520.out), (blk_g BK521.out), (blk_g BK526.out), GW526.out, GE526.out, NB520_526.out, NB526_520.out, NB521_526.out, NB526_521.out, (bel_g HB.out)⟩)
  rintro ⟨v524, gb526⟩ w14 ⟨hS_, h0_, h1_, h2_, h3_, h4_, h5_, h6_, h7_, h8_, h9_, h10_⟩
  have n0_ : Fc (Kd.R (Kd.int .i64) 3 w14 w.heap.size (fun _ => True) v524 t523) := ⟨h0_⟩
  have n1_ : Fc (w14.heap[gb520]? = some (.cells #[.int .i64 a0_0, .slice A0_1 l0_1.length c0_1] 28 (0, 0))) := ⟨h1_⟩
  have n2_ : Fc (w14.heap[gb521]? = some (.cells #[.int .i64 0, .slice none 0 0] 28 (0, 0))) := ⟨h2_⟩
  have n3_ : Fc (w14.heap[gb526]? = some (.cells #[.int .i64 0, .slice none 0 0] 28 (0, 0))) := ⟨h3_⟩
  have n4_ : Ge w.heap.size gb526 := ⟨h4_⟩
  have n5_ : Ge w.heap.size gb526 := ⟨h5_⟩
  have n6_ : NeB gb520 gb526 := ⟨h6_⟩
  have n7_ : NeB gb526 gb520 := ⟨h7_⟩
  have n8_ : NeB gb521 gb526 := ⟨h8_⟩
  have n9_ : NeB gb526 gb521 := ⟨h9_⟩
  have n10_ : Fc (Below w.heap.size w w14) := ⟨h10_⟩
  clear BK520
  clear BK521
  clear HB
  clear h0_ h1_ h2_ h3_ h4_ h5_ h6_ h7_ h8_ h9_ h10_
  have HO525 := n0_
  have BK520 := n1_
  have BK521 := n2_
  have BK526 := n3_
  have GW526 := n4_
  have GE526 := n5_
  have NB520_526 := n6_
  have NB526_520 := n7_
  have NB521_526 := n8_
  have NB526_521 := n9_
  have HB := n10_
  clear n0_ n1_ n2_ n3_ n4_ n5_ n6_ n7_ n8_ n9_ n10_
  have hHeld : w14.cell? ⟨gb520, 0, none⟩ = some (.int .i64 a0_0) ∧ w14.cell? ⟨gb520, 1, none⟩ = some (.slice A0_1 l0_1.length c0_1) := hS_
  obtain ⟨Ao15, co15, eo15⟩ := Kd.R_slice HO525.out
  (first | subst eo15 | (injection eo15 with f1_ f2_ f3_; have f4_ := f1_.symm; have f5_ := f3_.symm; clear f1_ f2_ f3_; subst f4_; subst f5_))
  refine norm_ (a' := ?_) ?_ ?_
  rotate_left
  ·simp only [putAll, Act.put, List.setIfInBounds_toArray, List.set_cons_zero, List.set_cons_succ]
   rfl
  refine oneW 7 (none) (bm 8 255) HT_ (fun K hK => ?_)
  obtain ⟨_, _, _, _⟩ := blk2 BK526
  refine skip_ (w1 := ?_) (by rfl) rfl ?_ ?_
  rotate_left
  ·go_simp
   rfl
  refine hK.out _ _ ⟨(cF (cF hHeld.1)), (cF (cF hHeld.2))⟩ (fun hHeld => ?_)
  clear hK K
  refine doneW HT_ ?_
  obtain ⟨_, _, _, _⟩ := blk2 BK526
  try go_wp2
  go_loopg [20] k (fun kq v20 w' => ∃ (x20_1 : Int) (x527001_1 : List Int) (u527001 : Value), v20 = .int .i64 x20_1 ∧ Fc (spec_CloseRelation.l0 kq (t523.length : Int) x20_1 a0_0 x527001_1 = some (r1, r2, r3)) ∧ Fc (kq ≤ k) ∧ Fc (Kd.R (Kd.int .i64) 3 w' w.heap.size (fun _ => True) u527001 x527001_1) ∧ Fc (w'.heap[gb520]? = some (.cells #[.int .i64 a0_0, (.slice A0_1 l0_1.length c0_1)] 28 (0, 0))) ∧ Fc (w'.heap[gb521]? = some (.cells #[.int .i64 0, (.slice none 0 0)] 28 (0, 0))) ∧ Fc (w'.heap[gb526]? = some (.cells #[.int .i64 a0_0, u527001] 28 (0, 0))) ∧ Fc (Below w.heap.size w w'))
  case atStart => exact ⟨(0), (t523), (.slice Ao15 t523.length co15), eqS, H', ⟨Nat.le_refl _⟩, ⟨Kd.R_g (Kd.R_mono (rF HO525 BK526) (fun _ _ => trivial))⟩, ⟨blkT BK520⟩, ⟨blkT BK521⟩, ⟨blkT BK526⟩, hbg HB⟩
  case round =>
   clear H'
   try clear c3
   obtain ⟨x20_1, x527001_1, u527001, rfl, HA, HK1, HO_527001, BK520, BK521, BK526, HB⟩ := hrel
   cases gk with
   | zero => exact absurd HA.out (by simp [spec_CloseRelation.l0])
   | succ k1 =>
    have H := HA.out
    clear HA
    simp only [spec_CloseRelation.l0] at H
    rcases iteE H with ⟨c21b0, H⟩ | ⟨c21b0, H⟩
    ·have H' := mkA H
     clear H
     obtain ⟨_, _, _, _⟩ := blk2 BK526
     obtain ⟨Ao25, co25, rfl⟩ := Kd.R_slice HO_527001.out
     go_wp2
     go_loopg [26] k1 (fun kq v26 w' => ∃ (x26_2 : Int) (x527001_2 : List Int) (u527001 : Value), v26 = .int .i64 x26_2 ∧ Fc (spec_CloseRelation.l1 kq x20_1 (t523.length : Int) x20_1 (x527001_1.length : Int) x26_2 a0_0 x527001_2 = some (r1, r2, r3)) ∧ Fc (kq ≤ k1) ∧ Fc (Kd.R (Kd.int .i64) 3 w' w.heap.size (fun _ => True) u527001 x527001_2) ∧ Fc (w'.heap[gb520]? = some (.cells #[.int .i64 a0_0, (.slice A0_1 l0_1.length c0_1)] 28 (0, 0))) ∧ Fc (w'.heap[gb521]? = some (.cells #[.int .i64 0, (.slice none 0 0)] 28 (0, 0))) ∧ Fc (w'.heap[gb526]? = some (.cells #[.int .i64 a0_0, u527001] 28 (0, 0))) ∧ Fc (Below w.heap.size w w'))
     case atStart => exact ⟨(0), (x527001_1), (.slice Ao25 x527001_1.length co25), eqS, H', ⟨Nat.le_refl _⟩, rg HO_527001, bg BK520, bg BK521, bg BK526, hbg HB⟩
     case round =>
      clear H'
      try clear c3
      try clear c21b0
      obtain ⟨x26_2, x527001_2, u527001, rfl, HA, HK2, HO_527001, BK520, BK521, BK526, HB⟩ := hrel
      cases gk with
      | zero => exact absurd HA.out (by simp [spec_CloseRelation.l1])
      | succ k2 =>
       have H := HA.out
       clear HA
       simp only [spec_CloseRelation.l1] at H
       rcases iteE H with ⟨c26b0, H⟩ | ⟨c26b0, H⟩
       ·obtain ⟨c27b0, H⟩ := itND H
        obtain ⟨c28b0, H⟩ := itND H
        obtain ⟨t528, A29, H⟩ := obE H
        by_cases c30 : t528 = true
        ·subst c30
         replace H := ifT H
         obtain ⟨c31b0, H⟩ := itND H
         obtain ⟨c32b0, H⟩ := itND H
         obtain ⟨y531, hy531⟩ : ∃ y_ : List Int, y_ = (x527001_2.set (x26_2 : Int).toNat (Go.bits .or .i64 (rd x527001_2 x26_2) (rd x527001_2 x20_1))) := ⟨_, rfl⟩
         rw [← hy531] at H
         have Ny531 := mkA hy531
         clear hy531
         have H' := mkA H
         clear H
         obtain ⟨_, _, _, _⟩ := blk2 BK526
         obtain ⟨Ao37, co37, rfl⟩ := Kd.R_slice HO_527001.out
         obtain ⟨p527, q527, ad527, e527, hx527_0⟩ := atI (Kd.R_reads' HO_527001.out).2.2 x26_2
         cases e527
         try go_wp2_with (first | ((with_reducible refine gate_callee (f := 55) rfl ?_); refine goesQ (some 35) Tryd.func55 #[.int .i64 (rd x527001_2 x26_2), .int .i64 x20_1] ?_; (with_reducible refine (spec_orHas.calls (rd x527001_2 x26_2) x20_1 true _ A29.out).mono ?_); rintro e w' ⟨rfl, ⟨nd, rfl⟩⟩; refine ⟨_, rfl, ?_⟩; (try (rw [drewN_self wr]; generalize hq_ : World.drewN wr _ = wr; have n0_ : Fc (Kd.R (Kd.int .i64) 3 wr w.heap.size (fun _ => True) (.slice (some ad527) x527001_2.length co37) x527001_2) := ⟨by rw [← hq_]; exact (Kd.R_g HO_527001.out)⟩; have n1_ : Fc (wr.heap[gb520]? = some (.cells #[.int .i64 a0_0, .slice A0_1 l0_1.length c0_1] 28 (0, 0))) := ⟨by rw [← hq_]; exact (blk_g BK520.out)⟩; have n2_ : Fc (wr.heap[gb521]? = some (.cells #[.int .i64 0, .slice none 0 0] 28 (0, 0))) := ⟨by rw [← hq_]; exact (blk_g BK521.out)⟩; have n3_ : Fc (wr.heap[gb526]? = some (.cells #[.int .i64 a0_0, .slice (some ad527) x527001_2.length co37] 28 (0, 0))) := ⟨by rw [← hq_]; exact (blk_g BK526.out)⟩; have n4_ : Fc (Below w.heap.size w wr) := ⟨by rw [← hq_]; exact (bel_g HB.out)⟩; clear HO_527001 BK520 BK521 BK526 HB hq_; have HO_527001 := n0_; have BK520 := n1_; have BK521 := n2_; have BK526 := n3_; have HB := n4_; clear n0_ n1_ n2_ n3_ n4_))))
         replace HO_527001 := mkA (Kd.R_drew HO_527001.out)
         replace BK520 := mkA (blk_drew BK520.out)
         replace BK521 := mkA (blk_drew BK521.out)
         replace BK526 := mkA (blk_drew BK526.out)
         replace HB := mkA (below_drew1 HB.out)
         obtain ⟨p529, q529, ad529, e529, hx529_0⟩ := atI (Kd.R_reads' HO_527001.out).2.2 x26_2
         obtain rfl : ad527 = ad529 := (by injection e529)
         obtain ⟨p530, q530, ad530, e530, hx530_0⟩ := atI (Kd.R_reads' HO_527001.out).2.2 x20_1
         obtain rfl : ad527 = ad530 := (by injection e530)
         have p33 : 0 ≤ (x26_2 : Int) := ofd
         have q33 : (x26_2 : Int) < ((x527001_2.length : Int) : Int) := ofd
         obtain ⟨go33, co33, eo33, gb33, gl33, cl33, HG33⟩ := Kd.R_form HO_527001.out (by omega)
         (first | cases eo33 | (injection eo33 with ea_ en_ ec_; (first | subst ea_ | (injection ea_ with ea_; subst ea_)); subst ec_; clear en_))
         have GB33 : Ge _ _ := ⟨gb33⟩
         have GG33 := mkA HG33
         clear gb33 gl33 HG33
         (first | simp only [add_plain] at hx527_0 | skip)
         (first | simp only [add_plain] at hx529_0 | skip)
         (first | simp only [add_plain] at hx530_0 | skip)
         obtain ⟨hx33_0, hf33_0⟩ := Kd.R_celln 0 HO_527001.out (x26_2 : Int) p33 q33
         replace p33 := eq_true p33
         replace q33 := eq_true q33
         have HP39 := Kd.R_putn HO_527001.out (x26_2 : Int) (Go.bits .or .i64 (rd x527001_2 x26_2) (rd x527001_2 x20_1))
         rw [← Ny531.out] at HP39
         have HQ39 := mkA HP39
         clear HP39
         refine start_ (n := 13) (S := fun w' => w'.cell? ⟨gb526, 0, none⟩ = some (.int .i64 a0_0) ∧ w'.cell? ⟨gb526, 1, none⟩ = some (.slice (some ⟨go33, 0, none⟩) x527001_2.length co37) ∧ w'.cell? ⟨go33, (x26_2).toNat, none⟩ = some (.int .i64 (rd x527001_2 x26_2)) ∧ w'.cell? ⟨go33, (x20_1).toNat, none⟩ = some (.int .i64 (rd x527001_2 x20_1))) (ds := [12]) (bm 13 0) (by kernel_rfl) rfl rfl ⟨(blk_cell BK526.out 0).trans rfl, (blk_cell BK526.out 1).trans rfl, hx529_0, hx530_0⟩ (fun hHeld => ?_); refine with_tabW spec_CloseRelation.tab11 spec_CloseRelation.bits11 (fun HT_ HW_ => ?_)
         generalize wr.drew = w38 at HO_527001 BK520 BK521 BK526 HB GG33 HQ39 hf33_0 hx33_0 hx527_0 hx529_0 hx530_0 hHeld ⊢
         refine purW 0 36 13 1 HT_ ?_
         refine purW 2 38 13 5 HT_ ?_
         refine purW 5 41 13 37 HT_ ?_
         refine purW 7 43 13 165 HT_ ?_
         refine takeW 1 (some 37) (bm 13 167) HT_ HW_ hHeld ?_
         refine purW 3 39 13 175 HT_ ?_
         refine takeW 4 (some 40) (bm 13 191) HT_ HW_ hHeld ?_
         refine takeW 6 (some 42) (bm 13 255) HT_ HW_ hHeld ?_
         refine purW 8 44 13 511 HT_ ?_
         refine takeW 9 (some 45) (bm 13 1023) HT_ HW_ hHeld ?_
         refine purW 10 46 13 2047 HT_ ?_
         refine purW 11 47 13 4095 HT_ ?_
         refine last_ (i := 12) (N := none) (bm 13 8191) rfl rfl (one_of HT_.out (by kernel_rfl)) (by decide) (fun K hK => ?_)
         refine skip_ (w1 := ?_) (by rfl) rfl ?_ ?_
         rotate_left
         ·go_simp
          rfl
         refine hK.out _ _ ?_
         clear hK K
         refine doneW HT_ ?_
         try go_wp2
         go_roundg k2
         case measure => have := HK1.out; have := HK2.out; omega
         case rel => exact ⟨(wrap64 (x26_2 + 1)), (y531), (.slice (some ⟨go33, 0, none⟩) x527001_2.length co37), eqS, H', ⟨by have := HK1.out; have := HK2.out; omega⟩, ⟨Kd.R_g HQ39.out⟩, ⟨by (with_reducible repeat (first | refine blk_drewN ?_ _ | refine blk_drew ?_ | refine blk_alloc ?_ _)); refine blk_far ?_ (by have h_ := Kd.R_ne HO_527001.out BK520.out (by decide); intro e_; exact h_ (by rw [e_]; rfl)) _; (with_reducible repeat (first | refine blk_drewN ?_ _ | refine blk_drew ?_ | refine blk_alloc ?_ _)); exact BK520.out⟩, ⟨by (with_reducible repeat (first | refine blk_drewN ?_ _ | refine blk_drew ?_ | refine blk_alloc ?_ _)); refine blk_far ?_ (by have h_ := Kd.R_ne HO_527001.out BK521.out (by decide); intro e_; exact h_ (by rw [e_]; rfl)) _; (with_reducible repeat (first | refine blk_drewN ?_ _ | refine blk_drew ?_ | refine blk_alloc ?_ _)); exact BK521.out⟩, ⟨by (with_reducible repeat (first | refine blk_drewN ?_ _ | refine blk_drew ?_ | refine blk_alloc ?_ _)); refine blk_far ?_ (by have h_ := Kd.R_ne HO_527001.out BK526.out (by decide); intro e_; exact h_ (by rw [e_]; rfl)) _; (with_reducible repeat (first | refine blk_drewN ?_ _ | refine blk_drew ?_ | refine blk_alloc ?_ _)); exact BK526.out⟩, hbg HB⟩
        ·replace c30 := Bool.eq_false_iff.mpr c30
         subst c30
         replace H := ifF H
         have H' := mkA H
         clear H
         obtain ⟨_, _, _, _⟩ := blk2 BK526
         obtain ⟨Ao43, co43, rfl⟩ := Kd.R_slice HO_527001.out
         obtain ⟨p527, q527, ad527, e527, hx527_0⟩ := atI (Kd.R_reads' HO_527001.out).2.2 x26_2
         cases e527
         go_wp2_with (first | ((with_reducible refine gate_callee (f := 55) rfl ?_); refine goesQ (some 35) Tryd.func55 #[.int .i64 (rd x527001_2 x26_2), .int .i64 x20_1] ?_; (with_reducible refine (spec_orHas.calls (rd x527001_2 x26_2) x20_1 false _ A29.out).mono ?_); rintro e w' ⟨rfl, ⟨nd, rfl⟩⟩; refine ⟨_, rfl, ?_⟩))
         go_roundg k2
         case measure => have := HK1.out; have := HK2.out; omega
         case rel => exact ⟨(wrap64 (x26_2 + 1)), (x527001_2), (.slice (some ad527) x527001_2.length co43), eqS, H', ⟨by have := HK1.out; have := HK2.out; omega⟩, rg HO_527001, bg BK520, bg BK521, bg BK526, hbg HB⟩
       ·have H' := mkA H
        clear H
        go_wp2
        go_roundg k2
        case measure => have := HK1.out; have := HK2.out; omega
        case rel => exact ⟨(wrap64 (x20_1 + 1)), (x527001_2), (u527001), eqS, H', ⟨by have := HK1.out; have := HK2.out; omega⟩, rg HO_527001, bg BK520, bg BK521, bg BK526, hbg HB⟩
    ·simp only [Option.some.injEq, Prod.mk.injEq] at H
     obtain ⟨rfl, rfl, rfl⟩ := H
     obtain ⟨_, _, _, _⟩ := blk2 BK526
     obtain ⟨_, _, _, _⟩ := blk2 BK521
     obtain ⟨Ao49, co49, rfl⟩ := Kd.R_slice HO_527001.out
     go_wp2
     refine bodyPost_ret (results_ct rfl _ _ gb521 28 #[.int .i64 a0_0, .slice Ao49 x527001_1.length co49] (0, 0) _ rfl (blkT BK521) Tryd.underlying28 rfl (by kernel_rfl)) rfl ?_
     exact ⟨_, eqE, Kd.R_g (Kd.R_mono (rF HO_527001 BK521) (fun _ _ => trivial)), bel_g HB.out⟩
 ·replace c3 := Bool.eq_false_iff.mpr c3
  subst c3
  replace H := ifF H
  simp only [Option.some.injEq, Prod.mk.injEq] at H
  obtain ⟨rfl, rfl, rfl⟩ := H
  go_enter Tryd.func92, Tryd.ntmps92
  go_wp2_with (first | ((with_reducible refine gate_dst (N := 1) rfl ?_); refine boxG HB #[.int .i64 a0_0, .slice A0_1 l0_1.length c0_1] 28 ?_; intro gb520 hg w50 BK520 GE520 hb; replace HB := bst HB hb; clear hb hg) | ((with_reducible refine gate_dst (N := 2) rfl ?_); refine boxG HB #[.int .i64 0, .slice none 0 0] 28 ?_; intro gb521 hg w51 BK521 GE521 hb; have NB520_521 := neL7 BK520 hg; have NB521_520 := neR7 BK520 hg; replace BK520 := blkB BK520 hb; replace HB := bst HB hb; clear hb hg; obtain ⟨_, _, _, _⟩ := blk2 BK520) | ((with_reducible refine gate_callee (f := 54) rfl ?_); refine goesQ (some 8) Tryd.func54 #[.agg #[.int .i64 a0_0, .slice A0_1 l0_1.length c0_1]] ?_; (with_reducible refine (spec_orRelation.calls k a0_0 _ _ l0_1 false _ ?_ ?_ A2.out).mono ?_); exact C_g HR0_1 HB; exact HC0_1.out; rintro e w54 ⟨rfl, hb⟩; refine ⟨_, rfl, ?_⟩; replace BK520 := blkB BK520 hb; replace BK521 := blkB BK521 hb; replace HB := bst HB hb; clear hb; obtain ⟨_, _, _, _⟩ := blk2 BK521))
  refine bodyPost_ret (results_ct rfl _ _ gb521 28 #[.int .i64 0, .slice none 0 0] (0, 0) _ rfl (blkT BK521) Tryd.underlying28 rfl (by kernel_rfl)) rfl ?_
  exact ⟨_, eqE, nilE, bel_g HB.out⟩
end Go.Proofs.YtmdnbjhboppkdaaDoor.Q
