import Derived.Test.YthdlkadfhbbilaaDoorBFnClosures8
namespace Go.Proofs.YthdlkadfhbbilaaDoor.Q
open Go.RowKit Go.Proofs.YthdlkadfhbbilaaDoorW.PrintWords Go.Proofs.YthdlkadfhbbilaaDoorW.PrintLast Go.Proofs.YthdlkadfhbbilaaDoorW.PrintMore
attribute [local go_sem] max2_int min2_int max_two min_two max_three min_three max_four min_four neB_f
set_option linter.unusedVariables false
set_option maxHeartbeats 8000000
set_option maxRecDepth 100000
set_option linter.unusedSimpArgs false
mutual
def impl_Order_closed.l0 : Nat → Int → Int → Int → List Int → Int → List Int → Option (Int × List Int)
 | 0, _, _, _, _, _, _ => none
 | k + 1, x13, x14, x259000, x259001, x264000, x264001 => if x14 < x13 then (impl_Order_closed.l1 k x14 x13 x14 x259000 0 x259000 x259001 x264000 x264001) else (some (x264000, x264001))
def impl_Order_closed.l1 : Nat → Int → Int → Int → Int → Int → Int → List Int → Int → List Int → Option (Int × List Int)
 | 0, _, _, _, _, _, _, _, _, _ => none
 | k + 1, x4, x13, x14, x18, x19, x259000, x259001, x264000, x264001 => if x19 < x18 then ((impl_Order_better.f x264000 x264001 x19 x4).bind fun t264 => (if t264 = true then (if 0 ≤ x19 then (if x19 < (x264001.length : Int) then (if 0 ≤ x4 then (if x4 < (x264001.length : Int) then (impl_Order_closed.l1 k x4 x13 x14 x18 (wrap64 (x19 + 1)) x259000 x259001 x264000 (x264001.set (x19 : Int).toNat (Go.bits .or .i64 (rd x264001 x19) (rd x264001 x4)))) else (none)) else (none)) else (none)) else (none)) else (impl_Order_closed.l1 k x4 x13 x14 x18 (wrap64 (x19 + 1)) x259000 x259001 x264000 x264001))) else (impl_Order_closed.l0 k x13 (wrap64 (x14 + 1)) x259000 x259001 x264000 x264001)
end
def impl_Order_closed.f (k : Nat) (a0_0 : Int) (l0_1 : List Int) : Option (Int × List Int) := (slices_Clone_int_int.f l0_1).bind fun t260 => (impl_Order_closed.l0 k a0_0 0 a0_0 l0_1 a0_0 t260)
theorem impl_Order_closed.mono_l : ∀ k, (∀ y0 y1 y2 y3 y4 y5, LeO (impl_Order_closed.l0 k y0 y1 y2 y3 y4 y5) (impl_Order_closed.l0 (k + 1) y0 y1 y2 y3 y4 y5)) ∧ (∀ y0 y1 y2 y3 y4 y5 y6 y7 y8, LeO (impl_Order_closed.l1 k y0 y1 y2 y3 y4 y5 y6 y7 y8) (impl_Order_closed.l1 (k + 1) y0 y1 y2 y3 y4 y5 y6 y7 y8))
 | 0 => ⟨fun _ _ _ _ _ _ r h => by simp [impl_Order_closed.l0] at h, fun _ _ _ _ _ _ _ _ _ r h => by simp [impl_Order_closed.l1] at h⟩
 | k + 1 => by
  obtain ⟨ih0, ih1⟩ := impl_Order_closed.mono_l k
  refine ⟨?_, ?_⟩ <;> intros
  unfold impl_Order_closed.l0
  rotate_left
  unfold impl_Order_closed.l1
  rotate_left
  all_goals repeat' (with_reducible first|apply ih0|apply ih1|apply LeO.refl|apply LeO.none|apply LeO.ite|apply LeO.bind|intro)
theorem impl_Order_closed.mono : ∀ a0 a1 k, LeO (impl_Order_closed.f k a0 a1) (impl_Order_closed.f (k + 1) a0 a1) := by
 intro a0 a1 k
 obtain ⟨ih0, ih1⟩ := impl_Order_closed.mono_l k
 unfold impl_Order_closed.f
 repeat' (with_reducible first|apply ih0|apply ih1|apply LeO.refl|apply LeO.none|apply LeO.ite|apply LeO.bind|intro)
def impl_Order_closed.T1 : Bool × List (List Nat × List Nat) := (true, [([], []), ([0], [0]), ([], []), ([2], [2]), ([3], [3]), ([1, 4], [1, 4]), ([], []), ([6, 5, 4, 0, 1, 2, 3, 4, 5, 6], [5, 6])])
def impl_Order_closed.B1 : List Nat := [0, 1, 0, 4, 12, 31, 0, 127]
theorem impl_Order_closed.tab1 : rtab .any (opsOf Tryd.f17 1) = impl_Order_closed.T1 := by kernel_rfl
theorem impl_Order_closed.bits1 : waitsOk impl_Order_closed.T1.2 impl_Order_closed.B1 = true := by kernel_rfl
def impl_Order_closed.T9 : Bool × List (List Nat × List Nat) := (true, [([], []), ([0], [0]), ([], []), ([1, 2], [1, 2]), ([3], [3]), ([], []), ([5], [5]), ([], []), ([6, 7], [6, 7]), ([8], [8]), ([4, 9], [4, 9]), ([1, 2, 0, 1, 2, 3, 4, 5, 6, 7, 8, 9, 10], [1, 2]), ([11, 10, 0, 1, 2, 3, 4, 5, 6, 7, 8, 9, 10], [10, 11])])
def impl_Order_closed.B9 : List Nat := [0, 1, 0, 7, 15, 0, 32, 0, 224, 480, 1023, 2047, 4095]
theorem impl_Order_closed.tab9 : rtab .any (opsOf Tryd.f17 9) = impl_Order_closed.T9 := by kernel_rfl
theorem impl_Order_closed.bits9 : waitsOk impl_Order_closed.T9.2 impl_Order_closed.B9 = true := by kernel_rfl
theorem impl_Order_closed.calls (k : Nat) (a0_0 : Int) (A0_1 : Option Addr) (c0_1 : Nat) (l0_1 : List Int) (r1 : Int) (r2 : List Int) (w : World) (hr0_1 : Kd.C (Kd.int .i64) w A0_1 l0_1.length l0_1) (hc0_1 : l0_1.length ≤ c0_1) (h : impl_Order_closed.f k a0_0 l0_1 = some (r1, r2)) :
  Calls Tryd.prog 17 #[.agg #[.int .i64 a0_0, .slice A0_1 l0_1.length c0_1]] w fun e w' => ∃ v1_ : Value, e = .returned (.agg #[.int .i64 r1, v1_]) ∧ Kd.R (Kd.int .i64) 3 w' w.heap.size (fun _ => True) v1_ r2 ∧ Below w.heap.size w w' := by
 have hu26 := Tryd.underlying26
 have HR0_1 := mkA hr0_1
 have HC0_1 := mkA hc0_1
 clear hr0_1 hc0_1
 have HB := mkA (Below.refl w.heap.size w)
 have H := h
 clear h
 unfold impl_Order_closed.f at H
 obtain ⟨t260, A2, H⟩ := obE H
 have H' := mkA H
 clear H
 go_enter Tryd.func17, Tryd.ntmps17
 try go_wp2_with (first | ((with_reducible refine gate_dst (N := 1) rfl ?_); refine boxG HB #[.int .i64 a0_0, .slice A0_1 l0_1.length c0_1] 26 ?_; intro gb258 hg w3 BK258 GE258 hb; replace HB := bst HB hb; clear hb hg) | ((with_reducible refine gate_dst (N := 2) rfl ?_); refine boxG HB #[.int .i64 0, .slice none 0 0] 26 ?_; intro gb259 hg w4 BK259 GE259 hb; have NB258_259 := neL7 BK258 hg; have NB259_258 := neR7 BK258 hg; replace BK258 := blkB BK258 hb; replace HB := bst HB hb; clear hb hg))
 replace BK258 := mkA (blk_drew BK258.out)
 replace BK259 := mkA (blk_drew BK259.out)
 replace HB := mkA (below_drew1 HB.out)
 refine start_ (n := 8) (S := fun w' => w'.cell? ⟨gb258, 0, none⟩ = some (.int .i64 a0_0) ∧ w'.cell? ⟨gb258, 1, none⟩ = some (.slice A0_1 l0_1.length c0_1)) (ds := []) (bm 8 0) (by kernel_rfl) rfl (by kernel_rfl) ⟨(blk_cell BK258.out 0).trans rfl, (blk_cell BK258.out 1).trans rfl⟩ (fun hHeld => ?_); refine with_tabW impl_Order_closed.tab1 impl_Order_closed.bits1 (fun HT_ HW_ => ?_)
 generalize w4.drew = w5 at BK258 BK259 HB hHeld ⊢
 refine purW 0 6 8 1 HT_ ?_
 refine purW 2 8 8 5 HT_ ?_
 refine takeW 1 (some 7) (bm 8 7) HT_ HW_ hHeld ?_
 refine takeW 3 (some 9) (bm 8 15) HT_ HW_ hHeld ?_
 refine join_ (σ := Value × Nat) 1 (bm 8 127) (fun s_ => [(10, s_.1), (3, .pointer (some ⟨s_.2, 0, none⟩)), (11, .agg #[.int .i64 a0_0, s_.1])]) (fun s_ w' => (w'.cell? ⟨gb258, 0, none⟩ = some (.int .i64 a0_0) ∧ w'.cell? ⟨gb258, 1, none⟩ = some (.slice A0_1 l0_1.length c0_1)) ∧ (Kd.R (Kd.int .i64) 3 w' w.heap.size (fun _ => True) s_.1 t260) ∧ (w'.heap[gb258]? = some (.cells #[.int .i64 a0_0, .slice A0_1 l0_1.length c0_1] 26 (0, 0))) ∧ (w'.heap[gb259]? = some (.cells #[.int .i64 0, .slice none 0 0] 26 (0, 0))) ∧ (w'.heap[s_.2]? = some (.cells #[.int .i64 0, .slice none 0 0] 26 (0, 0))) ∧ (w.heap.size ≤ s_.2) ∧ (w.heap.size ≤ s_.2) ∧ (gb258 ≠ s_.2) ∧ (s_.2 ≠ gb258) ∧ (gb259 ≠ s_.2) ∧ (s_.2 ≠ gb259) ∧ (Below w.heap.size w w')) ?_ ?_
 rotate_left
 ·intro hCont
  refine two_ (i := 4) (j := 6) (Ni := some 10) (Nj := some 3) (bm 8 31) (bm 8 79) rfl rfl rfl rfl (two_of HT_.out (by kernel_rfl)) (by decide) (by decide) (fun K hK => ?_) (fun K hK => ?_)
  ·skip
   refine goesR Tryd.func34 #[.slice A0_1 l0_1.length c0_1] ?_
   with_reducible refine (slices_Clone_int_int.calls _ _ l0_1 t260 _ ?s1 ?s2 A2.out).mono ?_
   (case s1 => exact C_g HR0_1 HB)
   (case s2 => exact HC0_1.out)
   rintro e w6 ⟨v261, rfl, ho0, hb⟩
   refine ⟨_, rfl, ?_⟩
   have HO262 := rLo ho0 HB
   replace BK258 := blkB BK258 hb
   replace BK259 := blkB BK259 hb
   replace HB := bst HB hb
   (try clear hb)
   (try clear hb2)
   (try clear hk)
   (try clear hi)
   (try clear ho0)
   obtain ⟨Ao7, co7, eo7⟩ := Kd.R_slice HO262.out
   (first | subst eo7 | (injection eo7 with f1_ f2_ f3_; have f4_ := f1_.symm; have f5_ := f3_.symm; clear f1_ f2_ f3_; subst f4_; subst f5_))
   refine hK.out _ _ ⟨(blk_cell BK258.out 0).trans rfl, (blk_cell BK258.out 1).trans rfl⟩ (fun hHeld => ?_)
   clear hK K
   refine normW 10 ?_
   refine purW 5 11 8 63 HT_ ?_
   refine oneW 6 (some 3) (bm 8 127) HT_ (fun K hK => ?_)
   refine box_step ?hg (N := 3) ?hd (cs := #[.int .i64 0, .slice none 0 0]) (t := 26) ?hr ?_; (case hd => rfl); (case hg => rfl); (case hr => first | (go_simp; done) | (go_simp; rfl))
   intro gb263 hg w8 hbox hb
   replace HO262 := rB HO262 hb
   have BK263 := mkA (hbox)
   have GW263 := geB HB hg
   have GE263 := geB HB hg
   have NB258_263 := neL7 BK258 hg
   have NB263_258 := neR7 BK258 hg
   replace BK258 := blkB BK258 hb
   have NB259_263 := neL7 BK259 hg
   have NB263_259 := neR7 BK259 hg
   replace BK259 := blkB BK259 hb
   replace HB := bst HB hb
   clear hb hbox hg
   refine hK.out _ _ ⟨(blk_cell BK258.out 0).trans rfl, (blk_cell BK258.out 1).trans rfl⟩ (fun hHeld => ?_)
   clear hK K
   refine normW 3 ?_
   exact norm_ (by simp only [putAll, Act.put, List.setIfInBounds_toArray, List.set_cons_zero, List.set_cons_succ]) (hCont (.slice Ao7 t260.length co7, gb263) _ ⟨hHeld, (Kd.R_g HO262.out), (blk_g BK258.out), (blk_g BK259.out), (blk_g BK263.out), GW263.out, GE263.out, NB258_263.out, NB263_258.out, NB259_263.out, NB263_259.out, (bel_g HB.out)⟩)
  ·skip
   refine box_step ?hg (N := 3) ?hd (cs := #[.int .i64 0, .slice none 0 0]) (t := 26) ?hr ?_; (case hd => rfl); (case hg => rfl); (case hr => first | (go_simp; done) | (go_simp; rfl))
   intro gb263 hg w6 hbox hb
   have BK263 := mkA (hbox)
   have GW263 := geB HB hg
   have GE263 := geB HB hg
   have NB258_263 := neL7 BK258 hg
   have NB263_258 := neR7 BK258 hg
   replace BK258 := blkB BK258 hb
   have NB259_263 := neL7 BK259 hg
   have NB263_259 := neR7 BK259 hg
   replace BK259 := blkB BK259 hb
   replace HB := bst HB hb
   clear hb hbox hg
   refine hK.out _ _ ⟨(blk_cell BK258.out 0).trans rfl, (blk_cell BK258.out 1).trans rfl⟩ (fun hHeld => ?_)
   clear hK K
   refine normW 3 ?_
   refine oneW 4 (some 10) (bm 8 95) HT_ (fun K hK => ?_)
   refine goesR Tryd.func34 #[.slice A0_1 l0_1.length c0_1] ?_
   with_reducible refine (slices_Clone_int_int.calls _ _ l0_1 t260 _ ?s1 ?s2 A2.out).mono ?_
   (case s1 => exact C_g HR0_1 HB)
   (case s2 => exact HC0_1.out)
   rintro e w7 ⟨v261, rfl, ho0, hb⟩
   refine ⟨_, rfl, ?_⟩
   have HO262 := rLo ho0 HB
   replace BK258 := blkB BK258 hb
   replace BK259 := blkB BK259 hb
   replace BK263 := blkB BK263 hb
   replace HB := bst HB hb
   (try clear hb)
   (try clear hb2)
   (try clear hk)
   (try clear hi)
   (try clear ho0)
   obtain ⟨Ao8, co8, eo8⟩ := Kd.R_slice HO262.out
   (first | subst eo8 | (injection eo8 with f1_ f2_ f3_; have f4_ := f1_.symm; have f5_ := f3_.symm; clear f1_ f2_ f3_; subst f4_; subst f5_))
   refine hK.out _ _ ⟨(blk_cell BK258.out 0).trans rfl, (blk_cell BK258.out 1).trans rfl⟩ (fun hHeld => ?_)
   clear hK K
   refine normW 10 ?_
   refine purW 5 11 8 127 HT_ ?_
   exact norm_ (by simp only [putAll, Act.put, List.setIfInBounds_toArray, List.set_cons_zero, List.set_cons_succ]) (hCont (.slice Ao8 t260.length co8, gb263) _ ⟨hHeld, (Kd.R_g HO262.out), (blk_g BK258.out), (blk_g BK259.out), (blk_g BK263.out), GW263.out, GE263.out, NB258_263.out, NB263_258.out, NB259_263.out, NB263_259.out, (bel_g HB.out)⟩)
 rintro ⟨v261, gb263⟩ w9 ⟨hS_, h0_, h1_, h2_, h3_, h4_, h5_, h6_, h7_, h8_, h9_, h10_⟩
 have n0_ : Fc (Kd.R (Kd.int .i64) 3 w9 w.heap.size (fun _ => True) v261 t260) := ⟨h0_⟩
 have n1_ : Fc (w9.heap[gb258]? = some (.cells #[.int .i64 a0_0, .slice A0_1 l0_1.length c0_1] 26 (0, 0))) := ⟨h1_⟩
 have n2_ : Fc (w9.heap[gb259]? = some (.cells #[.int .i64 0, .slice none 0 0] 26 (0, 0))) := ⟨h2_⟩
 have n3_ : Fc (w9.heap[gb263]? = some (.cells #[.int .i64 0, .slice none 0 0] 26 (0, 0))) := ⟨h3_⟩
 have n4_ : Ge w.heap.size gb263 := ⟨h4_⟩
 have n5_ : Ge w.heap.size gb263 := ⟨h5_⟩
 have n6_ : NeB gb258 gb263 := ⟨h6_⟩
 have n7_ : NeB gb263 gb258 := ⟨h7_⟩
 have n8_ : NeB gb259 gb263 := ⟨h8_⟩
 have n9_ : NeB gb263 gb259 := ⟨h9_⟩
 have n10_ : Fc (Below w.heap.size w w9) := ⟨h10_⟩
 clear BK258
 clear BK259
 clear HB
 clear h0_ h1_ h2_ h3_ h4_ h5_ h6_ h7_ h8_ h9_ h10_
 have HO262 := n0_
 have BK258 := n1_
 have BK259 := n2_
 have BK263 := n3_
 have GW263 := n4_
 have GE263 := n5_
 have NB258_263 := n6_
 have NB263_258 := n7_
 have NB259_263 := n8_
 have NB263_259 := n9_
 have HB := n10_
 clear n0_ n1_ n2_ n3_ n4_ n5_ n6_ n7_ n8_ n9_ n10_
 have hHeld : w9.cell? ⟨gb258, 0, none⟩ = some (.int .i64 a0_0) ∧ w9.cell? ⟨gb258, 1, none⟩ = some (.slice A0_1 l0_1.length c0_1) := hS_
 obtain ⟨Ao10, co10, eo10⟩ := Kd.R_slice HO262.out
 (first | subst eo10 | (injection eo10 with f1_ f2_ f3_; have f4_ := f1_.symm; have f5_ := f3_.symm; clear f1_ f2_ f3_; subst f4_; subst f5_))
 refine norm_ (a' := ?_) ?_ ?_
 rotate_left
 ·simp only [putAll, Act.put, List.setIfInBounds_toArray, List.set_cons_zero, List.set_cons_succ]
  rfl
 refine oneW 7 (none) (bm 8 255) HT_ (fun K hK => ?_)
 obtain ⟨_, _, _, _⟩ := blk2 BK263
 refine skip_ (w1 := ?_) (by rfl) rfl ?_ ?_
 rotate_left
 ·go_simp
  rfl
 refine hK.out _ _ ⟨(cF (cF hHeld.1)), (cF (cF hHeld.2))⟩ (fun hHeld => ?_)
 clear hK K
 refine doneW HT_ ?_
 obtain ⟨_, _, _, _⟩ := blk2 BK258
 try go_wp2
 go_loopg [14] k (fun kq v14 w' => ∃ (x14_1 : Int) (x264001_1 : List Int) (u264001 : Value), v14 = .int .i64 x14_1 ∧ Fc (impl_Order_closed.l0 kq a0_0 x14_1 a0_0 l0_1 a0_0 x264001_1 = some (r1, r2)) ∧ Fc (kq ≤ k) ∧ Fc (Kd.R (Kd.int .i64) 3 w' w.heap.size (fun _ => True) u264001 x264001_1) ∧ Fc (w'.heap[gb258]? = some (.cells #[.int .i64 a0_0, (.slice A0_1 l0_1.length c0_1)] 26 (0, 0))) ∧ Fc (w'.heap[gb259]? = some (.cells #[.int .i64 0, (.slice none 0 0)] 26 (0, 0))) ∧ Fc (w'.heap[gb263]? = some (.cells #[.int .i64 a0_0, u264001] 26 (0, 0))) ∧ Fc (Below w.heap.size w w'))
 case atStart => exact ⟨(0), (t260), (.slice Ao10 t260.length co10), eqS, H', ⟨Nat.le_refl _⟩, ⟨Kd.R_g (Kd.R_mono (rF HO262 BK263) (fun _ _ => trivial))⟩, ⟨blkT BK258⟩, ⟨blkT BK259⟩, ⟨blkT BK263⟩, hbg HB⟩
 case round =>
  clear H'
  obtain ⟨x14_1, x264001_1, u264001, rfl, HA, HK1, HO_264001, BK258, BK259, BK263, HB⟩ := hrel
  cases gk with
  | zero => exact absurd HA.out (by simp [impl_Order_closed.l0])
  | succ k1 =>
   have H := HA.out
   clear HA
   simp only [impl_Order_closed.l0] at H
   rcases iteE H with ⟨c16b0, H⟩ | ⟨c16b0, H⟩
   ·have H' := mkA H
    clear H
    obtain ⟨_, _, _, _⟩ := blk2 BK258
    go_wp2
    go_loopg [19] k1 (fun kq v19 w' => ∃ (x19_2 : Int) (x264001_2 : List Int) (u264001 : Value), v19 = .int .i64 x19_2 ∧ Fc (impl_Order_closed.l1 kq x14_1 a0_0 x14_1 a0_0 x19_2 a0_0 l0_1 a0_0 x264001_2 = some (r1, r2)) ∧ Fc (kq ≤ k1) ∧ Fc (Kd.R (Kd.int .i64) 3 w' w.heap.size (fun _ => True) u264001 x264001_2) ∧ Fc (w'.heap[gb258]? = some (.cells #[.int .i64 a0_0, (.slice A0_1 l0_1.length c0_1)] 26 (0, 0))) ∧ Fc (w'.heap[gb259]? = some (.cells #[.int .i64 0, (.slice none 0 0)] 26 (0, 0))) ∧ Fc (w'.heap[gb263]? = some (.cells #[.int .i64 a0_0, u264001] 26 (0, 0))) ∧ Fc (Below w.heap.size w w'))
    case atStart => exact ⟨(0), (x264001_1), (u264001), eqS, H', ⟨Nat.le_refl _⟩, rg HO_264001, bg BK258, bg BK259, bg BK263, hbg HB⟩
    case round =>
     clear H'
     try clear c16b0
     obtain ⟨x19_2, x264001_2, u264001, rfl, HA, HK2, HO_264001, BK258, BK259, BK263, HB⟩ := hrel
     cases gk with
     | zero => exact absurd HA.out (by simp [impl_Order_closed.l1])
     | succ k2 =>
      have H := HA.out
      clear HA
      simp only [impl_Order_closed.l1] at H
      rcases iteE H with ⟨c20b0, H⟩ | ⟨c20b0, H⟩
      ·obtain ⟨t264, A21, H⟩ := obE H
       by_cases c22 : t264 = true
       ·subst c22
        replace H := ifT H
        obtain ⟨c23b0, H⟩ := itND H
        obtain ⟨c24b0, H⟩ := itND H
        obtain ⟨c25b0, H⟩ := itND H
        obtain ⟨c26b0, H⟩ := itND H
        obtain ⟨y267, hy267⟩ : ∃ y_ : List Int, y_ = (x264001_2.set (x19_2 : Int).toNat (Go.bits .or .i64 (rd x264001_2 x19_2) (rd x264001_2 x14_1))) := ⟨_, rfl⟩
        rw [← hy267] at H
        have Ny267 := mkA hy267
        clear hy267
        have H' := mkA H
        clear H
        obtain ⟨_, _, _, _⟩ := blk2 BK263
        obtain ⟨Ao31, co31, rfl⟩ := Kd.R_slice HO_264001.out
        try go_wp2_with (first | ((with_reducible refine gate_callee (f := 25) rfl ?_); refine goesQ (some 25) Tryd.func25 #[.agg #[.int .i64 a0_0, .slice Ao31 x264001_2.length co31], .int .i64 x19_2, .int .i64 x14_1] ?_; (with_reducible refine (impl_Order_better.calls a0_0 _ _ x264001_2 x19_2 x14_1 true _ ?_ ?_ A21.out).mono ?_); exact rC HO_264001; exact rL HO_264001; rintro e w32 ⟨rfl, hb⟩; refine ⟨_, rfl, ?_⟩; replace HO_264001 := rB HO_264001 hb; replace BK258 := blkB BK258 hb; replace BK259 := blkB BK259 hb; replace BK263 := blkB BK263 hb; replace HB := bst HB hb; clear hb))
        replace HO_264001 := mkA (Kd.R_drew HO_264001.out)
        replace BK258 := mkA (blk_drew BK258.out)
        replace BK259 := mkA (blk_drew BK259.out)
        replace BK263 := mkA (blk_drew BK263.out)
        replace HB := mkA (below_drew1 HB.out)
        obtain ⟨p265, q265, ad265, e265, hx265_0⟩ := atI (Kd.R_reads' HO_264001.out).2.2 x19_2
        cases e265
        obtain ⟨p266, q266, ad266, e266, hx266_0⟩ := atI (Kd.R_reads' HO_264001.out).2.2 x14_1
        obtain rfl : ad265 = ad266 := (by injection e266)
        have p27 : 0 ≤ (x19_2 : Int) := ofd
        have q27 : (x19_2 : Int) < ((x264001_2.length : Int) : Int) := ofd
        obtain ⟨go27, co27, eo27, gb27, gl27, cl27, HG27⟩ := Kd.R_form HO_264001.out (by omega)
        (first | cases eo27 | (injection eo27 with ea_ en_ ec_; (first | subst ea_ | (injection ea_ with ea_; subst ea_)); subst ec_; clear en_))
        have GB27 : Ge _ _ := ⟨gb27⟩
        have GG27 := mkA HG27
        clear gb27 gl27 HG27
        (first | simp only [add_plain] at hx265_0 | skip)
        (first | simp only [add_plain] at hx266_0 | skip)
        obtain ⟨hx27_0, hf27_0⟩ := Kd.R_celln 0 HO_264001.out (x19_2 : Int) p27 q27
        replace p27 := eq_true p27
        replace q27 := eq_true q27
        have HP34 := Kd.R_putn HO_264001.out (x19_2 : Int) (Go.bits .or .i64 (rd x264001_2 x19_2) (rd x264001_2 x14_1))
        rw [← Ny267.out] at HP34
        have HQ34 := mkA HP34
        clear HP34
        refine start_ (n := 13) (S := fun w' => w'.cell? ⟨gb263, 0, none⟩ = some (.int .i64 a0_0) ∧ w'.cell? ⟨gb263, 1, none⟩ = some (.slice (some ⟨go27, 0, none⟩) x264001_2.length co31) ∧ w'.cell? ⟨go27, (x19_2).toNat, none⟩ = some (.int .i64 (rd x264001_2 x19_2)) ∧ w'.cell? ⟨go27, (x14_1).toNat, none⟩ = some (.int .i64 (rd x264001_2 x14_1))) (ds := [12]) (bm 13 0) (by kernel_rfl) rfl rfl ⟨(blk_cell BK263.out 0).trans rfl, (blk_cell BK263.out 1).trans rfl, hx265_0, hx266_0⟩ (fun hHeld => ?_); refine with_tabW impl_Order_closed.tab9 impl_Order_closed.bits9 (fun HT_ HW_ => ?_)
        generalize w32.drew = w33 at HO_264001 BK258 BK259 BK263 HB GG27 HQ34 hf27_0 hx265_0 hx266_0 hx27_0 hHeld ⊢
        refine purW 0 26 13 1 HT_ ?_
        refine purW 2 28 13 5 HT_ ?_
        refine purW 5 31 13 37 HT_ ?_
        refine purW 7 33 13 165 HT_ ?_
        refine takeW 1 (some 27) (bm 13 167) HT_ HW_ hHeld ?_
        refine purW 3 29 13 175 HT_ ?_
        refine takeW 4 (some 30) (bm 13 191) HT_ HW_ hHeld ?_
        refine takeW 6 (some 32) (bm 13 255) HT_ HW_ hHeld ?_
        refine purW 8 34 13 511 HT_ ?_
        refine takeW 9 (some 35) (bm 13 1023) HT_ HW_ hHeld ?_
        refine purW 10 36 13 2047 HT_ ?_
        refine purW 11 37 13 4095 HT_ ?_
        refine last_ (i := 12) (N := none) (bm 13 8191) rfl rfl (one_of HT_.out (by kernel_rfl)) (by decide) (fun K hK => ?_)
        refine skip_ (w1 := ?_) (by rfl) rfl ?_ ?_
        rotate_left
        ·go_simp
         rfl
        refine hK.out _ _ ?_
        clear hK K
        refine doneW HT_ ?_
        try go_wp2
        go_roundg k2
        case measure => have := HK1.out; have := HK2.out; omega
        case rel => exact ⟨(wrap64 (x19_2 + 1)), (y267), (.slice (some ⟨go27, 0, none⟩) x264001_2.length co31), eqS, H', ⟨by have := HK1.out; have := HK2.out; omega⟩, ⟨Kd.R_g HQ34.out⟩, ⟨by (with_reducible repeat (first | refine blk_drewN ?_ _ | refine blk_drew ?_ | refine blk_alloc ?_ _)); refine blk_far ?_ (by have h_ := Kd.R_ne HO_264001.out BK258.out (by decide); intro e_; exact h_ (by rw [e_]; rfl)) _; (with_reducible repeat (first | refine blk_drewN ?_ _ | refine blk_drew ?_ | refine blk_alloc ?_ _)); exact BK258.out⟩, ⟨by (with_reducible repeat (first | refine blk_drewN ?_ _ | refine blk_drew ?_ | refine blk_alloc ?_ _)); refine blk_far ?_ (by have h_ := Kd.R_ne HO_264001.out BK259.out (by decide); intro e_; exact h_ (by rw [e_]; rfl)) _; (with_reducible repeat (first | refine blk_drewN ?_ _ | refine blk_drew ?_ | refine blk_alloc ?_ _)); exact BK259.out⟩, ⟨by (with_reducible repeat (first | refine blk_drewN ?_ _ | refine blk_drew ?_ | refine blk_alloc ?_ _)); refine blk_far ?_ (by have h_ := Kd.R_ne HO_264001.out BK263.out (by decide); intro e_; exact h_ (by rw [e_]; rfl)) _; (with_reducible repeat (first | refine blk_drewN ?_ _ | refine blk_drew ?_ | refine blk_alloc ?_ _)); exact BK263.out⟩, hbg HB⟩
       ·replace c22 := Bool.eq_false_iff.mpr c22
        subst c22
        replace H := ifF H
        have H' := mkA H
        clear H
        obtain ⟨_, _, _, _⟩ := blk2 BK263
        obtain ⟨Ao38, co38, rfl⟩ := Kd.R_slice HO_264001.out
        go_wp2_with (first | ((with_reducible refine gate_callee (f := 25) rfl ?_); refine goesQ (some 25) Tryd.func25 #[.agg #[.int .i64 a0_0, .slice Ao38 x264001_2.length co38], .int .i64 x19_2, .int .i64 x14_1] ?_; (with_reducible refine (impl_Order_better.calls a0_0 _ _ x264001_2 x19_2 x14_1 false _ ?_ ?_ A21.out).mono ?_); exact rC HO_264001; exact rL HO_264001; rintro e w39 ⟨rfl, hb⟩; refine ⟨_, rfl, ?_⟩; replace HO_264001 := rB HO_264001 hb; replace BK258 := blkB BK258 hb; replace BK259 := blkB BK259 hb; replace BK263 := blkB BK263 hb; replace HB := bst HB hb; clear hb))
        go_roundg k2
        case measure => have := HK1.out; have := HK2.out; omega
        case rel => exact ⟨(wrap64 (x19_2 + 1)), (x264001_2), (.slice Ao38 x264001_2.length co38), eqS, H', ⟨by have := HK1.out; have := HK2.out; omega⟩, rg HO_264001, bg BK258, bg BK259, bg BK263, hbg HB⟩
      ·have H' := mkA H
       clear H
       go_wp2
       go_roundg k2
       case measure => have := HK1.out; have := HK2.out; omega
       case rel => exact ⟨(wrap64 (x14_1 + 1)), (x264001_2), (u264001), eqS, H', ⟨by have := HK1.out; have := HK2.out; omega⟩, rg HO_264001, bg BK258, bg BK259, bg BK263, hbg HB⟩
   ·simp only [Option.some.injEq, Prod.mk.injEq] at H
    obtain ⟨rfl, rfl⟩ := H
    obtain ⟨_, _, _, _⟩ := blk2 BK263
    obtain ⟨_, _, _, _⟩ := blk2 BK259
    obtain ⟨Ao45, co45, rfl⟩ := Kd.R_slice HO_264001.out
    go_wp2
    refine bodyPost_ret (results_cell_row rfl _ _ gb259 26 #[.int .i64 a0_0, .slice Ao45 x264001_1.length co45] (0, 0) _ rfl (blkT BK259) Tryd.underlying26 rfl (by kernel_rfl)) rfl ?_
    exact ⟨_, eqE, Kd.R_g (Kd.R_mono (rF HO_264001 BK259) (fun _ _ => trivial)), bel_g HB.out⟩
def impl_CloseRelation.f (k : Nat) (a0_0 : Int) (l0_1 : List Int) : Option (Int × List Int × Bool) := (impl_IsRelation.f k a0_0 l0_1).bind fun t270 => (if t270 = true then ((impl_Order_closed.f k a0_0 l0_1).bind fun bt271 => (some (bt271.1, bt271.2, true))) else (some (0, ([] : List Int), false)))
theorem impl_CloseRelation.mono : ∀ a0 a1 k, LeO (impl_CloseRelation.f k a0 a1) (impl_CloseRelation.f (k + 1) a0 a1) := by
 intro a0 a1 k
 unfold impl_CloseRelation.f
 repeat' (with_reducible first|apply impl_IsRelation.mono|apply impl_Order_closed.mono|apply LeO.refl|apply LeO.none|apply LeO.ite|apply LeO.bind|intro)
theorem impl_CloseRelation.calls (k : Nat) (a0_0 : Int) (A0_1 : Option Addr) (c0_1 : Nat) (l0_1 : List Int) (r1 : Int) (r2 : List Int) (r3 : Bool) (w : World) (hr0_1 : Kd.C (Kd.int .i64) w A0_1 l0_1.length l0_1) (hc0_1 : l0_1.length ≤ c0_1) (h : impl_CloseRelation.f k a0_0 l0_1 = some (r1, r2, r3)) :
  Calls Tryd.prog 6 #[.agg #[.int .i64 a0_0, .slice A0_1 l0_1.length c0_1]] w fun e w' => ∃ v1_ : Value, e = .returned (.tuple #[.agg #[.int .i64 r1, v1_], .bool r3]) ∧ Kd.R (Kd.int .i64) 3 w' w.heap.size (fun _ => True) v1_ r2 ∧ Below w.heap.size w w' := by
 have hu26 := Tryd.underlying26
 have HR0_1 := mkA hr0_1
 have HC0_1 := mkA hc0_1
 clear hr0_1 hc0_1
 have HB := mkA (Below.refl w.heap.size w)
 have H := h
 clear h
 unfold impl_CloseRelation.f at H
 obtain ⟨t270, A2, H⟩ := obE H
 by_cases c3 : t270 = true
 ·subst c3
  replace H := ifT H
  obtain ⟨⟨t271, t272⟩, A4, H⟩ := obE H
  dsimp only at H
  simp only [Option.some.injEq, Prod.mk.injEq] at H
  obtain ⟨rfl, rfl, rfl⟩ := H
  go_enter Tryd.func6, Tryd.ntmps6
  go_wp2_with (first | ((with_reducible refine gate_dst (N := 1) rfl ?_); refine boxG HB #[.int .i64 a0_0, .slice A0_1 l0_1.length c0_1] 26 ?_; intro gb268 hg w5 BK268 GE268 hb; replace HB := bst HB hb; clear hb hg) | ((with_reducible refine gate_dst (N := 2) rfl ?_); refine boxG HB #[.int .i64 0, .slice none 0 0] 26 ?_; intro gb269 hg w6 BK269 GE269 hb; have NB268_269 := neL7 BK268 hg; have NB269_268 := neR7 BK268 hg; replace BK268 := blkB BK268 hb; replace HB := bst HB hb; clear hb hg; obtain ⟨_, _, _, _⟩ := blk2 BK268) | ((with_reducible refine gate_callee (f := 16) rfl ?_); refine goesQ (some 5) Tryd.func16 #[.agg #[.int .i64 a0_0, .slice A0_1 l0_1.length c0_1]] ?_; (with_reducible refine (impl_IsRelation.calls k a0_0 _ _ l0_1 true _ ?_ ?_ A2.out).mono ?_); exact C_g HR0_1 HB; exact HC0_1.out; rintro e w9 ⟨rfl, hb⟩; refine ⟨_, rfl, ?_⟩; replace BK268 := blkB BK268 hb; replace BK269 := blkB BK269 hb; replace HB := bst HB hb; clear hb; obtain ⟨_, _, _, _⟩ := blk2 BK268) | ((with_reducible refine gate_callee (f := 17) rfl ?_); refine goesQ (some 9) Tryd.func17 #[.agg #[.int .i64 a0_0, .slice A0_1 l0_1.length c0_1]] ?_; (with_reducible refine (impl_Order_closed.calls k a0_0 _ _ l0_1 t271 t272 _ ?_ ?_ A4.out).mono ?_); exact C_g HR0_1 HB; exact HC0_1.out; rintro e w11 ⟨v273, rfl, ho0, hb⟩; refine ⟨_, rfl, ?_⟩; have HO274 := rLo ho0 HB; replace BK268 := blkB BK268 hb; replace BK269 := blkB BK269 hb; replace HB := bst HB hb; clear hb ho0; obtain ⟨_, _, _, _⟩ := blk2 BK269; obtain ⟨Ao13, co13, rfl⟩ := Kd.R_slice HO274.out))
  refine bodyPost_ret (results_ct rfl _ _ gb269 26 #[.int .i64 t271, .slice Ao13 t272.length co13] (0, 0) _ rfl (blkT BK269) Tryd.underlying26 rfl (by kernel_rfl)) rfl ?_
  exact ⟨_, eqE, Kd.R_g (Kd.R_mono (rF HO274 BK269) (fun _ _ => trivial)), bel_g HB.out⟩
 ·replace c3 := Bool.eq_false_iff.mpr c3
  subst c3
  replace H := ifF H
  simp only [Option.some.injEq, Prod.mk.injEq] at H
  obtain ⟨rfl, rfl, rfl⟩ := H
  go_enter Tryd.func6, Tryd.ntmps6
  go_wp2_with (first | ((with_reducible refine gate_dst (N := 1) rfl ?_); refine boxG HB #[.int .i64 a0_0, .slice A0_1 l0_1.length c0_1] 26 ?_; intro gb268 hg w14 BK268 GE268 hb; replace HB := bst HB hb; clear hb hg) | ((with_reducible refine gate_dst (N := 2) rfl ?_); refine boxG HB #[.int .i64 0, .slice none 0 0] 26 ?_; intro gb269 hg w15 BK269 GE269 hb; have NB268_269 := neL7 BK268 hg; have NB269_268 := neR7 BK268 hg; replace BK268 := blkB BK268 hb; replace HB := bst HB hb; clear hb hg; obtain ⟨_, _, _, _⟩ := blk2 BK268) | ((with_reducible refine gate_callee (f := 16) rfl ?_); refine goesQ (some 5) Tryd.func16 #[.agg #[.int .i64 a0_0, .slice A0_1 l0_1.length c0_1]] ?_; (with_reducible refine (impl_IsRelation.calls k a0_0 _ _ l0_1 false _ ?_ ?_ A2.out).mono ?_); exact C_g HR0_1 HB; exact HC0_1.out; rintro e w18 ⟨rfl, hb⟩; refine ⟨_, rfl, ?_⟩; replace BK268 := blkB BK268 hb; replace BK269 := blkB BK269 hb; replace HB := bst HB hb; clear hb; obtain ⟨_, _, _, _⟩ := blk2 BK269))
  refine bodyPost_ret (results_ct rfl _ _ gb269 26 #[.int .i64 0, .slice none 0 0] (0, 0) _ rfl (blkT BK269) Tryd.underlying26 rfl (by kernel_rfl)) rfl ?_
  exact ⟨_, eqE, nilE, bel_g HB.out⟩
end Go.Proofs.YthdlkadfhbbilaaDoor.Q
