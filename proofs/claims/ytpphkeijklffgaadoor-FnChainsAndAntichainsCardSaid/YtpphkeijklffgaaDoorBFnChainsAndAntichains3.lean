import Derived.Test.YtpphkeijklffgaaDoorBFnChainsAndAntichains2
namespace Go.Proofs.YtpphkeijklffgaaDoor.Q
open Go.RowKit Go.Proofs.YtpphkeijklffgaaDoorW.PrintWords Go.Proofs.YtpphkeijklffgaaDoorW.PrintLast Go.Proofs.YtpphkeijklffgaaDoorW.PrintMore
attribute [local go_sem] max2_int min2_int max_two min_two max_three min_three max_four min_four neB_f
set_option linter.unusedVariables false
set_option maxHeartbeats 8000000
set_option maxRecDepth 100000
set_option linter.unusedSimpArgs false
mutual
def spec_CloseRelation.l0 : Nat → Int → Int → Int → List Int → Option (Int × List Int × Bool)
 | 0, _, _, _, _ => none
 | k + 1, x19, x20, x129000, x129001 => if x20 < x19 then (spec_CloseRelation.l1 k x20 x19 x20 (x129001.length : Int) 0 x129000 x129001) else (some (x129000, x129001, true))
def spec_CloseRelation.l1 : Nat → Int → Int → Int → Int → Int → Int → List Int → Option (Int × List Int × Bool)
 | 0, _, _, _, _, _, _, _ => none
 | k + 1, x5, x19, x20, x25, x26, x129000, x129001 => if x26 < x25 then (if 0 ≤ x26 then (if x26 < (x129001.length : Int) then ((spec_orHas.f (rd x129001 x26) x5).bind fun t130 => (if t130 = true then (if 0 ≤ x5 then (if x5 < (x129001.length : Int) then (spec_CloseRelation.l1 k x5 x19 x20 x25 (wrap64 (x26 + 1)) x129000 (x129001.set (x26 : Int).toNat (Go.bits .or .i64 (rd x129001 x26) (rd x129001 x5)))) else (none)) else (none)) else (spec_CloseRelation.l1 k x5 x19 x20 x25 (wrap64 (x26 + 1)) x129000 x129001))) else (none)) else (none)) else (spec_CloseRelation.l0 k x19 (wrap64 (x20 + 1)) x129000 x129001)
end
def spec_CloseRelation.f (k : Nat) (a0_0 : Int) (l0_1 : List Int) : Option (Int × List Int × Bool) := (spec_orRelation.f k a0_0 l0_1).bind fun t124 => (if t124 = true then ((spec_l1Own.f l0_1).bind fun t125 => (spec_CloseRelation.l0 k (t125.length : Int) 0 a0_0 t125)) else (some (0, ([] : List Int), false)))
theorem spec_CloseRelation.mono_l : ∀ k, (∀ y0 y1 y2 y3, LeO (spec_CloseRelation.l0 k y0 y1 y2 y3) (spec_CloseRelation.l0 (k + 1) y0 y1 y2 y3)) ∧ (∀ y0 y1 y2 y3 y4 y5 y6, LeO (spec_CloseRelation.l1 k y0 y1 y2 y3 y4 y5 y6) (spec_CloseRelation.l1 (k + 1) y0 y1 y2 y3 y4 y5 y6))
 | 0 => ⟨fun _ _ _ _ r h => by simp [spec_CloseRelation.l0] at h, fun _ _ _ _ _ _ _ r h => by simp [spec_CloseRelation.l1] at h⟩
 | k + 1 => by
  obtain ⟨ih0, ih1⟩ := spec_CloseRelation.mono_l k
  refine ⟨?_, ?_⟩ <;> intros
  unfold spec_CloseRelation.l0
  rotate_left
  unfold spec_CloseRelation.l1
  rotate_left
  all_goals repeat' (with_reducible first|apply ih0|apply ih1|apply spec_orRelation.mono|apply LeO.refl|apply LeO.none|apply LeO.ite|apply LeO.bind|intro)
theorem spec_CloseRelation.mono : ∀ a0 a1 k, LeO (spec_CloseRelation.f k a0 a1) (spec_CloseRelation.f (k + 1) a0 a1) := by
 intro a0 a1 k
 obtain ⟨ih0, ih1⟩ := spec_CloseRelation.mono_l k
 unfold spec_CloseRelation.f
 repeat' (with_reducible first|apply ih0|apply ih1|apply spec_orRelation.mono|apply LeO.refl|apply LeO.none|apply LeO.ite|apply LeO.bind|intro)
def spec_CloseRelation.T3 : Bool × List (List Nat × List Nat) := (true, [([], []), ([0], [0]), ([], []), ([2], [2]), ([3], [3]), ([1, 4], [1, 4]), ([], []), ([6, 5, 4, 0, 1, 2, 3, 4, 5, 6], [5, 6])])
def spec_CloseRelation.B3 : List Nat := [0, 1, 0, 4, 12, 31, 0, 127]
theorem spec_CloseRelation.tab3 : rtab .any (opsOf Tryd.f50 3) = spec_CloseRelation.T3 := by kernel_rfl
theorem spec_CloseRelation.bits3 : waitsOk spec_CloseRelation.T3.2 spec_CloseRelation.B3 = true := by kernel_rfl
def spec_CloseRelation.T11 : Bool × List (List Nat × List Nat) := (true, [([], []), ([0], [0]), ([], []), ([1, 2], [1, 2]), ([3], [3]), ([], []), ([5], [5]), ([], []), ([6, 7], [6, 7]), ([8], [8]), ([4, 9], [4, 9]), ([1, 2, 0, 1, 2, 3, 4, 5, 6, 7, 8, 9, 10], [1, 2]), ([11, 10, 0, 1, 2, 3, 4, 5, 6, 7, 8, 9, 10], [10, 11])])
def spec_CloseRelation.B11 : List Nat := [0, 1, 0, 7, 15, 0, 32, 0, 224, 480, 1023, 2047, 4095]
theorem spec_CloseRelation.tab11 : rtab .any (opsOf Tryd.f50 11) = spec_CloseRelation.T11 := by kernel_rfl
theorem spec_CloseRelation.bits11 : waitsOk spec_CloseRelation.T11.2 spec_CloseRelation.B11 = true := by kernel_rfl
theorem spec_CloseRelation.calls (k : Nat) (a0_0 : Int) (A0_1 : Option Addr) (c0_1 : Nat) (l0_1 : List Int) (r1 : Int) (r2 : List Int) (r3 : Bool) (w : World) (hr0_1 : Kd.C (Kd.int .i64) w A0_1 l0_1.length l0_1) (hc0_1 : l0_1.length ≤ c0_1) (h : spec_CloseRelation.f k a0_0 l0_1 = some (r1, r2, r3)) :
  Calls Tryd.prog 50 #[.agg #[.int .i64 a0_0, .slice A0_1 l0_1.length c0_1]] w fun e w' => ∃ v1_ : Value, e = .returned (.tuple #[.agg #[.int .i64 r1, v1_], .bool r3]) ∧ Kd.R (Kd.int .i64) 3 w' w.heap.size (fun _ => True) v1_ r2 ∧ Below w.heap.size w w' := by
 have hu26 := Tryd.underlying26
 have HR0_1 := mkA hr0_1
 have HC0_1 := mkA hc0_1
 clear hr0_1 hc0_1
 have HB := mkA (Below.refl w.heap.size w)
 have H := h
 clear h
 unfold spec_CloseRelation.f at H
 obtain ⟨t124, A2, H⟩ := obE H
 by_cases c3 : t124 = true
 ·subst c3
  replace H := ifT H
  obtain ⟨t125, A4, H⟩ := obE H
  have H' := mkA H
  clear H
  go_enter Tryd.func50, Tryd.ntmps50
  try go_wp2_with (first | ((with_reducible refine gate_dst (N := 1) rfl ?_); refine boxG HB #[.int .i64 a0_0, .slice A0_1 l0_1.length c0_1] 26 ?_; intro gb122 hg w5 BK122 GE122 hb; replace HB := bst HB hb; clear hb hg) | ((with_reducible refine gate_dst (N := 2) rfl ?_); refine boxG HB #[.int .i64 0, .slice none 0 0] 26 ?_; intro gb123 hg w6 BK123 GE123 hb; have NB122_123 := neL7 BK122 hg; have NB123_122 := neR7 BK122 hg; replace BK122 := blkB BK122 hb; replace HB := bst HB hb; clear hb hg; obtain ⟨_, _, _, _⟩ := blk2 BK122) | ((with_reducible refine gate_callee (f := 34) rfl ?_); refine goesQ (some 8) Tryd.func34 #[.agg #[.int .i64 a0_0, .slice A0_1 l0_1.length c0_1]] ?_; (with_reducible refine (spec_orRelation.calls k a0_0 _ _ l0_1 true _ ?_ ?_ A2.out).mono ?_); exact C_g HR0_1 HB; exact HC0_1.out; rintro e w9 ⟨rfl, hb⟩; refine ⟨_, rfl, ?_⟩; replace BK122 := blkB BK122 hb; replace BK123 := blkB BK123 hb; replace HB := bst HB hb; clear hb))
  replace BK122 := mkA (blk_drew BK122.out)
  replace BK123 := mkA (blk_drew BK123.out)
  replace HB := mkA (below_drew1 HB.out)
  refine start_ (n := 8) (S := fun w' => w'.cell? ⟨gb122, 0, none⟩ = some (.int .i64 a0_0) ∧ w'.cell? ⟨gb122, 1, none⟩ = some (.slice A0_1 l0_1.length c0_1)) (ds := []) (bm 8 0) (by kernel_rfl) rfl (by kernel_rfl) ⟨(blk_cell BK122.out 0).trans rfl, (blk_cell BK122.out 1).trans rfl⟩ (fun hHeld => ?_); refine with_tabW spec_CloseRelation.tab3 spec_CloseRelation.bits3 (fun HT_ HW_ => ?_)
  generalize w9.drew = w10 at BK122 BK123 HB hHeld ⊢
  refine purW 0 11 8 1 HT_ ?_
  refine purW 2 13 8 5 HT_ ?_
  refine takeW 1 (some 12) (bm 8 7) HT_ HW_ hHeld ?_
  refine takeW 3 (some 14) (bm 8 15) HT_ HW_ hHeld ?_
  refine join_ (σ := Value × Nat) 1 (bm 8 127) (fun s_ => [(15, s_.1), (4, .pointer (some ⟨s_.2, 0, none⟩)), (16, .agg #[.int .i64 a0_0, s_.1])]) (fun s_ w' => (w'.cell? ⟨gb122, 0, none⟩ = some (.int .i64 a0_0) ∧ w'.cell? ⟨gb122, 1, none⟩ = some (.slice A0_1 l0_1.length c0_1)) ∧ (Kd.R (Kd.int .i64) 3 w' w.heap.size (fun _ => True) s_.1 t125) ∧ (w'.heap[gb122]? = some (.cells #[.int .i64 a0_0, .slice A0_1 l0_1.length c0_1] 26 (0, 0))) ∧ (w'.heap[gb123]? = some (.cells #[.int .i64 0, .slice none 0 0] 26 (0, 0))) ∧ (w'.heap[s_.2]? = some (.cells #[.int .i64 0, .slice none 0 0] 26 (0, 0))) ∧ (w.heap.size ≤ s_.2) ∧ (w.heap.size ≤ s_.2) ∧ (gb122 ≠ s_.2) ∧ (s_.2 ≠ gb122) ∧ (gb123 ≠ s_.2) ∧ (s_.2 ≠ gb123) ∧ (Below w.heap.size w w')) ?_ ?_
  rotate_left
  ·intro hCont
   refine two_ (i := 4) (j := 6) (Ni := some 15) (Nj := some 4) (bm 8 31) (bm 8 79) rfl rfl rfl rfl (two_of HT_.out (by kernel_rfl)) (by decide) (by decide) (fun K hK => ?_) (fun K hK => ?_)
   ·skip
    refine goesR Tryd.func48 #[.slice A0_1 l0_1.length c0_1] ?_
    with_reducible refine (spec_l1Own.calls _ _ l0_1 t125 _ ?s1 ?s2 A4.out).mono ?_
    (case s1 => exact C_g HR0_1 HB)
    (case s2 => exact HC0_1.out)
    rintro e w11 ⟨v126, rfl, ho0, hb⟩
    refine ⟨_, rfl, ?_⟩
    have HO127 := rLo ho0 HB
    replace BK122 := blkB BK122 hb
    replace BK123 := blkB BK123 hb
    replace HB := bst HB hb
    (try clear hb)
    (try clear hb2)
    (try clear hk)
    (try clear hi)
    (try clear ho0)
    obtain ⟨Ao12, co12, eo12⟩ := Kd.R_slice HO127.out
    (first | subst eo12 | (injection eo12 with f1_ f2_ f3_; have f4_ := f1_.symm; have f5_ := f3_.symm; clear f1_ f2_ f3_; subst f4_; subst f5_))
    refine hK.out _ _ ⟨(blk_cell BK122.out 0).trans rfl, (blk_cell BK122.out 1).trans rfl⟩ (fun hHeld => ?_)
    clear hK K
    refine normW 15 ?_
    refine purW 5 16 8 63 HT_ ?_
    refine oneW 6 (some 4) (bm 8 127) HT_ (fun K hK => ?_)
    refine box_step ?hg (N := 4) ?hd (cs := #[.int .i64 0, .slice none 0 0]) (t := 26) ?hr ?_; (case hd => rfl); (case hg => rfl); (case hr => first | (go_simp; done) | (go_simp; rfl))
    intro gb128 hg w13 hbox hb
    replace HO127 := rB HO127 hb
    have BK128 := mkA (hbox)
    have GW128 := geB HB hg
    have GE128 := geB HB hg
    have NB122_128 := neL7 BK122 hg
    have NB128_122 := neR7 BK122 hg
    replace BK122 := blkB BK122 hb
    have NB123_128 := neL7 BK123 hg
    have NB128_123 := neR7 BK123 hg
    replace BK123 := blkB BK123 hb
    replace HB := bst HB hb
    clear hb hbox hg
    refine hK.out _ _ ⟨(blk_cell BK122.out 0).trans rfl, (blk_cell BK122.out 1).trans rfl⟩ (fun hHeld => ?_)
    clear hK K
    refine normW 4 ?_
    exact norm_ (by simp only [putAll, Act.put, List.setIfInBounds_toArray, List.set_cons_zero, List.set_cons_succ]) (hCont (.slice Ao12 t125.length co12, gb128) _ ⟨hHeld, (Kd.R_g HO127.out), (blk_g BK122.out), (blk_g BK123.out), (blk_g BK128.out), GW128.out, GE128.out, NB122_128.out, NB128_122.out, NB123_128.out, NB128_123.out, (bel_g HB.out)⟩)
   ·skip
    refine box_step ?hg (N := 4) ?hd (cs := #[.int .i64 0, .slice none 0 0]) (t := 26) ?hr ?_; (case hd => rfl); (case hg => rfl); (case hr => first | (go_simp; done) | (go_simp; rfl))
    intro gb128 hg w11 hbox hb
    have BK128 := mkA (hbox)
    have GW128 := geB HB hg
    have GE128 := geB HB hg
    have NB122_128 := neL7 BK122 hg
    have NB128_122 := neR7 BK122 hg
    replace BK122 := blkB BK122 hb
    have NB123_128 := neL7 BK123 hg
    have NB128_123 := neR7 BK123 hg
    replace BK123 := blkB BK123 hb
    replace HB := bst HB hb
    clear hb hbox hg
    refine hK.out _ _ ⟨(blk_cell BK122.out 0).trans rfl, (blk_cell BK122.out 1).trans rfl⟩ (fun hHeld => ?_)
    clear hK K
    refine normW 4 ?_
    refine oneW 4 (some 15) (bm 8 95) HT_ (fun K hK => ?_)
    refine goesR Tryd.func48 #[.slice A0_1 l0_1.length c0_1] ?_
    with_reducible refine (spec_l1Own.calls _ _ l0_1 t125 _ ?s1 ?s2 A4.out).mono ?_
    (case s1 => exact C_g HR0_1 HB)
    (case s2 => exact HC0_1.out)
    rintro e w12 ⟨v126, rfl, ho0, hb⟩
    refine ⟨_, rfl, ?_⟩
    have HO127 := rLo ho0 HB
    replace BK122 := blkB BK122 hb
    replace BK123 := blkB BK123 hb
    replace BK128 := blkB BK128 hb
    replace HB := bst HB hb
    (try clear hb)
    (try clear hb2)
    (try clear hk)
    (try clear hi)
    (try clear ho0)
    obtain ⟨Ao13, co13, eo13⟩ := Kd.R_slice HO127.out
    (first | subst eo13 | (injection eo13 with f1_ f2_ f3_; have f4_ := f1_.symm; have f5_ := f3_.symm; clear f1_ f2_ f3_; subst f4_; subst f5_))
    refine hK.out _ _ ⟨(blk_cell BK122.out 0).trans rfl, (blk_cell BK122.out 1).trans rfl⟩ (fun hHeld => ?_)
    clear hK K
    refine normW 15 ?_
    refine purW 5 16 8 127 HT_ ?_
    exact norm_ (by simp only [putAll, Act.put, List.setIfInBounds_toArray, List.set_cons_zero, List.set_cons_succ]) (hCont (.slice Ao13 t125.length co13, gb128) _ ⟨hHeld, (Kd.R_g HO127.out), (blk_g BK122.out), (blk_g BK123.out), (blk_g BK128.out), GW128.out, GE128.out, NB122_128.out, NB128_122.out, NB123_128.out, NB128_123.out, (bel_g HB.out)⟩)
  rintro ⟨v126, gb128⟩ w14 ⟨hS_, h0_, h1_, h2_, h3_, h4_, h5_, h6_, h7_, h8_, h9_, h10_⟩
  have n0_ : Fc (Kd.R (Kd.int .i64) 3 w14 w.heap.size (fun _ => True) v126 t125) := ⟨h0_⟩
  have n1_ : Fc (w14.heap[gb122]? = some (.cells #[.int .i64 a0_0, .slice A0_1 l0_1.length c0_1] 26 (0, 0))) := ⟨h1_⟩
  have n2_ : Fc (w14.heap[gb123]? = some (.cells #[.int .i64 0, .slice none 0 0] 26 (0, 0))) := ⟨h2_⟩
  have n3_ : Fc (w14.heap[gb128]? = some (.cells #[.int .i64 0, .slice none 0 0] 26 (0, 0))) := ⟨h3_⟩
  have n4_ : Ge w.heap.size gb128 := ⟨h4_⟩
  have n5_ : Ge w.heap.size gb128 := ⟨h5_⟩
  have n6_ : NeB gb122 gb128 := ⟨h6_⟩
  have n7_ : NeB gb128 gb122 := ⟨h7_⟩
  have n8_ : NeB gb123 gb128 := ⟨h8_⟩
  have n9_ : NeB gb128 gb123 := ⟨h9_⟩
  have n10_ : Fc (Below w.heap.size w w14) := ⟨h10_⟩
  clear BK122
  clear BK123
  clear HB
  clear h0_ h1_ h2_ h3_ h4_ h5_ h6_ h7_ h8_ h9_ h10_
  have HO127 := n0_
  have BK122 := n1_
  have BK123 := n2_
  have BK128 := n3_
  have GW128 := n4_
  have GE128 := n5_
  have NB122_128 := n6_
  have NB128_122 := n7_
  have NB123_128 := n8_
  have NB128_123 := n9_
  have HB := n10_
  clear n0_ n1_ n2_ n3_ n4_ n5_ n6_ n7_ n8_ n9_ n10_
  have hHeld : w14.cell? ⟨gb122, 0, none⟩ = some (.int .i64 a0_0) ∧ w14.cell? ⟨gb122, 1, none⟩ = some (.slice A0_1 l0_1.length c0_1) := hS_
  obtain ⟨Ao15, co15, eo15⟩ := Kd.R_slice HO127.out
  (first | subst eo15 | (injection eo15 with f1_ f2_ f3_; have f4_ := f1_.symm; have f5_ := f3_.symm; clear f1_ f2_ f3_; subst f4_; subst f5_))
  refine norm_ (a' := ?_) ?_ ?_
  rotate_left
  ·simp only [putAll, Act.put, List.setIfInBounds_toArray, List.set_cons_zero, List.set_cons_succ]
   rfl
  refine oneW 7 (none) (bm 8 255) HT_ (fun K hK => ?_)
  obtain ⟨_, _, _, _⟩ := blk2 BK128
  refine skip_ (w1 := ?_) (by rfl) rfl ?_ ?_
  rotate_left
  ·go_simp
   rfl
  refine hK.out _ _ ⟨(cF (cF hHeld.1)), (cF (cF hHeld.2))⟩ (fun hHeld => ?_)
  clear hK K
  refine doneW HT_ ?_
  obtain ⟨_, _, _, _⟩ := blk2 BK128
  try go_wp2
  go_loopg [20] k (fun kq v20 w' => ∃ (x20_1 : Int) (x129001_1 : List Int) (u129001 : Value), v20 = .int .i64 x20_1 ∧ Fc (spec_CloseRelation.l0 kq (t125.length : Int) x20_1 a0_0 x129001_1 = some (r1, r2, r3)) ∧ Fc (kq ≤ k) ∧ Fc (Kd.R (Kd.int .i64) 3 w' w.heap.size (fun _ => True) u129001 x129001_1) ∧ Fc (w'.heap[gb122]? = some (.cells #[.int .i64 a0_0, (.slice A0_1 l0_1.length c0_1)] 26 (0, 0))) ∧ Fc (w'.heap[gb123]? = some (.cells #[.int .i64 0, (.slice none 0 0)] 26 (0, 0))) ∧ Fc (w'.heap[gb128]? = some (.cells #[.int .i64 a0_0, u129001] 26 (0, 0))) ∧ Fc (Below w.heap.size w w'))
  case atStart => exact ⟨(0), (t125), (.slice Ao15 t125.length co15), eqS, H', ⟨Nat.le_refl _⟩, ⟨Kd.R_g (Kd.R_mono (rF HO127 BK128) (fun _ _ => trivial))⟩, ⟨blkT BK122⟩, ⟨blkT BK123⟩, ⟨blkT BK128⟩, hbg HB⟩
  case round =>
   clear H'
   try clear c3
   obtain ⟨x20_1, x129001_1, u129001, rfl, HA, HK1, HO_129001, BK122, BK123, BK128, HB⟩ := hrel
   cases gk with
   | zero => exact absurd HA.out (by simp [spec_CloseRelation.l0])
   | succ k1 =>
    have H := HA.out
    clear HA
    simp only [spec_CloseRelation.l0] at H
    rcases iteE H with ⟨c21b0, H⟩ | ⟨c21b0, H⟩
    ·have H' := mkA H
     clear H
     obtain ⟨_, _, _, _⟩ := blk2 BK128
     obtain ⟨Ao25, co25, rfl⟩ := Kd.R_slice HO_129001.out
     go_wp2
     go_loopg [26] k1 (fun kq v26 w' => ∃ (x26_2 : Int) (x129001_2 : List Int) (u129001 : Value), v26 = .int .i64 x26_2 ∧ Fc (spec_CloseRelation.l1 kq x20_1 (t125.length : Int) x20_1 (x129001_1.length : Int) x26_2 a0_0 x129001_2 = some (r1, r2, r3)) ∧ Fc (kq ≤ k1) ∧ Fc (Kd.R (Kd.int .i64) 3 w' w.heap.size (fun _ => True) u129001 x129001_2) ∧ Fc (w'.heap[gb122]? = some (.cells #[.int .i64 a0_0, (.slice A0_1 l0_1.length c0_1)] 26 (0, 0))) ∧ Fc (w'.heap[gb123]? = some (.cells #[.int .i64 0, (.slice none 0 0)] 26 (0, 0))) ∧ Fc (w'.heap[gb128]? = some (.cells #[.int .i64 a0_0, u129001] 26 (0, 0))) ∧ Fc (Below w.heap.size w w'))
     case atStart => exact ⟨(0), (x129001_1), (.slice Ao25 x129001_1.length co25), eqS, H', ⟨Nat.le_refl _⟩, rg HO_129001, bg BK122, bg BK123, bg BK128, hbg HB⟩
     case round =>
      clear H'
      try clear c3
      try clear c21b0
      obtain ⟨x26_2, x129001_2, u129001, rfl, HA, HK2, HO_129001, BK122, BK123, BK128, HB⟩ := hrel
      cases gk with
      | zero => exact absurd HA.out (by simp [spec_CloseRelation.l1])
      | succ k2 =>
       have H := HA.out
       clear HA
       simp only [spec_CloseRelation.l1] at H
       rcases iteE H with ⟨c26b0, H⟩ | ⟨c26b0, H⟩
       ·obtain ⟨c27b0, H⟩ := itND H
        obtain ⟨c28b0, H⟩ := itND H
        obtain ⟨t130, A29, H⟩ := obE H
        by_cases c30 : t130 = true
        ·subst c30
         replace H := ifT H
         obtain ⟨c31b0, H⟩ := itND H
         obtain ⟨c32b0, H⟩ := itND H
         obtain ⟨y133, hy133⟩ : ∃ y_ : List Int, y_ = (x129001_2.set (x26_2 : Int).toNat (Go.bits .or .i64 (rd x129001_2 x26_2) (rd x129001_2 x20_1))) := ⟨_, rfl⟩
         rw [← hy133] at H
         have Ny133 := mkA hy133
         clear hy133
         have H' := mkA H
         clear H
         obtain ⟨_, _, _, _⟩ := blk2 BK128
         obtain ⟨Ao37, co37, rfl⟩ := Kd.R_slice HO_129001.out
         obtain ⟨p129, q129, ad129, e129, hx129_0⟩ := atI (Kd.R_reads' HO_129001.out).2.2 x26_2
         cases e129
         try go_wp2_with (first | ((with_reducible refine gate_callee (f := 35) rfl ?_); refine goesQ (some 35) Tryd.func35 #[.int .i64 (rd x129001_2 x26_2), .int .i64 x20_1] ?_; (with_reducible refine (spec_orHas.calls (rd x129001_2 x26_2) x20_1 true _ A29.out).mono ?_); rintro e w' ⟨rfl, ⟨nd, rfl⟩⟩; refine ⟨_, rfl, ?_⟩; (try (rw [drewN_self wr]; generalize hq_ : World.drewN wr _ = wr; have n0_ : Fc (Kd.R (Kd.int .i64) 3 wr w.heap.size (fun _ => True) (.slice (some ad129) x129001_2.length co37) x129001_2) := ⟨by rw [← hq_]; exact (Kd.R_g HO_129001.out)⟩; have n1_ : Fc (wr.heap[gb122]? = some (.cells #[.int .i64 a0_0, .slice A0_1 l0_1.length c0_1] 26 (0, 0))) := ⟨by rw [← hq_]; exact (blk_g BK122.out)⟩; have n2_ : Fc (wr.heap[gb123]? = some (.cells #[.int .i64 0, .slice none 0 0] 26 (0, 0))) := ⟨by rw [← hq_]; exact (blk_g BK123.out)⟩; have n3_ : Fc (wr.heap[gb128]? = some (.cells #[.int .i64 a0_0, .slice (some ad129) x129001_2.length co37] 26 (0, 0))) := ⟨by rw [← hq_]; exact (blk_g BK128.out)⟩; have n4_ : Fc (Below w.heap.size w wr) := ⟨by rw [← hq_]; exact (bel_g HB.out)⟩; clear HO_129001 BK122 BK123 BK128 HB hq_; have HO_129001 := n0_; have BK122 := n1_; have BK123 := n2_; have BK128 := n3_; have HB := n4_; clear n0_ n1_ n2_ n3_ n4_))))
         replace HO_129001 := mkA (Kd.R_drew HO_129001.out)
         replace BK122 := mkA (blk_drew BK122.out)
         replace BK123 := mkA (blk_drew BK123.out)
         replace BK128 := mkA (blk_drew BK128.out)
         replace HB := mkA (below_drew1 HB.out)
         obtain ⟨p131, q131, ad131, e131, hx131_0⟩ := atI (Kd.R_reads' HO_129001.out).2.2 x26_2
         obtain rfl : ad129 = ad131 := (by injection e131)
         obtain ⟨p132, q132, ad132, e132, hx132_0⟩ := atI (Kd.R_reads' HO_129001.out).2.2 x20_1
         obtain rfl : ad129 = ad132 := (by injection e132)
         have p33 : 0 ≤ (x26_2 : Int) := ofd
         have q33 : (x26_2 : Int) < ((x129001_2.length : Int) : Int) := ofd
         obtain ⟨go33, co33, eo33, gb33, gl33, cl33, HG33⟩ := Kd.R_form HO_129001.out (by omega)
         (first | cases eo33 | (injection eo33 with ea_ en_ ec_; (first | subst ea_ | (injection ea_ with ea_; subst ea_)); subst ec_; clear en_))
         have GB33 : Ge _ _ := ⟨gb33⟩
         have GG33 := mkA HG33
         clear gb33 gl33 HG33
         (first | simp only [add_plain] at hx129_0 | skip)
         (first | simp only [add_plain] at hx131_0 | skip)
         (first | simp only [add_plain] at hx132_0 | skip)
         obtain ⟨hx33_0, hf33_0⟩ := Kd.R_celln 0 HO_129001.out (x26_2 : Int) p33 q33
         replace p33 := eq_true p33
         replace q33 := eq_true q33
         have HP39 := Kd.R_putn HO_129001.out (x26_2 : Int) (Go.bits .or .i64 (rd x129001_2 x26_2) (rd x129001_2 x20_1))
         rw [← Ny133.out] at HP39
         have HQ39 := mkA HP39
         clear HP39
         refine start_ (n := 13) (S := fun w' => w'.cell? ⟨gb128, 0, none⟩ = some (.int .i64 a0_0) ∧ w'.cell? ⟨gb128, 1, none⟩ = some (.slice (some ⟨go33, 0, none⟩) x129001_2.length co37) ∧ w'.cell? ⟨go33, (x26_2).toNat, none⟩ = some (.int .i64 (rd x129001_2 x26_2)) ∧ w'.cell? ⟨go33, (x20_1).toNat, none⟩ = some (.int .i64 (rd x129001_2 x20_1))) (ds := [12]) (bm 13 0) (by kernel_rfl) rfl rfl ⟨(blk_cell BK128.out 0).trans rfl, (blk_cell BK128.out 1).trans rfl, hx131_0, hx132_0⟩ (fun hHeld => ?_); refine with_tabW spec_CloseRelation.tab11 spec_CloseRelation.bits11 (fun HT_ HW_ => ?_)
         generalize wr.drew = w38 at HO_129001 BK122 BK123 BK128 HB GG33 HQ39 hf33_0 hx129_0 hx131_0 hx132_0 hx33_0 hHeld ⊢
         refine purW 0 36 13 1 HT_ ?_
         refine purW 2 38 13 5 HT_ ?_
         refine purW 5 41 13 37 HT_ ?_
         refine purW 7 43 13 165 HT_ ?_
         refine takeW 1 (some 37) (bm 13 167) HT_ HW_ hHeld ?_
         refine purW 3 39 13 175 HT_ ?_
         refine takeW 4 (some 40) (bm 13 191) HT_ HW_ hHeld ?_
         refine takeW 6 (some 42) (bm 13 255) HT_ HW_ hHeld ?_
         refine purW 8 44 13 511 HT_ ?_
         refine takeW 9 (some 45) (bm 13 1023) HT_ HW_ hHeld ?_
         refine purW 10 46 13 2047 HT_ ?_
         refine purW 11 47 13 4095 HT_ ?_
         refine last_ (i := 12) (N := none) (bm 13 8191) rfl rfl (one_of HT_.out (by kernel_rfl)) (by decide) (fun K hK => ?_)
         refine skip_ (w1 := ?_) (by rfl) rfl ?_ ?_
         rotate_left
         ·go_simp
          rfl
         refine hK.out _ _ ?_
         clear hK K
         refine doneW HT_ ?_
         try go_wp2
         go_roundg k2
         case measure => have := HK1.out; have := HK2.out; omega
         case rel => exact ⟨(wrap64 (x26_2 + 1)), (y133), (.slice (some ⟨go33, 0, none⟩) x129001_2.length co37), eqS, H', ⟨by have := HK1.out; have := HK2.out; omega⟩, ⟨Kd.R_g HQ39.out⟩, ⟨by (with_reducible repeat (first | refine blk_drewN ?_ _ | refine blk_drew ?_ | refine blk_alloc ?_ _)); refine blk_far ?_ (by have h_ := Kd.R_ne HO_129001.out BK122.out (by decide); intro e_; exact h_ (by rw [e_]; rfl)) _; (with_reducible repeat (first | refine blk_drewN ?_ _ | refine blk_drew ?_ | refine blk_alloc ?_ _)); exact BK122.out⟩, ⟨by (with_reducible repeat (first | refine blk_drewN ?_ _ | refine blk_drew ?_ | refine blk_alloc ?_ _)); refine blk_far ?_ (by have h_ := Kd.R_ne HO_129001.out BK123.out (by decide); intro e_; exact h_ (by rw [e_]; rfl)) _; (with_reducible repeat (first | refine blk_drewN ?_ _ | refine blk_drew ?_ | refine blk_alloc ?_ _)); exact BK123.out⟩, ⟨by (with_reducible repeat (first | refine blk_drewN ?_ _ | refine blk_drew ?_ | refine blk_alloc ?_ _)); refine blk_far ?_ (by have h_ := Kd.R_ne HO_129001.out BK128.out (by decide); intro e_; exact h_ (by rw [e_]; rfl)) _; (with_reducible repeat (first | refine blk_drewN ?_ _ | refine blk_drew ?_ | refine blk_alloc ?_ _)); exact BK128.out⟩, hbg HB⟩
        ·replace c30 := Bool.eq_false_iff.mpr c30
         subst c30
         replace H := ifF H
         have H' := mkA H
         clear H
         obtain ⟨_, _, _, _⟩ := blk2 BK128
         obtain ⟨Ao43, co43, rfl⟩ := Kd.R_slice HO_129001.out
         obtain ⟨p129, q129, ad129, e129, hx129_0⟩ := atI (Kd.R_reads' HO_129001.out).2.2 x26_2
         cases e129
         go_wp2_with (first | ((with_reducible refine gate_callee (f := 35) rfl ?_); refine goesQ (some 35) Tryd.func35 #[.int .i64 (rd x129001_2 x26_2), .int .i64 x20_1] ?_; (with_reducible refine (spec_orHas.calls (rd x129001_2 x26_2) x20_1 false _ A29.out).mono ?_); rintro e w' ⟨rfl, ⟨nd, rfl⟩⟩; refine ⟨_, rfl, ?_⟩))
         go_roundg k2
         case measure => have := HK1.out; have := HK2.out; omega
         case rel => exact ⟨(wrap64 (x26_2 + 1)), (x129001_2), (.slice (some ad129) x129001_2.length co43), eqS, H', ⟨by have := HK1.out; have := HK2.out; omega⟩, rg HO_129001, bg BK122, bg BK123, bg BK128, hbg HB⟩
       ·have H' := mkA H
        clear H
        go_wp2
        go_roundg k2
        case measure => have := HK1.out; have := HK2.out; omega
        case rel => exact ⟨(wrap64 (x20_1 + 1)), (x129001_2), (u129001), eqS, H', ⟨by have := HK1.out; have := HK2.out; omega⟩, rg HO_129001, bg BK122, bg BK123, bg BK128, hbg HB⟩
    ·simp only [Option.some.injEq, Prod.mk.injEq] at H
     obtain ⟨rfl, rfl, rfl⟩ := H
     obtain ⟨_, _, _, _⟩ := blk2 BK128
     obtain ⟨_, _, _, _⟩ := blk2 BK123
     obtain ⟨Ao49, co49, rfl⟩ := Kd.R_slice HO_129001.out
     go_wp2
     refine bodyPost_ret (results_ct rfl _ _ gb123 26 #[.int .i64 a0_0, .slice Ao49 x129001_1.length co49] (0, 0) _ rfl (blkT BK123) Tryd.underlying26 rfl (by kernel_rfl)) rfl ?_
     exact ⟨_, eqE, Kd.R_g (Kd.R_mono (rF HO_129001 BK123) (fun _ _ => trivial)), bel_g HB.out⟩
 ·replace c3 := Bool.eq_false_iff.mpr c3
  subst c3
  replace H := ifF H
  simp only [Option.some.injEq, Prod.mk.injEq] at H
  obtain ⟨rfl, rfl, rfl⟩ := H
  go_enter Tryd.func50, Tryd.ntmps50
  go_wp2_with (first | ((with_reducible refine gate_dst (N := 1) rfl ?_); refine boxG HB #[.int .i64 a0_0, .slice A0_1 l0_1.length c0_1] 26 ?_; intro gb122 hg w50 BK122 GE122 hb; replace HB := bst HB hb; clear hb hg) | ((with_reducible refine gate_dst (N := 2) rfl ?_); refine boxG HB #[.int .i64 0, .slice none 0 0] 26 ?_; intro gb123 hg w51 BK123 GE123 hb; have NB122_123 := neL7 BK122 hg; have NB123_122 := neR7 BK122 hg; replace BK122 := blkB BK122 hb; replace HB := bst HB hb; clear hb hg; obtain ⟨_, _, _, _⟩ := blk2 BK122) | ((with_reducible refine gate_callee (f := 34) rfl ?_); refine goesQ (some 8) Tryd.func34 #[.agg #[.int .i64 a0_0, .slice A0_1 l0_1.length c0_1]] ?_; (with_reducible refine (spec_orRelation.calls k a0_0 _ _ l0_1 false _ ?_ ?_ A2.out).mono ?_); exact C_g HR0_1 HB; exact HC0_1.out; rintro e w54 ⟨rfl, hb⟩; refine ⟨_, rfl, ?_⟩; replace BK122 := blkB BK122 hb; replace BK123 := blkB BK123 hb; replace HB := bst HB hb; clear hb; obtain ⟨_, _, _, _⟩ := blk2 BK123))
  refine bodyPost_ret (results_ct rfl _ _ gb123 26 #[.int .i64 0, .slice none 0 0] (0, 0) _ rfl (blkT BK123) Tryd.underlying26 rfl (by kernel_rfl)) rfl ?_
  exact ⟨_, eqE, nilE, bel_g HB.out⟩
end Go.Proofs.YtpphkeijklffgaaDoor.Q
