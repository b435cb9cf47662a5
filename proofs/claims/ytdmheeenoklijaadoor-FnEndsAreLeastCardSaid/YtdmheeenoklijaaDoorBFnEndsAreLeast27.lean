import Derived.Test.YtdmheeenoklijaaDoorBFnEndsAreLeast26
namespace Go.Proofs.YtdmheeenoklijaaDoor.Q
open Go.RowKit Go.Proofs.YtdmheeenoklijaaDoorW.PrintWords Go.Proofs.YtdmheeenoklijaaDoorW.PrintLast Go.Proofs.YtdmheeenoklijaaDoorW.PrintMore
attribute [local go_sem] max2_int min2_int max_two min_two max_three min_three max_four min_four neB_f
set_option linter.unusedVariables false
set_option maxHeartbeats 8000000
set_option maxRecDepth 100000
set_option linter.unusedSimpArgs false
def impl_Order_indifferent.l0 : Nat → List Int → Int → Int → Int → List Int → Int → List Int → Option (List Int)
 | 0, _, _, _, _, _, _, _ => none
 | k + 1, x3, x10, x11, x868000, x868001, x876000, x876001 => if x11 < x10 then ((impl_Order_all.f x868000 x868001).bind fun t876 => (if 0 ≤ x11 then (if x11 < (x868001.length : Int) then (if x11 < (x876001.length : Int) then (if x3.length < 17592186044416 then (impl_Order_indifferent.l0 k (x3 ++ [Go.bits .andNot .i64 (Go.bits .andNot .i64 (Go.bits .andNot .i64 t876 (rd x868001 x11)) (rd x876001 x11)) (shl .i64 1 x11)]) x10 (wrap64 (x11 + 1)) x868000 x868001 x876000 x876001) else (none)) else (none)) else (none)) else (none))) else (some x3)
def impl_Order_indifferent.f (k : Nat) (a0_0 : Int) (l0_1 : List Int) : Option (List Int) := (impl_Order_mirror.f k a0_0 l0_1).bind fun bt871 => (impl_Order_indifferent.l0 k (([] : List Int)) a0_0 0 a0_0 l0_1 bt871.1 bt871.2)
theorem impl_Order_indifferent.mono_l : ∀ k, (∀ y0 y1 y2 y3 y4 y5 y6, LeO (impl_Order_indifferent.l0 k y0 y1 y2 y3 y4 y5 y6) (impl_Order_indifferent.l0 (k + 1) y0 y1 y2 y3 y4 y5 y6))
 | 0 => fun _ _ _ _ _ _ _ r h => by simp [impl_Order_indifferent.l0] at h
 | k + 1 => by
  have ih0 := impl_Order_indifferent.mono_l k
  ·intro y0 y1 y2 y3 y4 y5 y6
   unfold impl_Order_indifferent.l0
   repeat' (with_reducible first|apply ih0|apply impl_Order_mirror.mono|apply LeO.refl|apply LeO.none|apply LeO.ite|apply LeO.bind|intro)
theorem impl_Order_indifferent.mono : ∀ a0 a1 k, LeO (impl_Order_indifferent.f k a0 a1) (impl_Order_indifferent.f (k + 1) a0 a1) := by
 intro a0 a1 k
 have ih0 := impl_Order_indifferent.mono_l k
 unfold impl_Order_indifferent.f
 repeat' (with_reducible first|apply ih0|apply impl_Order_mirror.mono|apply LeO.refl|apply LeO.none|apply LeO.ite|apply LeO.bind|intro)
def impl_Order_indifferent.T5 : Bool × List (List Nat × List Nat) := (true, [([], []), ([], []), ([1], [1]), ([], []), ([3], [3]), ([], []), ([4, 5], [4, 5]), ([6], [6]), ([2, 7], [2, 7]), ([], []), ([9], [9]), ([], []), ([10, 11], [10, 11]), ([12], [12]), ([8, 13], [8, 13]), ([], []), ([15], [15]), ([14, 16], [14, 16]), ([17], [17]), ([0, 18, 2], [0, 18]), ([19, 19, 0, 1, 2, 3, 4, 5, 6, 7, 8, 9, 10, 11, 12, 13, 14, 15, 16, 17, 18, 19], [0, 19])])
def impl_Order_indifferent.B5 : List Nat := [0, 0, 2, 0, 8, 0, 56, 120, 254, 0, 512, 0, 3584, 7680, 16382, 0, 32768, 131070, 262142, 524287, 1048575]
theorem impl_Order_indifferent.tab5 : rtab .any (opsOf Tryd.f53 5) = impl_Order_indifferent.T5 := by kernel_rfl
theorem impl_Order_indifferent.bits5 : waitsOk impl_Order_indifferent.T5.2 impl_Order_indifferent.B5 = true := by kernel_rfl
theorem impl_Order_indifferent.calls (k : Nat) (a0_0 : Int) (A0_1 : Option Addr) (c0_1 : Nat) (l0_1 : List Int) (r : List Int) (w : World) (hr0_1 : Kd.C (Kd.int .i64) w A0_1 l0_1.length l0_1) (hc0_1 : l0_1.length ≤ c0_1) (h : impl_Order_indifferent.f k a0_0 l0_1 = some r) :
  Calls Tryd.prog 53 #[.agg #[.int .i64 a0_0, .slice A0_1 l0_1.length c0_1]] w fun e w' => ∃ v0_ : Value, e = .returned (v0_) ∧ Kd.R (Kd.int .i64) 3 w' w.heap.size (fun _ => True) v0_ r ∧ Below w.heap.size w w' := by
 have hu26 := Tryd.underlying26
 have HR0_1 := mkA hr0_1
 have HC0_1 := mkA hc0_1
 clear hr0_1 hc0_1
 have HB := mkA (Below.refl w.heap.size w)
 have H := h
 clear h
 unfold impl_Order_indifferent.f at H
 obtain ⟨y868, hy868⟩ : ∃ y_ : List Int, y_ = (([] : List Int)) := ⟨_, rfl⟩
 rw [← hy868] at H
 have Ny868 := mkA hy868
 clear hy868
 obtain ⟨⟨t871, t872⟩, A2, H⟩ := obE H
 dsimp only at H
 have H' := mkA H
 clear H
 go_enter Tryd.func53, Tryd.ntmps53
 go_wp2_with (first | ((with_reducible refine gate_dst (N := 1) rfl ?_); refine boxG HB #[.int .i64 a0_0, .slice A0_1 l0_1.length c0_1] 26 ?_; intro gb867 hg w3 BK867 GE867 hb; replace HB := bst HB hb; clear hb hg) | ((with_reducible refine gate_dst (N := 6) rfl ?_); refine litE (Kd.int .i64) 3 ([] : List Int) [] ?hp ?_; (case hp => exact (Reps.none _ _)); intro v869 w4 ho5 hb hg_ hnew_; clear hg_ hnew_; (first | rw [← Ny868.out] at ho5 | (simp only [Int.reduceToNat] at ho5; rw [← Ny868.out] at ho5)); have HO870 := rLo ho5 HB; replace BK867 := blkB BK867 hb; replace HB := bst HB hb; clear hb ho5; obtain ⟨_, _, _, _⟩ := blk2 BK867) | ((with_reducible refine gate_callee (f := 36) rfl ?_); refine goesQ (some 8) Tryd.func36 #[.agg #[.int .i64 a0_0, .slice A0_1 l0_1.length c0_1]] ?_; (with_reducible refine (impl_Order_mirror.calls k a0_0 _ _ l0_1 t871 t872 _ ?_ ?_ A2.out).mono ?_); exact C_g HR0_1 HB; exact HC0_1.out; rintro e w7 ⟨v873, rfl, ho0, hb⟩; refine ⟨_, rfl, ?_⟩; have HO874 := rLo (rN ho0 HO870) HB; replace HO870 := rE HO870 ho0 hb; replace BK867 := blkB BK867 hb; replace HB := bst HB hb; clear hb ho0) | ((with_reducible refine gate_dst (N := 4) rfl ?_); refine boxG HB #[.int .i64 0, .slice none 0 0] 26 ?_; intro gb875 hg w8 BK875 GE875 hb; replace HO870 := rB HO870 hb; replace HO874 := rB HO874 hb; have NB867_875 := neL7 BK867 hg; have NB875_867 := neR7 BK867 hg; replace BK867 := blkB BK867 hb; replace HB := bst HB hb; clear hb hg; obtain ⟨_, _, _, _⟩ := blk2 BK875; obtain ⟨Ao11, co11, rfl⟩ := Kd.R_slice HO874.out; obtain ⟨_, _, _, _⟩ := blk2 BK867))
 go_loopg [3, 11] k (fun kq v3 v11 w' => ∃ (x3_1 : List Int) (x11_1 : Int), v11 = .int .i64 x11_1 ∧ Fc (impl_Order_indifferent.l0 kq x3_1 a0_0 x11_1 a0_0 l0_1 t871 t872 = some r) ∧ Fc (kq ≤ k) ∧ Fc (Kd.R (Kd.int .i64) 3 w' w.heap.size (fun k_ => some k_ ≠ ((.slice Ao11 t872.length co11) : Value).ownBlock) v3 x3_1) ∧ Fc (Kd.R (Kd.int .i64) 3 w' w.heap.size (fun k_ => some k_ ≠ (v3 : Value).ownBlock) (.slice Ao11 t872.length co11) t872) ∧ Fc (w'.heap[gb867]? = some (.cells #[.int .i64 a0_0, (.slice A0_1 l0_1.length c0_1)] 26 (0, 0))) ∧ Fc (w'.heap[gb875]? = some (.cells #[.int .i64 t871, (.slice Ao11 t872.length co11)] 26 (0, 0))) ∧ Fc (Below w.heap.size w w'))
 case atStart => exact ⟨(y868), (0), eqS, H', ⟨Nat.le_refl _⟩, ⟨Kd.R_g (Kd.R_mono (Kd.R_far (p := ⟨gb875, 1, none⟩) (Kd.R_far (p := ⟨gb875, 0, none⟩) (Kd.R_types HO870.out BK875.out (by decide)) (fun _ hk => hk.2) (.int .i64 t871)) (fun _ hk => hk.2) (.slice Ao11 t872.length co11)) (fun _ hk => hk.1.2))⟩, ⟨Kd.R_g (Kd.R_mono (Kd.R_far (p := ⟨gb875, 1, none⟩) (Kd.R_far (p := ⟨gb875, 0, none⟩) (Kd.R_types HO874.out BK875.out (by decide)) (fun _ hk => hk.2) (.int .i64 t871)) (fun _ hk => hk.2) (.slice Ao11 t872.length co11)) (fun _ hk => hk.1.2))⟩, ⟨blkT BK867⟩, ⟨blkT BK875⟩, hbg HB⟩
 case round =>
  clear H'
  obtain ⟨x3_1, x11_1, rfl, HA, HK1, HO_3, HO_876001, BK867, BK875, HB⟩ := hrel
  cases gk with
  | zero => exact absurd HA.out (by simp [impl_Order_indifferent.l0])
  | succ k1 =>
   have H := HA.out
   clear HA
   simp only [impl_Order_indifferent.l0] at H
   rcases iteE H with ⟨c13b0, H⟩ | ⟨c13b0, H⟩
   ·obtain ⟨t876, A14, H⟩ := obE H
    obtain ⟨c15b0, H⟩ := itND H
    obtain ⟨c16b0, H⟩ := itND H
    obtain ⟨c17b0, H⟩ := itND H
    have c18b0 := eq_true (ofd : 0 ≤ x11_1)
    obtain ⟨ji19, hji19⟩ : ∃ j_ : Int, (shl .i64 1 x11_1) = j_ := ⟨_, rfl⟩
    first | rw [hji19] at H | simp only [hji19] at H
    (try rw [hji19] at A14)
    have hji19_ : (IntKind.i64.wrap (1 * 2 ^ min x11_1.toNat 64)) = ji19 := hji19
    have hji19z : x11_1 ≤ 64 → (IntKind.i64.wrap (1 * 2 ^ x11_1.toNat)) = ji19 := shl_small hji19
    have hji19u : (IntKind.i64.wrap (2 ^ min x11_1.toNat 64)) = ji19 := by have h_ := hji19_; rw [Int.one_mul] at h_; exact h_
    have hji19v : x11_1 ≤ 64 → (IntKind.i64.wrap (2 ^ x11_1.toNat)) = ji19 := fun hle_ => by have h_ := hji19z hle_; rw [Int.one_mul] at h_; exact h_
    have hji19y : (wrap64 (1 * 2 ^ min x11_1.toNat 64)) = ji19 := (i64_w _).symm.trans hji19_
    have hji19x : x11_1 ≤ 64 → (wrap64 (1 * 2 ^ x11_1.toNat)) = ji19 := fun h_ => (i64_w _).symm.trans (hji19z h_)
    obtain ⟨c20, H⟩ := itNP H
    have LMc20 := mkA c20
    clear c20
    obtain ⟨y879, hy879⟩ : ∃ y_ : List Int, y_ = (x3_1 ++ [Go.bits .andNot .i64 (Go.bits .andNot .i64 (Go.bits .andNot .i64 t876 (rd l0_1 x11_1)) (rd t872 x11_1)) (ji19)]) := ⟨_, rfl⟩
    rw [← hy879] at H
    have Ny879 := mkA hy879
    clear hy879
    have H' := mkA H
    clear H
    try go_wp2
    replace HO_3 := mkA (Kd.R_drew HO_3.out)
    replace HO_876001 := mkA (Kd.R_drew HO_876001.out)
    replace BK867 := mkA (blk_drew BK867.out)
    replace BK875 := mkA (blk_drew BK875.out)
    replace HB := mkA (below_drew1 HB.out)
    obtain ⟨p877, q877, ad877, e877, hx877_0⟩ := atI HR0_1.out x11_1
    have hw877_0 := hx877_0
    cases e877
    replace hx877_0 := (HB.out.cell (World.block_lt_of_cell? w _ hx877_0)).trans hx877_0
    obtain ⟨p878, q878, ad878, e878, hx878_0⟩ := atI (Kd.R_reads' HO_876001.out).2.2 x11_1
    cases e878
    refine start_ (n := 21) (S := fun w' => w'.cell? ⟨gb867, 0, none⟩ = some (.int .i64 a0_0) ∧ w'.cell? ⟨gb867, 1, none⟩ = some (.slice (some ad877) l0_1.length c0_1) ∧ w'.cell? ⟨gb875, 0, none⟩ = some (.int .i64 t871) ∧ w'.cell? ⟨gb875, 1, none⟩ = some (.slice (some ad878) t872.length co11) ∧ w'.cell? (ad877.add (x11_1).toNat) = some (.int .i64 (rd l0_1 x11_1)) ∧ w'.cell? (ad878.add (x11_1).toNat) = some (.int .i64 (rd t872 x11_1))) (ds := [18, 19]) (bm 21 0) (by kernel_rfl) rfl rfl ⟨(blk_cell BK867.out 0).trans rfl, (blk_cell BK867.out 1).trans rfl, (blk_cell BK875.out 0).trans rfl, (blk_cell BK875.out 1).trans rfl, ((HB.out.cell (World.block_lt_of_cell? w _ hw877_0)).trans hw877_0), hx878_0⟩ (fun hHeld => ?_); refine with_tabW impl_Order_indifferent.tab5 impl_Order_indifferent.bits5 (fun HT_ HW_ => ?_)
    generalize wr.drew = w21 at HO_3 HO_876001 BK867 BK875 HB hx877_0 hx878_0 hHeld ⊢
    refine purW 0 14 21 1 HT_ ?_
    refine purW 3 17 21 9 HT_ ?_
    refine purW 5 19 21 41 HT_ ?_
    refine purW 9 23 21 553 HT_ ?_
    refine purW 11 25 21 2601 HT_ ?_
    refine purW 15 29 21 35369 HT_ ?_
    refine purW 16 30 21 100905 HT_ ?_
    refine takeW 1 (some 15) (bm 21 100907) HT_ HW_ hHeld ?_
    refine takeW 4 (some 18) (bm 21 100923) HT_ HW_ hHeld ?_
    refine purW 6 20 21 100987 HT_ ?_
    refine takeW 7 (some 21) (bm 21 101115) HT_ HW_ hHeld ?_
    refine takeW 10 (some 24) (bm 21 102139) HT_ HW_ hHeld ?_
    refine purW 12 26 21 106235 HT_ ?_
    refine takeW 13 (some 27) (bm 21 114427) HT_ HW_ hHeld ?_
    refine oneW 2 (some 16) (bm 21 114431) HT_ (fun K hK => ?_)
    refine goesR Tryd.func74 #[.agg #[.int .i64 a0_0, .slice (some ad877) l0_1.length c0_1]] ?_
    with_reducible refine (impl_Order_all.calls a0_0 _ _ l0_1 t876 _ ?s1 ?s2 A14.out).mono ?_
    (case s1 => exact C_g HR0_1 HB)
    (case s2 => exact HC0_1.out)
    rintro e w22 ⟨rfl, hb⟩
    have HS5_ := (hb.cell (World.block_lt_of_cell? _ _ (hHeld.2.2.2.2.2))).trans (hHeld.2.2.2.2.2)
    refine ⟨_, rfl, ?_⟩
    replace HO_3 := rB HO_3 hb
    replace HO_876001 := rB HO_876001 hb
    replace BK867 := blkB BK867 hb
    replace BK875 := blkB BK875 hb
    replace HB := bst HB hb
    (try clear hb)
    (try clear hb2)
    (try clear hk)
    (try clear hi)
    refine hK.out _ _ ⟨(blk_cell BK867.out 0).trans rfl, (blk_cell BK867.out 1).trans rfl, (blk_cell BK875.out 0).trans rfl, (blk_cell BK875.out 1).trans rfl, ((HB.out.cell (World.block_lt_of_cell? w _ hw877_0)).trans hw877_0), HS5_⟩ (fun hHeld => ?_)
    clear hK K
    refine normW 16 ?_
    refine purW 8 22 21 114687 HT_ ?_
    refine purW 14 28 21 131071 HT_ ?_
    refine purW 17 31 21 262143 HT_ ?_
    refine last_ (i := 18) (N := some 32) (bm 21 524287) rfl rfl (one_of HT_.out (by kernel_rfl)) (by decide) (fun K hK => ?_)
    refine value_ (w1 := ?_) (v := ?_) (by rfl) rfl ?_ ?_
    rotate_left 2
    ·go_simp
     constructor
     ·rfl
     ·rfl
    refine hK.out _ _ ?_
    clear hK K
    refine normW 32 ?_
    refine last_ (i := 19) (N := some 33) (bm 21 1048575) rfl rfl (one_of HT_.out (by kernel_rfl)) (by decide) (fun K hK => ?_)
    refine Kd.R_append_step (Kd.int .i64) (w0 := w) w.heap.size (by rfl) (.tmp 14) (.tmp 32) 24 3 (.int .i64 0) 8 rfl Tryd.underlying24 info3 rfl (by decide) (by omega) u3 x3_1 (Go.bits .andNot .i64 (Go.bits .andNot .i64 (Go.bits .andNot .i64 t876 (rd l0_1 x11_1)) (rd t872 x11_1)) (ji19)) [.int .i64 (Go.bits .andNot .i64 (Go.bits .andNot .i64 (Go.bits .andNot .i64 t876 (rd l0_1 x11_1)) (rd t872 x11_1)) (ji19))] (fun k_ => some k_ ≠ (.slice (some ad878) t872.length co11 : Value).ownBlock) (fun _ => False) rfl rfl ?aP (fun _ hk => hk.elim) ?aF ?aO ?aB ?aS ?aL ?_
    (case aP => exact rfl)
    (case aB => exact (bel_g HB.out))
    (case aF => exact (fun k_ hk => Kd.fresh' (Kd.R_lt (Kd.R_g HO_876001.out)) k_ hk))
    (case aO => exact (Kd.R_g HO_3.out))
    (case aS => exact (below_size (bel_g HB.out)))
    (case aL => have := LMc20.out; omega)
    intro v880 w23 ho hb hg hat
    rw [← Ny879.out] at ho
    replace HO_876001 := mkA (Kd.R_after (ok := (fun _ => True)) (Kd.R_g (Kd.R_mono HO_876001.out (fun _ hk => ⟨trivial, hk⟩))) hg hat)
    replace BK867 := mkA (blk_grown (g := gb867) (o := .cells #[.int .i64 a0_0, .slice (some ad877) l0_1.length c0_1] 26 (0, 0)) (blk_g BK867.out) hg (Kd.R_ne HO_3.out BK867.out (by decide)))
    replace BK875 := mkA (blk_grown (g := gb875) (o := .cells #[.int .i64 t871, .slice (some ad878) t872.length co11] 26 (0, 0)) (blk_g BK875.out) hg (Kd.R_ne HO_3.out BK875.out (by decide)))
    have HO881 := mkA (ho)
    replace HB := mkA (hb)
    clear HO_3
    clear ho hb hg hat
    refine hK.out _ _ ?_
    clear hK K
    refine normW 33 ?_
    refine purW 20 3 21 2097151 HT_ ?_
    refine doneW HT_ ?_
    try go_wp2
    go_roundg k1
    case measure => have := HK1.out; omega
    case rel => exact ⟨(y879), (wrap64 (x11_1 + 1)), eqS, H', ⟨by have := HK1.out; omega⟩, rg HO881, ⟨Kd.R_g (Kd.R_mono HO_876001.out (fun _ hk => hk.2))⟩, bg BK867, bg BK875, hbg HB⟩
   ·obtain rfl := Option.some.inj H
    go_wp2
    go_ret
    exact ⟨_, eqE, Kd.R_g (Kd.R_mono HO_3.out (fun _ hk => trivial)), bel_g HB.out⟩
end Go.Proofs.YtdmheeenoklijaaDoor.Q
namespace Go.Proofs.YtdmheeenoklijaaDoor.Pure
open Go.RowKit Go.Proofs.YtdmheeenoklijaaDoor.Q Go.Proofs.YtdmheeenoklijaaDoorW.PrintWords Go.Proofs.YtdmheeenoklijaaDoorW.PrintLast
set_option linter.unusedVariables false
set_option linter.unusedSimpArgs false
theorem rowf_bits (p : Nat → Bool) (d : Nat) : d ≤ 10 → setP (rowf p d) ∧ ∀ m, bit (rowf p d) m = (decide (m < d) && p m) := by
 induction d with
 | zero => intro _; exact ⟨set_zero, fun m => by rw [show rowf p 0 = 0 from rfl, bit_zero]; simp⟩
 | succ d ih =>
  intro hd
  obtain ⟨h1, h2⟩ := ih (by omega)
  rw [rowf_succ]
  by_cases hp : p d = true
  ·rw [if_pos hp]
   have hs := set_shl (j := d) (by omega)
   have ho := set_or h1 hs.1
   refine ⟨ho.1, fun m => ?_⟩
   show bit (Go.bits .or .i64 (rowf p d) (shl .i64 1 (d : Int))) m = _
   rw [ho.2, h2, hs.2]
   by_cases e : m = d
   ·subst e; simp [hp]
   ·by_cases l : m < d
    ·simp [l, e, show m < d + 1 by omega]
    ·simp [l, e, show ¬ m < d + 1 by omega]
  ·rw [if_neg hp]
   refine ⟨h1, fun m => ?_⟩
   rw [h2]
   by_cases e : m = d
   ·subst e; simp [hp]
   ·by_cases l : m < d
    ·simp [l, show m < d + 1 by omega]
    ·simp [l, show ¬ m < d + 1 by omega]
theorem rel_set {p : Nat → Nat → Bool} {n i : Nat} (hn : n ≤ 10) (hi : i < n) : setP (rd (rel p n) (i : Int)) := by
 rw [rel_get p n i hi]; exact (rowf_bits (p i) n hn).1
theorem rel_lt {p : Nat → Nat → Bool} {n i : Nat} (hn : n ≤ 10) (hi : i < n) (j : Nat) : lt (rel p n) i j = (decide (j < n) && p i j) := by
 unfold lt; rw [rel_get p n i hi]; exact (rowf_bits (p i) n hn).2 j
theorem mirror_ev {n : Int} {L : List Int} (h : relP n L) : Ev (fun k => impl_Order_mirror.f k n L) (n, rel (fun i j => lt L j i) L.length) := by
 have e1 := h.2.1
 have e3 := h.1
 unfold impl_Order_mirror.f
 have hrel := relation_ev (fun i j => lt L j i) L.length (by omega) (fun _ u0_ u1_ => impl_Order_mirror_1.f u0_ u1_ n L) (fun i j hi hj => Ev.const (by
  unfold impl_Order_mirror_1.f
  rw [better_f n L hj (h.set hj) (by omega), Option.bind_some]; rfl))
 rw [e1] at hrel
 exact Ev.bind hrel (Ev.ret rfl)
end Go.Proofs.YtdmheeenoklijaaDoor.Pure
namespace Go.Proofs.YtdmheeenoklijaaDoor.Pure
open Go.RowKit Go.Proofs.YtdmheeenoklijaaDoor.Q Go.Proofs.YtdmheeenoklijaaDoorW.PrintWords Go.Proofs.YtdmheeenoklijaaDoorW.PrintLast
set_option linter.unusedVariables false
set_option linter.unusedSimpArgs false
end Go.Proofs.YtdmheeenoklijaaDoor.Pure
namespace Go.Proofs.YtdmheeenoklijaaDoor.Pure
open Go.RowKit Go.Proofs.YtdmheeenoklijaaDoor.Q Go.Proofs.YtdmheeenoklijaaDoorW.PrintWords Go.Proofs.YtdmheeenoklijaaDoorW.PrintLast
set_option linter.unusedVariables false
set_option linter.unusedSimpArgs false
def freeP (L : List Int) (i j : Nat) : Bool := !lt L i j && !lt L j i && !decide (j = i)
end Go.Proofs.YtdmheeenoklijaaDoor.Pure
namespace Go.Proofs.YtdmheeenoklijaaDoor.Pure
open Go.RowKit Go.Proofs.YtdmheeenoklijaaDoor.Q Go.Proofs.YtdmheeenoklijaaDoorW.PrintWords Go.Proofs.YtdmheeenoklijaaDoorW.PrintLast
set_option linter.unusedVariables false
set_option linter.unusedSimpArgs false
end Go.Proofs.YtdmheeenoklijaaDoor.Pure
namespace Go.Proofs.YtdmheeenoklijaaDoor.Pure
open Go.RowKit Go.Proofs.YtdmheeenoklijaaDoor.Q Go.Proofs.YtdmheeenoklijaaDoorW.PrintWords Go.Proofs.YtdmheeenoklijaaDoorW.PrintLast
set_option linter.unusedVariables false
set_option linter.unusedSimpArgs false
theorem loopN {α : Type} (isNil : α → Prop) (N : Nat) (good : Nat → Prop) (Rest : Prop) (g : Nat → Nat → Option α)
  (hend : ∃ x, Ev (g N) x ∧ (isNil x ↔ Rest)) (hstep : ∀ i, i < N → ∀ R : Prop, (∃ x, Ev (g (i + 1)) x ∧ (isNil x ↔ R)) → ∃ x, Ev (g i) x ∧ (isNil x ↔ good i ∧ R)) :
  ∃ x, Ev (g 0) x ∧ (isNil x ↔ (∀ i, i < N → good i) ∧ Rest) := by
 have key : ∀ d i, i + d = N → ∃ x, Ev (g i) x ∧ (isNil x ↔ (∀ j, i ≤ j → j < N → good j) ∧ Rest) := by
  intro d
  induction d with
  | zero =>
   intro i hi
   obtain rfl : i = N := by omega
   obtain ⟨x, h1, h2⟩ := hend
   exact ⟨x, h1, h2.trans ⟨fun h => ⟨fun j h3 h4 => by omega, h⟩, fun h => h.2⟩⟩
  | succ d ih =>
   intro i hi
   obtain ⟨x, h1, h2⟩ := hstep i (by omega) _ (ih (i + 1) (by omega))
   refine ⟨x, h1, h2.trans ⟨fun h => ⟨fun j h3 h4 => ?_, h.2.2⟩, fun h => ⟨h.1 i (Nat.le_refl _) (by omega), fun j h3 h4 => h.1 j (by omega) h4, h.2⟩⟩⟩
   by_cases e : j = i
   ·subst e; exact h.1
   ·exact h.2.1 j (by omega) h4
 obtain ⟨x, h1, h2⟩ := key N 0 (by omega)
 exact ⟨x, h1, h2.trans ⟨fun h => ⟨fun j h3 => h.1 j (Nat.zero_le _) h3, h.2⟩, fun h => ⟨fun j _ h3 => h.1 j h3, h.2⟩⟩⟩
theorem better_lt {n : Int} {L : List Int} (h : relP n L) {i j : Nat} (hi : i < L.length) (hj : j < L.length) : impl_Order_better.f n L (i : Int) (j : Int) = some (lt L i j) :=
 better_f n L hi ⟨(h.row hi).1, (h.row hi).2.1⟩ (by have := h.1; have := h.2.1; omega)
def bad22 (L : List Int) (a b c d : Nat) : Prop := lt L a b = true ∧ lt L c d = true ∧ lt L c b = false ∧ lt L a d = false
theorem twoTwo_ev {n : Int} {L : List Int} (h : relP n L) : ∃ x, Ev (fun k => impl_Order_twoTwo.f k n L) x ∧ (x = [] ↔ (∀ a, a < L.length → ∀ b, b < L.length → ∀ c, c < L.length → ∀ d, d < L.length → ¬ bad22 L a b c d) ∧ True) := by
 have e1 := h.2.1
 have e3 := h.1
 unfold impl_Order_twoTwo.f
 refine loopN (fun x : List Int => x = []) L.length _ True (fun (a : Nat) k => impl_Order_twoTwo.l0 k n (a : Int) n L) ⟨[], ?_, by simp⟩ (fun a ha R hR => ?_)
 ·refine Ev.shift ?_
  simp only [impl_Order_twoTwo.l0]
  exact Ev.neg (by omega) (Ev.ret rfl)
 ·have := loopN (fun x : List Int => x = []) L.length R (fun (b : Nat) k => impl_Order_twoTwo.l1 k (a : Int) n (a : Int) n (b : Int) n L) (by
   obtain ⟨x, h1, h2⟩ := hR
   refine ⟨x, Ev.shift ?_, h2⟩
   simp only [impl_Order_twoTwo.l1]
   refine Ev.neg (by omega) ?_
   rw [wrap64_id (by omega) (by omega), cast1]
   exact h1) (good := fun b => ∀ c, c < L.length → ∀ d, d < L.length → ¬ bad22 L a b c d) (fun b hb R hR => ?_)
  ·obtain ⟨x, h1, h2⟩ := this
   refine ⟨x, Ev.shift ?_, h2⟩
   simp only [impl_Order_twoTwo.l0]
   exact Ev.pos (by omega) h1
  ·have := loopN (fun x : List Int => x = []) L.length R (fun (c : Nat) k => impl_Order_twoTwo.l2 k (a : Int) (b : Int) n (a : Int) n (b : Int) n (c : Int) n L) (by
    obtain ⟨x, h1, h2⟩ := hR
    refine ⟨x, Ev.shift ?_, h2⟩
    simp only [impl_Order_twoTwo.l2]
    refine Ev.neg (by omega) ?_
    rw [wrap64_id (by omega) (by omega), cast1]
    exact h1) (good := fun c => ∀ d, d < L.length → ¬ bad22 L a b c d) (fun c hc R hR => ?_)
   ·obtain ⟨x, h1, h2⟩ := this
    refine ⟨x, Ev.shift ?_, h2⟩
    simp only [impl_Order_twoTwo.l1]
    exact Ev.pos (by omega) h1
   ·have := loopN (fun x : List Int => x = []) L.length R (fun (d : Nat) k => impl_Order_twoTwo.l3 k (a : Int) (b : Int) (c : Int) n (a : Int) n (b : Int) n (c : Int) n (d : Int) n L) (by
     obtain ⟨x, h1, h2⟩ := hR
     refine ⟨x, Ev.shift ?_, h2⟩
     simp only [impl_Order_twoTwo.l3]
     refine Ev.neg (by omega) ?_
     rw [wrap64_id (by omega) (by omega), cast1]
     exact h1) (good := fun d => ¬ bad22 L a b c d) (fun d hd R hR => ?_)
    ·obtain ⟨x, h1, h2⟩ := this
     refine ⟨x, Ev.shift ?_, h2⟩
     simp only [impl_Order_twoTwo.l2]
     exact Ev.pos (by omega) h1
    ·obtain ⟨x, h1, h2⟩ := hR
     have w := wrap64_id (x := (d : Int) + 1) (by omega) (by omega)
     by_cases c1 : lt L a b = true
     ·by_cases c2 : lt L c d = true
      ·by_cases c3 : lt L c b = true
       ·refine ⟨x, Ev.shift ?_, h2.trans ⟨fun r => ⟨fun hb => (by rw [hb.2.2.1] at c3; cases c3), r⟩, fun r => r.2⟩⟩
        simp only [impl_Order_twoTwo.l3]
        rw [w, cast1]
        exact Ev.pos (by omega) (Ev.bindc (better_lt h ha hb) (Ev.pos c1 (Ev.bindc (better_lt h hc hd) (Ev.pos c2 (Ev.bindc (better_lt h hc hb) (Ev.pos c3 h1))))))
       ·by_cases c4 : lt L a d = true
        ·refine ⟨x, Ev.shift ?_, h2.trans ⟨fun r => ⟨fun hb => (by rw [hb.2.2.2] at c4; cases c4), r⟩, fun r => r.2⟩⟩
         simp only [impl_Order_twoTwo.l3]
         rw [w, cast1]
         exact Ev.pos (by omega) (Ev.bindc (better_lt h ha hb) (Ev.pos c1 (Ev.bindc (better_lt h hc hd) (Ev.pos c2 (Ev.bindc (better_lt h hc hb) (Ev.neg c3 (Ev.bindc (better_lt h ha hd) (Ev.pos c4 h1))))))))
        ·refine ⟨[(a : Int), (b : Int), (c : Int), (d : Int)], Ev.shift ?_, ⟨fun r => (by cases r), fun r => (r.1 ⟨c1, c2, by simpa using c3, by simpa using c4⟩).elim⟩⟩
         simp only [impl_Order_twoTwo.l3]
         exact Ev.pos (by omega) (Ev.bindc (better_lt h ha hb) (Ev.pos c1 (Ev.bindc (better_lt h hc hd) (Ev.pos c2 (Ev.bindc (better_lt h hc hb) (Ev.neg c3 (Ev.bindc (better_lt h ha hd) (Ev.neg c4 (Ev.ret rfl)))))))))
      ·refine ⟨x, Ev.shift ?_, h2.trans ⟨fun r => ⟨fun hb => c2 hb.2.1, r⟩, fun r => r.2⟩⟩
       simp only [impl_Order_twoTwo.l3]
       rw [w, cast1]
       exact Ev.pos (by omega) (Ev.bindc (better_lt h ha hb) (Ev.pos c1 (Ev.bindc (better_lt h hc hd) (Ev.neg c2 h1))))
     ·refine ⟨x, Ev.shift ?_, h2.trans ⟨fun r => ⟨fun hb => c1 hb.1, r⟩, fun r => r.2⟩⟩
      simp only [impl_Order_twoTwo.l3]
      rw [w, cast1]
      exact Ev.pos (by omega) (Ev.bindc (better_lt h ha hb) (Ev.neg c1 h1))
end Go.Proofs.YtdmheeenoklijaaDoor.Pure
namespace Go.Proofs.YtdmheeenoklijaaDoor.Pure
set_option linter.unusedVariables false
set_option linter.unusedSimpArgs false
-- plain
-- plain
structure Ord (n : Nat) (r : Nat → Nat → Bool) : Prop where
 irr : ∀ i, i < n → r i i = false
 trans : ∀ i j m, i < n → j < n → m < n → r i j = true → r j m = true → r i m = true
section
variable {n : Nat} {r : Nat → Nat → Bool}
theorem Ord.asym (h : Ord n r) {i j : Nat} (hi : i < n) (hj : j < n) (h1 : r i j = true) : r j i = false := by
 cases hb : r j i
 ·rfl
 ·have := h.trans i j i hi hj hi h1 hb; rw [h.irr i hi] at this; cases this
def No22 (n : Nat) (r : Nat → Nat → Bool) : Prop := ∀ a b c d, a < n → b < n → c < n → d < n → r a b = true → r c d = true → r c b = false → r a d = false → False
def No31 (n : Nat) (r : Nat → Nat → Bool) : Prop := ∀ a b c d, a < n → b < n → c < n → d < n → r a b = true → r b c = true → r a d = false → r d a = false → d ≠ a → r b d = false → r d b = false → d ≠ b → r c d = false → r d c = false → d ≠ c → False
def No21 (n : Nat) (r : Nat → Nat → Bool) : Prop := ∀ a b c, a < n → b < n → c < n → r a b = true → r a c = false → r c a = false → c ≠ a → r b c = false → r c b = false → c ≠ b → False
def trR (n : Nat) (r : Nat → Nat → Bool) (i j : Nat) : Prop := (∃ x, x < n ∧ r x j = true ∧ r x i = false) ∨ (∃ y, y < n ∧ r i y = true ∧ r j y = false)
def num (n : Nat) (r : Nat → Nat → Bool) (i : Nat) : Int := ((List.range n).countP (fun x => r x i) : Int) - ((List.range n).countP (fun y => r i y) : Int)
theorem below_nested (h22 : No22 n r) {i j x : Nat} (hi : i < n) (hj : j < n) (hx : x < n) (h1 : r x j = true) (h2 : r x i = false) : ∀ z, z < n → r z i = true → r z j = true := by
 intro z hz hzi
 cases hb : r z j
 ·exact (h22 x j z i hx hj hz hi h1 hzi hb h2).elim
 ·rfl
end
end Go.Proofs.YtdmheeenoklijaaDoor.Pure
namespace Go.Proofs.YtdmheeenoklijaaDoor.Pure
open Go.RowKit Go.Proofs.YtdmheeenoklijaaDoor.Q Go.Proofs.YtdmheeenoklijaaDoorW.PrintWords Go.Proofs.YtdmheeenoklijaaDoorW.PrintLast
set_option linter.unusedVariables false
set_option linter.unusedSimpArgs false
theorem ord_lt {n : Int} {L : List Int} (h : orderP n L) : Ord L.length (lt L) := ⟨fun i hi => h.irr hi, fun i j m hi hj hm h1 h2 => h.trans hi h1 h2⟩
def dn (L : List Int) (i : Nat) : Int := rowf (fun j => lt L j i) L.length
def dns (L : List Int) : List Int := rel (fun i j => lt L j i) L.length
theorem dns_length (L : List Int) : (dns L).length = L.length := rel_length _ _
theorem mem_dns {L : List Int} {x : Int} : x ∈ dns L ↔ ∃ i, i < L.length ∧ dn L i = x := by
 unfold dns rel dn
 simp only [List.mem_map, List.mem_range]
theorem dn_set {n : Int} {L : List Int} (h : relP n L) (i : Nat) : setP (dn L i) ∧ ∀ m, bit (dn L i) m = (decide (m < L.length) && lt L m i) := rowf_bits _ _ (by have := h.1; have := h.2.1; omega)
theorem dn_sub {n : Int} {L : List Int} (h : relP n L) (i j : Nat) : andN (dn L j) (dn L i) = 0 ↔ ∀ x, x < L.length → lt L x j = true → lt L x i = true := by
 have h10 : L.length ≤ 10 := by have := h.1; have := h.2.1; omega
 rw [andNot_zero (dn_set h j).1 (dn_set h i).1]
 constructor
 ·intro h2 x hx hb
  have := h2 x (by omega) (by rw [(dn_set h j).2]; simp [hx, hb])
  rw [(dn_set h i).2] at this
  simp at this; exact this.2
 ·intro h2 x hx hb
  rw [(dn_set h j).2] at hb
  simp at hb
  rw [(dn_set h i).2]; simp [hb.1, h2 x hb.1 hb.2]
theorem dn_eq {n : Int} {L : List Int} (h : relP n L) (i j : Nat) : dn L j = dn L i ↔ (∀ x, x < L.length → lt L x j = true → lt L x i = true) ∧ (∀ x, x < L.length → lt L x i = true → lt L x j = true) := by
 constructor
 ·intro e
  have e0 : andN (dn L i) (dn L i) = 0 := (dn_sub h i i).2 fun x _ hx => hx
  exact ⟨(dn_sub h i j).1 (by rw [e]; exact e0), (dn_sub h j i).1 (by rw [e]; exact e0)⟩
 ·rintro ⟨h1, h2⟩
  refine set_ext (dn_set h j).1 (dn_set h i).1 fun x hx => ?_
  rw [(dn_set h j).2, (dn_set h i).2]
  by_cases hxl : x < L.length
  ·have a := h1 x hxl; have b := h2 x hxl
   cases e1 : lt L x j <;> cases e2 : lt L x i <;> simp_all
  ·simp [hxl]
end Go.Proofs.YtdmheeenoklijaaDoor.Pure
