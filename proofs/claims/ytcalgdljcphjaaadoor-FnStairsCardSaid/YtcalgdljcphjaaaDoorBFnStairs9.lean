import Derived.Test.YtcalgdljcphjaaaDoorBFnStairs3
import Derived.Test.YtcalgdljcphjaaaDoorBFnStairs8
namespace Go.Proofs.YtcalgdljcphjaaaDoor.Q
open Go.RowKit Go.Proofs.YtcalgdljcphjaaaDoorW.PrintWords Go.Proofs.YtcalgdljcphjaaaDoorW.PrintLast Go.Proofs.YtcalgdljcphjaaaDoorW.PrintMore
attribute [local go_sem] max2_int min2_int max_two min_two max_three min_three max_four min_four neB_f
set_option linter.unusedVariables false
set_option maxHeartbeats 8000000
set_option maxRecDepth 100000
set_option linter.unusedSimpArgs false
def impl_Order_mirror.f (k : Nat) (a0_0 : Int) (l0_1 : List Int) : Option (Int × List Int) := (impl_relation.f k a0_0 (fun u0_ u1_ => impl_Order_mirror_1.f u0_ u1_ a0_0 l0_1)).bind fun bt240 => (some (bt240.1, bt240.2))
theorem impl_Order_mirror.mono : ∀ a0 a1 k, LeO (impl_Order_mirror.f k a0 a1) (impl_Order_mirror.f (k + 1) a0 a1) := by
 intro a0 a1 k
 unfold impl_Order_mirror.f
 repeat' first
   | (with_reducible exact impl_relation.mono _ _ _)
   | (refine impl_relation.monoF ?_ _ _; intros)
   | (with_reducible exact impl_relation.mono _ _ _)
   | (with_reducible exact LeO.refl _)
   | (with_reducible exact LeO.none _)
   | (with_reducible refine LeO.ite ?_ ?_)
   | (with_reducible refine LeO.bind ?_ (fun _ => ?_))
   | exact impl_relation.mono _ _ _
   | exact LeO.none _
   | refine LeO.ite ?_ ?_
   | refine LeO.bind ?_ (fun _ => ?_)
theorem impl_Order_mirror.calls (k : Nat) (a0_0 : Int) (A0_1 : Option Addr) (c0_1 : Nat) (l0_1 : List Int) (r1 : Int) (r2 : List Int) (w : World) (hr0_1 : Kd.C (Kd.int .i64) w A0_1 l0_1.length l0_1) (hc0_1 : l0_1.length ≤ c0_1) (h : impl_Order_mirror.f k a0_0 l0_1 = some (r1, r2)) :
  Calls Tryd.prog 31 #[.agg #[.int .i64 a0_0, .slice A0_1 l0_1.length c0_1]] w fun e w' => ∃ v1_ : Value, e = .returned (.agg #[.int .i64 r1, v1_]) ∧ Kd.R (Kd.int .i64) 3 w' w.heap.size (fun _ => True) v1_ r2 ∧ Below w.heap.size w w' := by
 have hu27 := Tryd.underlying27
 have HR0_1 := mkA hr0_1
 have HC0_1 := mkA hc0_1
 clear hr0_1 hc0_1
 have HB := mkA (Below.refl w.heap.size w)
 have H := h
 clear h
 unfold impl_Order_mirror.f at H
 obtain ⟨⟨t240, t241⟩, A2, H⟩ := obE H
 dsimp only at H
 simp only [Option.some.injEq, Prod.mk.injEq] at H
 obtain ⟨rfl, rfl⟩ := H
 go_enter Tryd.func31, Tryd.ntmps31
 go_wp2_with (first | ((with_reducible refine gate_dst (N := 1) rfl ?_); refine boxG HB #[.int .i64 a0_0, .slice A0_1 l0_1.length c0_1] 27 ?_; intro gb238 hg w3 BK238 GE238 hb; replace HB := bst HB hb; clear hb hg) | ((with_reducible refine gate_dst (N := 2) rfl ?_); refine boxG HB #[.int .i64 0, .slice none 0 0] 27 ?_; intro gb239 hg w4 BK239 GE239 hb; have NB238_239 := neL7 BK238 hg; have NB239_238 := neR7 BK238 hg; replace BK238 := blkB BK238 hb; replace HB := bst HB hb; clear hb hg; obtain ⟨_, _, _, _⟩ := blk2 BK238) | ((with_reducible refine gate_callee (f := 41) rfl ?_); refine goesQ (some 6) Tryd.func41 #[.int .i64 a0_0, .func (.func 48) #[] #[.pointer (some ⟨gb238, 0, none⟩)]] ?_; (with_reducible refine (impl_relation.calls k a0_0 (fun u0_ u1_ => impl_Order_mirror_1.f u0_ u1_ a0_0 l0_1) 48 #[.pointer (some ⟨gb238, 0, none⟩)] (fun args_ W_ => enters_ Tryd.func48 (by kernel_rfl) rfl args_ W_) t240 t241 _ ?s1 A2.out).mono ?_); (case s1 => exact fun u0_ u1_ q_ W_ hb_ hq_ => (impl_Order_mirror_1.calls u0_ u1_ gb238 a0_0 A0_1 c0_1 l0_1 q_ W_ (blk_below (show _ = some (Obj.cells #[.int .i64 a0_0, .slice A0_1 l0_1.length c0_1] 27 (0, 0)) from blkT BK238) hb_) (Kd.C_below (show Kd.C (Kd.int .i64) _ A0_1 l0_1.length l0_1 from by exact C_g HR0_1 HB) hb_) (by exact HC0_1.out) hq_).mono (fun _ _ h_ => ⟨h_.1, h_.2⟩)); rintro e w7 ⟨v242, rfl, ho0, hb⟩; refine ⟨_, rfl, ?_⟩; have HO243 := rLo ho0 HB; replace BK238 := blkB BK238 hb; replace BK239 := blkB BK239 hb; replace HB := bst HB hb; clear hb ho0; obtain ⟨_, _, _, _⟩ := blk2 BK239; obtain ⟨Ao9, co9, rfl⟩ := Kd.R_slice HO243.out))
 refine bodyPost_ret (results_cell_row rfl _ _ gb239 27 #[.int .i64 t240, .slice Ao9 t241.length co9] (0, 0) _ rfl (blkT BK239) Tryd.underlying27 rfl (by kernel_rfl)) rfl ?_
 exact ⟨_, eqE, Kd.R_g (Kd.R_mono (rF HO243 BK239) (fun _ _ => trivial)), bel_g HB.out⟩
def impl_Order_all.f (a0_0 : Int) (l0_1 : List Int) : Option (Int) := if 0 ≤ a0_0 then (some (wrap64 ((shl .i64 1 a0_0) - 1))) else (none)
theorem impl_Order_all.calls (a0_0 : Int) (A0_1 : Option Addr) (c0_1 : Nat) (l0_1 : List Int) (r : Int) (w : World) (hr0_1 : Kd.C (Kd.int .i64) w A0_1 l0_1.length l0_1) (hc0_1 : l0_1.length ≤ c0_1) (h : impl_Order_all.f a0_0 l0_1 = some r) :
  Calls Tryd.prog 63 #[.agg #[.int .i64 a0_0, .slice A0_1 l0_1.length c0_1]] w fun e w' => e = .returned (.int .i64 r) ∧ Below w.heap.size w w' := by
 have hu27 := Tryd.underlying27
 have HR0_1 := mkA hr0_1
 have HC0_1 := mkA hc0_1
 clear hr0_1 hc0_1
 have HB := mkA (Below.refl w.heap.size w)
 have H := h
 clear h
 unfold impl_Order_all.f at H
 obtain ⟨c2b0, c2b1, H⟩ := itNQ H
 obtain ⟨ji3, hji3⟩ : ∃ j_ : Int, (shl .i64 1 a0_0) = j_ := ⟨_, rfl⟩
 first | rw [hji3] at H | simp only [hji3] at H
 have hji3_ : (IntKind.i64.wrap (1 * 2 ^ min a0_0.toNat 64)) = ji3 := hji3
 have hji3z : a0_0 ≤ 64 → (IntKind.i64.wrap (1 * 2 ^ a0_0.toNat)) = ji3 := shl_small hji3
 have hji3u : (IntKind.i64.wrap (2 ^ min a0_0.toNat 64)) = ji3 := by have h_ := hji3_; rw [Int.one_mul] at h_; exact h_
 have hji3v : a0_0 ≤ 64 → (IntKind.i64.wrap (2 ^ a0_0.toNat)) = ji3 := fun hle_ => by have h_ := hji3z hle_; rw [Int.one_mul] at h_; exact h_
 have hji3y : (wrap64 (1 * 2 ^ min a0_0.toNat 64)) = ji3 := (i64_w _).symm.trans hji3_
 have hji3x : a0_0 ≤ 64 → (wrap64 (1 * 2 ^ a0_0.toNat)) = ji3 := fun h_ => (i64_w _).symm.trans (hji3z h_)
 obtain rfl := Option.some.inj H
 go_enter Tryd.func63, Tryd.ntmps63
 go_wp2_with (first | ((with_reducible refine gate_dst (N := 1) rfl ?_); refine boxG HB #[.int .i64 a0_0, .slice A0_1 l0_1.length c0_1] 27 ?_; intro gb244 hg w4 BK244 GE244 hb; replace HB := bst HB hb; clear hb hg; obtain ⟨_, _, _, _⟩ := blk2 BK244))
 go_ret
 exact ⟨by first | rfl | (simp [errW_none, errW_some] <;> rfl) | (simp only [← hji3]; first | rfl | (simp [errW_none, errW_some] <;> rfl)) | (simp [*, errW_none, errW_some] <;> rfl), bel_g HB.out⟩
def impl_Order_indifferent.l0 : Nat → List Int → Int → Int → Int → List Int → Int → List Int → Option (List Int)
 | 0, _, _, _, _, _, _, _ => none
 | k + 1, x3, x10, x11, x246000, x246001, x254000, x254001 => if x11 < x10 then ((impl_Order_all.f x246000 x246001).bind fun t254 => (if 0 ≤ x11 then (if x11 < (x246001.length : Int) then (if x11 < (x254001.length : Int) then (if x3.length < 17592186044416 then (impl_Order_indifferent.l0 k (x3 ++ [Go.bits .andNot .i64 (Go.bits .andNot .i64 (Go.bits .andNot .i64 t254 (rd x246001 x11)) (rd x254001 x11)) (shl .i64 1 x11)]) x10 (wrap64 (x11 + 1)) x246000 x246001 x254000 x254001) else (none)) else (none)) else (none)) else (none))) else (some x3)
def impl_Order_indifferent.f (k : Nat) (a0_0 : Int) (l0_1 : List Int) : Option (List Int) := (impl_Order_mirror.f k a0_0 l0_1).bind fun bt249 => (impl_Order_indifferent.l0 k (([] : List Int)) a0_0 0 a0_0 l0_1 bt249.1 bt249.2)
theorem impl_Order_indifferent.mono_l : ∀ k, (∀ y0 y1 y2 y3 y4 y5 y6, LeO (impl_Order_indifferent.l0 k y0 y1 y2 y3 y4 y5 y6) (impl_Order_indifferent.l0 (k + 1) y0 y1 y2 y3 y4 y5 y6))
 | 0 => fun _ _ _ _ _ _ _ r h => by simp [impl_Order_indifferent.l0] at h
 | k + 1 => by
  have ih0 := impl_Order_indifferent.mono_l k
  ·intro y0 y1 y2 y3 y4 y5 y6
   unfold impl_Order_indifferent.l0
   repeat' (with_reducible first|apply ih0|apply impl_Order_mirror.mono|apply LeO.refl|apply LeO.none|apply LeO.ite|apply LeO.bind|intro)
theorem impl_Order_indifferent.mono : ∀ a0 a1 k, LeO (impl_Order_indifferent.f k a0 a1) (impl_Order_indifferent.f (k + 1) a0 a1) := by
 intro a0 a1 k
 have ih0 := impl_Order_indifferent.mono_l k
 unfold impl_Order_indifferent.f
 repeat' (with_reducible first|apply ih0|apply impl_Order_mirror.mono|apply LeO.refl|apply LeO.none|apply LeO.ite|apply LeO.bind|intro)
def impl_Order_indifferent.T5 : Bool × List (List Nat × List Nat) := (true, [([], []), ([], []), ([1], [1]), ([], []), ([3], [3]), ([], []), ([4, 5], [4, 5]), ([6], [6]), ([2, 7], [2, 7]), ([], []), ([9], [9]), ([], []), ([10, 11], [10, 11]), ([12], [12]), ([8, 13], [8, 13]), ([], []), ([15], [15]), ([14, 16], [14, 16]), ([17], [17]), ([0, 18, 2], [0, 18]), ([19, 19, 0, 1, 2, 3, 4, 5, 6, 7, 8, 9, 10, 11, 12, 13, 14, 15, 16, 17, 18, 19], [0, 19])])
def impl_Order_indifferent.B5 : List Nat := [0, 0, 2, 0, 8, 0, 56, 120, 254, 0, 512, 0, 3584, 7680, 16382, 0, 32768, 131070, 262142, 524287, 1048575]
theorem impl_Order_indifferent.tab5 : rtab .any (opsOf Tryd.f56 5) = impl_Order_indifferent.T5 := by kernel_rfl
theorem impl_Order_indifferent.bits5 : waitsOk impl_Order_indifferent.T5.2 impl_Order_indifferent.B5 = true := by kernel_rfl
theorem impl_Order_indifferent.calls (k : Nat) (a0_0 : Int) (A0_1 : Option Addr) (c0_1 : Nat) (l0_1 : List Int) (r : List Int) (w : World) (hr0_1 : Kd.C (Kd.int .i64) w A0_1 l0_1.length l0_1) (hc0_1 : l0_1.length ≤ c0_1) (h : impl_Order_indifferent.f k a0_0 l0_1 = some r) :
  Calls Tryd.prog 56 #[.agg #[.int .i64 a0_0, .slice A0_1 l0_1.length c0_1]] w fun e w' => ∃ v0_ : Value, e = .returned (v0_) ∧ Kd.R (Kd.int .i64) 3 w' w.heap.size (fun _ => True) v0_ r ∧ Below w.heap.size w w' := by
 have hu27 := Tryd.underlying27
 have HR0_1 := mkA hr0_1
 have HC0_1 := mkA hc0_1
 clear hr0_1 hc0_1
 have HB := mkA (Below.refl w.heap.size w)
 have H := h
 clear h
 unfold impl_Order_indifferent.f at H
 obtain ⟨y246, hy246⟩ : ∃ y_ : List Int, y_ = (([] : List Int)) := ⟨_, rfl⟩
 rw [← hy246] at H
 have Ny246 := mkA hy246
 clear hy246
 obtain ⟨⟨t249, t250⟩, A2, H⟩ := obE H
 dsimp only at H
 have H' := mkA H
 clear H
 go_enter Tryd.func56, Tryd.ntmps56
 go_wp2_with (first | ((with_reducible refine gate_dst (N := 1) rfl ?_); refine boxG HB #[.int .i64 a0_0, .slice A0_1 l0_1.length c0_1] 27 ?_; intro gb245 hg w3 BK245 GE245 hb; replace HB := bst HB hb; clear hb hg) | ((with_reducible refine gate_dst (N := 6) rfl ?_); refine litE (Kd.int .i64) 3 ([] : List Int) [] ?hp ?_; (case hp => exact (Reps.none _ _)); intro v247 w4 ho5 hb hg_ hnew_; clear hg_ hnew_; (first | rw [← Ny246.out] at ho5 | (simp only [Int.reduceToNat] at ho5; rw [← Ny246.out] at ho5)); have HO248 := rLo ho5 HB; replace BK245 := blkB BK245 hb; replace HB := bst HB hb; clear hb ho5; obtain ⟨_, _, _, _⟩ := blk2 BK245) | ((with_reducible refine gate_callee (f := 31) rfl ?_); refine goesQ (some 8) Tryd.func31 #[.agg #[.int .i64 a0_0, .slice A0_1 l0_1.length c0_1]] ?_; (with_reducible refine (impl_Order_mirror.calls k a0_0 _ _ l0_1 t249 t250 _ ?_ ?_ A2.out).mono ?_); exact C_g HR0_1 HB; exact HC0_1.out; rintro e w7 ⟨v251, rfl, ho0, hb⟩; refine ⟨_, rfl, ?_⟩; have HO252 := rLo (rN ho0 HO248) HB; replace HO248 := rE HO248 ho0 hb; replace BK245 := blkB BK245 hb; replace HB := bst HB hb; clear hb ho0) | ((with_reducible refine gate_dst (N := 4) rfl ?_); refine boxG HB #[.int .i64 0, .slice none 0 0] 27 ?_; intro gb253 hg w8 BK253 GE253 hb; replace HO248 := rB HO248 hb; replace HO252 := rB HO252 hb; have NB245_253 := neL7 BK245 hg; have NB253_245 := neR7 BK245 hg; replace BK245 := blkB BK245 hb; replace HB := bst HB hb; clear hb hg; obtain ⟨_, _, _, _⟩ := blk2 BK253; obtain ⟨Ao11, co11, rfl⟩ := Kd.R_slice HO252.out; obtain ⟨_, _, _, _⟩ := blk2 BK245))
 go_loopg [3, 11] k (fun kq v3 v11 w' => ∃ (x3_1 : List Int) (x11_1 : Int), v11 = .int .i64 x11_1 ∧ Fc (impl_Order_indifferent.l0 kq x3_1 a0_0 x11_1 a0_0 l0_1 t249 t250 = some r) ∧ Fc (kq ≤ k) ∧ Fc (Kd.R (Kd.int .i64) 3 w' w.heap.size (fun k_ => some k_ ≠ ((.slice Ao11 t250.length co11) : Value).ownBlock) v3 x3_1) ∧ Fc (Kd.R (Kd.int .i64) 3 w' w.heap.size (fun k_ => some k_ ≠ (v3 : Value).ownBlock) (.slice Ao11 t250.length co11) t250) ∧ Fc (w'.heap[gb245]? = some (.cells #[.int .i64 a0_0, (.slice A0_1 l0_1.length c0_1)] 27 (0, 0))) ∧ Fc (w'.heap[gb253]? = some (.cells #[.int .i64 t249, (.slice Ao11 t250.length co11)] 27 (0, 0))) ∧ Fc (Below w.heap.size w w'))
 case atStart => exact ⟨(y246), (0), eqS, H', ⟨Nat.le_refl _⟩, ⟨Kd.R_g (Kd.R_mono (Kd.R_far (p := ⟨gb253, 1, none⟩) (Kd.R_far (p := ⟨gb253, 0, none⟩) (Kd.R_types HO248.out BK253.out (by decide)) (fun _ hk => hk.2) (.int .i64 t249)) (fun _ hk => hk.2) (.slice Ao11 t250.length co11)) (fun _ hk => hk.1.2))⟩, ⟨Kd.R_g (Kd.R_mono (Kd.R_far (p := ⟨gb253, 1, none⟩) (Kd.R_far (p := ⟨gb253, 0, none⟩) (Kd.R_types HO252.out BK253.out (by decide)) (fun _ hk => hk.2) (.int .i64 t249)) (fun _ hk => hk.2) (.slice Ao11 t250.length co11)) (fun _ hk => hk.1.2))⟩, ⟨blkT BK245⟩, ⟨blkT BK253⟩, hbg HB⟩
 case round =>
  clear H'
  obtain ⟨x3_1, x11_1, rfl, HA, HK1, HO_3, HO_254001, BK245, BK253, HB⟩ := hrel
  cases gk with
  | zero => exact absurd HA.out (by simp [impl_Order_indifferent.l0])
  | succ k1 =>
   have H := HA.out
   clear HA
   simp only [impl_Order_indifferent.l0] at H
   rcases iteE H with ⟨c13b0, H⟩ | ⟨c13b0, H⟩
   ·obtain ⟨t254, A14, H⟩ := obE H
    obtain ⟨c15b0, H⟩ := itND H
    obtain ⟨c16b0, H⟩ := itND H
    obtain ⟨c17b0, H⟩ := itND H
    have c18b0 := eq_true (ofd : 0 ≤ x11_1)
    obtain ⟨ji19, hji19⟩ : ∃ j_ : Int, (shl .i64 1 x11_1) = j_ := ⟨_, rfl⟩
    first | rw [hji19] at H | simp only [hji19] at H
    (try rw [hji19] at A14)
    have hji19_ : (IntKind.i64.wrap (1 * 2 ^ min x11_1.toNat 64)) = ji19 := hji19
    have hji19z : x11_1 ≤ 64 → (IntKind.i64.wrap (1 * 2 ^ x11_1.toNat)) = ji19 := shl_small hji19
    have hji19u : (IntKind.i64.wrap (2 ^ min x11_1.toNat 64)) = ji19 := by have h_ := hji19_; rw [Int.one_mul] at h_; exact h_
    have hji19v : x11_1 ≤ 64 → (IntKind.i64.wrap (2 ^ x11_1.toNat)) = ji19 := fun hle_ => by have h_ := hji19z hle_; rw [Int.one_mul] at h_; exact h_
    have hji19y : (wrap64 (1 * 2 ^ min x11_1.toNat 64)) = ji19 := (i64_w _).symm.trans hji19_
    have hji19x : x11_1 ≤ 64 → (wrap64 (1 * 2 ^ x11_1.toNat)) = ji19 := fun h_ => (i64_w _).symm.trans (hji19z h_)
    obtain ⟨c20, H⟩ := itNP H
    have LMc20 := mkA c20
    clear c20
    obtain ⟨y257, hy257⟩ : ∃ y_ : List Int, y_ = (x3_1 ++ [Go.bits .andNot .i64 (Go.bits .andNot .i64 (Go.bits .andNot .i64 t254 (rd l0_1 x11_1)) (rd t250 x11_1)) (ji19)]) := ⟨_, rfl⟩
    rw [← hy257] at H
    have Ny257 := mkA hy257
    clear hy257
    have H' := mkA H
    clear H
    try go_wp2
    replace HO_3 := mkA (Kd.R_drew HO_3.out)
    replace HO_254001 := mkA (Kd.R_drew HO_254001.out)
    replace BK245 := mkA (blk_drew BK245.out)
    replace BK253 := mkA (blk_drew BK253.out)
    replace HB := mkA (below_drew1 HB.out)
    obtain ⟨p255, q255, ad255, e255, hx255_0⟩ := atI HR0_1.out x11_1
    have hw255_0 := hx255_0
    cases e255
    replace hx255_0 := (HB.out.cell (World.block_lt_of_cell? w _ hx255_0)).trans hx255_0
    obtain ⟨p256, q256, ad256, e256, hx256_0⟩ := atI (Kd.R_reads' HO_254001.out).2.2 x11_1
    cases e256
    refine start_ (n := 21) (S := fun w' => w'.cell? ⟨gb245, 0, none⟩ = some (.int .i64 a0_0) ∧ w'.cell? ⟨gb245, 1, none⟩ = some (.slice (some ad255) l0_1.length c0_1) ∧ w'.cell? ⟨gb253, 0, none⟩ = some (.int .i64 t249) ∧ w'.cell? ⟨gb253, 1, none⟩ = some (.slice (some ad256) t250.length co11) ∧ w'.cell? (ad255.add (x11_1).toNat) = some (.int .i64 (rd l0_1 x11_1)) ∧ w'.cell? (ad256.add (x11_1).toNat) = some (.int .i64 (rd t250 x11_1))) (ds := [18, 19]) (bm 21 0) (by kernel_rfl) rfl rfl ⟨(blk_cell BK245.out 0).trans rfl, (blk_cell BK245.out 1).trans rfl, (blk_cell BK253.out 0).trans rfl, (blk_cell BK253.out 1).trans rfl, ((HB.out.cell (World.block_lt_of_cell? w _ hw255_0)).trans hw255_0), hx256_0⟩ (fun hHeld => ?_); refine with_tabW impl_Order_indifferent.tab5 impl_Order_indifferent.bits5 (fun HT_ HW_ => ?_)
    generalize wr.drew = w21 at HO_3 HO_254001 BK245 BK253 HB hx255_0 hx256_0 hHeld ⊢
    refine purW 0 14 21 1 HT_ ?_
    refine purW 3 17 21 9 HT_ ?_
    refine purW 5 19 21 41 HT_ ?_
    refine purW 9 23 21 553 HT_ ?_
    refine purW 11 25 21 2601 HT_ ?_
    refine purW 15 29 21 35369 HT_ ?_
    refine purW 16 30 21 100905 HT_ ?_
    refine takeW 1 (some 15) (bm 21 100907) HT_ HW_ hHeld ?_
    refine takeW 4 (some 18) (bm 21 100923) HT_ HW_ hHeld ?_
    refine purW 6 20 21 100987 HT_ ?_
    refine takeW 7 (some 21) (bm 21 101115) HT_ HW_ hHeld ?_
    refine takeW 10 (some 24) (bm 21 102139) HT_ HW_ hHeld ?_
    refine purW 12 26 21 106235 HT_ ?_
    refine takeW 13 (some 27) (bm 21 114427) HT_ HW_ hHeld ?_
    refine oneW 2 (some 16) (bm 21 114431) HT_ (fun K hK => ?_)
    refine goesR Tryd.func63 #[.agg #[.int .i64 a0_0, .slice (some ad255) l0_1.length c0_1]] ?_
    with_reducible refine (impl_Order_all.calls a0_0 _ _ l0_1 t254 _ ?s1 ?s2 A14.out).mono ?_
    (case s1 => exact C_g HR0_1 HB)
    (case s2 => exact HC0_1.out)
    rintro e w22 ⟨rfl, hb⟩
    have HS5_ := (hb.cell (World.block_lt_of_cell? _ _ (hHeld.2.2.2.2.2))).trans (hHeld.2.2.2.2.2)
    refine ⟨_, rfl, ?_⟩
    replace HO_3 := rB HO_3 hb
    replace HO_254001 := rB HO_254001 hb
    replace BK245 := blkB BK245 hb
    replace BK253 := blkB BK253 hb
    replace HB := bst HB hb
    (try clear hb)
    (try clear hb2)
    (try clear hk)
    (try clear hi)
    refine hK.out _ _ ⟨(blk_cell BK245.out 0).trans rfl, (blk_cell BK245.out 1).trans rfl, (blk_cell BK253.out 0).trans rfl, (blk_cell BK253.out 1).trans rfl, ((HB.out.cell (World.block_lt_of_cell? w _ hw255_0)).trans hw255_0), HS5_⟩ (fun hHeld => ?_)
    clear hK K
    refine normW 16 ?_
    refine purW 8 22 21 114687 HT_ ?_
    refine purW 14 28 21 131071 HT_ ?_
    refine purW 17 31 21 262143 HT_ ?_
    refine last_ (i := 18) (N := some 32) (bm 21 524287) rfl rfl (one_of HT_.out (by kernel_rfl)) (by decide) (fun K hK => ?_)
    refine value_ (w1 := ?_) (v := ?_) (by rfl) rfl ?_ ?_
    rotate_left 2
    ·go_simp
     constructor
     ·rfl
     ·rfl
    refine hK.out _ _ ?_
    clear hK K
    refine normW 32 ?_
    refine last_ (i := 19) (N := some 33) (bm 21 1048575) rfl rfl (one_of HT_.out (by kernel_rfl)) (by decide) (fun K hK => ?_)
    refine Kd.R_append_step (Kd.int .i64) (w0 := w) w.heap.size (by rfl) (.tmp 14) (.tmp 32) 24 3 (.int .i64 0) 8 rfl Tryd.underlying24 info3 rfl (by decide) (by omega) u3 x3_1 (Go.bits .andNot .i64 (Go.bits .andNot .i64 (Go.bits .andNot .i64 t254 (rd l0_1 x11_1)) (rd t250 x11_1)) (ji19)) [.int .i64 (Go.bits .andNot .i64 (Go.bits .andNot .i64 (Go.bits .andNot .i64 t254 (rd l0_1 x11_1)) (rd t250 x11_1)) (ji19))] (fun k_ => some k_ ≠ (.slice (some ad256) t250.length co11 : Value).ownBlock) (fun _ => False) rfl rfl ?aP (fun _ hk => hk.elim) ?aF ?aO ?aB ?aS ?aL ?_
    (case aP => exact rfl)
    (case aB => exact (bel_g HB.out))
    (case aF => exact (fun k_ hk => Kd.fresh' (Kd.R_lt (Kd.R_g HO_254001.out)) k_ hk))
    (case aO => exact (Kd.R_g HO_3.out))
    (case aS => exact (below_size (bel_g HB.out)))
    (case aL => have := LMc20.out; omega)
    intro v258 w23 ho hb hg hat
    rw [← Ny257.out] at ho
    replace HO_254001 := mkA (Kd.R_after (ok := (fun _ => True)) (Kd.R_g (Kd.R_mono HO_254001.out (fun _ hk => ⟨trivial, hk⟩))) hg hat)
    replace BK245 := mkA (blk_grown (g := gb245) (o := .cells #[.int .i64 a0_0, .slice (some ad255) l0_1.length c0_1] 27 (0, 0)) (blk_g BK245.out) hg (Kd.R_ne HO_3.out BK245.out (by decide)))
    replace BK253 := mkA (blk_grown (g := gb253) (o := .cells #[.int .i64 t249, .slice (some ad256) t250.length co11] 27 (0, 0)) (blk_g BK253.out) hg (Kd.R_ne HO_3.out BK253.out (by decide)))
    have HO259 := mkA (ho)
    replace HB := mkA (hb)
    clear HO_3
    clear ho hb hg hat
    refine hK.out _ _ ?_
    clear hK K
    refine normW 33 ?_
    refine purW 20 3 21 2097151 HT_ ?_
    refine doneW HT_ ?_
    try go_wp2
    go_roundg k1
    case measure => have := HK1.out; omega
    case rel => exact ⟨(y257), (wrap64 (x11_1 + 1)), eqS, H', ⟨by have := HK1.out; omega⟩, rg HO259, ⟨Kd.R_g (Kd.R_mono HO_254001.out (fun _ hk => hk.2))⟩, bg BK245, bg BK253, hbg HB⟩
   ·obtain rfl := Option.some.inj H
    go_wp2
    go_ret
    exact ⟨_, eqE, Kd.R_g (Kd.R_mono HO_3.out (fun _ hk => trivial)), bel_g HB.out⟩
end Go.Proofs.YtcalgdljcphjaaaDoor.Q
