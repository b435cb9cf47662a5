import Derived.Test.YtlfjnllnddpgoaaDoorBFnStretchedIntervals1
namespace Go.Proofs.YtlfjnllnddpgoaaDoor.Q
open Go.RowKit Go.Proofs.YtlfjnllnddpgoaaDoorW.PrintWords Go.Proofs.YtlfjnllnddpgoaaDoorW.PrintLast Go.Proofs.YtlfjnllnddpgoaaDoorW.PrintMore
attribute [local go_sem] max2_int min2_int max_two min_two max_three min_three max_four min_four neB_f
set_option linter.unusedVariables false
set_option maxHeartbeats 8000000
set_option maxRecDepth 100000
set_option linter.unusedSimpArgs false
def laws_pSame.l0 : Nat → List Int → List Int → Int → Int → Option (Bool)
 | 0, _, _, _, _ => none
 | k + 1, x0, x1, x12, x13 => if x13 < x12 then (if 0 ≤ x13 then (if x13 < (x0.length : Int) then (if x13 < (x1.length : Int) then (if (rd x0 x13) = (rd x1 x13) then (laws_pSame.l0 k x0 x1 x12 (wrap64 (x13 + 1))) else (some false)) else (none)) else (none)) else (none)) else (some true)
def laws_pSame.f (k : Nat) (l0 : List Int) (l1 : List Int) : Option (Bool) := if (l0.length : Int) = (l1.length : Int) then (laws_pSame.l0 k l0 l1 (l0.length : Int) 0) else (some false)
theorem laws_pSame.mono_l : ∀ k, (∀ y0 y1 y2 y3, LeO (laws_pSame.l0 k y0 y1 y2 y3) (laws_pSame.l0 (k + 1) y0 y1 y2 y3))
 | 0 => fun _ _ _ _ r h => by simp [laws_pSame.l0] at h
 | k + 1 => by
  have ih0 := laws_pSame.mono_l k
  ·intro y0 y1 y2 y3
   unfold laws_pSame.l0
   repeat' (with_reducible first|apply ih0|apply LeO.refl|apply LeO.none|apply LeO.ite|apply LeO.bind|intro)
theorem laws_pSame.mono : ∀ a0 a1 k, LeO (laws_pSame.f k a0 a1) (laws_pSame.f (k + 1) a0 a1) := by
 intro a0 a1 k
 have ih0 := laws_pSame.mono_l k
 unfold laws_pSame.f
 repeat' (with_reducible first|apply ih0|apply LeO.refl|apply LeO.none|apply LeO.ite|apply LeO.bind|intro)
theorem laws_pSame.calls (k : Nat) (A0 : Option Addr) (c0 : Nat) (l0 : List Int) (A1 : Option Addr) (c1 : Nat) (l1 : List Int) (r : Bool) (w : World) (hr0 : Kd.C (Kd.int .i64) w A0 l0.length l0) (hc0 : l0.length ≤ c0) (hr1 : Kd.C (Kd.int .i64) w A1 l1.length l1) (hc1 : l1.length ≤ c1) (h : laws_pSame.f k l0 l1 = some r) :
  Calls Tryd.prog 28 #[.slice A0 l0.length c0, .slice A1 l1.length c1] w fun e w' => e = .returned (.bool r) ∧ Drawn0 w w' := by
 have HR0 := mkA hr0
 have HC0 := mkA hc0
 clear hr0 hc0
 have HR1 := mkA hr1
 have HC1 := mkA hc1
 clear hr1 hc1
 have H := h
 clear h
 unfold laws_pSame.f at H
 rcases iteP H with ⟨c3, H⟩ | ⟨c3, H⟩
 ·have c3b0 := beq_iff_eq.mpr c3
  have c3b1 := bne_eq_false_iff_eq.mpr c3
  have c3b2 : (l0.length == l1.length) = true := by first | simpa using c3 | (simp at c3 ⊢; omega)
  clear c3
  have H' := mkA H
  clear H
  go_enter Tryd.func28, Tryd.ntmps28
  go_wp2
  repeat (go_quiet (fail); try go_wp2)
  go_loopg [13] k (fun kq v13 w' => ∃ (x13_1 : Int), v13 = .int .i64 x13_1 ∧ Fc (laws_pSame.l0 kq l0 l1 (l0.length : Int) x13_1 = some r) ∧ Fc (kq ≤ k) ∧ Drawn0 w w')
  case atStart => exact ⟨(0), eqS, H', ⟨Nat.le_refl _⟩, by repeat (first | exact Drawn0.refl _ | apply Drawn0.step)⟩
  case round =>
   clear H'
   try clear c1
   try clear c3
   try clear c3b0
   try clear c3b1
   try clear c3b2
   obtain ⟨x13_1, rfl, HA, HK1, ⟨m1, rfl⟩⟩ := hrel
   cases gk with
   | zero => exact absurd HA.out (by simp [laws_pSame.l0])
   | succ k1 =>
    have H := HA.out
    clear HA
    simp only [laws_pSame.l0] at H
    rcases iteE H with ⟨c4b0, H⟩ | ⟨c4b0, H⟩
    ·obtain ⟨c5b0, H⟩ := itND H
     obtain ⟨c6b0, H⟩ := itND H
     obtain ⟨c7b0, H⟩ := itND H
     rcases iteP H with ⟨c8, H⟩ | ⟨c8, H⟩
     ·have c8b0 := beq_iff_eq.mpr c8
      have c8b1 := bne_eq_false_iff_eq.mpr c8
      clear c8
      have H' := mkA H
      clear H
      obtain ⟨p246, q246, ad246, e246, hx246_0⟩ := atI HR0.out x13_1
      cases e246
      obtain ⟨p247, q247, ad247, e247, hx247_0⟩ := atI HR1.out x13_1
      cases e247
      go_wp2
      repeat (go_quiet (fail); try go_wp2)
      go_roundg k1
      case measure => have := HK1.out; omega
      case rel => exact ⟨(wrap64 (x13_1 + 1)), eqS, H', ⟨by have := HK1.out; omega⟩, by repeat (first | exact Drawn0.refl _ | apply Drawn0.step)⟩
     ·have c8b0 := beq_eq_false_iff_ne.mpr c8
      have c8b1 := bne_iff_ne.mpr c8
      obtain rfl := Option.some.inj H
      obtain ⟨p246, q246, ad246, e246, hx246_0⟩ := atI HR0.out x13_1
      cases e246
      obtain ⟨p247, q247, ad247, e247, hx247_0⟩ := atI HR1.out x13_1
      cases e247
      go_wp2
      repeat (go_quiet (fail); try go_wp2)
      go_ret
      exact ⟨eqS, drE⟩
    ·obtain rfl := Option.some.inj H
     go_wp2
     repeat (go_quiet (fail); try go_wp2)
     go_ret
     exact ⟨eqS, drE⟩
 ·have c3b0 := beq_eq_false_iff_ne.mpr c3
  have c3b1 := bne_iff_ne.mpr c3
  have c3b2 : (l0.length == l1.length) = false := by first | simpa using c3 | (simp at c3 ⊢; omega)
  obtain rfl := Option.some.inj H
  go_enter Tryd.func28, Tryd.ntmps28
  go_wp2
  repeat (go_quiet (fail); try go_wp2)
  go_ret
  exact ⟨eqS, drE⟩
def laws_pSameOrder.f (k : Nat) (a0_0 : Int) (l0_1 : List Int) (a1_0 : Int) (l1_1 : List Int) : Option (Bool) := if a0_0 = a1_0 then ((laws_pSame.f k l0_1 l1_1).bind fun t250 => (some t250)) else (some false)
theorem laws_pSameOrder.mono : ∀ a0 a1 a2 a3 k, LeO (laws_pSameOrder.f k a0 a1 a2 a3) (laws_pSameOrder.f (k + 1) a0 a1 a2 a3) := by
 intro a0 a1 a2 a3 k
 unfold laws_pSameOrder.f
 repeat' (with_reducible first|apply laws_pSame.mono|apply LeO.refl|apply LeO.none|apply LeO.ite|apply LeO.bind|intro)
theorem laws_pSameOrder.calls (k : Nat) (a0_0 : Int) (A0_1 : Option Addr) (c0_1 : Nat) (l0_1 : List Int) (a1_0 : Int) (A1_1 : Option Addr) (c1_1 : Nat) (l1_1 : List Int) (r : Bool) (w : World) (hr0_1 : Kd.C (Kd.int .i64) w A0_1 l0_1.length l0_1) (hc0_1 : l0_1.length ≤ c0_1) (hr1_1 : Kd.C (Kd.int .i64) w A1_1 l1_1.length l1_1) (hc1_1 : l1_1.length ≤ c1_1) (h : laws_pSameOrder.f k a0_0 l0_1 a1_0 l1_1 = some r) :
  Calls Tryd.prog 10 #[.agg #[.int .i64 a0_0, .slice A0_1 l0_1.length c0_1], .agg #[.int .i64 a1_0, .slice A1_1 l1_1.length c1_1]] w fun e w' => e = .returned (.bool r) ∧ Below w.heap.size w w' := by
 have hu32 := Tryd.underlying32
 have HR0_1 := mkA hr0_1
 have HC0_1 := mkA hc0_1
 clear hr0_1 hc0_1
 have HR1_1 := mkA hr1_1
 have HC1_1 := mkA hc1_1
 clear hr1_1 hc1_1
 have HB := mkA (Below.refl w.heap.size w)
 have H := h
 clear h
 unfold laws_pSameOrder.f at H
 rcases iteP H with ⟨c3, H⟩ | ⟨c3, H⟩
 ·have c3b0 := beq_iff_eq.mpr c3
  have c3b1 := bne_eq_false_iff_eq.mpr c3
  clear c3
  obtain ⟨t250, A4, H⟩ := obE H
  obtain rfl := Option.some.inj H
  go_enter Tryd.func10, Tryd.ntmps10
  go_wp2_with (first | ((with_reducible refine gate_dst (N := 2) rfl ?_); refine boxG HB #[.int .i64 a0_0, .slice A0_1 l0_1.length c0_1] 32 ?_; intro gb248 hg w5 BK248 GE248 hb; replace HB := bst HB hb; clear hb hg) | ((with_reducible refine gate_dst (N := 3) rfl ?_); refine boxG HB #[.int .i64 a1_0, .slice A1_1 l1_1.length c1_1] 32 ?_; intro gb249 hg w6 BK249 GE249 hb; have NB248_249 := neL7 BK248 hg; have NB249_248 := neR7 BK248 hg; replace BK248 := blkB BK248 hb; replace HB := bst HB hb; clear hb hg; obtain ⟨_, _, _, _⟩ := blk2 BK248; obtain ⟨_, _, _, _⟩ := blk2 BK249) | (go_at_call 28; (with_reducible refine (laws_pSame.calls k _ _ l0_1 _ _ l1_1 t250 _ ?_ ?_ ?_ ?_ A4.out).mono ?_); exact C_g HR0_1 HB; exact HC0_1.out; exact C_g HR1_1 HB; exact HC1_1.out; rintro e w' ⟨rfl, ⟨nd, rfl⟩⟩))
  go_ret
  exact ⟨eqE, bel_g HB.out⟩
 ·have c3b0 := beq_eq_false_iff_ne.mpr c3
  have c3b1 := bne_iff_ne.mpr c3
  obtain rfl := Option.some.inj H
  go_enter Tryd.func10, Tryd.ntmps10
  go_wp2_with (first | ((with_reducible refine gate_dst (N := 2) rfl ?_); refine boxG HB #[.int .i64 a0_0, .slice A0_1 l0_1.length c0_1] 32 ?_; intro gb248 hg w10 BK248 GE248 hb; replace HB := bst HB hb; clear hb hg) | ((with_reducible refine gate_dst (N := 3) rfl ?_); refine boxG HB #[.int .i64 a1_0, .slice A1_1 l1_1.length c1_1] 32 ?_; intro gb249 hg w11 BK249 GE249 hb; have NB248_249 := neL7 BK248 hg; have NB249_248 := neR7 BK248 hg; replace BK248 := blkB BK248 hb; replace HB := bst HB hb; clear hb hg; obtain ⟨_, _, _, _⟩ := blk2 BK248; obtain ⟨_, _, _, _⟩ := blk2 BK249))
  go_ret
  exact ⟨eqE, bel_g HB.out⟩
def spec_l1Cur_one.f (s0_0 : List Int) (s0_1 : Int) (s0_2 : Int) (a1 : Int) : Option (Bool × Int × Int) := (spec_l1Cur_pick.f s0_0 s0_1 s0_2 a1).bind fun bt251 => (some ((bt251.1 == 0), bt251.2.1, bt251.2.2))
theorem spec_l1Cur_one.calls (g : Nat) (s0_0 : List Int) (s0_1 : Int) (s0_2 : Int) (a1 : Int) (r1 : Bool) (r2 : Int) (r3 : Int) (w0 w : World) (hI : IsS49 w0 w g s0_0 s0_1 s0_2) (hB : Below w0.heap.size w0 w) (h : spec_l1Cur_one.f s0_0 s0_1 s0_2 a1 = some (r1, r2, r3)) :
  Calls Tryd.prog 30 #[.pointer (some ⟨g, 0, none⟩), .int .i64 a1] w fun e w' => e = .returned (.bool r1) ∧ IsS49 w0 w' g s0_0 r2 r3 ∧ Below w0.heap.size w0 w' ∧ KeepBut w w' g none := by
 have HI0 := mkA hI
 have HK := mkA (KeepBut.refl w g none)
 have HL := mkA hB.size
 clear hI
 have HW0 := mkA hB.size
 have HB := mkA hB
 clear hB
 have H := h
 clear h
 unfold spec_l1Cur_one.f at H
 obtain ⟨⟨t251, t252, t253⟩, A3, H⟩ := obE H
 dsimp only at H
 simp only [Option.some.injEq, Prod.mk.injEq] at H
 obtain ⟨rfl, rfl, rfl⟩ := H
 go_enter Tryd.func30, Tryd.ntmps30
 go_wp2_with (first | ((with_reducible refine gate_callee (f := 18) rfl ?_); refine goesQ (some 7) Tryd.func18 #[.pointer (some ⟨g, 0, none⟩), .int .i64 a1] ?_; (with_reducible refine (spec_l1Cur_pick.calls g s0_0 s0_1 s0_2 a1 t251 t252 t253 w0 _ ?_ ?_ A3.out).mono ?_); exact st49_0 HI0.out; exact bl49_0 HB.out HI0.out; rintro e w4 ⟨rfl, hi, hb, hk⟩; refine ⟨_, rfl, ?_⟩; replace HK := kT (by exact kb49_0 HK.out) hk; replace HI0 := mkA (hi); replace HB := mkA (hb); clear hb hk hi))
 go_ret
 exact ⟨eqE, by exact st49_0 HI0.out, by exact bl49_0 HB.out HI0.out, by exact kb49_0 HK.out⟩
mutual
def spec_ivOrder.l0 : Nat → List (S37) → List (S37) → Int → Int → Int → List Int → Option (Int × List Int)
 | 0, _, _, _, _, _, _ => none
 | k + 1, x0, x12, x13, x14, x256000, x256001 => if x14 < x13 then (if 0 ≤ x14 then (if x14 < (x12.length : Int) then (spec_ivOrder.l1 k x0 0 x12 x13 x14 x0 (x0.length : Int) 0 x256000 x256001 ((rd_T37 x12 x14).f0) ((rd_T37 x12 x14).f1)) else (none)) else (none)) else (some (x256000, x256001))
def spec_ivOrder.l1 : Nat → List (S37) → Int → List (S37) → Int → Int → List (S37) → Int → Int → Int → List Int → Int → Int → Option (Int × List Int)
 | 0, _, _, _, _, _, _, _, _, _, _, _, _ => none
 | k + 1, x0, x6, x12, x13, x14, x18, x19, x20, x256000, x256001, x258000, x258001 => if x20 < x19 then (if 0 ≤ x20 then (if x20 < (x18.length : Int) then (if x258001 < ((rd_T37 x18 x20).f0) then (spec_ivOrder.l1 k x0 (Go.bits .or .i64 x6 (shl .i64 1 x20)) x12 x13 x14 x18 x19 (wrap64 (x20 + 1)) x256000 x256001 x258000 x258001) else (spec_ivOrder.l1 k x0 x6 x12 x13 x14 x18 x19 (wrap64 (x20 + 1)) x256000 x256001 x258000 x258001)) else (none)) else (none)) else (if x256001.length < 17592186044416 then (spec_ivOrder.l0 k x0 x12 x13 (wrap64 (x14 + 1)) x256000 (x256001 ++ [x6])) else (none))
end
def spec_ivOrder.f (k : Nat) (l0 : List (S37)) : Option (Int × List Int) := spec_ivOrder.l0 k l0 l0 (l0.length : Int) 0 (l0.length : Int) ([] : List Int)
theorem spec_ivOrder.mono_l : ∀ k, (∀ y0 y1 y2 y3 y4 y5, LeO (spec_ivOrder.l0 k y0 y1 y2 y3 y4 y5) (spec_ivOrder.l0 (k + 1) y0 y1 y2 y3 y4 y5)) ∧ (∀ y0 y1 y2 y3 y4 y5 y6 y7 y8 y9 y10 y11, LeO (spec_ivOrder.l1 k y0 y1 y2 y3 y4 y5 y6 y7 y8 y9 y10 y11) (spec_ivOrder.l1 (k + 1) y0 y1 y2 y3 y4 y5 y6 y7 y8 y9 y10 y11))
 | 0 => ⟨fun _ _ _ _ _ _ r h => by simp [spec_ivOrder.l0] at h, fun _ _ _ _ _ _ _ _ _ _ _ _ r h => by simp [spec_ivOrder.l1] at h⟩
 | k + 1 => by
  obtain ⟨ih0, ih1⟩ := spec_ivOrder.mono_l k
  refine ⟨?_, ?_⟩ <;> intros
  unfold spec_ivOrder.l0
  rotate_left
  unfold spec_ivOrder.l1
  rotate_left
  all_goals repeat' (with_reducible first|apply ih0|apply ih1|apply LeO.refl|apply LeO.none|apply LeO.ite|apply LeO.bind|intro)
theorem spec_ivOrder.mono : ∀ a0 k, LeO (spec_ivOrder.f k a0) (spec_ivOrder.f (k + 1) a0) := by
 intro a0 k
 obtain ⟨ih0, ih1⟩ := spec_ivOrder.mono_l k
 unfold spec_ivOrder.f
 repeat' (with_reducible first|apply ih0|apply ih1|apply LeO.refl|apply LeO.none|apply LeO.ite|apply LeO.bind|intro)
theorem spec_ivOrder.calls (k : Nat) (A0 : Option Addr) (c0 : Nat) (l0 : List (S37)) (r1 : Int) (r2 : List Int) (w : World) (hr0 : Kd.C k37 w A0 l0.length l0) (hc0 : l0.length ≤ c0) (h : spec_ivOrder.f k l0 = some (r1, r2)) :
  Calls Tryd.prog 34 #[.slice A0 l0.length c0] w fun e w' => ∃ v1_ : Value, e = .returned (.agg #[.int .i64 r1, v1_]) ∧ Kd.R (Kd.int .i64) 3 w' w.heap.size (fun _ => True) v1_ r2 ∧ Below w.heap.size w w' := by
 have hu32 := Tryd.underlying32
 have hu37 := Tryd.underlying37
 have HR0 := mkA hr0
 have HC0 := mkA hc0
 clear hr0 hc0
 have HB := mkA (Below.refl w.heap.size w)
 have H := h
 clear h
 unfold spec_ivOrder.f at H
 have H' := mkA H
 clear H
 go_enter Tryd.func34, Tryd.ntmps34
 go_wp2_with (first | ((with_reducible refine gate_dst (N := 2) rfl ?_); refine boxG HB #[.int .i64 0, .slice none 0 0] 32 ?_; intro gb254 hg w2 BK254 GE254 hb; replace HB := bst HB hb; clear hb hg) | ((with_reducible refine gate_dst (N := 3) rfl ?_); refine boxG HB #[.int .i64 0, .slice none 0 0] 32 ?_; intro gb255 hg w3 BK255 GE255 hb; have NB254_255 := neL7 BK254 hg; have NB255_254 := neR7 BK254 hg; replace BK254 := blkB BK254 hb; replace HB := bst HB hb; clear hb hg; obtain ⟨_, _, _, _⟩ := blk2 BK255))
 go_loopg [14] k (fun kq v14 w' => ∃ (x14_1 : Int) (x256001_1 : List Int) (u256001 : Value), v14 = .int .i64 x14_1 ∧ Fc (spec_ivOrder.l0 kq l0 l0 (l0.length : Int) x14_1 (l0.length : Int) x256001_1 = some (r1, r2)) ∧ Fc (kq ≤ k) ∧ Fc (Kd.R (Kd.int .i64) 3 w' w.heap.size (fun _ => True) u256001 x256001_1) ∧ Fc (w'.heap[gb254]? = some (.cells #[.int .i64 0, (.slice none 0 0)] 32 (0, 0))) ∧ Fc (w'.heap[gb255]? = some (.cells #[.int .i64 (l0.length : Int), u256001] 32 (0, 0))) ∧ Fc (Below w.heap.size w w'))
 case atStart => exact ⟨(0), (([] : List Int)), (.slice none 0 0), eqS, H', ⟨Nat.le_refl _⟩, ⟨nilE⟩, ⟨blkT BK254⟩, ⟨blkT BK255⟩, hbg HB⟩
 case round =>
  clear H'
  obtain ⟨x14_1, x256001_1, u256001, rfl, HA, HK1, HO_256001, BK254, BK255, HB⟩ := hrel
  cases gk with
  | zero => exact absurd HA.out (by simp [spec_ivOrder.l0])
  | succ k1 =>
   have H := HA.out
   clear HA
   simp only [spec_ivOrder.l0] at H
   rcases iteE H with ⟨c6b0, H⟩ | ⟨c6b0, H⟩
   ·obtain ⟨c7b0, H⟩ := itND H
    obtain ⟨c8b0, H⟩ := itND H
    have H' := mkA H
    clear H
    have p256 : 0 ≤ (x14_1 : Int) := ofd
    have q256 : x14_1 < (l0.length : Int) := ofd
    obtain ⟨ad256, e256, hx256_0, hx256_1⟩ := at_T37 HR0.out x14_1 p256 q256
    cases e256
    replace hx256_0 := (HB.out.cell (World.block_lt_of_cell? w _ hx256_0)).trans hx256_0
    replace hx256_1 := (HB.out.cell (World.block_lt_of_cell? w _ hx256_1)).trans hx256_1
    replace p256 := eq_true p256
    replace q256 := eq_true q256
    go_wp2_with (first | ((with_reducible refine gate_dst (N := 5) rfl ?_); refine boxG HB #[.int .i64 0, .int .i64 0] 37 ?_; intro gb257 hg w9 BK257 GE257 hb; replace HO_256001 := rB HO_256001 hb; have NB254_257 := neL7 BK254 hg; have NB257_254 := neR7 BK254 hg; replace BK254 := blkB BK254 hb; have NB255_257 := neL7 BK255 hg; have NB257_255 := neR7 BK255 hg; replace BK255 := blkB BK255 hb; replace HB := bst HB hb; clear hb hg; obtain ⟨_, _, _, _⟩ := blk2 BK257))
    go_loopg [6, 20] k1 (fun kq v6 v20 w' => ∃ (x6_2 : Int) (x20_2 : Int), v6 = .int .i64 x6_2 ∧ v20 = .int .i64 x20_2 ∧ Fc (spec_ivOrder.l1 kq l0 x6_2 l0 (l0.length : Int) x14_1 l0 (l0.length : Int) x20_2 (l0.length : Int) x256001_1 ((rd_T37 l0 x14_1).f0) ((rd_T37 l0 x14_1).f1) = some (r1, r2)) ∧ Fc (kq ≤ k1) ∧ Fc (Kd.R (Kd.int .i64) 3 w' w.heap.size (fun _ => True) u256001 x256001_1) ∧ Fc (w'.heap[gb254]? = some (.cells #[.int .i64 0, (.slice none 0 0)] 32 (0, 0))) ∧ Fc (w'.heap[gb255]? = some (.cells #[.int .i64 (l0.length : Int), u256001] 32 (0, 0))) ∧ Fc (w'.heap[gb257]? = some (.cells #[.int .i64 ((rd_T37 l0 x14_1).f0), .int .i64 ((rd_T37 l0 x14_1).f1)] 37 (0, 0))) ∧ Fc (Below w.heap.size w w'))
    case atStart => exact ⟨(0), (0), eqS, eqS, H', ⟨Nat.le_refl _⟩, ⟨Kd.R_g (Kd.R_mono (Kd.R_far (p := ⟨gb257, 1, none⟩) (Kd.R_far (p := ⟨gb257, 0, none⟩) (Kd.R_types HO_256001.out BK257.out (by decide)) (fun _ hk => hk.2) (.int .i64 ((rd_T37 l0 x14_1).f0))) (fun _ hk => hk.2) (.int .i64 ((rd_T37 l0 x14_1).f1))) (fun _ hk => trivial))⟩, ⟨blkT BK254⟩, ⟨blkT BK255⟩, ⟨blkT BK257⟩, hbg HB⟩
    case round =>
     clear H'
     try clear c6b0
     try clear c7
     try clear c7b0
     try clear c8
     try clear c8b0
     try clear hx256_0
     try clear hx256_1
     try clear p256
     try clear q256
     obtain ⟨x6_2, x20_2, rfl, rfl, HA, HK2, HO_256001, BK254, BK255, BK257, HB⟩ := hrel
     cases gk with
     | zero => exact absurd HA.out (by simp [spec_ivOrder.l1])
     | succ k2 =>
      have H := HA.out
      clear HA
      simp only [spec_ivOrder.l1] at H
      rcases iteE H with ⟨c13b0, H⟩ | ⟨c13b0, H⟩
      ·obtain ⟨c14b0, H⟩ := itND H
       obtain ⟨c15b0, H⟩ := itND H
       rcases iteE H with ⟨c16b0, H⟩ | ⟨c16b0, H⟩
       ·have c17b0 := eq_true (ofd : 0 ≤ x20_2)
        obtain ⟨ji18, hji18⟩ : ∃ j_ : Int, (shl .i64 1 x20_2) = j_ := ⟨_, rfl⟩
        first | rw [hji18] at H | simp only [hji18] at H
        have hji18_ : (IntKind.i64.wrap (1 * 2 ^ min x20_2.toNat 64)) = ji18 := hji18
        have hji18z : x20_2 ≤ 64 → (IntKind.i64.wrap (1 * 2 ^ x20_2.toNat)) = ji18 := shl_small hji18
        have hji18u : (IntKind.i64.wrap (2 ^ min x20_2.toNat 64)) = ji18 := by have h_ := hji18_; rw [Int.one_mul] at h_; exact h_
        have hji18v : x20_2 ≤ 64 → (IntKind.i64.wrap (2 ^ x20_2.toNat)) = ji18 := fun hle_ => by have h_ := hji18z hle_; rw [Int.one_mul] at h_; exact h_
        have hji18y : (wrap64 (1 * 2 ^ min x20_2.toNat 64)) = ji18 := (i64_w _).symm.trans hji18_
        have hji18x : x20_2 ≤ 64 → (wrap64 (1 * 2 ^ x20_2.toNat)) = ji18 := fun h_ => (i64_w _).symm.trans (hji18z h_)
        have H' := mkA H
        clear H
        have p258 : 0 ≤ (x20_2 : Int) := ofd
        have q258 : x20_2 < (l0.length : Int) := ofd
        obtain ⟨ad258, e258, hx258_0, hx258_1⟩ := at_T37 HR0.out x20_2 p258 q258
        obtain rfl : ad256 = ad258 := (by injection e258)
        replace hx258_0 := (HB.out.cell (World.block_lt_of_cell? w _ hx258_0)).trans hx258_0
        replace hx258_1 := (HB.out.cell (World.block_lt_of_cell? w _ hx258_1)).trans hx258_1
        replace p258 := eq_true p258
        replace q258 := eq_true q258
        go_wp2_with (first | ((with_reducible refine gate_dst (N := 8) rfl ?_); refine boxG HB #[.int .i64 0, .int .i64 0] 37 ?_; intro gb259 hg w19 BK259 GE259 hb; replace HO_256001 := rB HO_256001 hb; have NB254_259 := neL7 BK254 hg; have NB259_254 := neR7 BK254 hg; replace BK254 := blkB BK254 hb; have NB255_259 := neL7 BK255 hg; have NB259_255 := neR7 BK255 hg; replace BK255 := blkB BK255 hb; have NB257_259 := neL7 BK257 hg; have NB259_257 := neR7 BK257 hg; replace BK257 := blkB BK257 hb; replace HB := bst HB hb; clear hb hg; obtain ⟨_, _, _, _⟩ := blk2 BK259; obtain ⟨_, _, _, _⟩ := blk2 BK257))
        go_roundg k2
        case measure => have := HK1.out; have := HK2.out; omega
        case rel => exact ⟨(Go.bits .or .i64 x6_2 (ji18)), (wrap64 (x20_2 + 1)), (by first | rfl | (simp; done) | (simp only [← hji18] <;> (first | rfl | simp)) | (simp [*]; done)), eqS, H', ⟨by have := HK1.out; have := HK2.out; omega⟩, ⟨Kd.R_g (Kd.R_mono (Kd.R_far (p := ⟨gb259, 1, none⟩) (Kd.R_far (p := ⟨gb259, 0, none⟩) (Kd.R_types HO_256001.out BK259.out (by decide)) (fun _ hk => hk.2) (.int .i64 ((rd_T37 l0 x20_2).f0))) (fun _ hk => hk.2) (.int .i64 ((rd_T37 l0 x20_2).f1))) (fun _ hk => trivial))⟩, ⟨blkT BK254⟩, ⟨blkT BK255⟩, ⟨blkT BK257⟩, hbg HB⟩
       ·have H' := mkA H
        clear H
        have p258 : 0 ≤ (x20_2 : Int) := ofd
        have q258 : x20_2 < (l0.length : Int) := ofd
        obtain ⟨ad258, e258, hx258_0, hx258_1⟩ := at_T37 HR0.out x20_2 p258 q258
        obtain rfl : ad256 = ad258 := (by injection e258)
        replace hx258_0 := (HB.out.cell (World.block_lt_of_cell? w _ hx258_0)).trans hx258_0
        replace hx258_1 := (HB.out.cell (World.block_lt_of_cell? w _ hx258_1)).trans hx258_1
        replace p258 := eq_true p258
        replace q258 := eq_true q258
        go_wp2_with (first | ((with_reducible refine gate_dst (N := 8) rfl ?_); refine boxG HB #[.int .i64 0, .int .i64 0] 37 ?_; intro gb259 hg w27 BK259 GE259 hb; replace HO_256001 := rB HO_256001 hb; have NB254_259 := neL7 BK254 hg; have NB259_254 := neR7 BK254 hg; replace BK254 := blkB BK254 hb; have NB255_259 := neL7 BK255 hg; have NB259_255 := neR7 BK255 hg; replace BK255 := blkB BK255 hb; have NB257_259 := neL7 BK257 hg; have NB259_257 := neR7 BK257 hg; replace BK257 := blkB BK257 hb; replace HB := bst HB hb; clear hb hg; obtain ⟨_, _, _, _⟩ := blk2 BK259; obtain ⟨_, _, _, _⟩ := blk2 BK257))
        go_roundg k2
        case measure => have := HK1.out; have := HK2.out; omega
        case rel => exact ⟨(x6_2), (wrap64 (x20_2 + 1)), eqS, eqS, H', ⟨by have := HK1.out; have := HK2.out; omega⟩, ⟨Kd.R_g (Kd.R_mono (Kd.R_far (p := ⟨gb259, 1, none⟩) (Kd.R_far (p := ⟨gb259, 0, none⟩) (Kd.R_types HO_256001.out BK259.out (by decide)) (fun _ hk => hk.2) (.int .i64 ((rd_T37 l0 x20_2).f0))) (fun _ hk => hk.2) (.int .i64 ((rd_T37 l0 x20_2).f1))) (fun _ hk => trivial))⟩, ⟨blkT BK254⟩, ⟨blkT BK255⟩, ⟨blkT BK257⟩, hbg HB⟩
      ·obtain ⟨c35, H⟩ := itNP H
       have LMc35 := mkA c35
       clear c35
       obtain ⟨y260, hy260⟩ : ∃ y_ : List Int, y_ = (x256001_1 ++ [x6_2]) := ⟨_, rfl⟩
       rw [← hy260] at H
       have Ny260 := mkA hy260
       clear hy260
       have H' := mkA H
       clear H
       obtain ⟨_, _, _, _⟩ := blk2 BK255
       go_wp2_with (first | ((with_reducible refine gate_builtin (b := .append) (xs := #[.tmp 36, .tmp 38]) rfl ?_); at_builtin; refine Kd.R_append (Kd.int .i64) (w0 := w) w.heap.size rfl (.tmp 36) (.tmp 38) 30 3 (.int .i64 0) 8 rfl Tryd.underlying30 info3 rfl (by decide) (by omega) u256001 x256001_1 x6_2 [.int .i64 x6_2] (fun _ => True) (fun _ => False) rfl rfl ?aP (fun _ hk => hk.elim) ?aF ?aO ?aB ?aS ?aL ?_; (case aP => exact rfl); (case aB => exact (bel_g HB.out)); (case aF => exact (fun _ _ => trivial)); (case aO => exact (Kd.R_g HO_256001.out)); (case aS => exact (below_size (bel_g HB.out))); (case aL => have := LMc35.out; omega); intro v261 w39 ho hb hg hat; rw [← Ny260.out] at ho; replace BK254 := mkA (blk_grown (g := gb254) (o := .cells #[.int .i64 0, .slice none 0 0] 32 (0, 0)) (blk_g BK254.out) hg (Kd.R_ne HO_256001.out BK254.out (by decide))); replace BK255 := mkA (blk_grown (g := gb255) (o := .cells #[.int .i64 (l0.length : Int), u256001] 32 (0, 0)) (blk_g BK255.out) hg (Kd.R_ne HO_256001.out BK255.out (by decide))); replace BK257 := mkA (blk_grown (g := gb257) (o := .cells #[.int .i64 ((rd_T37 l0 x14_1).f0), .int .i64 ((rd_T37 l0 x14_1).f1)] 37 (0, 0)) (blk_g BK257.out) hg (Kd.R_ne HO_256001.out BK257.out (by decide))); have HO262 := mkA (ho); replace HB := mkA (hb); clear HO_256001; clear ho hb hg hat; obtain ⟨Ao40, co40, rfl⟩ := Kd.R_slice HO262.out; obtain ⟨_, _, _, _⟩ := blk2 BK255))
       go_roundg k2
       case measure => have := HK1.out; have := HK2.out; omega
       case rel => exact ⟨(wrap64 (x14_1 + 1)), (y260), (.slice Ao40 y260.length co40), eqS, H', ⟨by have := HK1.out; have := HK2.out; omega⟩, ⟨Kd.R_g (Kd.R_mono (Kd.R_far (p := ⟨gb255, 1, none⟩) (Kd.R_types HO262.out BK255.out (by decide)) (fun _ hk => hk.2) (.slice Ao40 y260.length co40)) (fun _ hk => trivial))⟩, ⟨blkT BK254⟩, ⟨blkT BK255⟩, hbg HB⟩
   ·simp only [Option.some.injEq, Prod.mk.injEq] at H
    obtain ⟨rfl, rfl⟩ := H
    obtain ⟨_, _, _, _⟩ := blk2 BK255
    obtain ⟨_, _, _, _⟩ := blk2 BK254
    obtain ⟨Ao45, co45, rfl⟩ := Kd.R_slice HO_256001.out
    go_wp2
    refine bodyPost_ret (results_cell_row rfl _ _ gb254 32 #[.int .i64 (l0.length : Int), .slice Ao45 x256001_1.length co45] (0, 0) _ rfl (blkT BK254) Tryd.underlying32 rfl (by kernel_rfl)) rfl ?_
    exact ⟨_, eqE, Kd.R_g (Kd.R_mono (rF HO_256001 BK254) (fun _ _ => trivial)), bel_g HB.out⟩
def spec_orHas.f (a0 : Int) (a1 : Int) : Option (Bool) := if 0 ≤ a1 then (some ((Int.tmod (shr .i64 a0 a1) 2) == 1)) else (none)
theorem spec_orHas.calls (a0 : Int) (a1 : Int) (r : Bool) (w : World) (h : spec_orHas.f a0 a1 = some r) :
  Calls Tryd.prog 51 #[.int .i64 a0, .int .i64 a1] w fun e w' => e = .returned (.bool r) ∧ Drawn0 w w' := by
 have H := h
 clear h
 unfold spec_orHas.f at H
 obtain ⟨c3b0, c3b1, H⟩ := itNQ H
 obtain ⟨ji4, hji4⟩ : ∃ j_ : Int, (shr .i64 a0 a1) = j_ := ⟨_, rfl⟩
 first | rw [hji4] at H | simp only [hji4] at H
 have hji4_ : (a0 / 2 ^ min a1.toNat 64) = ji4 := hji4
 have hji4z : a1 ≤ 64 → (a0 / 2 ^ a1.toNat) = ji4 := shr_small hji4
 obtain rfl := Option.some.inj H
 go_enter Tryd.func51, Tryd.ntmps51
 go_wp2
 go_ret
 exact ⟨by first | rfl | (simp; done) | (simp only [← hji4] <;> (first | rfl | simp)) | (simp [*]; done), by repeat (first | exact Drawn0.refl _ | apply Drawn0.step)⟩
end Go.Proofs.YtlfjnllnddpgoaaDoor.Q
