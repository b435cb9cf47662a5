import Derived.Test.YtlfjnllnddpgoaaDoorBFnStretchedIntervals26
namespace Go.Proofs.YtlfjnllnddpgoaaDoor.Q
open Go.RowKit Go.Proofs.YtlfjnllnddpgoaaDoorW.PrintWords Go.Proofs.YtlfjnllnddpgoaaDoorW.PrintLast Go.Proofs.YtlfjnllnddpgoaaDoorW.PrintMore
attribute [local go_sem] max2_int min2_int max_two min_two max_three min_three max_four min_four neB_f
set_option linter.unusedVariables false
set_option maxHeartbeats 8000000
set_option maxRecDepth 100000
set_option linter.unusedSimpArgs false
def impl_isIncreasing.l0 : Nat → List Int → Int → Option (Bool)
 | 0, _, _ => none
 | k + 1, x0, x3 => if x3 < (x0.length : Int) then (if 0 ≤ (wrap64 (x3 - 1)) then (if (wrap64 (x3 - 1)) < (x0.length : Int) then (if 0 ≤ x3 then (if (rd x0 (wrap64 (x3 - 1))) ≥ (rd x0 x3) then (some false) else (impl_isIncreasing.l0 k x0 (wrap64 (x3 + 1)))) else (none)) else (none)) else (none)) else (some true)
def impl_isIncreasing.f (k : Nat) (l0 : List Int) : Option (Bool) := impl_isIncreasing.l0 k l0 1
theorem impl_isIncreasing.mono_l : ∀ k, (∀ y0 y1, LeO (impl_isIncreasing.l0 k y0 y1) (impl_isIncreasing.l0 (k + 1) y0 y1))
 | 0 => fun _ _ r h => by simp [impl_isIncreasing.l0] at h
 | k + 1 => by
  have ih0 := impl_isIncreasing.mono_l k
  ·intro y0 y1
   unfold impl_isIncreasing.l0
   repeat' (with_reducible first|apply ih0|apply LeO.refl|apply LeO.none|apply LeO.ite|apply LeO.bind|intro)
theorem impl_isIncreasing.mono : ∀ a0 k, LeO (impl_isIncreasing.f k a0) (impl_isIncreasing.f (k + 1) a0) := by
 intro a0 k
 have ih0 := impl_isIncreasing.mono_l k
 unfold impl_isIncreasing.f
 repeat' (with_reducible first|apply ih0|apply LeO.refl|apply LeO.none|apply LeO.ite|apply LeO.bind|intro)
theorem impl_isIncreasing.calls (k : Nat) (A0 : Option Addr) (c0 : Nat) (l0 : List Int) (r : Bool) (w : World) (hr0 : Kd.C (Kd.int .i64) w A0 l0.length l0) (hc0 : l0.length ≤ c0) (h : impl_isIncreasing.f k l0 = some r) :
  Calls Tryd.prog 38 #[.slice A0 l0.length c0] w fun e w' => e = .returned (.bool r) ∧ Drawn0 w w' := by
 have HR0 := mkA hr0
 have HC0 := mkA hc0
 clear hr0 hc0
 have H := h
 clear h
 unfold impl_isIncreasing.f at H
 have H' := mkA H
 clear H
 go_enter Tryd.func38, Tryd.ntmps38
 go_wp2
 repeat (go_quiet (fail); try go_wp2)
 go_loopg [3] k (fun kq v3 w' => ∃ (x3_1 : Int), v3 = .int .i64 x3_1 ∧ Fc (impl_isIncreasing.l0 kq l0 x3_1 = some r) ∧ Fc (kq ≤ k) ∧ Drawn0 w w')
 case atStart => exact ⟨(1), eqS, H', ⟨Nat.le_refl _⟩, by repeat (first | exact Drawn0.refl _ | apply Drawn0.step)⟩
 case round =>
  clear H'
  obtain ⟨x3_1, rfl, HA, HK1, ⟨m1, rfl⟩⟩ := hrel
  cases gk with
  | zero => exact absurd HA.out (by simp [impl_isIncreasing.l0])
  | succ k1 =>
   have H := HA.out
   clear HA
   simp only [impl_isIncreasing.l0] at H
   rcases iteE H with ⟨c2b0, H⟩ | ⟨c2b0, H⟩
   ·obtain ⟨ji3, hji3⟩ : ∃ j_ : Int, (wrap64 (x3_1 - 1)) = j_ := ⟨_, rfl⟩
    first | rw [hji3] at H | simp only [hji3] at H
    have hji3w : (IntKind.i64.wrap (x3_1 - 1)) = ji3 := (i64_w _).trans hji3
    obtain ⟨c4b0, H⟩ := itND H
    obtain ⟨c5b0, H⟩ := itND H
    obtain ⟨c6b0, H⟩ := itND H
    rcases iteP H with ⟨c7, H⟩ | ⟨c7, H⟩
    ·have c7b0 := decide_eq_true c7
     clear c7
     obtain rfl := Option.some.inj H
     obtain ⟨p795, q795, ad795, e795, hx795_0⟩ := atI HR0.out (ji3)
     cases e795
     obtain ⟨p796, q796, ad796, e796, hx796_0⟩ := atI HR0.out x3_1
     obtain rfl : ad795 = ad796 := (by injection e796)
     go_wp2
     repeat (go_quiet (fail); try go_wp2)
     go_ret
     exact ⟨by first | rfl | (simp; done) | (simp only [← hji3] <;> (first | rfl | simp)) | (simp [*]; done), by repeat (first | exact Drawn0.refl _ | apply Drawn0.step)⟩
    ·have c7b0 := decide_eq_false c7
     clear c7
     have H' := mkA H
     clear H
     obtain ⟨p795, q795, ad795, e795, hx795_0⟩ := atI HR0.out (ji3)
     cases e795
     obtain ⟨p796, q796, ad796, e796, hx796_0⟩ := atI HR0.out x3_1
     obtain rfl : ad795 = ad796 := (by injection e796)
     go_wp2
     repeat (go_quiet (fail); try go_wp2)
     go_roundg k1
     case measure => have := HK1.out; omega
     case rel => exact ⟨(wrap64 (x3_1 + 1)), eqS, H', ⟨by have := HK1.out; omega⟩, by repeat (first | exact Drawn0.refl _ | apply Drawn0.step)⟩
   ·obtain rfl := Option.some.inj H
    go_wp2
    repeat (go_quiet (fail); try go_wp2)
    go_ret
    exact ⟨eqS, drE⟩
def impl_Order_part_1.f (a0 : Int) (a1 : Int) (a2_0 : Int) (l2_1 : List Int) (l3_0 : List Int) : Option (Bool) := if 0 ≤ a0 then (if a0 < (l3_0.length : Int) then (if 0 ≤ a1 then (if a1 < (l3_0.length : Int) then ((impl_Order_better.f a2_0 l2_1 (rd l3_0 a0) (rd l3_0 a1)).bind fun t801 => (some t801)) else (none)) else (none)) else (none)) else (none)
def impl_Order_part_1.T1 : Bool × List (List Nat × List Nat) := (true, [([], []), ([], []), ([], []), ([1, 2], [1, 2]), ([3], [3]), ([], []), ([], []), ([5, 6], [5, 6]), ([7], [7]), ([0, 4, 8], [0, 4, 8]), ([9, 9, 0, 1, 2, 3, 4, 5, 6, 7, 8, 9], [9])])
def impl_Order_part_1.B1 : List Nat := [0, 0, 0, 6, 14, 0, 0, 96, 224, 511, 1023]
theorem impl_Order_part_1.tab1 : rtab .any (opsOf Tryd.f54 1) = impl_Order_part_1.T1 := by kernel_rfl
theorem impl_Order_part_1.bits1 : waitsOk impl_Order_part_1.T1.2 impl_Order_part_1.B1 = true := by kernel_rfl
theorem impl_Order_part_1.calls (a0 : Int) (a1 : Int) (gB2 : Nat) (a2_0 : Int) (A2_1 : Option Addr) (c2_1 : Nat) (l2_1 : List Int) (gB3 : Nat) (A3_0 : Option Addr) (c3_0 : Nat) (l3_0 : List Int) (r : Bool) (w : World) (hb2 : w.heap[gB2]? = some (.cells #[.int .i64 a2_0, .slice A2_1 l2_1.length c2_1] 32 (0, 0))) (hr2_1 : Kd.C (Kd.int .i64) w A2_1 l2_1.length l2_1) (hc2_1 : l2_1.length ≤ c2_1) (hb3 : w.heap[gB3]? = some (.cells #[.slice A3_0 l3_0.length c3_0] 30 (0, 0))) (hr3_0 : Kd.C (Kd.int .i64) w A3_0 l3_0.length l3_0) (hc3_0 : l3_0.length ≤ c3_0) (h : impl_Order_part_1.f a0 a1 a2_0 l2_1 l3_0 = some r) :
  Calls Tryd.prog 54 #[.int .i64 a0, .int .i64 a1, .pointer (some ⟨gB2, 0, none⟩), .pointer (some ⟨gB3, 0, none⟩)] w fun e w' => e = .returned (.bool r) ∧ Below w.heap.size w w' := by
 have hu32 := Tryd.underlying32
 have BK797 := mkA hb2
 clear hb2
 have BK798 := mkA hb3
 clear hb3
 have HR2_1 := mkA hr2_1
 have HC2_1 := mkA hc2_1
 clear hr2_1 hc2_1
 have HR3_0 := mkA hr3_0
 have HC3_0 := mkA hc3_0
 clear hr3_0 hc3_0
 have HB := mkA (Below.refl w.heap.size w)
 have H := h
 clear h
 unfold impl_Order_part_1.f at H
 obtain ⟨c5b0, H⟩ := itND H
 obtain ⟨c6b0, H⟩ := itND H
 obtain ⟨c7b0, H⟩ := itND H
 obtain ⟨c8b0, H⟩ := itND H
 obtain ⟨t801, A9, H⟩ := obE H
 obtain rfl := Option.some.inj H
 go_enter Tryd.func54, Tryd.ntmps54
 try go_wp2
 replace BK797 := mkA (blk_drew BK797.out)
 replace BK798 := mkA (blk_drew BK798.out)
 replace HB := mkA (below_drew1 HB.out)
 obtain ⟨p799, q799, ad799, e799, hx799_0⟩ := atI HR3_0.out a0
 have hw799_0 := hx799_0
 cases e799
 replace hx799_0 := (HB.out.cell (World.block_lt_of_cell? w _ hx799_0)).trans hx799_0
 obtain ⟨p800, q800, ad800, e800, hx800_0⟩ := atI HR3_0.out a1
 have hw800_0 := hx800_0
 obtain rfl : ad799 = ad800 := (by injection e800)
 replace hx800_0 := (HB.out.cell (World.block_lt_of_cell? w _ hx800_0)).trans hx800_0
 refine start_ (n := 11) (S := fun w' => w'.cell? ⟨gB2, 0, none⟩ = some (.int .i64 a2_0) ∧ w'.cell? ⟨gB2, 1, none⟩ = some (.slice A2_1 l2_1.length c2_1) ∧ w'.cell? ⟨gB3, 0, none⟩ = some (.slice (some ad799) l3_0.length c3_0) ∧ w'.cell? (ad799.add (a0).toNat) = some (.int .i64 (rd l3_0 a0)) ∧ w'.cell? (ad799.add (a1).toNat) = some (.int .i64 (rd l3_0 a1))) (ds := []) (bm 11 0) (by kernel_rfl) rfl (by kernel_rfl) ⟨(blk_cell BK797.out 0).trans rfl, (blk_cell BK797.out 1).trans rfl, (blk_cell BK798.out 0).trans rfl, ((HB.out.cell (World.block_lt_of_cell? w _ hw799_0)).trans hw799_0), ((HB.out.cell (World.block_lt_of_cell? w _ hw800_0)).trans hw800_0)⟩ (fun hHeld => ?_); refine with_tabW impl_Order_part_1.tab1 impl_Order_part_1.bits1 (fun HT_ HW_ => ?_)
 generalize w.drew = w10 at BK797 BK798 HB hx799_0 hx800_0 hHeld ⊢
 refine purW 2 9 11 4 HT_ ?_
 refine purW 6 13 11 68 HT_ ?_
 refine takeW 0 (some 7) (bm 11 69) HT_ HW_ hHeld ?_
 refine takeW 1 (some 8) (bm 11 71) HT_ HW_ hHeld ?_
 refine purW 3 10 11 79 HT_ ?_
 refine takeW 4 (some 11) (bm 11 95) HT_ HW_ hHeld ?_
 refine takeW 5 (some 12) (bm 11 127) HT_ HW_ hHeld ?_
 refine purW 7 14 11 255 HT_ ?_
 refine takeW 8 (some 15) (bm 11 511) HT_ HW_ hHeld ?_
 refine oneW 9 (some 16) (bm 11 1023) HT_ (fun K hK => ?_)
 refine goesR Tryd.func47 #[.agg #[.int .i64 a2_0, .slice A2_1 l2_1.length c2_1], .int .i64 (rd l3_0 a0), .int .i64 (rd l3_0 a1)] ?_
 with_reducible refine (impl_Order_better.calls a2_0 _ _ l2_1 (rd l3_0 a0) (rd l3_0 a1) t801 _ ?s1 ?s2 A9.out).mono ?_
 (case s1 => exact C_g HR2_1 HB)
 (case s2 => exact HC2_1.out)
 rintro e w11 ⟨rfl, hb⟩
 refine ⟨_, rfl, ?_⟩
 replace BK797 := blkB BK797 hb
 replace BK798 := blkB BK798 hb
 replace HB := bst HB hb
 (try clear hb)
 (try clear hb2)
 (try clear hk)
 (try clear hi)
 refine hK.out _ _ ⟨(blk_cell BK797.out 0).trans rfl, (blk_cell BK797.out 1).trans rfl, (blk_cell BK798.out 0).trans rfl, ((HB.out.cell (World.block_lt_of_cell? w _ hw799_0)).trans hw799_0), ((HB.out.cell (World.block_lt_of_cell? w _ hw800_0)).trans hw800_0)⟩ (fun hHeld => ?_)
 clear hK K
 refine normW 16 ?_
 refine purW 10 6 11 2047 HT_ ?_
 refine doneW HT_ ?_
 try go_wp2
 go_ret
 exact ⟨eqE, bel_g HB.out⟩
def impl_Order_part.f (k : Nat) (a0_0 : Int) (l0_1 : List Int) (l1 : List Int) : Option (Int × List Int) := (impl_relation.f k (l1.length : Int) (fun u0_ u1_ => impl_Order_part_1.f u0_ u1_ a0_0 l0_1 l1)).bind fun bt805 => (some (bt805.1, bt805.2))
theorem impl_Order_part.mono : ∀ a0 a1 a2 k, LeO (impl_Order_part.f k a0 a1 a2) (impl_Order_part.f (k + 1) a0 a1 a2) := by
 intro a0 a1 a2 k
 unfold impl_Order_part.f
 repeat' first
   | (with_reducible exact impl_relation.mono _ _ _)
   | (refine impl_relation.monoF ?_ _ _; intros)
   | (with_reducible exact impl_relation.mono _ _ _)
   | (with_reducible exact LeO.refl _)
   | (with_reducible exact LeO.none _)
   | (with_reducible refine LeO.ite ?_ ?_)
   | (with_reducible refine LeO.bind ?_ (fun _ => ?_))
   | exact impl_relation.mono _ _ _
   | exact LeO.none _
   | refine LeO.ite ?_ ?_
   | refine LeO.bind ?_ (fun _ => ?_)
theorem impl_Order_part.calls (k : Nat) (a0_0 : Int) (A0_1 : Option Addr) (c0_1 : Nat) (l0_1 : List Int) (A1 : Option Addr) (c1 : Nat) (l1 : List Int) (r1 : Int) (r2 : List Int) (w : World) (hr0_1 : Kd.C (Kd.int .i64) w A0_1 l0_1.length l0_1) (hc0_1 : l0_1.length ≤ c0_1) (hr1 : Kd.C (Kd.int .i64) w A1 l1.length l1) (hc1 : l1.length ≤ c1) (h : impl_Order_part.f k a0_0 l0_1 l1 = some (r1, r2)) :
  Calls Tryd.prog 39 #[.agg #[.int .i64 a0_0, .slice A0_1 l0_1.length c0_1], .slice A1 l1.length c1] w fun e w' => ∃ v1_ : Value, e = .returned (.agg #[.int .i64 r1, v1_]) ∧ Kd.R (Kd.int .i64) 3 w' w.heap.size (fun _ => True) v1_ r2 ∧ Below w.heap.size w w' := by
 have hu32 := Tryd.underlying32
 have HR0_1 := mkA hr0_1
 have HC0_1 := mkA hc0_1
 clear hr0_1 hc0_1
 have HR1 := mkA hr1
 have HC1 := mkA hc1
 clear hr1 hc1
 have HB := mkA (Below.refl w.heap.size w)
 have H := h
 clear h
 unfold impl_Order_part.f at H
 obtain ⟨⟨t805, t806⟩, A3, H⟩ := obE H
 dsimp only at H
 simp only [Option.some.injEq, Prod.mk.injEq] at H
 obtain ⟨rfl, rfl⟩ := H
 go_enter Tryd.func39, Tryd.ntmps39
 go_wp2_with (first | ((with_reducible refine gate_dst (N := 2) rfl ?_); refine boxG HB #[.int .i64 a0_0, .slice A0_1 l0_1.length c0_1] 32 ?_; intro gb802 hg w4 BK802 GE802 hb; replace HB := bst HB hb; clear hb hg) | ((with_reducible refine gate_dst (N := 3) rfl ?_); refine boxG HB #[.slice A1 l1.length c1] 30 ?_; intro gb803 hg w5 BK803 GE803 hb; have NB802_803 := neL7 BK802 hg; have NB803_802 := neR7 BK802 hg; replace BK802 := blkB BK802 hb; replace HB := bst HB hb; clear hb hg) | ((with_reducible refine gate_dst (N := 4) rfl ?_); refine boxG HB #[.int .i64 0, .slice none 0 0] 32 ?_; intro gb804 hg w6 BK804 GE804 hb; have NB802_804 := neL7 BK802 hg; have NB804_802 := neR7 BK802 hg; replace BK802 := blkB BK802 hb; have NB803_804 := neL7 BK803 hg; have NB804_803 := neR7 BK803 hg; replace BK803 := blkB BK803 hb; replace HB := bst HB hb; clear hb hg; obtain ⟨_, _⟩ := blk1 BK803) | ((with_reducible refine gate_callee (f := 42) rfl ?_); refine goesQ (some 8) Tryd.func42 #[.int .i64 (l1.length : Int), .func (.func 54) #[] #[.pointer (some ⟨gb802, 0, none⟩), .pointer (some ⟨gb803, 0, none⟩)]] ?_; (with_reducible refine (impl_relation.calls k (l1.length : Int) (fun u0_ u1_ => impl_Order_part_1.f u0_ u1_ a0_0 l0_1 l1) 54 #[.pointer (some ⟨gb802, 0, none⟩), .pointer (some ⟨gb803, 0, none⟩)] (fun args_ W_ => enters_ Tryd.func54 (by kernel_rfl) rfl args_ W_) t805 t806 _ ?s1 A3.out).mono ?_); (case s1 => exact fun u0_ u1_ q_ W_ hb_ hq_ => (impl_Order_part_1.calls u0_ u1_ gb802 a0_0 A0_1 c0_1 l0_1 gb803 A1 c1 l1 q_ W_ (blk_below (show _ = some (Obj.cells #[.int .i64 a0_0, .slice A0_1 l0_1.length c0_1] 32 (0, 0)) from blkT BK802) hb_) (Kd.C_below (show Kd.C (Kd.int .i64) _ A0_1 l0_1.length l0_1 from by exact C_g HR0_1 HB) hb_) (by exact HC0_1.out) (blk_below (show _ = some (Obj.cells #[.slice A1 l1.length c1] 30 (0, 0)) from blkT BK803) hb_) (Kd.C_below (show Kd.C (Kd.int .i64) _ A1 l1.length l1 from by exact C_g HR1 HB) hb_) (by exact HC1.out) hq_).mono (fun _ _ h_ => ⟨h_.1, h_.2⟩)); rintro e w10 ⟨v807, rfl, ho0, hb⟩; refine ⟨_, rfl, ?_⟩; have HO808 := rLo ho0 HB; replace BK802 := blkB BK802 hb; replace BK803 := blkB BK803 hb; replace BK804 := blkB BK804 hb; replace HB := bst HB hb; clear hb ho0; obtain ⟨_, _, _, _⟩ := blk2 BK804; obtain ⟨Ao13, co13, rfl⟩ := Kd.R_slice HO808.out))
 refine bodyPost_ret (results_cell_row rfl _ _ gb804 32 #[.int .i64 t805, .slice Ao13 t806.length co13] (0, 0) _ rfl (blkT BK804) Tryd.underlying32 rfl (by kernel_rfl)) rfl ?_
 exact ⟨_, eqE, Kd.R_g (Kd.R_mono (rF HO808 BK804) (fun _ _ => trivial)), bel_g HB.out⟩
def impl_PartOf.f (k : Nat) (a0_0 : Int) (l0_1 : List Int) (l1 : List Int) : Option (Int × List Int × Bool) := (impl_IsRelation.f k a0_0 l0_1).bind fun t811 => (if t811 = true then ((impl_Order_has.f k a0_0 l0_1 l1).bind fun t812 => (if t812 = true then ((impl_isIncreasing.f k l1).bind fun t813 => (if t813 = true then ((impl_Order_part.f k a0_0 l0_1 l1).bind fun bt814 => (some (bt814.1, bt814.2, true))) else (some (0, ([] : List Int), false)))) else (some (0, ([] : List Int), false)))) else (some (0, ([] : List Int), false)))
theorem impl_PartOf.mono : ∀ a0 a1 a2 k, LeO (impl_PartOf.f k a0 a1 a2) (impl_PartOf.f (k + 1) a0 a1 a2) := by
 intro a0 a1 a2 k
 unfold impl_PartOf.f
 repeat' (with_reducible first|apply impl_IsRelation.mono|apply impl_Order_has.mono|apply impl_Order_part.mono|apply impl_isIncreasing.mono|apply LeO.refl|apply LeO.none|apply LeO.ite|apply LeO.bind|intro)
theorem impl_PartOf.calls (k : Nat) (a0_0 : Int) (A0_1 : Option Addr) (c0_1 : Nat) (l0_1 : List Int) (A1 : Option Addr) (c1 : Nat) (l1 : List Int) (r1 : Int) (r2 : List Int) (r3 : Bool) (w : World) (hr0_1 : Kd.C (Kd.int .i64) w A0_1 l0_1.length l0_1) (hc0_1 : l0_1.length ≤ c0_1) (hr1 : Kd.C (Kd.int .i64) w A1 l1.length l1) (hc1 : l1.length ≤ c1) (h : impl_PartOf.f k a0_0 l0_1 l1 = some (r1, r2, r3)) :
  Calls Tryd.prog 14 #[.agg #[.int .i64 a0_0, .slice A0_1 l0_1.length c0_1], .slice A1 l1.length c1] w fun e w' => ∃ v1_ : Value, e = .returned (.tuple #[.agg #[.int .i64 r1, v1_], .bool r3]) ∧ Kd.R (Kd.int .i64) 3 w' w.heap.size (fun _ => True) v1_ r2 ∧ Below w.heap.size w w' := by
 have hu32 := Tryd.underlying32
 have HR0_1 := mkA hr0_1
 have HC0_1 := mkA hc0_1
 clear hr0_1 hc0_1
 have HR1 := mkA hr1
 have HC1 := mkA hc1
 clear hr1 hc1
 have HB := mkA (Below.refl w.heap.size w)
 have H := h
 clear h
 unfold impl_PartOf.f at H
 obtain ⟨t811, A3, H⟩ := obE H
 by_cases c4 : t811 = true
 ·subst c4
  replace H := ifT H
  obtain ⟨t812, A5, H⟩ := obE H
  by_cases c6 : t812 = true
  ·subst c6
   replace H := ifT H
   obtain ⟨t813, A7, H⟩ := obE H
   by_cases c8 : t813 = true
   ·subst c8
    replace H := ifT H
    obtain ⟨⟨t814, t815⟩, A9, H⟩ := obE H
    dsimp only at H
    simp only [Option.some.injEq, Prod.mk.injEq] at H
    obtain ⟨rfl, rfl, rfl⟩ := H
    go_enter Tryd.func14, Tryd.ntmps14
    go_wp2_with (first | ((with_reducible refine gate_dst (N := 2) rfl ?_); refine boxG HB #[.int .i64 a0_0, .slice A0_1 l0_1.length c0_1] 32 ?_; intro gb809 hg w10 BK809 GE809 hb; replace HB := bst HB hb; clear hb hg) | ((with_reducible refine gate_dst (N := 4) rfl ?_); refine boxG HB #[.int .i64 0, .slice none 0 0] 32 ?_; intro gb810 hg w11 BK810 GE810 hb; have NB809_810 := neL7 BK809 hg; have NB810_809 := neR7 BK809 hg; replace BK809 := blkB BK809 hb; replace HB := bst HB hb; clear hb hg; obtain ⟨_, _, _, _⟩ := blk2 BK809) | ((with_reducible refine gate_callee (f := 36) rfl ?_); refine goesQ (some 7) Tryd.func36 #[.agg #[.int .i64 a0_0, .slice A0_1 l0_1.length c0_1]] ?_; (with_reducible refine (impl_IsRelation.calls k a0_0 _ _ l0_1 true _ ?_ ?_ A3.out).mono ?_); exact C_g HR0_1 HB; exact HC0_1.out; rintro e w14 ⟨rfl, hb⟩; refine ⟨_, rfl, ?_⟩; replace BK809 := blkB BK809 hb; replace BK810 := blkB BK810 hb; replace HB := bst HB hb; clear hb; obtain ⟨_, _, _, _⟩ := blk2 BK809) | (go_at_call 37; (with_reducible refine (impl_Order_has.calls k a0_0 _ _ l0_1 _ _ l1 true _ ?_ ?_ ?_ ?_ A5.out).mono ?_); exact C_g HR0_1 HB; exact HC0_1.out; exact C_g HR1 HB; exact HC1.out; rintro e w16 ⟨rfl, hb⟩; replace BK809 := blkB BK809 hb; replace BK810 := blkB BK810 hb; replace HB := bst HB hb; clear hb) | (go_at_call 38; (with_reducible refine (impl_isIncreasing.calls k _ _ l1 true _ ?_ ?_ A7.out).mono ?_); exact C_g HR1 HB; exact HC1.out; rintro e w' ⟨rfl, ⟨nd, rfl⟩⟩; (try (rw [drewN_self w16]; generalize hq_ : World.drewN w16 _ = w16; have n0_ : Fc (w16.heap[gb809]? = some (.cells #[.int .i64 a0_0, .slice A0_1 l0_1.length c0_1] 32 (0, 0))) := ⟨by rw [← hq_]; exact (blk_g BK809.out)⟩; have n1_ : Fc (w16.heap[gb810]? = some (.cells #[.int .i64 0, .slice none 0 0] 32 (0, 0))) := ⟨by rw [← hq_]; exact (blk_g BK810.out)⟩; have n2_ : Fc (Below w.heap.size w w16) := ⟨by rw [← hq_]; exact (bel_g HB.out)⟩; clear BK809 BK810 HB hq_; have BK809 := n0_; have BK810 := n1_; have HB := n2_; clear n0_ n1_ n2_)); obtain ⟨_, _, _, _⟩ := blk2 BK809) | ((with_reducible refine gate_callee (f := 39) rfl ?_); refine goesQ (some 23) Tryd.func39 #[.agg #[.int .i64 a0_0, .slice A0_1 l0_1.length c0_1], .slice A1 l1.length c1] ?_; (with_reducible refine (impl_Order_part.calls k a0_0 _ _ l0_1 _ _ l1 t814 t815 _ ?_ ?_ ?_ ?_ A9.out).mono ?_); exact C_g HR0_1 HB; exact HC0_1.out; exact C_g HR1 HB; exact HC1.out; rintro e w18 ⟨v816, rfl, ho0, hb⟩; refine ⟨_, rfl, ?_⟩; have HO817 := rLo ho0 HB; replace BK809 := blkB BK809 hb; replace BK810 := blkB BK810 hb; replace HB := bst HB hb; clear hb ho0; obtain ⟨_, _, _, _⟩ := blk2 BK810; obtain ⟨Ao20, co20, rfl⟩ := Kd.R_slice HO817.out))
    refine bodyPost_ret (results_ct rfl _ _ gb810 32 #[.int .i64 t814, .slice Ao20 t815.length co20] (0, 0) _ rfl (blkT BK810) Tryd.underlying32 rfl (by kernel_rfl)) rfl ?_
    exact ⟨_, eqE, Kd.R_g (Kd.R_mono (rF HO817 BK810) (fun _ _ => trivial)), bel_g HB.out⟩
   ·replace c8 := Bool.eq_false_iff.mpr c8
    subst c8
    replace H := ifF H
    simp only [Option.some.injEq, Prod.mk.injEq] at H
    obtain ⟨rfl, rfl, rfl⟩ := H
    go_enter Tryd.func14, Tryd.ntmps14
    go_wp2_with (first | ((with_reducible refine gate_dst (N := 2) rfl ?_); refine boxG HB #[.int .i64 a0_0, .slice A0_1 l0_1.length c0_1] 32 ?_; intro gb809 hg w21 BK809 GE809 hb; replace HB := bst HB hb; clear hb hg) | ((with_reducible refine gate_dst (N := 4) rfl ?_); refine boxG HB #[.int .i64 0, .slice none 0 0] 32 ?_; intro gb810 hg w22 BK810 GE810 hb; have NB809_810 := neL7 BK809 hg; have NB810_809 := neR7 BK809 hg; replace BK809 := blkB BK809 hb; replace HB := bst HB hb; clear hb hg; obtain ⟨_, _, _, _⟩ := blk2 BK809) | ((with_reducible refine gate_callee (f := 36) rfl ?_); refine goesQ (some 7) Tryd.func36 #[.agg #[.int .i64 a0_0, .slice A0_1 l0_1.length c0_1]] ?_; (with_reducible refine (impl_IsRelation.calls k a0_0 _ _ l0_1 true _ ?_ ?_ A3.out).mono ?_); exact C_g HR0_1 HB; exact HC0_1.out; rintro e w25 ⟨rfl, hb⟩; refine ⟨_, rfl, ?_⟩; replace BK809 := blkB BK809 hb; replace BK810 := blkB BK810 hb; replace HB := bst HB hb; clear hb; obtain ⟨_, _, _, _⟩ := blk2 BK809) | (go_at_call 37; (with_reducible refine (impl_Order_has.calls k a0_0 _ _ l0_1 _ _ l1 true _ ?_ ?_ ?_ ?_ A5.out).mono ?_); exact C_g HR0_1 HB; exact HC0_1.out; exact C_g HR1 HB; exact HC1.out; rintro e w27 ⟨rfl, hb⟩; replace BK809 := blkB BK809 hb; replace BK810 := blkB BK810 hb; replace HB := bst HB hb; clear hb) | (go_at_call 38; (with_reducible refine (impl_isIncreasing.calls k _ _ l1 false _ ?_ ?_ A7.out).mono ?_); exact C_g HR1 HB; exact HC1.out; rintro e w' ⟨rfl, ⟨nd, rfl⟩⟩; (try (rw [drewN_self w27]; generalize hq_ : World.drewN w27 _ = w27; have n0_ : Fc (w27.heap[gb809]? = some (.cells #[.int .i64 a0_0, .slice A0_1 l0_1.length c0_1] 32 (0, 0))) := ⟨by rw [← hq_]; exact (blk_g BK809.out)⟩; have n1_ : Fc (w27.heap[gb810]? = some (.cells #[.int .i64 0, .slice none 0 0] 32 (0, 0))) := ⟨by rw [← hq_]; exact (blk_g BK810.out)⟩; have n2_ : Fc (Below w.heap.size w w27) := ⟨by rw [← hq_]; exact (bel_g HB.out)⟩; clear BK809 BK810 HB hq_; have BK809 := n0_; have BK810 := n1_; have HB := n2_; clear n0_ n1_ n2_)); obtain ⟨_, _, _, _⟩ := blk2 BK810))
    refine bodyPost_ret (results_ct rfl _ _ gb810 32 #[.int .i64 0, .slice none 0 0] (0, 0) _ rfl (blkT BK810) Tryd.underlying32 rfl (by kernel_rfl)) rfl ?_
    exact ⟨_, eqE, nilE, bel_g HB.out⟩
  ·replace c6 := Bool.eq_false_iff.mpr c6
   subst c6
   replace H := ifF H
   simp only [Option.some.injEq, Prod.mk.injEq] at H
   obtain ⟨rfl, rfl, rfl⟩ := H
   go_enter Tryd.func14, Tryd.ntmps14
   go_wp2_with (first | ((with_reducible refine gate_dst (N := 2) rfl ?_); refine boxG HB #[.int .i64 a0_0, .slice A0_1 l0_1.length c0_1] 32 ?_; intro gb809 hg w29 BK809 GE809 hb; replace HB := bst HB hb; clear hb hg) | ((with_reducible refine gate_dst (N := 4) rfl ?_); refine boxG HB #[.int .i64 0, .slice none 0 0] 32 ?_; intro gb810 hg w30 BK810 GE810 hb; have NB809_810 := neL7 BK809 hg; have NB810_809 := neR7 BK809 hg; replace BK809 := blkB BK809 hb; replace HB := bst HB hb; clear hb hg; obtain ⟨_, _, _, _⟩ := blk2 BK809) | ((with_reducible refine gate_callee (f := 36) rfl ?_); refine goesQ (some 7) Tryd.func36 #[.agg #[.int .i64 a0_0, .slice A0_1 l0_1.length c0_1]] ?_; (with_reducible refine (impl_IsRelation.calls k a0_0 _ _ l0_1 true _ ?_ ?_ A3.out).mono ?_); exact C_g HR0_1 HB; exact HC0_1.out; rintro e w33 ⟨rfl, hb⟩; refine ⟨_, rfl, ?_⟩; replace BK809 := blkB BK809 hb; replace BK810 := blkB BK810 hb; replace HB := bst HB hb; clear hb; obtain ⟨_, _, _, _⟩ := blk2 BK809) | (go_at_call 37; (with_reducible refine (impl_Order_has.calls k a0_0 _ _ l0_1 _ _ l1 false _ ?_ ?_ ?_ ?_ A5.out).mono ?_); exact C_g HR0_1 HB; exact HC0_1.out; exact C_g HR1 HB; exact HC1.out; rintro e w35 ⟨rfl, hb⟩; replace BK809 := blkB BK809 hb; replace BK810 := blkB BK810 hb; replace HB := bst HB hb; clear hb; obtain ⟨_, _, _, _⟩ := blk2 BK810))
   refine bodyPost_ret (results_ct rfl _ _ gb810 32 #[.int .i64 0, .slice none 0 0] (0, 0) _ rfl (blkT BK810) Tryd.underlying32 rfl (by kernel_rfl)) rfl ?_
   exact ⟨_, eqE, nilE, bel_g HB.out⟩
 ·replace c4 := Bool.eq_false_iff.mpr c4
  subst c4
  replace H := ifF H
  simp only [Option.some.injEq, Prod.mk.injEq] at H
  obtain ⟨rfl, rfl, rfl⟩ := H
  go_enter Tryd.func14, Tryd.ntmps14
  go_wp2_with (first | ((with_reducible refine gate_dst (N := 2) rfl ?_); refine boxG HB #[.int .i64 a0_0, .slice A0_1 l0_1.length c0_1] 32 ?_; intro gb809 hg w37 BK809 GE809 hb; replace HB := bst HB hb; clear hb hg) | ((with_reducible refine gate_dst (N := 4) rfl ?_); refine boxG HB #[.int .i64 0, .slice none 0 0] 32 ?_; intro gb810 hg w38 BK810 GE810 hb; have NB809_810 := neL7 BK809 hg; have NB810_809 := neR7 BK809 hg; replace BK809 := blkB BK809 hb; replace HB := bst HB hb; clear hb hg; obtain ⟨_, _, _, _⟩ := blk2 BK809) | ((with_reducible refine gate_callee (f := 36) rfl ?_); refine goesQ (some 7) Tryd.func36 #[.agg #[.int .i64 a0_0, .slice A0_1 l0_1.length c0_1]] ?_; (with_reducible refine (impl_IsRelation.calls k a0_0 _ _ l0_1 false _ ?_ ?_ A3.out).mono ?_); exact C_g HR0_1 HB; exact HC0_1.out; rintro e w41 ⟨rfl, hb⟩; refine ⟨_, rfl, ?_⟩; replace BK809 := blkB BK809 hb; replace BK810 := blkB BK810 hb; replace HB := bst HB hb; clear hb; obtain ⟨_, _, _, _⟩ := blk2 BK810))
  refine bodyPost_ret (results_ct rfl _ _ gb810 32 #[.int .i64 0, .slice none 0 0] (0, 0) _ rfl (blkT BK810) Tryd.underlying32 rfl (by kernel_rfl)) rfl ?_
  exact ⟨_, eqE, nilE, bel_g HB.out⟩
def impl_IsIntervalOrder.f (k : Nat) (a0_0 : Int) (l0_1 : List Int) : Option (Bool × Bool) := (impl_IsOrder.f k a0_0 l0_1).bind fun t819 => (if t819 = true then ((impl_isInterval.f k a0_0 l0_1).bind fun t820 => (some (t820, true))) else (some (false, false)))
theorem impl_IsIntervalOrder.mono : ∀ a0 a1 k, LeO (impl_IsIntervalOrder.f k a0 a1) (impl_IsIntervalOrder.f (k + 1) a0 a1) := by
 intro a0 a1 k
 unfold impl_IsIntervalOrder.f
 repeat' (with_reducible first|apply impl_IsOrder.mono|apply impl_isInterval.mono|apply LeO.refl|apply LeO.none|apply LeO.ite|apply LeO.bind|intro)
theorem impl_IsIntervalOrder.calls (k : Nat) (a0_0 : Int) (A0_1 : Option Addr) (c0_1 : Nat) (l0_1 : List Int) (r1 : Bool) (r2 : Bool) (w : World) (hr0_1 : Kd.C (Kd.int .i64) w A0_1 l0_1.length l0_1) (hc0_1 : l0_1.length ≤ c0_1) (hTAB : Tab w) (h : impl_IsIntervalOrder.f k a0_0 l0_1 = some (r1, r2)) :
  Calls Tryd.prog 15 #[.agg #[.int .i64 a0_0, .slice A0_1 l0_1.length c0_1]] w fun e w' => e = .returned (.tuple #[.bool r1, .bool r2]) ∧ Below w.heap.size w w' := by
 have HTAB := mkA hTAB
 clear hTAB
 have hu32 := Tryd.underlying32
 have HR0_1 := mkA hr0_1
 have HC0_1 := mkA hc0_1
 clear hr0_1 hc0_1
 have HB := mkA (Below.refl w.heap.size w)
 have H := h
 clear h
 unfold impl_IsIntervalOrder.f at H
 obtain ⟨t819, A2, H⟩ := obE H
 by_cases c3 : t819 = true
 ·subst c3
  replace H := ifT H
  obtain ⟨t820, A4, H⟩ := obE H
  simp only [Option.some.injEq, Prod.mk.injEq] at H
  obtain ⟨rfl, rfl⟩ := H
  go_enter Tryd.func15, Tryd.ntmps15
  go_wp2_with (first | ((with_reducible refine gate_dst (N := 1) rfl ?_); refine boxG HB #[.int .i64 a0_0, .slice A0_1 l0_1.length c0_1] 32 ?_; intro gb818 hg w5 BK818 GE818 hb; replace HB := bst HB hb; clear hb hg; obtain ⟨_, _, _, _⟩ := blk2 BK818) | ((with_reducible refine gate_callee (f := 40) rfl ?_); refine goesQ (some 5) Tryd.func40 #[.agg #[.int .i64 a0_0, .slice A0_1 l0_1.length c0_1]] ?_; (with_reducible refine (impl_IsOrder.calls k a0_0 _ _ l0_1 true _ ?_ ?_ ?_ A2.out).mono ?_); exact C_g HR0_1 HB; exact HC0_1.out; exact Tab.below HTAB.out (bel_g HB.out); rintro e w7 ⟨rfl, hb⟩; refine ⟨_, rfl, ?_⟩; replace BK818 := blkB BK818 hb; replace HB := bst HB hb; clear hb; obtain ⟨_, _, _, _⟩ := blk2 BK818) | ((with_reducible refine gate_callee (f := 31) rfl ?_); refine goesQ (some 8) Tryd.func31 #[.agg #[.int .i64 a0_0, .slice A0_1 l0_1.length c0_1]] ?_; (with_reducible refine (impl_isInterval.calls k a0_0 _ _ l0_1 t820 _ ?_ ?_ ?_ A4.out).mono ?_); exact C_g HR0_1 HB; exact HC0_1.out; exact Tab.below HTAB.out (bel_g HB.out); rintro e w9 ⟨rfl, hb⟩; refine ⟨_, rfl, ?_⟩; replace BK818 := blkB BK818 hb; replace HB := bst HB hb; clear hb))
  go_ret2
  exact ⟨eqE, bel_g HB.out⟩
 ·replace c3 := Bool.eq_false_iff.mpr c3
  subst c3
  replace H := ifF H
  simp only [Option.some.injEq, Prod.mk.injEq] at H
  obtain ⟨rfl, rfl⟩ := H
  go_enter Tryd.func15, Tryd.ntmps15
  go_wp2_with (first | ((with_reducible refine gate_dst (N := 1) rfl ?_); refine boxG HB #[.int .i64 a0_0, .slice A0_1 l0_1.length c0_1] 32 ?_; intro gb818 hg w10 BK818 GE818 hb; replace HB := bst HB hb; clear hb hg; obtain ⟨_, _, _, _⟩ := blk2 BK818) | ((with_reducible refine gate_callee (f := 40) rfl ?_); refine goesQ (some 5) Tryd.func40 #[.agg #[.int .i64 a0_0, .slice A0_1 l0_1.length c0_1]] ?_; (with_reducible refine (impl_IsOrder.calls k a0_0 _ _ l0_1 false _ ?_ ?_ ?_ A2.out).mono ?_); exact C_g HR0_1 HB; exact HC0_1.out; exact Tab.below HTAB.out (bel_g HB.out); rintro e w12 ⟨rfl, hb⟩; refine ⟨_, rfl, ?_⟩; replace BK818 := blkB BK818 hb; replace HB := bst HB hb; clear hb))
  go_ret2
  exact ⟨eqE, bel_g HB.out⟩
end Go.Proofs.YtlfjnllnddpgoaaDoor.Q
