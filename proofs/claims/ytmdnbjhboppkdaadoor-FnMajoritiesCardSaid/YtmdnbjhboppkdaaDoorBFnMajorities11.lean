import Derived.Test.YtmdnbjhboppkdaaDoorBFnMajorities10
namespace Go.Proofs.YtmdnbjhboppkdaaDoor.Q
open Go.RowKit Go.Proofs.YtmdnbjhboppkdaaDoorW.PrintWords Go.Proofs.YtmdnbjhboppkdaaDoorW.PrintLast Go.Proofs.YtmdnbjhboppkdaaDoorW.PrintMore
attribute [local go_sem] max2_int min2_int max_two min_two max_three min_three max_four min_four neB_f
set_option linter.unusedVariables false
set_option maxHeartbeats 8000000
set_option maxRecDepth 100000
set_option linter.unusedSimpArgs false
mutual
def spec_MajorityOf.l0 : Nat → List (List Int) → Int → Int → Int → List Int → Option (Int × List Int × Bool)
 | 0, _, _, _, _, _ => none
 | k + 1, x0, x4, x6, x428000, x428001 => if x6 < x4 then (spec_MajorityOf.l1 k x0 x4 x6 0 0 x428000 x428001) else (some (x428000, x428001, true))
def spec_MajorityOf.l1 : Nat → List (List Int) → Int → Int → Int → Int → Int → List Int → Option (Int × List Int × Bool)
 | 0, _, _, _, _, _, _, _ => none
 | k + 1, x0, x4, x6, x7, x8, x428000, x428001 => if x8 < x4 then (spec_MajorityOf.l2 k x0 x4 x6 x7 x8 0 x0 (x0.length : Int) 0 x428000 x428001) else (if x428001.length < 17592186044416 then (spec_MajorityOf.l0 k x0 x4 (wrap64 (x6 + 1)) x428000 (x428001 ++ [x7])) else (none))
def spec_MajorityOf.l2 : Nat → List (List Int) → Int → Int → Int → Int → Int → List (List Int) → Int → Int → Int → List Int → Option (Int × List Int × Bool)
 | 0, _, _, _, _, _, _, _, _, _, _, _ => none
 | k + 1, x0, x4, x6, x7, x8, x9, x32, x33, x34, x428000, x428001 => if x34 < x33 then (if 0 ≤ x34 then (if x34 < (x32.length : Int) then (if 0 ≤ x8 then (if x8 < ((rd_L2 x32 x34).length : Int) then (if 0 ≤ x6 then (if x6 < ((rd_L2 x32 x34).length : Int) then ((spec_l1Sign.f (wrap64 ((rd (rd_L2 x32 x34) x8) - (rd (rd_L2 x32 x34) x6)))).bind fun t434 => (spec_MajorityOf.l2 k x0 x4 x6 x7 x8 (wrap64 (x9 + t434)) x32 x33 (wrap64 (x34 + 1)) x428000 x428001)) else (none)) else (none)) else (none)) else (none)) else (none)) else (none)) else (if x9 > 0 then (if 0 ≤ x8 then (spec_MajorityOf.l1 k x0 x4 x6 (Go.bits .or .i64 x7 (shl .i64 1 x8)) (wrap64 (x8 + 1)) x428000 x428001) else (none)) else (spec_MajorityOf.l1 k x0 x4 x6 x7 (wrap64 (x8 + 1)) x428000 x428001))
end
def spec_MajorityOf.f (k : Nat) (l0 : List (List Int)) : Option (Int × List Int × Bool) := (spec_weVoters.f k l0).bind fun t425 => (if t425 = true then (if 0 < (l0.length : Int) then (spec_MajorityOf.l0 k l0 ((rd_L2 l0 0).length : Int) 0 ((rd_L2 l0 0).length : Int) ([] : List Int)) else (none)) else (some (0, ([] : List Int), false)))
theorem spec_MajorityOf.mono_l : ∀ k, (∀ y0 y1 y2 y3 y4, LeO (spec_MajorityOf.l0 k y0 y1 y2 y3 y4) (spec_MajorityOf.l0 (k + 1) y0 y1 y2 y3 y4)) ∧ (∀ y0 y1 y2 y3 y4 y5 y6, LeO (spec_MajorityOf.l1 k y0 y1 y2 y3 y4 y5 y6) (spec_MajorityOf.l1 (k + 1) y0 y1 y2 y3 y4 y5 y6)) ∧ (∀ y0 y1 y2 y3 y4 y5 y6 y7 y8 y9 y10, LeO (spec_MajorityOf.l2 k y0 y1 y2 y3 y4 y5 y6 y7 y8 y9 y10) (spec_MajorityOf.l2 (k + 1) y0 y1 y2 y3 y4 y5 y6 y7 y8 y9 y10))
 | 0 => ⟨fun _ _ _ _ _ r h => by simp [spec_MajorityOf.l0] at h, fun _ _ _ _ _ _ _ r h => by simp [spec_MajorityOf.l1] at h, fun _ _ _ _ _ _ _ _ _ _ _ r h => by simp [spec_MajorityOf.l2] at h⟩
 | k + 1 => by
  obtain ⟨ih0, ih1, ih2⟩ := spec_MajorityOf.mono_l k
  refine ⟨?_, ?_, ?_⟩ <;> intros
  unfold spec_MajorityOf.l0
  rotate_left
  unfold spec_MajorityOf.l1
  rotate_left
  unfold spec_MajorityOf.l2
  rotate_left
  all_goals repeat' (with_reducible first|apply ih0|apply ih1|apply ih2|apply spec_weVoters.mono|apply LeO.refl|apply LeO.none|apply LeO.ite|apply LeO.bind|intro)
theorem spec_MajorityOf.mono : ∀ a0 k, LeO (spec_MajorityOf.f k a0) (spec_MajorityOf.f (k + 1) a0) := by
 intro a0 k
 obtain ⟨ih0, ih1, ih2⟩ := spec_MajorityOf.mono_l k
 unfold spec_MajorityOf.f
 repeat' (with_reducible first|apply ih0|apply ih1|apply ih2|apply spec_weVoters.mono|apply LeO.refl|apply LeO.none|apply LeO.ite|apply LeO.bind|intro)
theorem spec_MajorityOf.calls (k : Nat) (A0 : Option Addr) (c0 : Nat) (l0 : List (List Int)) (r1 : Int) (r2 : List Int) (r3 : Bool) (w : World) (hr0 : Kd.C (Kd.slice 3 (Kd.int .i64)) w A0 l0.length l0) (hc0 : l0.length ≤ c0) (h : spec_MajorityOf.f k l0 = some (r1, r2, r3)) :
  Calls Tryd.prog 7 #[.slice A0 l0.length c0] w fun e w' => ∃ v1_ : Value, e = .returned (.tuple #[.agg #[.int .i64 r1, v1_], .bool r3]) ∧ Kd.R (Kd.int .i64) 3 w' w.heap.size (fun _ => True) v1_ r2 ∧ Below w.heap.size w w' := by
 have hu28 := Tryd.underlying28
 have HR0 := mkA hr0
 have HC0 := mkA hc0
 clear hr0 hc0
 have HB := mkA (Below.refl w.heap.size w)
 have H := h
 clear h
 unfold spec_MajorityOf.f at H
 obtain ⟨t425, A2, H⟩ := obE H
 by_cases c3 : t425 = true
 ·subst c3
  replace H := ifT H
  obtain ⟨c4, H⟩ := itNP H
  have c4b0 := decide_eq_true c4
  have c4b1 : decide (0 < l0.length) = true := decide_eq_true (by omega)
  clear c4
  have H' := mkA H
  clear H
  go_enter Tryd.func7, Tryd.ntmps7
  go_wp2_with (first | ((with_reducible refine gate_dst (N := 2) rfl ?_); refine boxG HB #[.int .i64 0, .slice none 0 0] 28 ?_; intro gb424 hg w5 BK424 GE424 hb; replace HB := bst HB hb; clear hb hg) | (go_at_call 23; (with_reducible refine (spec_weVoters.calls k _ _ l0 true _ ?_ ?_ A2.out).mono ?_); exact C_g HR0 HB; exact HC0.out; rintro e w' ⟨rfl, ⟨nd, rfl⟩⟩; (try first | exact ⟨rfl, _, World.drewN_drewN _ _ _⟩ | exact ⟨rfl, _, Eq.trans (World.drewN_drewN _ _ _) (congrArg (World.drewN _) (Nat.add_assoc _ _ _))⟩); have p426 : 0 ≤ (0 : Int) := (by omega); have q426 : 0 < (l0.length : Int) := ofd; obtain ⟨ad426, A426_0, c426_0, e426, hx426_0, hl426_0, hi426_0⟩ := at_L2 HR0.out 0 p426 q426; cases e426; have qi426 : (0 < l0.length) = True := eq_true (by omega); (try rw [show ((0 : Int)).toNat = 0 from rfl] at hx426_0); (try rw [Addr.add_zero'] at hx426_0); replace hx426_0 := (HB.out.cell (World.block_lt_of_cell? w _ hx426_0)).trans hx426_0; have HR426_0 := mkA hi426_0; have HC426_0 := mkA hl426_0; clear hi426_0 hl426_0; replace p426 := eq_true p426; replace q426 := eq_true q426) | ((with_reducible refine gate_dst (N := 5) rfl ?_); refine boxG HB #[.int .i64 0, .slice none 0 0] 28 ?_; intro gb427 hg w6 BK427 GE427 hb; have NB424_427 := neL7 BK424 hg; have NB427_424 := neR7 BK424 hg; replace BK424 := blkB BK424 hb; replace HB := bst HB hb; clear hb hg; obtain ⟨hcz8_0, hcz8_1, hfz8_0, hfz8_1⟩ := blk2 BK427))
  repeat (go_quiet (first | ((with_reducible refine gate_dst (N := 2) rfl ?_); refine boxG HB #[.int .i64 0, .slice none 0 0] 28 ?_; intro gb424 hg w5 BK424 GE424 hb; replace HB := bst HB hb; clear hb hg) | (go_at_call 23; (with_reducible refine (spec_weVoters.calls k _ _ l0 true _ ?_ ?_ A2.out).mono ?_); exact C_g HR0 HB; exact HC0.out; rintro e w' ⟨rfl, ⟨nd, rfl⟩⟩; (try first | exact ⟨rfl, _, World.drewN_drewN _ _ _⟩ | exact ⟨rfl, _, Eq.trans (World.drewN_drewN _ _ _) (congrArg (World.drewN _) (Nat.add_assoc _ _ _))⟩); have p426 : 0 ≤ (0 : Int) := (by omega); have q426 : 0 < (l0.length : Int) := ofd; obtain ⟨ad426, A426_0, c426_0, e426, hx426_0, hl426_0, hi426_0⟩ := at_L2 HR0.out 0 p426 q426; cases e426; have qi426 : (0 < l0.length) = True := eq_true (by omega); (try rw [show ((0 : Int)).toNat = 0 from rfl] at hx426_0); (try rw [Addr.add_zero'] at hx426_0); replace hx426_0 := (HB.out.cell (World.block_lt_of_cell? w _ hx426_0)).trans hx426_0; have HR426_0 := mkA hi426_0; have HC426_0 := mkA hl426_0; clear hi426_0 hl426_0; replace p426 := eq_true p426; replace q426 := eq_true q426) | ((with_reducible refine gate_dst (N := 5) rfl ?_); refine boxG HB #[.int .i64 0, .slice none 0 0] 28 ?_; intro gb427 hg w6 BK427 GE427 hb; have NB424_427 := neL7 BK424 hg; have NB427_424 := neR7 BK424 hg; replace BK424 := blkB BK424 hb; replace HB := bst HB hb; clear hb hg; obtain ⟨hcz8_0, hcz8_1, hfz8_0, hfz8_1⟩ := blk2 BK427)); try go_wp2_with (first | ((with_reducible refine gate_dst (N := 2) rfl ?_); refine boxG HB #[.int .i64 0, .slice none 0 0] 28 ?_; intro gb424 hg w5 BK424 GE424 hb; replace HB := bst HB hb; clear hb hg) | (go_at_call 23; (with_reducible refine (spec_weVoters.calls k _ _ l0 true _ ?_ ?_ A2.out).mono ?_); exact C_g HR0 HB; exact HC0.out; rintro e w' ⟨rfl, ⟨nd, rfl⟩⟩; (try first | exact ⟨rfl, _, World.drewN_drewN _ _ _⟩ | exact ⟨rfl, _, Eq.trans (World.drewN_drewN _ _ _) (congrArg (World.drewN _) (Nat.add_assoc _ _ _))⟩); have p426 : 0 ≤ (0 : Int) := (by omega); have q426 : 0 < (l0.length : Int) := ofd; obtain ⟨ad426, A426_0, c426_0, e426, hx426_0, hl426_0, hi426_0⟩ := at_L2 HR0.out 0 p426 q426; cases e426; have qi426 : (0 < l0.length) = True := eq_true (by omega); (try rw [show ((0 : Int)).toNat = 0 from rfl] at hx426_0); (try rw [Addr.add_zero'] at hx426_0); replace hx426_0 := (HB.out.cell (World.block_lt_of_cell? w _ hx426_0)).trans hx426_0; have HR426_0 := mkA hi426_0; have HC426_0 := mkA hl426_0; clear hi426_0 hl426_0; replace p426 := eq_true p426; replace q426 := eq_true q426) | ((with_reducible refine gate_dst (N := 5) rfl ?_); refine boxG HB #[.int .i64 0, .slice none 0 0] 28 ?_; intro gb427 hg w6 BK427 GE427 hb; have NB424_427 := neL7 BK424 hg; have NB427_424 := neR7 BK424 hg; replace BK424 := blkB BK424 hb; replace HB := bst HB hb; clear hb hg; obtain ⟨hcz8_0, hcz8_1, hfz8_0, hfz8_1⟩ := blk2 BK427)))
  go_loopg [6] k (fun kq v6 w' => ∃ (x6_1 : Int) (x428001_1 : List Int) (u428001 : Value), v6 = .int .i64 x6_1 ∧ Fc (spec_MajorityOf.l0 kq l0 ((rd_L2 l0 0).length : Int) x6_1 ((rd_L2 l0 0).length : Int) x428001_1 = some (r1, r2, r3)) ∧ Fc (kq ≤ k) ∧ Fc (Kd.R (Kd.int .i64) 3 w' w.heap.size (fun _ => True) u428001 x428001_1) ∧ Fc (w'.heap[gb424]? = some (.cells #[.int .i64 0, (.slice none 0 0)] 28 (0, 0))) ∧ Fc (w'.heap[gb427]? = some (.cells #[.int .i64 ((rd_L2 l0 0).length : Int), u428001] 28 (0, 0))) ∧ Fc (Below w.heap.size w w'))
  case atStart => exact ⟨(0), (([] : List Int)), (.slice none 0 0), eqS, H', ⟨Nat.le_refl _⟩, ⟨nilE⟩, ⟨blkT BK424⟩, ⟨blkT BK427⟩, hbg HB⟩
  case round =>
   clear H'
   try clear c3
   try clear c4
   try clear c4b0
   try clear c4b1
   try clear hx426_0
   try clear p426
   try clear q426
   obtain ⟨x6_1, x428001_1, u428001, rfl, HA, HK1, HO_428001, BK424, BK427, HB⟩ := hrel
   cases gk with
   | zero => exact absurd HA.out (by simp [spec_MajorityOf.l0])
   | succ k1 =>
    have H := HA.out
    clear HA
    simp only [spec_MajorityOf.l0] at H
    rcases iteE H with ⟨c9b0, H⟩ | ⟨c9b0, H⟩
    ·have H' := mkA H
     clear H
     go_wp2
     repeat (go_quiet (fail); try go_wp2)
     go_loopg [7, 8] k1 (fun kq v7 v8 w' => ∃ (x7_2 : Int) (x8_2 : Int), v7 = .int .i64 x7_2 ∧ v8 = .int .i64 x8_2 ∧ Fc (spec_MajorityOf.l1 kq l0 ((rd_L2 l0 0).length : Int) x6_1 x7_2 x8_2 ((rd_L2 l0 0).length : Int) x428001_1 = some (r1, r2, r3)) ∧ Fc (kq ≤ k1) ∧ Fc (Kd.R (Kd.int .i64) 3 w' w.heap.size (fun _ => True) u428001 x428001_1) ∧ Fc (w'.heap[gb424]? = some (.cells #[.int .i64 0, (.slice none 0 0)] 28 (0, 0))) ∧ Fc (w'.heap[gb427]? = some (.cells #[.int .i64 ((rd_L2 l0 0).length : Int), u428001] 28 (0, 0))) ∧ Fc (Below w.heap.size w w'))
     case atStart => exact ⟨(0), (0), eqS, eqS, H', ⟨Nat.le_refl _⟩, rg HO_428001, bg BK424, bg BK427, hbg HB⟩
     case round =>
      clear H'
      try clear c3
      try clear c4
      try clear c4b0
      try clear c4b1
      try clear c9b0
      try clear hx426_0
      try clear p426
      try clear q426
      obtain ⟨x7_2, x8_2, rfl, rfl, HA, HK2, HO_428001, BK424, BK427, HB⟩ := hrel
      cases gk with
      | zero => exact absurd HA.out (by simp [spec_MajorityOf.l1])
      | succ k2 =>
       have H := HA.out
       clear HA
       simp only [spec_MajorityOf.l1] at H
       rcases iteE H with ⟨c10b0, H⟩ | ⟨c10b0, H⟩
       ·have H' := mkA H
        clear H
        go_wp2
        repeat (go_quiet (fail); try go_wp2)
        go_loopg [9, 34] k2 (fun kq v9 v34 w' => ∃ (x9_3 : Int) (x34_3 : Int), v9 = .int .i64 x9_3 ∧ v34 = .int .i64 x34_3 ∧ Fc (spec_MajorityOf.l2 kq l0 ((rd_L2 l0 0).length : Int) x6_1 x7_2 x8_2 x9_3 l0 (l0.length : Int) x34_3 ((rd_L2 l0 0).length : Int) x428001_1 = some (r1, r2, r3)) ∧ Fc (kq ≤ k2) ∧ Fc (Kd.R (Kd.int .i64) 3 w' w.heap.size (fun _ => True) u428001 x428001_1) ∧ Fc (w'.heap[gb424]? = some (.cells #[.int .i64 0, (.slice none 0 0)] 28 (0, 0))) ∧ Fc (w'.heap[gb427]? = some (.cells #[.int .i64 ((rd_L2 l0 0).length : Int), u428001] 28 (0, 0))) ∧ Fc (Below w.heap.size w w'))
        case atStart => exact ⟨(0), (0), eqS, eqS, H', ⟨Nat.le_refl _⟩, rg HO_428001, bg BK424, bg BK427, hbg HB⟩
        case round =>
         clear H'
         try clear c3
         try clear c4
         try clear c4b0
         try clear c4b1
         try clear c9b0
         try clear c10b0
         try clear hx426_0
         try clear p426
         try clear q426
         obtain ⟨x9_3, x34_3, rfl, rfl, HA, HK3, HO_428001, BK424, BK427, HB⟩ := hrel
         cases gk with
         | zero => exact absurd HA.out (by simp [spec_MajorityOf.l2])
         | succ k3 =>
          have H := HA.out
          clear HA
          simp only [spec_MajorityOf.l2] at H
          rcases iteE H with ⟨c11b0, H⟩ | ⟨c11b0, H⟩
          ·obtain ⟨c12b0, H⟩ := itND H
           obtain ⟨c13b0, H⟩ := itND H
           obtain ⟨c14b0, H⟩ := itND H
           obtain ⟨c15b0, H⟩ := itND H
           obtain ⟨c16b0, H⟩ := itND H
           obtain ⟨c17b0, H⟩ := itND H
           obtain ⟨t434, A18, H⟩ := obE H
           have H' := mkA H
           clear H
           have p431 : 0 ≤ (x34_3 : Int) := ofd
           have q431 : x34_3 < (l0.length : Int) := ofd
           obtain ⟨ad431, A431_0, c431_0, e431, hx431_0, hl431_0, hi431_0⟩ := at_L2 HR0.out x34_3 p431 q431
           obtain rfl : ad426 = ad431 := (by injection e431)
           replace hx431_0 := (HB.out.cell (World.block_lt_of_cell? w _ hx431_0)).trans hx431_0
           have HR431_0 := mkA hi431_0
           have HC431_0 := mkA hl431_0
           clear hi431_0 hl431_0
           replace p431 := eq_true p431
           replace q431 := eq_true q431
           obtain ⟨p432, q432, ad432, e432, hx432_0⟩ := atI HR431_0.out x8_2
           cases e432
           replace hx432_0 := (HB.out.cell (World.block_lt_of_cell? w _ hx432_0)).trans hx432_0
           obtain ⟨p433, q433, ad433, e433, hx433_0⟩ := atI HR431_0.out x6_1
           obtain rfl : ad432 = ad433 := (by injection e433)
           replace hx433_0 := (HB.out.cell (World.block_lt_of_cell? w _ hx433_0)).trans hx433_0
           go_wp2_with (first | (go_at_call 24; (with_reducible refine (spec_l1Sign.calls (wrap64 ((rd (rd_L2 l0 x34_3) x8_2) - (rd (rd_L2 l0 x34_3) x6_1))) t434 _ A18.out).mono ?_); rintro e w' ⟨rfl, ⟨nd, rfl⟩⟩; (try first | exact ⟨rfl, _, World.drewN_drewN _ _ _⟩ | exact ⟨rfl, _, Eq.trans (World.drewN_drewN _ _ _) (congrArg (World.drewN _) (Nat.add_assoc _ _ _))⟩)))
           repeat (go_quiet (first | (go_at_call 24; (with_reducible refine (spec_l1Sign.calls (wrap64 ((rd (rd_L2 l0 x34_3) x8_2) - (rd (rd_L2 l0 x34_3) x6_1))) t434 _ A18.out).mono ?_); rintro e w' ⟨rfl, ⟨nd, rfl⟩⟩; (try first | exact ⟨rfl, _, World.drewN_drewN _ _ _⟩ | exact ⟨rfl, _, Eq.trans (World.drewN_drewN _ _ _) (congrArg (World.drewN _) (Nat.add_assoc _ _ _))⟩))); try go_wp2_with (first | (go_at_call 24; (with_reducible refine (spec_l1Sign.calls (wrap64 ((rd (rd_L2 l0 x34_3) x8_2) - (rd (rd_L2 l0 x34_3) x6_1))) t434 _ A18.out).mono ?_); rintro e w' ⟨rfl, ⟨nd, rfl⟩⟩; (try first | exact ⟨rfl, _, World.drewN_drewN _ _ _⟩ | exact ⟨rfl, _, Eq.trans (World.drewN_drewN _ _ _) (congrArg (World.drewN _) (Nat.add_assoc _ _ _))⟩))))
           go_roundg k3
           case measure => have := HK1.out; have := HK2.out; have := HK3.out; omega
           case rel => exact ⟨(wrap64 (x9_3 + t434)), (wrap64 (x34_3 + 1)), eqS, eqS, H', ⟨by have := HK1.out; have := HK2.out; have := HK3.out; omega⟩, rg HO_428001, bg BK424, bg BK427, hbg HB⟩
          ·rcases iteP H with ⟨c19, H⟩ | ⟨c19, H⟩
           ·have c19b0 := decide_eq_true c19
            clear c19
            obtain ⟨c20b0, c20b1, H⟩ := itNQ H
            obtain ⟨ji21, hji21⟩ : ∃ j_ : Int, (shl .i64 1 x8_2) = j_ := ⟨_, rfl⟩
            first | rw [hji21] at H | simp only [hji21] at H
            have hji21_ : (IntKind.i64.wrap (1 * 2 ^ min x8_2.toNat 64)) = ji21 := hji21
            have hji21z : x8_2 ≤ 64 → (IntKind.i64.wrap (1 * 2 ^ x8_2.toNat)) = ji21 := shl_small hji21
            have hji21u : (IntKind.i64.wrap (2 ^ min x8_2.toNat 64)) = ji21 := by have h_ := hji21_; rw [Int.one_mul] at h_; exact h_
            have hji21v : x8_2 ≤ 64 → (IntKind.i64.wrap (2 ^ x8_2.toNat)) = ji21 := fun hle_ => by have h_ := hji21z hle_; rw [Int.one_mul] at h_; exact h_
            have hji21y : (wrap64 (1 * 2 ^ min x8_2.toNat 64)) = ji21 := (i64_w _).symm.trans hji21_
            have hji21x : x8_2 ≤ 64 → (wrap64 (1 * 2 ^ x8_2.toNat)) = ji21 := fun h_ => (i64_w _).symm.trans (hji21z h_)
            have H' := mkA H
            clear H
            go_wp2
            repeat (go_quiet (fail); try go_wp2)
            go_roundg k3
            case measure => have := HK1.out; have := HK2.out; have := HK3.out; omega
            case rel => exact ⟨(Go.bits .or .i64 x7_2 (ji21)), (wrap64 (x8_2 + 1)), (by first | rfl | (simp; done) | (simp only [← hji21] <;> (first | rfl | simp)) | (simp [*]; done)), eqS, H', ⟨by have := HK1.out; have := HK2.out; have := HK3.out; omega⟩, rg HO_428001, bg BK424, bg BK427, hbg HB⟩
           ·have c19b0 := decide_eq_false c19
            clear c19
            have H' := mkA H
            clear H
            go_wp2
            repeat (go_quiet (fail); try go_wp2)
            go_roundg k3
            case measure => have := HK1.out; have := HK2.out; have := HK3.out; omega
            case rel => exact ⟨(x7_2), (wrap64 (x8_2 + 1)), eqS, eqS, H', ⟨by have := HK1.out; have := HK2.out; have := HK3.out; omega⟩, rg HO_428001, bg BK424, bg BK427, hbg HB⟩
       ·obtain ⟨c22, H⟩ := itNP H
        have LMc22 := mkA c22
        clear c22
        obtain ⟨y428, hy428⟩ : ∃ y_ : List Int, y_ = (x428001_1 ++ [x7_2]) := ⟨_, rfl⟩
        rw [← hy428] at H
        have Ny428 := mkA hy428
        clear hy428
        have H' := mkA H
        clear H
        obtain ⟨_, _, _, _⟩ := blk2 BK427
        go_wp2_with (first | ((with_reducible refine gate_builtin (b := .append) (xs := #[.tmp 58, .tmp 60]) rfl ?_); at_builtin; refine Kd.R_append (Kd.int .i64) (w0 := w) w.heap.size rfl (.tmp 58) (.tmp 60) 26 3 (.int .i64 0) 8 rfl Tryd.underlying26 info3 rfl (by decide) (by omega) u428001 x428001_1 x7_2 [.int .i64 x7_2] (fun _ => True) (fun _ => False) rfl rfl ?aP (fun _ hk => hk.elim) ?aF ?aO ?aB ?aS ?aL ?_; (case aP => exact rfl); (case aB => exact (bel_g HB.out)); (case aF => exact (fun _ _ => trivial)); (case aO => exact (Kd.R_g HO_428001.out)); (case aS => exact (below_size (bel_g HB.out))); (case aL => have := LMc22.out; omega); intro v429 w25 ho hb hg hat; rw [← Ny428.out] at ho; replace BK424 := mkA (blk_grown (g := gb424) (o := .cells #[.int .i64 0, .slice none 0 0] 28 (0, 0)) (blk_g BK424.out) hg (Kd.R_ne HO_428001.out BK424.out (by decide))); replace BK427 := mkA (blk_grown (g := gb427) (o := .cells #[.int .i64 ((rd_L2 l0 0).length : Int), u428001] 28 (0, 0)) (blk_g BK427.out) hg (Kd.R_ne HO_428001.out BK427.out (by decide))); have HO430 := mkA (ho); replace HB := mkA (hb); clear HO_428001; clear ho hb hg hat; obtain ⟨Ao26, co26, rfl⟩ := Kd.R_slice HO430.out; obtain ⟨hcz27_0, hcz27_1, hfz27_0, hfz27_1⟩ := blk2 BK427))
        repeat (go_quiet (first | ((with_reducible refine gate_builtin (b := .append) (xs := #[.tmp 58, .tmp 60]) rfl ?_); at_builtin; refine Kd.R_append (Kd.int .i64) (w0 := w) w.heap.size rfl (.tmp 58) (.tmp 60) 26 3 (.int .i64 0) 8 rfl Tryd.underlying26 info3 rfl (by decide) (by omega) u428001 x428001_1 x7_2 [.int .i64 x7_2] (fun _ => True) (fun _ => False) rfl rfl ?aP (fun _ hk => hk.elim) ?aF ?aO ?aB ?aS ?aL ?_; (case aP => exact rfl); (case aB => exact (bel_g HB.out)); (case aF => exact (fun _ _ => trivial)); (case aO => exact (Kd.R_g HO_428001.out)); (case aS => exact (below_size (bel_g HB.out))); (case aL => have := LMc22.out; omega); intro v429 w25 ho hb hg hat; rw [← Ny428.out] at ho; replace BK424 := mkA (blk_grown (g := gb424) (o := .cells #[.int .i64 0, .slice none 0 0] 28 (0, 0)) (blk_g BK424.out) hg (Kd.R_ne HO_428001.out BK424.out (by decide))); replace BK427 := mkA (blk_grown (g := gb427) (o := .cells #[.int .i64 ((rd_L2 l0 0).length : Int), u428001] 28 (0, 0)) (blk_g BK427.out) hg (Kd.R_ne HO_428001.out BK427.out (by decide))); have HO430 := mkA (ho); replace HB := mkA (hb); clear HO_428001; clear ho hb hg hat; obtain ⟨Ao26, co26, rfl⟩ := Kd.R_slice HO430.out; obtain ⟨hcz27_0, hcz27_1, hfz27_0, hfz27_1⟩ := blk2 BK427)); try go_wp2_with (first | ((with_reducible refine gate_builtin (b := .append) (xs := #[.tmp 58, .tmp 60]) rfl ?_); at_builtin; refine Kd.R_append (Kd.int .i64) (w0 := w) w.heap.size rfl (.tmp 58) (.tmp 60) 26 3 (.int .i64 0) 8 rfl Tryd.underlying26 info3 rfl (by decide) (by omega) u428001 x428001_1 x7_2 [.int .i64 x7_2] (fun _ => True) (fun _ => False) rfl rfl ?aP (fun _ hk => hk.elim) ?aF ?aO ?aB ?aS ?aL ?_; (case aP => exact rfl); (case aB => exact (bel_g HB.out)); (case aF => exact (fun _ _ => trivial)); (case aO => exact (Kd.R_g HO_428001.out)); (case aS => exact (below_size (bel_g HB.out))); (case aL => have := LMc22.out; omega); intro v429 w25 ho hb hg hat; rw [← Ny428.out] at ho; replace BK424 := mkA (blk_grown (g := gb424) (o := .cells #[.int .i64 0, .slice none 0 0] 28 (0, 0)) (blk_g BK424.out) hg (Kd.R_ne HO_428001.out BK424.out (by decide))); replace BK427 := mkA (blk_grown (g := gb427) (o := .cells #[.int .i64 ((rd_L2 l0 0).length : Int), u428001] 28 (0, 0)) (blk_g BK427.out) hg (Kd.R_ne HO_428001.out BK427.out (by decide))); have HO430 := mkA (ho); replace HB := mkA (hb); clear HO_428001; clear ho hb hg hat; obtain ⟨Ao26, co26, rfl⟩ := Kd.R_slice HO430.out; obtain ⟨hcz27_0, hcz27_1, hfz27_0, hfz27_1⟩ := blk2 BK427)))
        go_roundg k2
        case measure => have := HK1.out; have := HK2.out; omega
        case rel => exact ⟨(wrap64 (x6_1 + 1)), (y428), (.slice Ao26 y428.length co26), eqS, H', ⟨by have := HK1.out; have := HK2.out; omega⟩, ⟨Kd.R_g (Kd.R_mono (Kd.R_far (p := ⟨gb427, 1, none⟩) (Kd.R_types HO430.out BK427.out (by decide)) (fun _ hk => hk.2) (.slice Ao26 y428.length co26)) (fun _ hk => trivial))⟩, ⟨blkT BK424⟩, ⟨blkT BK427⟩, hbg HB⟩
    ·simp only [Option.some.injEq, Prod.mk.injEq] at H
     obtain ⟨rfl, rfl, rfl⟩ := H
     obtain ⟨_, _, _, _⟩ := blk2 BK427
     obtain ⟨_, _, _, _⟩ := blk2 BK424
     obtain ⟨Ao31, co31, rfl⟩ := Kd.R_slice HO_428001.out
     go_wp2
     repeat (go_quiet (fail); try go_wp2)
     refine bodyPost_ret (results_ct rfl _ _ gb424 28 #[.int .i64 ((rd_L2 l0 0).length : Int), .slice Ao31 x428001_1.length co31] (0, 0) _ rfl (blkT BK424) Tryd.underlying28 rfl (by kernel_rfl)) rfl ?_
     exact ⟨_, eqE, Kd.R_g (Kd.R_mono (Kd.R_far (p := ⟨gb424, 1, none⟩) (Kd.R_far (p := ⟨gb424, 0, none⟩) (Kd.R_types HO_428001.out BK424.out (by decide)) (fun _ hk => hk.2) (.int .i64 ((rd_L2 l0 0).length : Int))) (fun _ hk => hk.2) (.slice Ao31 x428001_1.length co31)) (fun _ hk => trivial)), bel_g HB.out⟩
 ·replace c3 := Bool.eq_false_iff.mpr c3
  subst c3
  replace H := ifF H
  simp only [Option.some.injEq, Prod.mk.injEq] at H
  obtain ⟨rfl, rfl, rfl⟩ := H
  go_enter Tryd.func7, Tryd.ntmps7
  go_wp2_with (first | ((with_reducible refine gate_dst (N := 2) rfl ?_); refine boxG HB #[.int .i64 0, .slice none 0 0] 28 ?_; intro gb424 hg w32 BK424 GE424 hb; replace HB := bst HB hb; clear hb hg) | (go_at_call 23; (with_reducible refine (spec_weVoters.calls k _ _ l0 false _ ?_ ?_ A2.out).mono ?_); exact C_g HR0 HB; exact HC0.out; rintro e w' ⟨rfl, ⟨nd, rfl⟩⟩; (try first | exact ⟨rfl, _, World.drewN_drewN _ _ _⟩ | exact ⟨rfl, _, Eq.trans (World.drewN_drewN _ _ _) (congrArg (World.drewN _) (Nat.add_assoc _ _ _))⟩); obtain ⟨hcz33_0, hcz33_1, hfz33_0, hfz33_1⟩ := blk2 BK424))
  repeat (go_quiet (first | ((with_reducible refine gate_dst (N := 2) rfl ?_); refine boxG HB #[.int .i64 0, .slice none 0 0] 28 ?_; intro gb424 hg w32 BK424 GE424 hb; replace HB := bst HB hb; clear hb hg) | (go_at_call 23; (with_reducible refine (spec_weVoters.calls k _ _ l0 false _ ?_ ?_ A2.out).mono ?_); exact C_g HR0 HB; exact HC0.out; rintro e w' ⟨rfl, ⟨nd, rfl⟩⟩; (try first | exact ⟨rfl, _, World.drewN_drewN _ _ _⟩ | exact ⟨rfl, _, Eq.trans (World.drewN_drewN _ _ _) (congrArg (World.drewN _) (Nat.add_assoc _ _ _))⟩); obtain ⟨hcz33_0, hcz33_1, hfz33_0, hfz33_1⟩ := blk2 BK424)); try go_wp2_with (first | ((with_reducible refine gate_dst (N := 2) rfl ?_); refine boxG HB #[.int .i64 0, .slice none 0 0] 28 ?_; intro gb424 hg w32 BK424 GE424 hb; replace HB := bst HB hb; clear hb hg) | (go_at_call 23; (with_reducible refine (spec_weVoters.calls k _ _ l0 false _ ?_ ?_ A2.out).mono ?_); exact C_g HR0 HB; exact HC0.out; rintro e w' ⟨rfl, ⟨nd, rfl⟩⟩; (try first | exact ⟨rfl, _, World.drewN_drewN _ _ _⟩ | exact ⟨rfl, _, Eq.trans (World.drewN_drewN _ _ _) (congrArg (World.drewN _) (Nat.add_assoc _ _ _))⟩); obtain ⟨hcz33_0, hcz33_1, hfz33_0, hfz33_1⟩ := blk2 BK424)))
  refine bodyPost_ret (results_ct rfl _ _ gb424 28 #[.int .i64 0, .slice none 0 0] (0, 0) _ rfl (blkT BK424) Tryd.underlying28 rfl (by kernel_rfl)) rfl ?_
  exact ⟨_, eqE, nilE, bel_g HB.out⟩
def cmp_isNaN_int.f (a0 : Int) : Option (Bool) := some (a0 != a0)
theorem cmp_isNaN_int.calls (a0 : Int) (r : Bool) (w : World) (h : cmp_isNaN_int.f a0 = some r) :
  Calls Tryd.prog 74 #[.int .i64 a0] w fun e w' => e = .returned (.bool r) ∧ Drawn0 w w' := by
 have H := h
 clear h
 unfold cmp_isNaN_int.f at H
 obtain rfl := Option.some.inj H
 go_enter Tryd.func74, Tryd.ntmps74
 go_wp2
 go_ret
 exact ⟨eqS, drE⟩
def cmp_Less_int.f (a0 : Int) (a1 : Int) : Option (Bool) := (cmp_isNaN_int.f a0).bind fun t256 => (if t256 = true then ((cmp_isNaN_int.f a1).bind fun t257 => (if t257 = true then (some (decide (a0 < a1))) else (some true))) else (some (decide (a0 < a1))))
theorem cmp_Less_int.calls (a0 : Int) (a1 : Int) (r : Bool) (w : World) (h : cmp_Less_int.f a0 a1 = some r) :
  Calls Tryd.prog 63 #[.int .i64 a0, .int .i64 a1] w fun e w' => e = .returned (.bool r) ∧ Drawn0 w w' := by
 have H := h
 clear h
 unfold cmp_Less_int.f at H
 obtain ⟨t256, A3, H⟩ := obE H
 by_cases c4 : t256 = true
 ·subst c4
  replace H := ifT H
  obtain ⟨t257, A5, H⟩ := obE H
  by_cases c6 : t257 = true
  ·subst c6
   replace H := ifT H
   obtain rfl := Option.some.inj H
   go_enter Tryd.func63, Tryd.ntmps63
   go_wp2_with (first | ((with_reducible refine gate_callee (f := 74) rfl ?_); refine goesQ (some 6) Tryd.func74 #[.int .i64 a0] ?_; (with_reducible refine (cmp_isNaN_int.calls a0 true _ A3.out).mono ?_); rintro e w' ⟨rfl, ⟨nd, rfl⟩⟩; refine ⟨_, rfl, ?_⟩) | (go_at_call 74; (with_reducible refine (cmp_isNaN_int.calls a1 true _ A5.out).mono ?_); rintro e w' ⟨rfl, ⟨nd, rfl⟩⟩))
   go_ret
   exact ⟨eqS, drE⟩
  ·replace c6 := Bool.eq_false_iff.mpr c6
   subst c6
   replace H := ifF H
   obtain rfl := Option.some.inj H
   go_enter Tryd.func63, Tryd.ntmps63
   go_wp2_with (first | ((with_reducible refine gate_callee (f := 74) rfl ?_); refine goesQ (some 6) Tryd.func74 #[.int .i64 a0] ?_; (with_reducible refine (cmp_isNaN_int.calls a0 true _ A3.out).mono ?_); rintro e w' ⟨rfl, ⟨nd, rfl⟩⟩; refine ⟨_, rfl, ?_⟩) | (go_at_call 74; (with_reducible refine (cmp_isNaN_int.calls a1 false _ A5.out).mono ?_); rintro e w' ⟨rfl, ⟨nd, rfl⟩⟩))
   go_ret
   exact ⟨eqS, drE⟩
 ·replace c4 := Bool.eq_false_iff.mpr c4
  subst c4
  replace H := ifF H
  obtain rfl := Option.some.inj H
  go_enter Tryd.func63, Tryd.ntmps63
  go_wp2_with (first | ((with_reducible refine gate_callee (f := 74) rfl ?_); refine goesQ (some 6) Tryd.func74 #[.int .i64 a0] ?_; (with_reducible refine (cmp_isNaN_int.calls a0 false _ A3.out).mono ?_); rintro e w' ⟨rfl, ⟨nd, rfl⟩⟩; refine ⟨_, rfl, ?_⟩))
  go_ret
  exact ⟨eqS, drE⟩
def slices_isNaN_int.f (a0 : Int) : Option (Bool) := some (a0 != a0)
theorem slices_isNaN_int.calls (a0 : Int) (r : Bool) (w : World) (h : slices_isNaN_int.f a0 = some r) :
  Calls Tryd.prog 64 #[.int .i64 a0] w fun e w' => e = .returned (.bool r) ∧ Drawn0 w w' := by
 have H := h
 clear h
 unfold slices_isNaN_int.f at H
 obtain rfl := Option.some.inj H
 go_enter Tryd.func64, Tryd.ntmps64
 go_wp2
 go_ret
 exact ⟨eqS, drE⟩
end Go.Proofs.YtmdnbjhboppkdaaDoor.Q
