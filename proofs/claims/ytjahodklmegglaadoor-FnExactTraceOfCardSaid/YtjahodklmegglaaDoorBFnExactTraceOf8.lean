import Derived.Test.YtjahodklmegglaaDoorBFnExactTraceOf0
-- printed by this project's own program (wip/mp/mp.py) over the kit's print, for this seat; Lean checks it
namespace Go.Proofs.YtjahodklmegglaaDoor.Q
open Go.RowKit Go.Proofs.YtjahodklmegglaaDoorW.PrintWords Go.Proofs.YtjahodklmegglaaDoorW.PrintLast Go.Proofs.YtjahodklmegglaaDoorW.PrintMore
attribute [local go_sem] max2_int min2_int max_two min_two max_three min_three max_four min_four   -- for this text's walks alone
set_option linter.unusedVariables false
set_option maxHeartbeats 8000000
set_option maxRecDepth 100000
set_option linter.unusedSimpArgs false

/-! ### spec_l1Put: function 53 -/
def spec_l1Put.l0 : Nat → List Int → Int → Int → Option (List Int)
 | 0, _, _, _ => none
 | k + 1, x0, x1, x5 => if x5 < (x0.length : Int) then (if 0 ≤ x5 then (if (rd x0 x5) < x1 then (spec_l1Put.l0 k x0 x1 (wrap64 (x5 + 1))) else (if (rd x0 x5) = x1 then (some x0) else ((some (([] : List Int) : List Int)).bind fun y683 => (if x5 ≤ (x0.length : Int) then ((some (x0.take (x5 : Int).toNat : List Int)).bind fun y686 => (if y683.length + y686.length < 17592186044416 then ((some (y683 ++ y686 : List Int)).bind fun y690 => (if y690.length < 17592186044416 then ((some (y690 ++ [x1] : List Int)).bind fun y693 => ((some (x0.drop (x5 : Int).toNat : List Int)).bind fun y696 => (if y693.length + y696.length < 17592186044416 then (some (y693 ++ y696)) else (none)))) else (none))) else (none))) else (none))))) else (none)) else ((some (([] : List Int) : List Int)).bind fun y703 => (if 0 ≤ x5 then (if x5 ≤ (x0.length : Int) then ((some (x0.take (x5 : Int).toNat : List Int)).bind fun y706 => (if y703.length + y706.length < 17592186044416 then ((some (y703 ++ y706 : List Int)).bind fun y710 => (if y710.length < 17592186044416 then ((some (y710 ++ [x1] : List Int)).bind fun y713 => ((some (x0.drop (x5 : Int).toNat : List Int)).bind fun y716 => (if y713.length + y716.length < 17592186044416 then (some (y713 ++ y716)) else (none)))) else (none))) else (none))) else (none)) else (none)))
def spec_l1Put.f (k : Nat) (l0 : List Int) (a1 : Int) : Option (List Int) := spec_l1Put.l0 k l0 a1 0
theorem spec_l1Put.mono_l : ∀ k, (∀ y0 y1 y2, LeO (spec_l1Put.l0 k y0 y1 y2) (spec_l1Put.l0 (k + 1) y0 y1 y2))
 | 0 => fun _ _ _ r h => by simp [spec_l1Put.l0] at h
 | k + 1 => by
  have ih0 := spec_l1Put.mono_l k
  ·intro y0 y1 y2
   unfold spec_l1Put.l0
   repeat' (with_reducible first|exact ih0 _ _ _|exact LeO.refl _|exact LeO.none _|refine LeO.ite ?_ ?_|refine LeO.bind ?_ (fun _ => ?_))
theorem spec_l1Put.mono : ∀ a0 a1 k, LeO (spec_l1Put.f k a0 a1) (spec_l1Put.f (k + 1) a0 a1) := by
 intro a0 a1 k
 have ih0 := spec_l1Put.mono_l k
 unfold spec_l1Put.f
 repeat' (with_reducible first|exact ih0 _ _ _|exact LeO.refl _|exact LeO.none _|refine LeO.ite ?_ ?_|refine LeO.bind ?_ (fun _ => ?_))
theorem spec_l1Put.calls (k : Nat) (P0_ : Nat → Prop) (u9000_ : Value) (l0 : List Int) (a1 : Int) (r : List Int) (w0 w : World) (hB : Below w0.heap.size w0 w) (ho0 : Kd.R (Kd.int .i64) 3 w w0.heap.size P0_ u9000_ l0) (h : spec_l1Put.f k l0 a1 = some r) :
  Calls Tryd.prog 53 #[u9000_, .int .i64 a1] w fun e w' => ∃ v0_ : Value, e = .returned (v0_) ∧ Kd.R (Kd.int .i64) 3 w' w0.heap.size (fun k_ => (P0_ k_ ∨ w.heap.size ≤ k_)) v0_ r ∧ Below w0.heap.size w0 w' ∧ Kept w w' (fun k_ => P0_ k_) := by
 have HO0 := Aside0.mk (show Kd.R (Kd.int .i64) 3 w w0.heap.size (fun k_ => (P0_ k_ ∨ w.heap.size ≤ k_)) u9000_ l0 from Kd.R_mono ho0 (fun k_ hk => (.inl hk)))
 have HK := Aside0.mk (Kept.refl w (fun k_ => P0_ k_))
 have HW0 := Aside0.mk hB.size
 have HB := Aside0.mk hB
 clear hB
 have H : (spec_l1Put.l0 k l0 a1 0) = some r := h
 clear h
 have H' := Aside0.mk H
 clear H
 go_enter Tryd.func53, Tryd.ntmps53
 go_wp2
 go_loopg [5] k (fun kq v5 w' => ∃ (x5_1 : Int), v5 = .int .i64 x5_1 ∧ Aside0 (spec_l1Put.l0 kq l0 a1 x5_1 = some r) ∧ Aside0 (kq ≤ k) ∧ Aside0 (Kd.R (Kd.int .i64) 3 w' w0.heap.size (fun k_ => (P0_ k_ ∨ w.heap.size ≤ k_)) u9000_ l0) ∧ Aside0 (Kept w w' (fun k_ => P0_ k_)) ∧ Aside0 (Below w0.heap.size w0 w'))
 case atStart => exact ⟨(0), eqS, H', ⟨Nat.le_refl _⟩, ⟨Kd.R_g HO0.out⟩, ⟨by repeat (first | (with_reducible first | exact HK.out | apply Kept.alloc | apply Kept.drewN | apply Kept.drew) | exact HK.out)⟩, ⟨bel_g HB.out⟩⟩
 case round =>
  clear H'
  obtain ⟨x5_1, rfl, HA, HK1, HO_0, HK, HB⟩ := hrel
  cases gk with
  | zero => exact absurd HA.out (by simp [spec_l1Put.l0])
  | succ k1 =>
   have H := HA.out
   clear HA
   simp only [spec_l1Put.l0] at H
   rcases iteE H with ⟨c3b0, H⟩ | ⟨c3b0, H⟩
   ·rcases iteP H with ⟨c4, H⟩ | ⟨c4, H⟩
    ·have c4b0 : decide (0 ≤ x5_1) = true := decide_eq_true c4
     clear c4
     rcases iteE H with ⟨c5b0, H⟩ | ⟨c5b0, H⟩
     ·have H' := Aside0.mk H
      clear H
      obtain ⟨Ao6, co6, eo6⟩ := Kd.R_slice HO_0.out
      subst eo6
      have p681 : 0 ≤ (x5_1 : Int) := ofd
      have q681 : x5_1 < (l0.length : Int) := ofd
      obtain ⟨ad681, e681, hx681_0⟩ := Kd.at_int (Kd.R_reads' HO_0.out).2.2 x5_1 p681 q681
      cases e681
      replace p681 := eq_true p681
      replace q681 := eq_true q681
      go_wp2
      go_roundg k1
      case measure => have := HK1.out; omega
      case rel => exact ⟨(wrap64 (x5_1 + 1)), eqS, H', ⟨by have := HK1.out; omega⟩, ⟨Kd.R_g HO_0.out⟩, ⟨by repeat (first | (with_reducible first | exact HK.out | apply Kept.alloc | apply Kept.drewN | apply Kept.drew) | exact HK.out)⟩, ⟨bel_g HB.out⟩⟩
     ·rcases iteP H with ⟨c7, H⟩ | ⟨c7, H⟩
      ·have c7b0 : ((rd l0 x5_1) == a1) = true := beq_iff_eq.mpr c7
       have c7b1 : ((rd l0 x5_1) != a1) = false := bne_eq_false_iff_eq.mpr c7
       clear c7
       obtain rfl := Option.some.inj H
       obtain ⟨Ao8, co8, eo8⟩ := Kd.R_slice HO_0.out
       subst eo8
       have p681 : 0 ≤ (x5_1 : Int) := ofd
       have q681 : x5_1 < (l0.length : Int) := ofd
       obtain ⟨ad681, e681, hx681_0⟩ := Kd.at_int (Kd.R_reads' HO_0.out).2.2 x5_1 p681 q681
       cases e681
       replace p681 := eq_true p681
       replace q681 := eq_true q681
       have p682 : 0 ≤ (x5_1 : Int) := ofd
       have q682 : x5_1 < (l0.length : Int) := ofd
       obtain ⟨ad682, e682, hx682_0⟩ := Kd.at_int (Kd.R_reads' HO_0.out).2.2 x5_1 p682 q682
       obtain rfl : ad681 = ad682 := (by injection e682)
       replace p682 := eq_true p682
       replace q682 := eq_true q682
       go_wp2
       go_ret
       exact ⟨_, eqE, by (with_reducible repeat (first | apply Kd.R_alloc | apply Kd.R_drewN | apply Kd.R_drew)); exact HO_0.out, bel_g HB.out, by repeat (first | (with_reducible first | exact HK.out | apply Kept.alloc | apply Kept.drewN | apply Kept.drew) | exact HK.out)⟩
      ·have c7b0 : ((rd l0 x5_1) == a1) = false := beq_eq_false_iff_ne.mpr c7
       have c7b1 : ((rd l0 x5_1) != a1) = true := bne_iff_ne.mpr c7
       obtain ⟨y683, hy683⟩ : ∃ y_ : List Int, y_ = (([] : List Int)) := ⟨_, rfl⟩
       replace H : (if x5_1 ≤ (l0.length : Int) then ((some (l0.take (x5_1 : Int).toNat : List Int)).bind fun y686 => (if y683.length + y686.length < 17592186044416 then ((some (y683 ++ y686 : List Int)).bind fun y690 => (if y690.length < 17592186044416 then ((some (y690 ++ [a1] : List Int)).bind fun y693 => ((some (l0.drop (x5_1 : Int).toNat : List Int)).bind fun y696 => (if y693.length + y696.length < 17592186044416 then (some (y693 ++ y696)) else (none)))) else (none))) else (none))) else (none)) = some r := by first | (rw [hy683]; with_reducible exact H) | (have H2_ := (Option.bind_some _ _).symm.trans H; rw [hy683]; with_reducible exact H2_) | (have H2_ := (Option.bind_some _ _).symm.trans H; with_reducible exact H2_) | with_reducible exact H | (rw [hy683]; exact H) | exact H
       have Ny683 := Aside0.mk hy683
       clear hy683
       have c9b0 := eq_true (ofd : 0 ≤ x5_1)
       rcases iteP H with ⟨c10, H⟩ | ⟨c10, H⟩
       ·have c10b0 := eq_true c10
        have c10b1 : decide (x5_1 ≤ (l0.length : Int)) = true := decide_eq_true c10
        clear c10
        obtain ⟨y686, hy686⟩ : ∃ y_ : List Int, y_ = (l0.take (x5_1 : Int).toNat) := ⟨_, rfl⟩
        replace H : (if y683.length + y686.length < 17592186044416 then ((some (y683 ++ y686 : List Int)).bind fun y690 => (if y690.length < 17592186044416 then ((some (y690 ++ [a1] : List Int)).bind fun y693 => ((some (l0.drop (x5_1 : Int).toNat : List Int)).bind fun y696 => (if y693.length + y696.length < 17592186044416 then (some (y693 ++ y696)) else (none)))) else (none))) else (none)) = some r := by first | (rw [hy686]; with_reducible exact H) | (have H2_ := (Option.bind_some _ _).symm.trans H; rw [hy686]; with_reducible exact H2_) | (have H2_ := (Option.bind_some _ _).symm.trans H; with_reducible exact H2_) | with_reducible exact H | (rw [hy686]; exact H) | exact H
        have Ny686 := Aside0.mk hy686
        clear hy686
        rcases iteP H with ⟨c11, H⟩ | ⟨c11, H⟩
        ·have LMc11 := Aside0.mk c11
         clear c11
         obtain ⟨y690, hy690⟩ : ∃ y_ : List Int, y_ = (y683 ++ y686) := ⟨_, rfl⟩
         replace H : (if y690.length < 17592186044416 then ((some (y690 ++ [a1] : List Int)).bind fun y693 => ((some (l0.drop (x5_1 : Int).toNat : List Int)).bind fun y696 => (if y693.length + y696.length < 17592186044416 then (some (y693 ++ y696)) else (none)))) else (none)) = some r := by first | (rw [hy690]; with_reducible exact H) | (have H2_ := (Option.bind_some _ _).symm.trans H; rw [hy690]; with_reducible exact H2_) | (have H2_ := (Option.bind_some _ _).symm.trans H; with_reducible exact H2_) | with_reducible exact H | (rw [hy690]; exact H) | exact H
         have Ny690 := Aside0.mk hy690
         clear hy690
         rcases iteP H with ⟨c12, H⟩ | ⟨c12, H⟩
         ·have LMc12 := Aside0.mk c12
          clear c12
          obtain ⟨y693, hy693⟩ : ∃ y_ : List Int, y_ = (y690 ++ [a1]) := ⟨_, rfl⟩
          replace H : ((some (l0.drop (x5_1 : Int).toNat : List Int)).bind fun y696 => (if y693.length + y696.length < 17592186044416 then (some (y693 ++ y696)) else (none))) = some r := by first | (rw [hy693]; with_reducible exact H) | (have H2_ := (Option.bind_some _ _).symm.trans H; rw [hy693]; with_reducible exact H2_) | (have H2_ := (Option.bind_some _ _).symm.trans H; with_reducible exact H2_) | with_reducible exact H | (rw [hy693]; exact H) | exact H
          have Ny693 := Aside0.mk hy693
          clear hy693
          have c13b0 := eq_true (ofd : 0 ≤ x5_1)
          have c14b0 := eq_true (ofd : x5_1 ≤ (l0.length : Int))
          obtain ⟨y696, hy696⟩ : ∃ y_ : List Int, y_ = (l0.drop (x5_1 : Int).toNat) := ⟨_, rfl⟩
          replace H : (if y693.length + y696.length < 17592186044416 then (some (y693 ++ y696)) else (none)) = some r := by first | (rw [hy696]; with_reducible exact H) | (have H2_ := (Option.bind_some _ _).symm.trans H; rw [hy696]; with_reducible exact H2_) | (have H2_ := (Option.bind_some _ _).symm.trans H; with_reducible exact H2_) | with_reducible exact H | (rw [hy696]; exact H) | exact H
          have Ny696 := Aside0.mk hy696
          clear hy696
          rcases iteP H with ⟨c15, H⟩ | ⟨c15, H⟩
          ·have LMc15 := Aside0.mk c15
           clear c15
           obtain ⟨y700, hy700⟩ : ∃ y_ : List Int, y_ = (y693 ++ y696) := ⟨_, rfl⟩
           replace H : (some y700) = some r := by first | (rw [hy700]; with_reducible exact H) | (have H2_ := (Option.bind_some _ _).symm.trans H; rw [hy700]; with_reducible exact H2_) | (have H2_ := (Option.bind_some _ _).symm.trans H; with_reducible exact H2_) | with_reducible exact H | (rw [hy700]; exact H) | exact H
           have Ny700 := Aside0.mk hy700
           clear hy700
           obtain rfl := Option.some.inj H
           obtain ⟨Ao16, co16, eo16⟩ := Kd.R_slice HO_0.out
           subst eo16
           have p681 : 0 ≤ (x5_1 : Int) := ofd
           have q681 : x5_1 < (l0.length : Int) := ofd
           obtain ⟨ad681, e681, hx681_0⟩ := Kd.at_int (Kd.R_reads' HO_0.out).2.2 x5_1 p681 q681
           cases e681
           replace p681 := eq_true p681
           replace q681 := eq_true q681
           have p682 : 0 ≤ (x5_1 : Int) := ofd
           have q682 : x5_1 < (l0.length : Int) := ofd
           obtain ⟨ad682, e682, hx682_0⟩ := Kd.at_int (Kd.R_reads' HO_0.out).2.2 x5_1 p682 q682
           obtain rfl : ad681 = ad682 := (by injection e682)
           replace p682 := eq_true p682
           replace q682 := eq_true q682
           go_wp2_with (first | ((with_reducible refine gate_dst (N := 34) rfl ?_); refine Kd.R_lit (Kd.int .i64) _ 3 ?hg (N := 34) ?hd (xs := ([] : List Int)) (inner := []) (ok := fun _ => True) (okp := fun _ => True) ?hr ?hp (fun _ hk => hk) trivial (Below.refl _ _) (Nat.le_refl _) (by simp) ?_; (case hd => rfl); (case hg => rfl); (case hr => first | (go_simp; done) | (go_simp; rfl)); (case hp => exact (Reps.none _ _)); intro v684 w17 ho18 hb hg_ hnew_; clear hg_ hnew_; (first | rw [← Ny683.out] at ho18 | (simp only [Int.reduceToNat] at ho18; rw [← Ny683.out] at ho18)); have HO685 := Aside0.mk (Kd.R_lower (Kd.R_new' (Kd.R_newM (M := fun k_ => (P0_ k_ ∨ w.heap.size ≤ k_)) ho18 (by first | exact HK.out.1 | exact (show Kept w _ (fun k_ => P0_ k_) from by repeat (first | (with_reducible first | exact HK.out | apply Kept.alloc | apply Kept.drewN | apply Kept.drew) | exact HK.out)).1) (fun k_ h_ => .inr h_)) (Kd.R_lt (Kd.R_g HO_0.out))) (below_size (bel_g HB.out))); replace HO_0 := Aside0.mk (Kd.R_elder' (Kd.R_g HO_0.out) (Kd.R_base ho18) hb); replace HK := Aside0.mk (Kept.below (S := (fun k_ => P0_ k_)) (by repeat (first | (with_reducible first | exact HK.out | apply Kept.alloc | apply Kept.drewN | apply Kept.drew) | exact HK.out)) hb); replace HB := bst HB hb; clear hb ho18; have q19 : (x5_1 : Int) ≤ ((l0.length : Int) : Int) := ofd; obtain ⟨i019, hi019, _, hsz19, _⟩ := info_parts info3; have hroom19 : l0.length ≤ co16 := (Kd.R_reads' HO_0.out).2.1; have hC19 : Kd.C (Kd.int .i64) _ (some ad681) l0.length l0 := (Kd.R_reads' HO_0.out).2.2; have hcut19 := cut_to (P := Tryd.prog) 22 3 .i64 Tryd.underlying22 hi019 (some ad681) l0.length co16 x5_1 (ofd) q19 hroom19; have hr19 := Kd.C_take (m := (x5_1 : Int).toNat) hC19 (by omega); have hy19 : y686.length = (x5_1 : Int).toNat := (by rw [Ny686.out, List.length_take]; omega); rw [← Ny686.out] at hr19; rw [← hy19] at hcut19; have HR689 := Aside0.mk hr19; have HC689 := Aside0.mk (show y686.length ≤ co16 from by omega); clear hr19 hC19 hroom19 hi019 hsz19; have KY19 := Aside0.mk hy19; clear hy19; have KL19 := Aside0.mk (show (x5_1 : Int).toNat ≤ l0.length from by omega); replace q19 := eq_true q19) | ((with_reducible refine gate_builtin (b := .append) (xs := #[.tmp 34, .tmp 37]) rfl ?_); at_builtin; refine Kd.R_append_rows (Kd.int .i64) (w0 := w0) w0.heap.size rfl (.tmp 34) (.tmp 37) 22 3 (.int .i64 0) 8 rfl Tryd.underlying22 info3 rfl (by decide) (by omega) v684 y683 y686 _ _ _ (fun k_ => (P0_ k_ ∨ w.heap.size ≤ k_) ∧ some k_ ≠ (.slice (some ad681) l0.length co16 : Value).ownBlock) (fun _ => False) rfl rfl ?aO ?aR (fun _ _ h => h) (fun _ h => h.elim) ?aF ?aB ?aS ?aL ?_; (case aR => exact C_h HR689); (case aB => exact (bel_g HB.out)); (case aF => exact (fun k_ hk => ⟨(.inr (Nat.le_trans (by first | exact HK.out.1 | exact (show Kept w _ (fun k_ => P0_ k_) from by repeat (first | (with_reducible first | exact HK.out | apply Kept.alloc | apply Kept.drewN | apply Kept.drew) | exact HK.out)).1) hk)), Kd.fresh' (Kd.R_lt (Kd.R_g HO_0.out)) k_ hk⟩)); (case aO => exact (Kd.R_g (Kd.R_mono HO685.out (fun _ hk => ⟨hk.1.1, hk.2⟩)))); (case aS => exact (below_size (bel_g HB.out))); (case aL => have := LMc11.out; omega); intro v691 w20 ho hb hg hat; rw [← Ny690.out] at ho; replace HK := Aside0.mk (Kept.of_grown (S := (fun k_ => P0_ k_)) hg (by repeat (first | (with_reducible first | exact HK.out | apply Kept.alloc | apply Kept.drewN | apply Kept.drew) | exact HK.out)) (fun k_ e_ => (HO685.out.1 k_ e_).1.1)); replace HR689 := Aside0.mk ((show Kd.C (Kd.int .i64) w20 (some ad681) y686.length y686 from by rw [Ny686.out]; exact Kd.C_take (m := (x5_1 : Int).toNat) ((Kd.R_reads' (Kd.R_after (ok := (fun k_ => (P0_ k_ ∨ w.heap.size ≤ k_))) (Kd.R_g HO_0.out) hg hat)).2.2) KL19.out)); replace HO_0 := Aside0.mk (Kd.R_after (ok := (fun k_ => (P0_ k_ ∨ w.heap.size ≤ k_))) (Kd.R_g HO_0.out) hg hat); have HO692 := Aside0.mk (ho); replace HB := Aside0.mk (hb); clear HO685; clear ho hb hg hat) | ((with_reducible refine gate_builtin (b := .append) (xs := #[.tmp 39, .tmp 41]) rfl ?_); at_builtin; refine Kd.R_append (Kd.int .i64) (w0 := w0) w0.heap.size rfl (.tmp 39) (.tmp 41) 22 3 (.int .i64 0) 8 rfl Tryd.underlying22 info3 rfl (by decide) (by omega) v691 y690 a1 [.int .i64 a1] (fun k_ => (P0_ k_ ∨ w.heap.size ≤ k_) ∧ some k_ ≠ (.slice (some ad681) l0.length co16 : Value).ownBlock) (fun _ => False) rfl rfl ?aP (fun _ hk => hk.elim) ?aF ?aO ?aB ?aS ?aL ?_; (case aP => exact rfl); (case aB => exact (bel_g HB.out)); (case aF => exact (fun k_ hk => ⟨(.inr (Nat.le_trans (by first | exact HK.out.1 | exact (show Kept w _ (fun k_ => P0_ k_) from by repeat (first | (with_reducible first | exact HK.out | apply Kept.alloc | apply Kept.drewN | apply Kept.drew) | exact HK.out)).1) hk)), Kd.fresh' (Kd.R_lt (Kd.R_g HO_0.out)) k_ hk⟩)); (case aO => exact (Kd.R_g HO692.out)); (case aS => exact (below_size (bel_g HB.out))); (case aL => have := LMc12.out; omega); intro v694 w21 ho hb hg hat; rw [← Ny693.out] at ho; replace HK := Aside0.mk (Kept.of_grown (S := (fun k_ => P0_ k_)) hg (by repeat (first | (with_reducible first | exact HK.out | apply Kept.alloc | apply Kept.drewN | apply Kept.drew) | exact HK.out)) (fun k_ e_ => (HO692.out.1 k_ e_).1)); replace HR689 := Aside0.mk ((show Kd.C (Kd.int .i64) w21 (some ad681) y686.length y686 from by rw [Ny686.out]; exact Kd.C_take (m := (x5_1 : Int).toNat) ((Kd.R_reads' (Kd.R_after (ok := (fun k_ => (P0_ k_ ∨ w.heap.size ≤ k_))) (Kd.R_g HO_0.out) hg hat)).2.2) KL19.out)); replace HO_0 := Aside0.mk (Kd.R_after (ok := (fun k_ => (P0_ k_ ∨ w.heap.size ≤ k_))) (Kd.R_g HO_0.out) hg hat); have HO695 := Aside0.mk (ho); replace HB := Aside0.mk (hb); clear HO692; clear ho hb hg hat; have q22 : (x5_1 : Int) ≤ ((l0.length : Int) : Int) := ofd; obtain ⟨i022, hi022, _, hsz22, _⟩ := info_parts info3; have hroom22 : l0.length ≤ co16 := (Kd.R_reads' HO_0.out).2.1; have hC22 : Kd.C (Kd.int .i64) _ (some ad681) l0.length l0 := (Kd.R_reads' HO_0.out).2.2; have q022 : (0 : Int) ≤ (x5_1 : Int) := ofd; have hcut22 := cut_from (P := Tryd.prog) 22 3 .i64 Tryd.underlying22 hi022 1 hsz22 (some ad681) l0.length co16 x5_1 q022 q22; have hr22 := Kd.C_drop (m := (x5_1 : Int).toNat) (c := co16) hC22 (by omega) hroom22; obtain ⟨A22, hA22⟩ : ∃ A1, A1 = (if co16 = (x5_1 : Int).toNat then (some ad681) else ((some ad681) : Option Addr).map (·.add ((x5_1 : Int).toNat * 1))) := ⟨_, rfl⟩; obtain ⟨c22, hc22⟩ : ∃ c1, c1 = co16 - (x5_1 : Int).toNat := ⟨_, rfl⟩; have hy22 : y696.length = l0.length - (x5_1 : Int).toNat := (by rw [Ny696.out, List.length_drop] <;> omega); rw [show (l0).drop (x5_1 : Int).toNat = y696 from Ny696.out.symm] at hr22; replace hr22 : Kd.C (Kd.int .i64) _ A22 y696.length y696 := (by rw [hA22]; exact hr22); rw [← hy22, ← hA22, ← hc22] at hcut22; have HR699 := Aside0.mk hr22; have HC699 := Aside0.mk (show y696.length ≤ c22 from by rw [hy22, hc22]; exact Nat.sub_le_sub_right hroom22 _); clear hr22 hC22 hroom22 hi022 hsz22 hc22; have KY22 := Aside0.mk hy22; have KA22 := Aside0.mk hA22; clear hy22 hA22; have KL22 := Aside0.mk (show (x5_1 : Int).toNat ≤ l0.length from by omega); replace q22 := eq_true q22) | ((with_reducible refine gate_builtin (b := .append) (xs := #[.tmp 43, .tmp 46]) rfl ?_); at_builtin; refine Kd.R_append_rows (Kd.int .i64) (w0 := w0) w0.heap.size rfl (.tmp 43) (.tmp 46) 22 3 (.int .i64 0) 8 rfl Tryd.underlying22 info3 rfl (by decide) (by omega) v694 y693 y696 _ _ _ (fun k_ => (P0_ k_ ∨ w.heap.size ≤ k_) ∧ some k_ ≠ (.slice (some ad681) l0.length co16 : Value).ownBlock) (fun _ => False) rfl rfl ?aO ?aR (fun _ _ h => h) (fun _ h => h.elim) ?aF ?aB ?aS ?aL ?_; (case aR => exact C_h HR699); (case aB => exact (bel_g HB.out)); (case aF => exact (fun k_ hk => ⟨(.inr (Nat.le_trans (by first | exact HK.out.1 | exact (show Kept w _ (fun k_ => P0_ k_) from by repeat (first | (with_reducible first | exact HK.out | apply Kept.alloc | apply Kept.drewN | apply Kept.drew) | exact HK.out)).1) hk)), Kd.fresh' (Kd.R_lt (Kd.R_g HO_0.out)) k_ hk⟩)); (case aO => exact (Kd.R_g HO695.out)); (case aS => exact (below_size (bel_g HB.out))); (case aL => have := LMc15.out; omega); intro v701 w23 ho hb hg hat; rw [← Ny700.out] at ho; replace HK := Aside0.mk (Kept.of_grown (S := (fun k_ => P0_ k_)) hg (by repeat (first | (with_reducible first | exact HK.out | apply Kept.alloc | apply Kept.drewN | apply Kept.drew) | exact HK.out)) (fun k_ e_ => (HO695.out.1 k_ e_).1)); replace HR689 := Aside0.mk ((show Kd.C (Kd.int .i64) w23 (some ad681) y686.length y686 from by rw [Ny686.out]; exact Kd.C_take (m := (x5_1 : Int).toNat) ((Kd.R_reads' (Kd.R_after (ok := (fun k_ => (P0_ k_ ∨ w.heap.size ≤ k_))) (Kd.R_g HO_0.out) hg hat)).2.2) KL19.out)); replace HR699 := Aside0.mk ((show Kd.C (Kd.int .i64) w23 A22 y696.length y696 from by rw [Ny696.out, KA22.out]; exact Kd.C_drop (m := (x5_1 : Int).toNat) (c := co16) ((Kd.R_reads' (Kd.R_after (ok := (fun k_ => (P0_ k_ ∨ w.heap.size ≤ k_))) (Kd.R_g HO_0.out) hg hat)).2.2) KL22.out ((Kd.R_reads' (Kd.R_after (ok := (fun k_ => (P0_ k_ ∨ w.heap.size ≤ k_))) (Kd.R_g HO_0.out) hg hat)).2.1))); replace HO_0 := Aside0.mk (Kd.R_after (ok := (fun k_ => (P0_ k_ ∨ w.heap.size ≤ k_))) (Kd.R_g HO_0.out) hg hat); have HO702 := Aside0.mk (ho); replace HB := Aside0.mk (hb); clear HO695; clear ho hb hg hat))
           go_ret
           exact ⟨_, eqE, by (with_reducible repeat (first | apply Kd.R_alloc | apply Kd.R_drewN | apply Kd.R_drew)); exact Kd.R_mono HO702.out (fun _ hk => hk.1), bel_g HB.out, by repeat (first | (with_reducible first | exact HK.out | apply Kept.alloc | apply Kept.drewN | apply Kept.drew) | exact HK.out)⟩
          ·exact absurd H (by simp)
         ·exact absurd H (by simp)
        ·exact absurd H (by simp)
       ·exact absurd H (by simp)
    ·exact absurd H (by simp)
   ·obtain ⟨y703, hy703⟩ : ∃ y_ : List Int, y_ = (([] : List Int)) := ⟨_, rfl⟩
    replace H : (if 0 ≤ x5_1 then (if x5_1 ≤ (l0.length : Int) then ((some (l0.take (x5_1 : Int).toNat : List Int)).bind fun y706 => (if y703.length + y706.length < 17592186044416 then ((some (y703 ++ y706 : List Int)).bind fun y710 => (if y710.length < 17592186044416 then ((some (y710 ++ [a1] : List Int)).bind fun y713 => ((some (l0.drop (x5_1 : Int).toNat : List Int)).bind fun y716 => (if y713.length + y716.length < 17592186044416 then (some (y713 ++ y716)) else (none)))) else (none))) else (none))) else (none)) else (none)) = some r := by first | (rw [hy703]; with_reducible exact H) | (have H2_ := (Option.bind_some _ _).symm.trans H; rw [hy703]; with_reducible exact H2_) | (have H2_ := (Option.bind_some _ _).symm.trans H; with_reducible exact H2_) | with_reducible exact H | (rw [hy703]; exact H) | exact H
    have Ny703 := Aside0.mk hy703
    clear hy703
    rcases iteP H with ⟨c24, H⟩ | ⟨c24, H⟩
    ·have c24b0 := eq_true c24
     have c24b1 : decide (0 ≤ x5_1) = true := decide_eq_true c24
     clear c24
     rcases iteP H with ⟨c25, H⟩ | ⟨c25, H⟩
     ·have c25b0 := eq_true c25
      have c25b1 : decide (x5_1 ≤ (l0.length : Int)) = true := decide_eq_true c25
      clear c25
      obtain ⟨y706, hy706⟩ : ∃ y_ : List Int, y_ = (l0.take (x5_1 : Int).toNat) := ⟨_, rfl⟩
      replace H : (if y703.length + y706.length < 17592186044416 then ((some (y703 ++ y706 : List Int)).bind fun y710 => (if y710.length < 17592186044416 then ((some (y710 ++ [a1] : List Int)).bind fun y713 => ((some (l0.drop (x5_1 : Int).toNat : List Int)).bind fun y716 => (if y713.length + y716.length < 17592186044416 then (some (y713 ++ y716)) else (none)))) else (none))) else (none)) = some r := by first | (rw [hy706]; with_reducible exact H) | (have H2_ := (Option.bind_some _ _).symm.trans H; rw [hy706]; with_reducible exact H2_) | (have H2_ := (Option.bind_some _ _).symm.trans H; with_reducible exact H2_) | with_reducible exact H | (rw [hy706]; exact H) | exact H
      have Ny706 := Aside0.mk hy706
      clear hy706
      rcases iteP H with ⟨c26, H⟩ | ⟨c26, H⟩
      ·have LMc26 := Aside0.mk c26
       clear c26
       obtain ⟨y710, hy710⟩ : ∃ y_ : List Int, y_ = (y703 ++ y706) := ⟨_, rfl⟩
       replace H : (if y710.length < 17592186044416 then ((some (y710 ++ [a1] : List Int)).bind fun y713 => ((some (l0.drop (x5_1 : Int).toNat : List Int)).bind fun y716 => (if y713.length + y716.length < 17592186044416 then (some (y713 ++ y716)) else (none)))) else (none)) = some r := by first | (rw [hy710]; with_reducible exact H) | (have H2_ := (Option.bind_some _ _).symm.trans H; rw [hy710]; with_reducible exact H2_) | (have H2_ := (Option.bind_some _ _).symm.trans H; with_reducible exact H2_) | with_reducible exact H | (rw [hy710]; exact H) | exact H
       have Ny710 := Aside0.mk hy710
       clear hy710
       rcases iteP H with ⟨c27, H⟩ | ⟨c27, H⟩
       ·have LMc27 := Aside0.mk c27
        clear c27
        obtain ⟨y713, hy713⟩ : ∃ y_ : List Int, y_ = (y710 ++ [a1]) := ⟨_, rfl⟩
        replace H : ((some (l0.drop (x5_1 : Int).toNat : List Int)).bind fun y716 => (if y713.length + y716.length < 17592186044416 then (some (y713 ++ y716)) else (none))) = some r := by first | (rw [hy713]; with_reducible exact H) | (have H2_ := (Option.bind_some _ _).symm.trans H; rw [hy713]; with_reducible exact H2_) | (have H2_ := (Option.bind_some _ _).symm.trans H; with_reducible exact H2_) | with_reducible exact H | (rw [hy713]; exact H) | exact H
        have Ny713 := Aside0.mk hy713
        clear hy713
        have c28b0 := eq_true (ofd : 0 ≤ x5_1)
        have c29b0 := eq_true (ofd : x5_1 ≤ (l0.length : Int))
        obtain ⟨y716, hy716⟩ : ∃ y_ : List Int, y_ = (l0.drop (x5_1 : Int).toNat) := ⟨_, rfl⟩
        replace H : (if y713.length + y716.length < 17592186044416 then (some (y713 ++ y716)) else (none)) = some r := by first | (rw [hy716]; with_reducible exact H) | (have H2_ := (Option.bind_some _ _).symm.trans H; rw [hy716]; with_reducible exact H2_) | (have H2_ := (Option.bind_some _ _).symm.trans H; with_reducible exact H2_) | with_reducible exact H | (rw [hy716]; exact H) | exact H
        have Ny716 := Aside0.mk hy716
        clear hy716
        rcases iteP H with ⟨c30, H⟩ | ⟨c30, H⟩
        ·have LMc30 := Aside0.mk c30
         clear c30
         obtain ⟨y720, hy720⟩ : ∃ y_ : List Int, y_ = (y713 ++ y716) := ⟨_, rfl⟩
         replace H : (some y720) = some r := by first | (rw [hy720]; with_reducible exact H) | (have H2_ := (Option.bind_some _ _).symm.trans H; rw [hy720]; with_reducible exact H2_) | (have H2_ := (Option.bind_some _ _).symm.trans H; with_reducible exact H2_) | with_reducible exact H | (rw [hy720]; exact H) | exact H
         have Ny720 := Aside0.mk hy720
         clear hy720
         obtain rfl := Option.some.inj H
         obtain ⟨Ao31, co31, eo31⟩ := Kd.R_slice HO_0.out
         subst eo31
         go_wp2_with (first | ((with_reducible refine gate_dst (N := 34) rfl ?_); refine Kd.R_lit (Kd.int .i64) _ 3 ?hg (N := 34) ?hd (xs := ([] : List Int)) (inner := []) (ok := fun _ => True) (okp := fun _ => True) ?hr ?hp (fun _ hk => hk) trivial (Below.refl _ _) (Nat.le_refl _) (by simp) ?_; (case hd => rfl); (case hg => rfl); (case hr => first | (go_simp; done) | (go_simp; rfl)); (case hp => exact (Reps.none _ _)); intro v704 w32 ho33 hb hg_ hnew_; clear hg_ hnew_; (first | rw [← Ny703.out] at ho33 | (simp only [Int.reduceToNat] at ho33; rw [← Ny703.out] at ho33)); have HO705 := Aside0.mk (Kd.R_lower (Kd.R_new' (Kd.R_newM (M := fun k_ => (P0_ k_ ∨ w.heap.size ≤ k_)) ho33 (by first | exact HK.out.1 | exact (show Kept w _ (fun k_ => P0_ k_) from by repeat (first | (with_reducible first | exact HK.out | apply Kept.alloc | apply Kept.drewN | apply Kept.drew) | exact HK.out)).1) (fun k_ h_ => .inr h_)) (Kd.R_lt (Kd.R_g HO_0.out))) (below_size (bel_g HB.out))); replace HO_0 := Aside0.mk (Kd.R_elder' (Kd.R_g HO_0.out) (Kd.R_base ho33) hb); replace HK := Aside0.mk (Kept.below (S := (fun k_ => P0_ k_)) (by repeat (first | (with_reducible first | exact HK.out | apply Kept.alloc | apply Kept.drewN | apply Kept.drew) | exact HK.out)) hb); replace HB := bst HB hb; clear hb ho33; have q34 : (x5_1 : Int) ≤ ((l0.length : Int) : Int) := ofd; obtain ⟨i034, hi034, _, hsz34, _⟩ := info_parts info3; have hroom34 : l0.length ≤ co31 := (Kd.R_reads' HO_0.out).2.1; have hC34 : Kd.C (Kd.int .i64) _ Ao31 l0.length l0 := (Kd.R_reads' HO_0.out).2.2; have hcut34 := cut_to (P := Tryd.prog) 22 3 .i64 Tryd.underlying22 hi034 Ao31 l0.length co31 x5_1 (ofd) q34 hroom34; have hr34 := Kd.C_take (m := (x5_1 : Int).toNat) hC34 (by omega); have hy34 : y706.length = (x5_1 : Int).toNat := (by rw [Ny706.out, List.length_take]; omega); rw [← Ny706.out] at hr34; rw [← hy34] at hcut34; have HR709 := Aside0.mk hr34; have HC709 := Aside0.mk (show y706.length ≤ co31 from by omega); clear hr34 hC34 hroom34 hi034 hsz34; have KY34 := Aside0.mk hy34; clear hy34; have KL34 := Aside0.mk (show (x5_1 : Int).toNat ≤ l0.length from by omega); replace q34 := eq_true q34) | ((with_reducible refine gate_builtin (b := .append) (xs := #[.tmp 34, .tmp 37]) rfl ?_); at_builtin; refine Kd.R_append_rows (Kd.int .i64) (w0 := w0) w0.heap.size rfl (.tmp 34) (.tmp 37) 22 3 (.int .i64 0) 8 rfl Tryd.underlying22 info3 rfl (by decide) (by omega) v704 y703 y706 _ _ _ (fun k_ => (P0_ k_ ∨ w.heap.size ≤ k_) ∧ some k_ ≠ (.slice Ao31 l0.length co31 : Value).ownBlock) (fun _ => False) rfl rfl ?aO ?aR (fun _ _ h => h) (fun _ h => h.elim) ?aF ?aB ?aS ?aL ?_; (case aR => exact C_h HR709); (case aB => exact (bel_g HB.out)); (case aF => exact (fun k_ hk => ⟨(.inr (Nat.le_trans (by first | exact HK.out.1 | exact (show Kept w _ (fun k_ => P0_ k_) from by repeat (first | (with_reducible first | exact HK.out | apply Kept.alloc | apply Kept.drewN | apply Kept.drew) | exact HK.out)).1) hk)), Kd.fresh' (Kd.R_lt (Kd.R_g HO_0.out)) k_ hk⟩)); (case aO => exact (Kd.R_g (Kd.R_mono HO705.out (fun _ hk => ⟨hk.1.1, hk.2⟩)))); (case aS => exact (below_size (bel_g HB.out))); (case aL => have := LMc26.out; omega); intro v711 w35 ho hb hg hat; rw [← Ny710.out] at ho; replace HK := Aside0.mk (Kept.of_grown (S := (fun k_ => P0_ k_)) hg (by repeat (first | (with_reducible first | exact HK.out | apply Kept.alloc | apply Kept.drewN | apply Kept.drew) | exact HK.out)) (fun k_ e_ => (HO705.out.1 k_ e_).1.1)); replace HR709 := Aside0.mk ((show Kd.C (Kd.int .i64) w35 Ao31 y706.length y706 from by rw [Ny706.out]; exact Kd.C_take (m := (x5_1 : Int).toNat) ((Kd.R_reads' (Kd.R_after (ok := (fun k_ => (P0_ k_ ∨ w.heap.size ≤ k_))) (Kd.R_g HO_0.out) hg hat)).2.2) KL34.out)); replace HO_0 := Aside0.mk (Kd.R_after (ok := (fun k_ => (P0_ k_ ∨ w.heap.size ≤ k_))) (Kd.R_g HO_0.out) hg hat); have HO712 := Aside0.mk (ho); replace HB := Aside0.mk (hb); clear HO705; clear ho hb hg hat) | ((with_reducible refine gate_builtin (b := .append) (xs := #[.tmp 39, .tmp 41]) rfl ?_); at_builtin; refine Kd.R_append (Kd.int .i64) (w0 := w0) w0.heap.size rfl (.tmp 39) (.tmp 41) 22 3 (.int .i64 0) 8 rfl Tryd.underlying22 info3 rfl (by decide) (by omega) v711 y710 a1 [.int .i64 a1] (fun k_ => (P0_ k_ ∨ w.heap.size ≤ k_) ∧ some k_ ≠ (.slice Ao31 l0.length co31 : Value).ownBlock) (fun _ => False) rfl rfl ?aP (fun _ hk => hk.elim) ?aF ?aO ?aB ?aS ?aL ?_; (case aP => exact rfl); (case aB => exact (bel_g HB.out)); (case aF => exact (fun k_ hk => ⟨(.inr (Nat.le_trans (by first | exact HK.out.1 | exact (show Kept w _ (fun k_ => P0_ k_) from by repeat (first | (with_reducible first | exact HK.out | apply Kept.alloc | apply Kept.drewN | apply Kept.drew) | exact HK.out)).1) hk)), Kd.fresh' (Kd.R_lt (Kd.R_g HO_0.out)) k_ hk⟩)); (case aO => exact (Kd.R_g HO712.out)); (case aS => exact (below_size (bel_g HB.out))); (case aL => have := LMc27.out; omega); intro v714 w36 ho hb hg hat; rw [← Ny713.out] at ho; replace HK := Aside0.mk (Kept.of_grown (S := (fun k_ => P0_ k_)) hg (by repeat (first | (with_reducible first | exact HK.out | apply Kept.alloc | apply Kept.drewN | apply Kept.drew) | exact HK.out)) (fun k_ e_ => (HO712.out.1 k_ e_).1)); replace HR709 := Aside0.mk ((show Kd.C (Kd.int .i64) w36 Ao31 y706.length y706 from by rw [Ny706.out]; exact Kd.C_take (m := (x5_1 : Int).toNat) ((Kd.R_reads' (Kd.R_after (ok := (fun k_ => (P0_ k_ ∨ w.heap.size ≤ k_))) (Kd.R_g HO_0.out) hg hat)).2.2) KL34.out)); replace HO_0 := Aside0.mk (Kd.R_after (ok := (fun k_ => (P0_ k_ ∨ w.heap.size ≤ k_))) (Kd.R_g HO_0.out) hg hat); have HO715 := Aside0.mk (ho); replace HB := Aside0.mk (hb); clear HO712; clear ho hb hg hat; have q37 : (x5_1 : Int) ≤ ((l0.length : Int) : Int) := ofd; obtain ⟨i037, hi037, _, hsz37, _⟩ := info_parts info3; have hroom37 : l0.length ≤ co31 := (Kd.R_reads' HO_0.out).2.1; have hC37 : Kd.C (Kd.int .i64) _ Ao31 l0.length l0 := (Kd.R_reads' HO_0.out).2.2; have q037 : (0 : Int) ≤ (x5_1 : Int) := ofd; have hcut37 := cut_from (P := Tryd.prog) 22 3 .i64 Tryd.underlying22 hi037 1 hsz37 Ao31 l0.length co31 x5_1 q037 q37; have hr37 := Kd.C_drop (m := (x5_1 : Int).toNat) (c := co31) hC37 (by omega) hroom37; obtain ⟨A37, hA37⟩ : ∃ A1, A1 = (if co31 = (x5_1 : Int).toNat then Ao31 else (Ao31 : Option Addr).map (·.add ((x5_1 : Int).toNat * 1))) := ⟨_, rfl⟩; obtain ⟨c37, hc37⟩ : ∃ c1, c1 = co31 - (x5_1 : Int).toNat := ⟨_, rfl⟩; have hy37 : y716.length = l0.length - (x5_1 : Int).toNat := (by rw [Ny716.out, List.length_drop] <;> omega); rw [show (l0).drop (x5_1 : Int).toNat = y716 from Ny716.out.symm] at hr37; replace hr37 : Kd.C (Kd.int .i64) _ A37 y716.length y716 := (by rw [hA37]; exact hr37); rw [← hy37, ← hA37, ← hc37] at hcut37; have HR719 := Aside0.mk hr37; have HC719 := Aside0.mk (show y716.length ≤ c37 from by rw [hy37, hc37]; exact Nat.sub_le_sub_right hroom37 _); clear hr37 hC37 hroom37 hi037 hsz37 hc37; have KY37 := Aside0.mk hy37; have KA37 := Aside0.mk hA37; clear hy37 hA37; have KL37 := Aside0.mk (show (x5_1 : Int).toNat ≤ l0.length from by omega); replace q37 := eq_true q37) | ((with_reducible refine gate_builtin (b := .append) (xs := #[.tmp 43, .tmp 46]) rfl ?_); at_builtin; refine Kd.R_append_rows (Kd.int .i64) (w0 := w0) w0.heap.size rfl (.tmp 43) (.tmp 46) 22 3 (.int .i64 0) 8 rfl Tryd.underlying22 info3 rfl (by decide) (by omega) v714 y713 y716 _ _ _ (fun k_ => (P0_ k_ ∨ w.heap.size ≤ k_) ∧ some k_ ≠ (.slice Ao31 l0.length co31 : Value).ownBlock) (fun _ => False) rfl rfl ?aO ?aR (fun _ _ h => h) (fun _ h => h.elim) ?aF ?aB ?aS ?aL ?_; (case aR => exact C_h HR719); (case aB => exact (bel_g HB.out)); (case aF => exact (fun k_ hk => ⟨(.inr (Nat.le_trans (by first | exact HK.out.1 | exact (show Kept w _ (fun k_ => P0_ k_) from by repeat (first | (with_reducible first | exact HK.out | apply Kept.alloc | apply Kept.drewN | apply Kept.drew) | exact HK.out)).1) hk)), Kd.fresh' (Kd.R_lt (Kd.R_g HO_0.out)) k_ hk⟩)); (case aO => exact (Kd.R_g HO715.out)); (case aS => exact (below_size (bel_g HB.out))); (case aL => have := LMc30.out; omega); intro v721 w38 ho hb hg hat; rw [← Ny720.out] at ho; replace HK := Aside0.mk (Kept.of_grown (S := (fun k_ => P0_ k_)) hg (by repeat (first | (with_reducible first | exact HK.out | apply Kept.alloc | apply Kept.drewN | apply Kept.drew) | exact HK.out)) (fun k_ e_ => (HO715.out.1 k_ e_).1)); replace HR709 := Aside0.mk ((show Kd.C (Kd.int .i64) w38 Ao31 y706.length y706 from by rw [Ny706.out]; exact Kd.C_take (m := (x5_1 : Int).toNat) ((Kd.R_reads' (Kd.R_after (ok := (fun k_ => (P0_ k_ ∨ w.heap.size ≤ k_))) (Kd.R_g HO_0.out) hg hat)).2.2) KL34.out)); replace HR719 := Aside0.mk ((show Kd.C (Kd.int .i64) w38 A37 y716.length y716 from by rw [Ny716.out, KA37.out]; exact Kd.C_drop (m := (x5_1 : Int).toNat) (c := co31) ((Kd.R_reads' (Kd.R_after (ok := (fun k_ => (P0_ k_ ∨ w.heap.size ≤ k_))) (Kd.R_g HO_0.out) hg hat)).2.2) KL37.out ((Kd.R_reads' (Kd.R_after (ok := (fun k_ => (P0_ k_ ∨ w.heap.size ≤ k_))) (Kd.R_g HO_0.out) hg hat)).2.1))); replace HO_0 := Aside0.mk (Kd.R_after (ok := (fun k_ => (P0_ k_ ∨ w.heap.size ≤ k_))) (Kd.R_g HO_0.out) hg hat); have HO722 := Aside0.mk (ho); replace HB := Aside0.mk (hb); clear HO715; clear ho hb hg hat))
         go_ret
         exact ⟨_, eqE, by (with_reducible repeat (first | apply Kd.R_alloc | apply Kd.R_drewN | apply Kd.R_drew)); exact Kd.R_mono HO722.out (fun _ hk => hk.1), bel_g HB.out, by repeat (first | (with_reducible first | exact HK.out | apply Kept.alloc | apply Kept.drewN | apply Kept.drew) | exact HK.out)⟩
        ·exact absurd H (by simp)
       ·exact absurd H (by simp)
      ·exact absurd H (by simp)
     ·exact absurd H (by simp)
    ·exact absurd H (by simp)

end Go.Proofs.YtjahodklmegglaaDoor.Q
