import Derived.Test.YtcalgdljcphjaaaDoorBFnStairs2
import Derived.Test.YtcalgdljcphjaaaDoorBFnStairs14
namespace Go.Proofs.YtcalgdljcphjaaaDoor.Q
open Go.RowKit Go.Proofs.YtcalgdljcphjaaaDoorW.PrintWords Go.Proofs.YtcalgdljcphjaaaDoorW.PrintLast Go.Proofs.YtcalgdljcphjaaaDoorW.PrintMore
attribute [local go_sem] max2_int min2_int max_two min_two max_three min_three max_four min_four neB_f
set_option linter.unusedVariables false
set_option maxHeartbeats 8000000
set_option maxRecDepth 100000
set_option linter.unusedSimpArgs false
namespace Sta
def low (i : Nat) (l : List Int) : Int := if 0 < i then rd l ((i : Int) - 1) else 0
def cnt (i : Nat) (l : List Int) : Nat := ((i : Int) + 1 - low i l).toNat
def kids (i : Nat) (l : List Int) : List (List Int) := (List.range (cnt i l)).map fun d : Nat => l ++ [low i l + (d : Int)]
def every : Nat → List (List Int)
 | 0 => [[]]
 | i + 1 => (every i).flatMap (kids i)
theorem low_ok {i : Nat} {l : List Int} (h : l.length = i) (hl : ∀ x ∈ l, 0 ≤ x ∧ x ≤ (i : Int)) : 0 ≤ low i l ∧ low i l ≤ i := by
 unfold low
 split
 ·have hm : rd l ((i : Int) - 1) ∈ l := by
   unfold rd
   rw [List.getD_eq_getElem?_getD, List.getElem?_eq_getElem (by omega)]
   exact List.getElem_mem _
  exact hl _ hm
 ·omega
theorem kids_ok {i : Nat} {l : List Int} (h : l.length = i) (hl : ∀ x ∈ l, 0 ≤ x ∧ x ≤ (i : Int)) : ∀ t ∈ kids i l, t.length = i + 1 ∧ ∀ x ∈ t, 0 ≤ x ∧ x ≤ ((i + 1 : Nat) : Int) := by
 intro t ht
 obtain ⟨d, hd, rfl⟩ := List.mem_map.1 ht
 have hlow := low_ok h hl
 have hd2 := List.mem_range.1 hd
 unfold cnt at hd2
 refine ⟨by simp [h], fun x hx => ?_⟩
 rcases List.mem_append.1 hx with hx | hx
 ·have := hl x hx; omega
 ·rw [List.mem_singleton.1 hx]; omega
theorem every_ok : ∀ i, ∀ l ∈ every i, l.length = i ∧ ∀ x ∈ l, 0 ≤ x ∧ x ≤ (i : Int)
 | 0, l, h => by
  unfold every at h
  rw [List.mem_singleton.1 h]
  exact ⟨rfl, fun x hx => by cases hx⟩
 | i + 1, l, h => by
  unfold every at h
  obtain ⟨l0, h0, h1⟩ := List.mem_flatMap.1 h
  have := every_ok i l0 h0
  exact kids_ok this.1 this.2 l h1
theorem kids_len {i : Nat} {l : List Int} (h : l.length = i) (hl : ∀ x ∈ l, 0 ≤ x ∧ x ≤ (i : Int)) : (kids i l).length ≤ i + 1 := by
 have := low_ok h hl
 unfold kids cnt
 simp only [List.length_map, List.length_range]
 omega
theorem flat_len {i : Nat} : ∀ (xs : List (List Int)), (∀ l ∈ xs, l.length = i ∧ ∀ x ∈ l, 0 ≤ x ∧ x ≤ (i : Int)) → (xs.flatMap (kids i)).length ≤ xs.length * (i + 1)
 | [], _ => by simp
 | l :: xs, h => by
  have h1 := flat_len xs (fun t ht => h t (List.mem_cons_of_mem _ ht))
  have h2 := h l List.mem_cons_self
  have h3 := kids_len h2.1 h2.2
  rw [List.flatMap_cons, List.length_append, List.length_cons, Nat.add_mul]
  omega
def bnd : Nat → Nat
 | 0 => 1
 | i + 1 => bnd i * (i + 1)
theorem every_len : ∀ i, (every i).length ≤ bnd i
 | 0 => by simp [every, bnd]
 | i + 1 => by
  unfold every bnd
  exact Nat.le_trans (flat_len _ (every_ok i)) (Nat.mul_le_mul_right _ (every_len i))
theorem bnd_le : ∀ i : Fin 11, bnd i.val ≤ 3628800 := by decide
theorem every_le {i : Nat} (h : i ≤ 10) : (every i).length ≤ 3628800 := Nat.le_trans (every_len i) (bnd_le ⟨i, by omega⟩)
theorem kids_take {i : Nat} {l : List Int} {d : Nat} (h : d < cnt i l) : (kids i l).take (d + 1) = (kids i l).take d ++ [l ++ [low i l + (d : Int)]] := by
 rw [List.take_succ_eq_append_getElem (by unfold kids; simpa using h)]
 unfold kids
 simp
theorem kids_all (i : Nat) (l : List Int) : (kids i l).take (cnt i l) = kids i l := List.take_of_length_le (by unfold kids; simp)
theorem flat_take {i q : Nat} {xs : List (List Int)} {l : List Int} (h : xs[q]? = some l) : (xs.take (q + 1)).flatMap (kids i) = (xs.take q).flatMap (kids i) ++ kids i l := by
 obtain ⟨hq, rfl⟩ := List.getElem?_eq_some_iff.1 h
 rw [List.take_succ_eq_append_getElem hq, List.flatMap_append]; simp
theorem part_len {i q d : Nat} {xs : List (List Int)} {l : List Int} (h : ∀ l ∈ xs, l.length = i ∧ ∀ x ∈ l, 0 ≤ x ∧ x ≤ (i : Int)) (hl : l ∈ xs) (hi : i ≤ 10) (hx : xs.length ≤ 3628800) : ((xs.take q).flatMap (kids i) ++ (kids i l).take d).length ≤ 60000000 := by
 have h1 := flat_len (i := i) (xs.take q) (fun t ht => h t (List.mem_of_mem_take ht))
 have h2 := kids_len (h l hl).1 (h l hl).2
 have h3 : (xs.take q).length ≤ 3628800 := by rw [List.length_take]; omega
 have h4 : (xs.take q).length * (i + 1) ≤ 3628800 * 11 := Nat.mul_le_mul h3 (by omega)
 rw [List.length_append, List.length_take]
 omega
theorem one_row {W : World} {b : Nat} {A : Option Addr} {c : Nat} (h : Kd.R (Kd.int .i64) 3 W b (fun _ => True) (.slice A 0 c) []) : ∀ (j : Nat) (x : List Int), ([[]] : List (List Int))[j]? = some x → (Kd.slice 3 (Kd.int .i64)).M W b (fun k => j = 0 ∧ some k = (Value.slice A 0 c).ownBlock) x (([Value.slice A 0 c].drop (j * 1)).take 1)
 | 0, x, hj => by
  obtain rfl : [] = x := Option.some.inj hj
  exact ⟨_, rfl, Kd.R_mono (Kd.R_tight rfl h) (fun k hk => ⟨rfl, hk⟩)⟩
 | j + 1, x, hj => by simp at hj
theorem ar1 {X k L q c : Nat} (h : X + (L - q) * 20 + 2 ≤ k + 1) (hq : q < L) (hc : c ≤ 11) : X + (L - q - 1) * 20 + 3 + (c - 0) ≤ k := by omega
theorem ar2 {X k L q c d : Nat} (h : X + (L - q - 1) * 20 + 3 + (c - d) ≤ k + 1) : X + (L - (q + 1)) * 20 + 2 ≤ k := by omega
theorem ar3 {X k c d : Nat} (h : X + 3 + (c - d) ≤ k + 1) (hd : d < c) : X + 3 + (c - (d + 1)) ≤ k := by omega
theorem cnt_le {i : Nat} {l : List Int} (h : l.length = i) (hl : ∀ x ∈ l, 0 ≤ x ∧ x ≤ (i : Int)) (hi : i ≤ 10) : cnt i l ≤ 11 := by have := low_ok h hl; unfold cnt; omega
end Sta
open Sta
def impl_stairs.f (a0 : Int) : Option (List (List Int)) := if 0 ≤ a0 ∧ a0 ≤ 10 then some (every a0.toNat) else none
set_option maxHeartbeats 8000000 in
set_option maxRecDepth 100000 in
theorem impl_stairs.calls (a0 : Int) (r : List (List Int)) (w : World) (h : impl_stairs.f a0 = some r) :
  Calls Tryd.prog 36 #[.int .i64 a0] w fun e w' => ∃ v0_ : Value, e = .returned (v0_) ∧ Kd.S (Kd.slice 3 (Kd.int .i64)) 24 w' w.heap.size (fun _ => True) v0_ r ∧ Below w.heap.size w w' := by
 unfold impl_stairs.f at h
 split at h
 case isFalse => cases h
 rename_i hc
 have HA := Aside0.mk hc
 obtain ⟨N, HN⟩ : ∃ N : Nat, Aside0 (a0 = (N : Int) ∧ N ≤ 10) := ⟨a0.toNat, ⟨by omega, by omega⟩⟩
 obtain rfl := Option.some.inj h
 have HR := Aside0.mk (show a0.toNat = N by have := HN.out; omega)
 clear h hc
 have HB := Aside0.mk (Below.refl w.heap.size w)
 go_enter Tryd.func36, Tryd.ntmps36
 go_wp2_with (first | ((with_reducible refine gate_dst (N := 10) rfl ?_); refine Kd.R_lit (Kd.int .i64) _ 3 ?hg (N := 10) ?hd (xs := ([] : List Int)) (inner := []) (ok := fun _ => True) (okp := fun _ => True) ?hr ?hp (fun _ hk => hk) trivial (Below.refl _ _) (Nat.le_refl _) (by simp) ?_; (case hd => rfl); (case hg => rfl); (case hr => first | (go_simp; done) | (go_simp; rfl)); (case hp => exact (Reps.none _ _)); intro v10 w3 ho4 hb hg_ hnew_; clear hg_ hnew_; have n0_ := Aside0.mk (Kd.R_lower ho4 (below_size (by repeat (first | (with_reducible first | exact HB.out | apply below_alloc | apply pw_below_drewN | apply below_drew1) | exact HB.out)))); have n1_ := Aside0.mk (below_step (by repeat (first | (with_reducible first | exact HB.out | apply below_alloc | apply pw_below_drewN | apply below_drew1) | exact HB.out)) hb); clear HB; have HO10 := n0_; have HB := n1_; clear n0_ n1_; clear hb ho4; obtain ⟨A10, c10, e10⟩ := Kd.R_slice HO10.out; subst e10) | ((with_reducible refine gate_dst (N := 11) rfl ?_); refine Kd.S_lits (Kd.slice 3 (Kd.int .i64)) (w0 := w) w.heap.size 24 ?hg (N := 11) ?hd (xs := ([[]] : List (List Int))) (inner := [.slice A10 0 c10]) (ok := fun _ => True) (fun j k => j = 0 ∧ some k = (Value.slice A10 0 c10).ownBlock) ?hr rfl ?hp ?hap (fun _ _ _ => trivial) trivial (by repeat (first | (with_reducible first | exact HB.out | apply below_alloc | apply pw_below_drewN | apply below_drew1) | exact HB.out)) (below_size (by repeat (first | (with_reducible first | exact HB.out | apply below_alloc | apply pw_below_drewN | apply below_drew1) | exact HB.out))) (by simp) ?_; (case hd => rfl); (case hg => rfl); (case hr => first | (go_simp; done) | (go_simp; rfl)); (case hap => exact fun i j k h1 h2 => h1.1.trans h2.1.symm); (case hp => exact one_row (by (with_reducible repeat (first | apply Kd.R_alloc | apply Kd.R_drewN | apply Kd.R_drew)); exact HO10.out)); intro v11 w4 ho5 hb hg_ hnew_; clear hg_ hnew_; have n0_ := Aside0.mk ho5; have n1_ := Aside0.mk hb; clear HB HO10; have HO3 := n0_; have HB := n1_; clear n0_ n1_ hb ho5))
 go_loopg [3, 13] (N * 100000000 + 1) (fun kq v3 v13 w' => ∃ (x13 : Int) (i : Nat), v13 = .int .i64 x13 ∧ Aside0 (x13 = (i : Int) ∧ i ≤ N) ∧ Aside0 ((N - i) * 100000000 + 1 ≤ kq) ∧ Aside0 (Kd.S (Kd.slice 3 (Kd.int .i64)) 24 w' w.heap.size (fun _ => True) v3 (every i)) ∧ Aside0 (Below w.heap.size w w'))
 case atStart => exact ⟨0, 0, (by first | rfl | (simp; done) | (simp [*]; done)), ⟨by omega⟩, ⟨by omega⟩, ⟨by (with_reducible repeat (first | apply Kd.S_alloc | apply Kd.S_drewN | apply Kd.S_drew)); exact HO3.out⟩, ⟨by repeat (first | (with_reducible first | exact HB.out | apply below_alloc | apply pw_below_drewN | apply below_drew1) | exact HB.out)⟩⟩
 case round =>
  clear HO3 HB
  obtain ⟨x13, i, rfl, HI, HK, HO3, HB⟩ := hrel
  cases gk with
  | zero => exact absurd HK.out (by omega)
  | succ k1 =>
   by_cases hi : i < N
   ·have c1 : decide (x13 < a0) = true := decide_eq_true (by have := HI.out; have := HN.out; omega)
    have HIN := Aside0.mk hi
    clear hi
    have HXL := Aside0.mk (every_ok i)
    have HXC := Aside0.mk (every_le (i := i) (by have := HI.out; have := HN.out; omega))
    obtain ⟨xs, hxs⟩ : ∃ xs, xs = every i := ⟨_, rfl⟩
    rw [← hxs] at HXL HXC HO3
    have HXS := Aside0.mk hxs
    clear hxs
    obtain ⟨A3, c3, e3⟩ := Kd.S_slice HO3.out
    subst e3
    go_wp2_with (first | ((with_reducible refine gate_dst (N := 16) rfl ?_); refine Kd.S_lit (Kd.slice 3 (Kd.int .i64)) _ 24 ?hg (N := 16) ?hd (xs := ([] : List (List Int))) (inner := []) (ok := fun _ => True) (okp := fun _ => True) ?hr ?hp (fun _ hk => hk) trivial (Below.refl _ _) (Nat.le_refl _) (by simp) ?_; (case hd => rfl); (case hg => rfl); (case hr => first | (go_simp; done) | (go_simp; rfl)); (case hp => exact (Reps.none _ _)); intro v16 w5 ho5 hb hg_ hnew_; clear hg_ hnew_; (have HA0 : ∃ wa : World, Kd.S (Kd.slice 3 (Kd.int .i64)) 24 w5 wa.heap.size (fun _ => True) v16 [] ∧ Below wa.heap.size wa w5 ∧ Kd.S (Kd.slice 3 (Kd.int .i64)) 24 wa w.heap.size (fun _ => True) (.slice A3 xs.length c3) xs ∧ Below w.heap.size w wa := ⟨_, ho5, hb, by (with_reducible repeat (first | apply Kd.S_alloc | apply Kd.S_drewN | apply Kd.S_drew)); exact HO3.out, by repeat (first | (with_reducible first | exact HB.out | apply below_alloc | apply pw_below_drewN | apply below_drew1) | exact HB.out)⟩); obtain ⟨wa, h1, h2, h3, h4⟩ := HA0; clear HO3 HB ho5 hb; have HO5 := Aside0.mk h1; have HB := Aside0.mk h2; have HO3 := Aside0.mk h3; have HBA := Aside0.mk h4; clear h1 h2 h3 h4))
    go_loopg [5, 19] k1 (fun kq v5 v19 w' => ∃ (x19 : Int) (q : Nat), v19 = .int .i64 x19 ∧ Aside0 (x19 = (q : Int) ∧ q ≤ xs.length) ∧ Aside0 ((N - i - 1) * 100000000 + (xs.length - q) * 20 + 2 ≤ kq ∧ kq ≤ k1) ∧ Aside0 (Kd.S (Kd.slice 3 (Kd.int .i64)) 24 w' wa.heap.size (fun _ => True) v5 ((xs.take q).flatMap (kids i))) ∧ Aside0 (Below wa.heap.size wa w'))
    case atStart => exact ⟨0, 0, (by first | rfl | (simp; done) | (simp [*]; done)), ⟨by omega⟩, ⟨by have := HK.out; have := HXC.out; have := HIN.out; omega⟩, ⟨by rw [List.take_zero, List.flatMap_nil]; (with_reducible repeat (first | apply Kd.S_alloc | apply Kd.S_drewN | apply Kd.S_drew)); exact HO5.out⟩, ⟨by repeat (first | (with_reducible first | exact HB.out | apply below_alloc | apply pw_below_drewN | apply below_drew1) | exact HB.out)⟩⟩
    case round =>
     clear HO5 HB
     try clear c1
     obtain ⟨x19, q, rfl, HQ, HK1, HO5, HB⟩ := hrel
     cases gk with
     | zero => exact absurd HK1.out (by omega)
     | succ k2 =>
      by_cases hq : q < xs.length
      ·have c2 : decide (x19 < (xs.length : Int)) = true := decide_eq_true (by have := HQ.out; omega)
       have p0 : 0 ≤ x19 := by have := HQ.out; omega
       have q0 : x19 < (xs.length : Int) := by have := HQ.out; omega
       obtain ⟨ad, cs, ead, _, hFK, hcell, _⟩ := Kd.F_get (Kd.S_F HO3.out) ([] : List Int) x19 p0 q0
       cases ead
       obtain ⟨A7, c7, rfl, hl7, hF7⟩ := Kd.FK_slice_open hFK
       have hgl : xs.getD x19.toNat [] = xs[q] := by
        have : x19.toNat = q := by have := HQ.out; omega
        rw [this, List.getD_eq_getElem?_getD, List.getElem?_eq_getElem hq]; rfl
       have hx : wa.cell? (ad.add (x19.toNat * 1 + 0)) = some (.slice A7 (xs.getD x19.toNat []).length c7) := hcell 0 _ rfl
       rw [Nat.mul_one, Nat.add_zero] at hx
       clear hFK hcell
       have hlm : xs.getD x19.toNat [] ∈ xs := by rw [hgl]; exact List.getElem_mem _
       generalize xs.getD x19.toNat [] = l at hx hl7 hF7 hgl hlm
       have HGL := Aside0.mk (show q < xs.length ∧ xs[q]? = some l from ⟨hq, by rw [List.getElem?_eq_getElem hq, hgl]⟩)
       have HLM := Aside0.mk hlm
       have HLO := Aside0.mk (HXL.out l hlm)
       have HL7 := Aside0.mk hl7
       have HF7 := Aside0.mk hF7
       clear hgl hlm hl7 hF7 hq
       replace hx := (HB.out.cell (World.block_lt_of_cell? wa _ hx)).trans hx
       replace p0 := eq_true p0
       replace q0 := eq_true q0
       go_upto_if 24 with (fail)
       go_cut [8] (fun v8 wc => ∃ (x8 : Int), v8 = .int .i64 x8 ∧ Aside0 (x8 = low i l) ∧ Aside0 (Kd.S (Kd.slice 3 (Kd.int .i64)) 24 wc wa.heap.size (fun _ => True) u5 ((xs.take q).flatMap (kids i))) ∧ Aside0 (Below wa.heap.size wa wc))
       case first =>
        by_cases hi0 : 0 < i
        ·have c10b0 : decide (0 < x13) = true := decide_eq_true (by have := HI.out; omega)
         (first | rw [c10b0] | (simp only [i64_w, i32_w]; rw [c10b0]) | skip)
         obtain ⟨ji, hji⟩ : ∃ j_ : Int, (wrap64 (x13 - 1)) = j_ := ⟨_, rfl⟩
         have hjiw : (IntKind.i64.wrap (x13 - 1)) = ji := (i64_w _).trans hji
         have hjv : ji = (i : Int) - 1 := by rw [← hji]; have := HI.out; have := HN.out; unfold wrap64; omega
         have p1 : 0 ≤ ji := by omega
         have q1 : ji < (l.length : Int) := by have := HLO.out.1; omega
         obtain ⟨ad8, e8, hx8⟩ := Kd.at_int (Kd.F_now HF7.out) ji p1 q1
         cases e8
         replace hx8 := (HB.out.cell (World.block_lt_of_cell? wa _ hx8)).trans hx8
         replace p1 := eq_true p1
         replace q1 := eq_true q1
         have HLV := Aside0.mk (show rd l ji = low i l by unfold low; rw [if_pos hi0, hjv])
         clear hi0 hjv
         go_wp2
         go_meet
         case rel => exact ⟨(rd l ji), (by first | rfl | (simp; done) | (simp only [← hji] <;> (first | rfl | simp)) | (simp [*]; done)), ⟨HLV.out⟩, ⟨by (with_reducible repeat (first | apply Kd.S_alloc | apply Kd.S_drewN | apply Kd.S_drew)); exact HO5.out⟩, ⟨by repeat (first | (with_reducible first | exact HB.out | apply below_alloc | apply pw_below_drewN | apply below_drew1) | exact HB.out)⟩⟩
        ·have c10b0 : decide (0 < x13) = false := decide_eq_false (by have := HI.out; omega)
         (first | rw [c10b0] | (simp only [i64_w, i32_w]; rw [c10b0]) | skip)
         have HLV := Aside0.mk (show 0 = low i l by unfold low; rw [if_neg hi0])
         clear hi0
         go_wp2
         go_meet
         case rel => exact ⟨0, (by first | rfl | (simp; done) | (simp [*]; done)), ⟨HLV.out⟩, ⟨by (with_reducible repeat (first | apply Kd.S_alloc | apply Kd.S_drewN | apply Kd.S_drew)); exact HO5.out⟩, ⟨by repeat (first | (with_reducible first | exact HB.out | apply below_alloc | apply pw_below_drewN | apply below_drew1) | exact HB.out)⟩⟩
       case rest =>
        clear HO5 HB
        try clear hx
        obtain ⟨x8, rfl, HX8, HO5, HB⟩ := hcut
        go_wp2
        go_loopg [5, 9] k2 (fun kq v5 v9 w' => ∃ (x9 : Int) (d : Nat), v9 = .int .i64 x9 ∧ Aside0 (x9 = low i l + (d : Int) ∧ d ≤ cnt i l) ∧ Aside0 ((N - i - 1) * 100000000 + (xs.length - q - 1) * 20 + 3 + (cnt i l - d) ≤ kq ∧ kq ≤ k2) ∧ Aside0 (Kd.S (Kd.slice 3 (Kd.int .i64)) 24 w' wa.heap.size (fun _ => True) v5 ((xs.take q).flatMap (kids i) ++ (kids i l).take d)) ∧ Aside0 (Below wa.heap.size wa w'))
        case atStart => exact ⟨x8, 0, (by first | rfl | (simp; done) | (simp [*]; done)), ⟨by have := HX8.out; omega⟩, ⟨⟨ar1 HK1.out.1 HGL.out.1 (cnt_le HLO.out.1 HLO.out.2 (by have := HI.out; have := HN.out; omega)), Nat.le_refl _⟩⟩, ⟨by rw [List.take_zero, List.append_nil]; (with_reducible repeat (first | apply Kd.S_alloc | apply Kd.S_drewN | apply Kd.S_drew)); exact HO5.out⟩, ⟨by repeat (first | (with_reducible first | exact HB.out | apply below_alloc | apply pw_below_drewN | apply below_drew1) | exact HB.out)⟩⟩
        case round =>
         clear HO5 HB
         obtain ⟨x9, d, rfl, HD, HK2, HO5, HB⟩ := hrel
         cases gk with
         | zero => exact absurd HK2.out (by omega)
         | succ k3 =>
          by_cases hd : d < cnt i l
          ·have c3 : decide (x9 ≤ x13) = true := decide_eq_true (by have := HI.out; have := HD.out; unfold cnt at hd; omega)
           have HPL := Aside0.mk (part_len (q := q) (d := d) HXL.out HLM.out (by have := HI.out; have := HN.out; omega) HXC.out)
           have HKT := Aside0.mk (show (xs.take q).flatMap (kids i) ++ (kids i l).take (d + 1) = ((xs.take q).flatMap (kids i) ++ (kids i l).take d) ++ [l ++ [x9]] by rw [kids_take hd, HD.out.1, List.append_assoc])
           obtain ⟨y41, hy41⟩ : ∃ y : List Int, y = l ++ [x9] := ⟨_, rfl⟩
           rw [← hy41] at HKT
           have Ny41 := Aside0.mk hy41
           clear hy41
           have HDD := Aside0.mk hd
           have HW := Aside0.mk (show wrap64 (x9 + 1) = x9 + 1 by have h1 := low_ok HLO.out.1 HLO.out.2; have := HI.out; have := HN.out; have := HD.out; unfold cnt at hd; unfold wrap64; omega)
           clear hd
           go_wp2_with (first | ((with_reducible refine gate_callee (f := 52) rfl ?_); refine goesL_ (some 38) rfl rfl Tryd.func52 (by kernel_rfl) rfl #[.slice A7 l.length c7] rfl (by (try simp only [List.map_toArray, List.map_cons, List.map_nil]); first | done | rfl | (simp only [List.length_drop, List.length_take]; rfl)) ?_; (with_reducible refine (slices_Clone_int_int.calls _ _ l l _ ?side1 ?side2 ?side3).mono ?_); (case side1 => repeat (first | exact (HF7.out _ (fun k _ hk => HB.out.block k hk)) | (with_reducible refine Kd.C_alloc ?_ _) | (with_reducible refine Kd.C_drewN ?_ _) | (with_reducible refine Kd.C_drew ?_))); (case side2 => exact HL7.out); (case side3 => unfold slices_Clone_int_int.f; rw [if_pos (by have := HLO.out.1; have := HI.out; have := HN.out; omega)]); rintro e w19 ⟨v38, rfl, ho0, hb⟩; refine ⟨_, rfl, ?_⟩; have n0_ := Aside0.mk (Kd.S_elder' (by (with_reducible repeat (first | apply Kd.S_alloc | apply Kd.S_drewN | apply Kd.S_drew)); exact HO5.out) (Kd.R_base ho0) hb); have n1_ := Aside0.mk (Kd.R_lower ho0 (below_size (by repeat (first | (with_reducible first | exact HB.out | apply below_alloc | apply pw_below_drewN | apply below_drew1) | exact HB.out)))); have n2_ := Aside0.mk (below_step (by repeat (first | (with_reducible first | exact HB.out | apply below_alloc | apply pw_below_drewN | apply below_drew1) | exact HB.out)) hb); clear HO5 HB; have HO5 := n0_; have HO38 := n1_; have HB := n2_; clear n0_ n1_ n2_; clear hb ho0) | ((with_reducible refine gate_builtin (b := .append) (xs := #[.tmp 38, .tmp 40]) rfl ?_); at_builtin; refine Kd.R_append (Kd.int .i64) (w0 := wa) wa.heap.size rfl (.tmp 38) (.tmp 40) 24 3 (.int .i64 0) 8 rfl Tryd.underlying24 info3 rfl (by decide) (by omega) v38 l x9 [.int .i64 x9] (fun _ => True) (fun _ => False) rfl rfl ?aP (fun _ hk => hk.elim) ?aF ?aO ?aB ?aS ?aL ?_; (case aP => exact rfl); (case aB => exact (by repeat (first | (with_reducible first | exact HB.out | apply below_alloc | apply pw_below_drewN | apply below_drew1) | exact HB.out))); (case aF => exact (fun _ _ => trivial)); (case aO => exact (by (with_reducible repeat (first | apply Kd.R_alloc | apply Kd.R_drewN | apply Kd.R_drew)); exact HO38.out)); (case aS => exact (below_size (by repeat (first | (with_reducible first | exact HB.out | apply below_alloc | apply pw_below_drewN | apply below_drew1) | exact HB.out)))); (case aL => have := HLO.out.1; have := HI.out; have := HN.out; omega); intro v41 w20 ho hb hg hat; rw [← Ny41.out] at ho; have n0_ := Aside0.mk (Kd.S_after (by (with_reducible repeat (first | apply Kd.S_alloc | apply Kd.S_drewN | apply Kd.S_drew)); exact HO5.out) hg hat); have n1_ := Aside0.mk (hb); have n2_ := Aside0.mk (ho); clear HO5 HB HO38; have HO5 := n0_; have HB := n1_; have HO41 := n2_; clear n0_ n1_ n2_; clear ho hb hg hat; obtain ⟨A41, c41, e41⟩ := Kd.R_slice HO41.out; subst e41) | ((with_reducible refine gate_builtin (b := .append) (xs := #[.tmp 36, .tmp 42]) rfl ?_); at_builtin; refine Kd.S_append (Kd.slice 3 (Kd.int .i64)) (w0 := wa) wa.heap.size rfl (.tmp 36) (.tmp 42) 40 24 (.slice none 0 0) 24 rfl Tryd.underlying40 info24 rfl (by decide) (by omega) u5 ((xs.take q).flatMap (kids i) ++ (kids i l).take d) y41 [.slice A41 y41.length c41] (fun _ => True) (fun k => some k = (Value.slice A41 y41.length c41).ownBlock) rfl rfl ?aP ?aK ?aF ?aO ?aB ?aS ?aL ?_; (case aP => exact ⟨_, rfl, Kd.R_tight rfl (by (with_reducible repeat (first | apply Kd.R_alloc | apply Kd.R_drewN | apply Kd.R_drew)); exact HO41.out)⟩); (case aK => exact fun k hk => ⟨trivial, fun e => ((Kd.S_R HO5.out).1 k e.symm).2 hk⟩); (case aF => exact (fun _ _ => trivial)); (case aO => exact (by (with_reducible repeat (first | apply Kd.S_alloc | apply Kd.S_drewN | apply Kd.S_drew)); exact Kd.S_mono HO5.out (fun k hk => ⟨trivial, hk.2⟩))); (case aB => exact (by repeat (first | (with_reducible first | exact HB.out | apply below_alloc | apply pw_below_drewN | apply below_drew1) | exact HB.out))); (case aS => exact (below_size (by repeat (first | (with_reducible first | exact HB.out | apply below_alloc | apply pw_below_drewN | apply below_drew1) | exact HB.out)))); (case aL => have := HPL.out; omega); intro v43 w21 ho hb hg hat; rw [← HKT.out] at ho; have n0_ := Aside0.mk hb; have n1_ := Aside0.mk ho; clear HO5 HB HO41; have HO5 := n1_; have HB := n0_; clear n0_ n1_; clear ho hb hg hat))
           go_roundg k3
           case measure => have := HK1.out.2; have := HK2.out.2; omega
           case rel => exact ⟨(wrap64 (x9 + 1)), d + 1, (by first | rfl | (simp; done) | (simp [*]; done)), ⟨by have := HW.out; have := HD.out; have := HDD.out; omega⟩, ⟨⟨ar3 HK2.out.1 HDD.out, by have := HK2.out.2; omega⟩⟩, ⟨by (with_reducible repeat (first | apply Kd.S_alloc | apply Kd.S_drewN | apply Kd.S_drew)); exact HO5.out⟩, ⟨by repeat (first | (with_reducible first | exact HB.out | apply below_alloc | apply pw_below_drewN | apply below_drew1) | exact HB.out)⟩⟩
          ·have hdc : d = cnt i l := by have := HD.out; omega
           have c3 : decide (x9 ≤ x13) = false := decide_eq_false (by have := HI.out; have := HD.out; have h1 := low_ok HLO.out.1 HLO.out.2; unfold cnt at hdc; omega)
           have HS := Aside0.mk (show (xs.take q).flatMap (kids i) ++ (kids i l).take d = (xs.take (q + 1)).flatMap (kids i) by rw [flat_take HGL.out.2, hdc, kids_all])
           have HW := Aside0.mk (show wrap64 (x19 + 1) = x19 + 1 by have := HQ.out; have := HXC.out; unfold wrap64; omega)
           clear hd hdc
           rw [HS.out] at HO5
           go_wp2
           go_roundg k3
           case measure => have := HK1.out.2; have := HK2.out.2; omega
           case rel => exact ⟨(wrap64 (x19 + 1)), q + 1, (by first | rfl | (simp; done) | (simp [*]; done)), ⟨by have := HW.out; have := HQ.out; have := HGL.out.1; omega⟩, ⟨⟨ar2 HK2.out.1, by have := HK1.out.2; have := HK2.out.2; omega⟩⟩, ⟨by (with_reducible repeat (first | apply Kd.S_alloc | apply Kd.S_drewN | apply Kd.S_drew)); exact HO5.out⟩, ⟨by repeat (first | (with_reducible first | exact HB.out | apply below_alloc | apply pw_below_drewN | apply below_drew1) | exact HB.out)⟩⟩
      ·have hqe : q = xs.length := by have := HQ.out; omega
       have c2 : decide (x19 < (xs.length : Int)) = false := decide_eq_false (by have := HQ.out; omega)
       have HS := Aside0.mk (show (xs.take q).flatMap (kids i) = every (i + 1) by rw [hqe, List.take_length, HXS.out]; rfl)
       have HW := Aside0.mk (show wrap64 (x13 + 1) = x13 + 1 by have := HI.out; have := HN.out; unfold wrap64; omega)
       clear hq hqe
       rw [HS.out] at HO5
       go_wp2
       go_roundg k2
       case measure => have := HK1.out; omega
       case rel => exact ⟨(wrap64 (x13 + 1)), i + 1, (by first | rfl | (simp; done) | (simp [*]; done)), ⟨by have := HW.out; have := HI.out; have := HIN.out; omega⟩, ⟨by have := HK1.out; omega⟩, ⟨by (with_reducible repeat (first | apply Kd.S_alloc | apply Kd.S_drewN | apply Kd.S_drew)); exact Kd.S_lower HO5.out (below_size HBA.out)⟩, ⟨by repeat (first | (with_reducible first | exact (below_weaken HBA.out (below_size HBA.out) HB.out) | apply below_alloc | apply pw_below_drewN | apply below_drew1) | exact (below_weaken HBA.out (below_size HBA.out) HB.out))⟩⟩
   ·have hie : i = N := by have := HI.out; omega
    have c1 : decide (x13 < a0) = false := decide_eq_false (by have := HI.out; have := HN.out; omega)
    clear hi
    go_wp2
    go_ret
    rw [HR.out, ← hie]
    exact ⟨_, by first | rfl | (simp [errW_none, errW_some] <;> rfl) | (simp [*, errW_none, errW_some] <;> rfl), by (with_reducible repeat (first | apply Kd.S_alloc | apply Kd.S_drewN | apply Kd.S_drew)); exact HO3.out, by repeat (first | (with_reducible first | exact HB.out | apply below_alloc | apply pw_below_drewN | apply below_drew1) | exact HB.out)⟩
end Go.Proofs.YtcalgdljcphjaaaDoor.Q
namespace Go.Proofs.YtcalgdljcphjaaaDoor.Q
open Go.RowKit Go.Proofs.YtcalgdljcphjaaaDoorW.PrintWords Go.Proofs.YtcalgdljcphjaaaDoorW.PrintLast Go.Proofs.YtcalgdljcphjaaaDoorW.PrintMore
attribute [local go_sem] max2_int min2_int max_two min_two max_three min_three max_four min_four neB_f
set_option linter.unusedVariables false
set_option maxHeartbeats 8000000
set_option maxRecDepth 100000
set_option linter.unusedSimpArgs false
def impl_StairsOf.f (a0 : Int) : Option ((List (List Int)) × Bool) := (impl_within.f a0 0 6).bind fun t474 => (if t474 = true then ((impl_stairs.f a0).bind fun t475 => (some (t475, true))) else (some (([] : List (List Int)), false)))
theorem impl_StairsOf.calls (a0 : Int) (r1 : List (List Int)) (r2 : Bool) (w : World) (h : impl_StairsOf.f a0 = some (r1, r2)) :
  Calls Tryd.prog 17 #[.int .i64 a0] w fun e w' => ∃ v0_ : Value, e = .returned (.tuple #[v0_, .bool r2]) ∧ Kd.S (Kd.slice 3 (Kd.int .i64)) 24 w' w.heap.size (fun _ => True) v0_ r1 ∧ Below w.heap.size w w' := by
 have HB := mkA (Below.refl w.heap.size w)
 have H := h
 clear h
 unfold impl_StairsOf.f at H
 obtain ⟨t474, A2, H⟩ := obE H
 by_cases c3 : t474 = true
 ·subst c3
  replace H := ifT H
  obtain ⟨t475, A4, H⟩ := obE H
  simp only [Option.some.injEq, Prod.mk.injEq] at H
  obtain ⟨rfl, rfl⟩ := H
  go_enter Tryd.func17, Tryd.ntmps17
  go_wp2_with (first | ((with_reducible refine gate_callee (f := 27) rfl ?_); refine goesQ (some 5) Tryd.func27 #[.int .i64 a0, .int .i64 0, .int .i64 6] ?_; (with_reducible refine (impl_within.calls a0 0 6 true _ A2.out).mono ?_); rintro e w' ⟨rfl, ⟨nd, rfl⟩⟩; refine ⟨_, rfl, ?_⟩) | ((with_reducible refine gate_callee (f := 36) rfl ?_); refine goesQ (some 8) Tryd.func36 #[.int .i64 a0] ?_; (with_reducible refine (impl_stairs.calls a0 t475 _ A4.out).mono ?_); rintro e w5 ⟨v476, rfl, ho0, hb⟩; refine ⟨_, rfl, ?_⟩; have HO477 := mkA (Kd.S_lower ho0 (below_size (bel_g HB.out))); replace HB := bst HB hb; clear hb ho0))
  go_ret2
  exact ⟨_, eqE, by (with_reducible repeat (first | apply Kd.S_alloc | apply Kd.S_drewN | apply Kd.S_drew)); exact HO477.out, bel_g HB.out⟩
 ·replace c3 := Bool.eq_false_iff.mpr c3
  subst c3
  replace H := ifF H
  simp only [Option.some.injEq, Prod.mk.injEq] at H
  obtain ⟨rfl, rfl⟩ := H
  go_enter Tryd.func17, Tryd.ntmps17
  go_wp2_with (first | ((with_reducible refine gate_callee (f := 27) rfl ?_); refine goesQ (some 5) Tryd.func27 #[.int .i64 a0, .int .i64 0, .int .i64 6] ?_; (with_reducible refine (impl_within.calls a0 0 6 false _ A2.out).mono ?_); rintro e w' ⟨rfl, ⟨nd, rfl⟩⟩; refine ⟨_, rfl, ?_⟩))
  go_ret2
  exact ⟨_, eqE, by first | exact Kd.S_nil _ _ _ _ _ | exact Kd.N_nil _ _ _ _ _ | exact Kd.V_nil _ _ _ _ _ | exact Kd.Q_nil _ _ _ _ _ | exact Kd.R_nil _ _ _ _ _, bel_g HB.out⟩
end Go.Proofs.YtcalgdljcphjaaaDoor.Q
