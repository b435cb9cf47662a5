import Derived.Shelf.Small.Bits
import Derived.Shelf.Small.Wraps
import Derived.Shelf.Strconv.Itoa0
import Derived.Shelf.Sort.Plain
import Derived.Ground.Names2Prog
import Derived.Shelf.Slices.Clone
import Derived.Shelf.Slices.CompactI
import Derived.Shelf.Slices.SearchI
import Derived.Shelf.Slices.Cells
import Derived.Shelf.Slices.In.SortNone
import Derived.Ground.SlgnProg
import Derived.Shelf.SlicesE.Clone
import Derived.Test.YtfpicdkanmgdoaaDoorBFnLevelRanks1
namespace Go.Proofs.YtfpicdkanmgdoaaDoor.Q
open Go.RowKit Go.Proofs.YtfpicdkanmgdoaaDoorW.PrintWords Go.Proofs.YtfpicdkanmgdoaaDoorW.PrintLast Go.Proofs.YtfpicdkanmgdoaaDoorW.PrintMore
attribute [local go_sem] max2_int min2_int max_two min_two max_three min_three max_four min_four neB_f
set_option linter.unusedVariables false
set_option maxHeartbeats 8000000
set_option maxRecDepth 100000
set_option linter.unusedSimpArgs false
mutual
def spec_weCount.l0 : Nat → Int → Int → Int → Option (Int)
 | 0, _, _, _ => none
 | k + 1, x0, x3, x4 => if x4 ≤ x0 then ((spec_weBinomial.f k x0 x4).bind fun t114 => ((spec_weCount.f k (wrap64 (x0 - x4))).bind fun t115 => (spec_weCount.l0 k x0 (wrap64 (x3 + (wrap64 (t114 * t115)))) (wrap64 (x4 + 1))))) else (some x3)
def spec_weCount.f : Nat → Int → Option (Int)
 | 0, _ => none
 | k + 1, a0 => if a0 = 0 then (some 1) else (spec_weCount.l0 k a0 0 1)
end
theorem spec_weCount.mono_l : ∀ k, (∀ y0, LeO (spec_weCount.f k y0) (spec_weCount.f (k + 1) y0)) ∧ (∀ y0 y1 y2, LeO (spec_weCount.l0 k y0 y1 y2) (spec_weCount.l0 (k + 1) y0 y1 y2))
 | 0 => ⟨fun _ r h => by simp [spec_weCount.f] at h, fun _ _ _ r h => by simp [spec_weCount.l0] at h⟩
 | k + 1 => by
  obtain ⟨ih0, ih1⟩ := spec_weCount.mono_l k
  refine ⟨?_, ?_⟩ <;> intros
  unfold spec_weCount.f
  rotate_left
  unfold spec_weCount.l0
  rotate_left
  all_goals repeat' (with_reducible first|apply ih0|apply ih1|apply spec_weBinomial.mono|apply LeO.refl|apply LeO.none|apply LeO.ite|apply LeO.bind|intro)
theorem spec_weCount.mono : ∀ a0 k, LeO (spec_weCount.f k a0) (spec_weCount.f (k + 1) a0) := by
 intro a0 k
 obtain ⟨ih0, ih1⟩ := spec_weCount.mono_l k
 exact ih0 a0
theorem spec_weCount.calls (k : Nat) : ∀ (a0 : Int) (r : Int) (w : World) (h : spec_weCount.f k a0 = some r),
  Calls Tryd.prog 22 #[.int .i64 a0] w fun e w' => e = .returned (.int .i64 r) ∧ Drawn0 w w' := by
 induction k using Nat.strongRecOn with
 | _ k ih =>
 intro a0 r w h
 cases k with
 | zero => exact absurd h (by simp [spec_weCount.f])
 | succ k =>
 simp only [spec_weCount.f] at h
 have H := h
 clear h
 unfold spec_weCount.f at H
 rcases iteP H with ⟨c2, H⟩ | ⟨c2, H⟩
 ·have c2b0 := beq_iff_eq.mpr c2
  have c2b1 := bne_eq_false_iff_eq.mpr c2
  clear c2
  obtain rfl := Option.some.inj H
  go_enter Tryd.func22, Tryd.ntmps22
  go_wp2
  go_ret
  exact ⟨eqS, drE⟩
 ·have c2b0 := beq_eq_false_iff_ne.mpr c2
  have c2b1 := bne_iff_ne.mpr c2
  have H' := mkA H
  clear H
  go_enter Tryd.func22, Tryd.ntmps22
  go_wp2
  go_loopg [3, 4] k (fun kq v3 v4 w' => ∃ (x3_1 : Int) (x4_1 : Int), v3 = .int .i64 x3_1 ∧ v4 = .int .i64 x4_1 ∧ Fc (spec_weCount.l0 kq a0 x3_1 x4_1 = some r) ∧ Fc (kq ≤ k) ∧ Drawn0 w w')
  case atStart => exact ⟨(0), (1), eqS, eqS, H', ⟨Nat.le_refl _⟩, by repeat (first | exact Drawn0.refl _ | apply Drawn0.step)⟩
  case round =>
   clear H'
   try clear c2
   try clear c2b0
   try clear c2b1
   obtain ⟨x3_1, x4_1, rfl, rfl, HA, HK1, ⟨m1, rfl⟩⟩ := hrel
   cases gk with
   | zero => exact absurd HA.out (by simp [spec_weCount.l0])
   | succ k1 =>
    have H := HA.out
    clear HA
    simp only [spec_weCount.l0] at H
    rcases iteE H with ⟨c3b0, H⟩ | ⟨c3b0, H⟩
    ·obtain ⟨t114, A4, H⟩ := obE H
     obtain ⟨t115, A5, H⟩ := obE H
     have H' := mkA H
     clear H
     go_wp2_with (first | ((with_reducible refine gate_callee (f := 41) rfl ?_); refine goesQ (some 15) Tryd.func41 #[.int .i64 a0, .int .i64 x4_1] ?_; (with_reducible refine (spec_weBinomial.calls k1 a0 x4_1 t114 _ A4.out).mono ?_); rintro e w' ⟨rfl, ⟨nd, rfl⟩⟩; refine ⟨_, rfl, ?_⟩) | ((with_reducible refine gate_callee (f := 22) rfl ?_); refine goesQ (some 19) Tryd.func22 #[.int .i64 (wrap64 (a0 - x4_1))] ?_; (with_reducible refine (ih k1 (by have := HK1.out; omega) (wrap64 (a0 - x4_1)) t115 _ A5.out).mono ?_); rintro e w' ⟨rfl, ⟨nd, rfl⟩⟩; refine ⟨_, rfl, ?_⟩))
     go_roundg k1
     case measure => have := HK1.out; omega
     case rel => exact ⟨(wrap64 (x3_1 + (wrap64 (t114 * t115)))), (wrap64 (x4_1 + 1)), eqS, eqS, H', ⟨by have := HK1.out; omega⟩, by repeat (first | exact Drawn0.refl _ | apply Drawn0.step)⟩
    ·obtain rfl := Option.some.inj H
     go_wp2
     go_ret
     exact ⟨eqS, drE⟩
def spec_l1Most.f (a0 : Int) (a1 : Int) : Option (Int) := if a0 > a1 then (some a0) else (some a1)
theorem spec_l1Most.calls (a0 : Int) (a1 : Int) (r : Int) (w : World) (h : spec_l1Most.f a0 a1 = some r) :
  Calls Tryd.prog 23 #[.int .i64 a0, .int .i64 a1] w fun e w' => e = .returned (.int .i64 r) ∧ Drawn0 w w' := by
 have H := h
 clear h
 unfold spec_l1Most.f at H
 rcases iteP H with ⟨c3, H⟩ | ⟨c3, H⟩
 ·have c3b0 := decide_eq_true c3
  clear c3
  obtain rfl := Option.some.inj H
  go_enter Tryd.func23, Tryd.ntmps23
  go_wp2
  go_ret
  exact ⟨eqS, drE⟩
 ·have c3b0 := decide_eq_false c3
  clear c3
  obtain rfl := Option.some.inj H
  go_enter Tryd.func23, Tryd.ntmps23
  go_wp2
  go_ret
  exact ⟨eqS, drE⟩
def spec_DrawLevelsWith.f (k : Nat) (l0 : List Int) : Option (Int × Int) := (spec_l1Cur_among.f l0 0 0 (([0, 1, 2, 3, 4, 4, 5, 6, 7, (-1)] : List Int))).bind fun bt120 => ((spec_l1Most.f 0 bt120.1).bind fun t123 => ((spec_weCount.f k t123).bind fun t124 => ((spec_l1Cur_pick.f l0 bt120.2.1 bt120.2.2 t124).bind fun bt125 => ((spec_l1Cur_pick.f l0 bt125.2.1 bt125.2.2 t124).bind fun bt128 => ((spec_l1Cur_among.f l0 bt128.2.1 bt128.2.2 (([0, 1, wrap64 (t124 - 1), t124, (-1), bt125.1, bt128.1] : List Int))).bind fun bt134 => (some (bt120.1, bt134.1)))))))
theorem spec_DrawLevelsWith.mono : ∀ a0 k, LeO (spec_DrawLevelsWith.f k a0) (spec_DrawLevelsWith.f (k + 1) a0) := by
 intro a0 k
 unfold spec_DrawLevelsWith.f
 repeat' (with_reducible first|apply spec_weCount.mono|apply LeO.refl|apply LeO.none|apply LeO.ite|apply LeO.bind|intro)
theorem spec_DrawLevelsWith.calls (k : Nat) (A0 : Option Addr) (c0 : Nat) (l0 : List Int) (r1 : Int) (r2 : Int) (w : World) (hr0 : Kd.C (Kd.int .u8) w A0 l0.length l0) (hc0 : l0.length ≤ c0) (h : spec_DrawLevelsWith.f k l0 = some (r1, r2)) :
  Calls Tryd.prog 5 #[.slice A0 l0.length c0] w fun e w' => e = .returned (.tuple #[.int .i64 r1, .int .i64 r2]) ∧ Below w.heap.size w w' := by
 have hu43 := Tryd.underlying43
 have HR0 := mkA hr0
 have HC0 := mkA hc0
 clear hr0 hc0
 have HB := mkA (Below.refl w.heap.size w)
 have H := h
 clear h
 unfold spec_DrawLevelsWith.f at H
 obtain ⟨y117, hy117⟩ : ∃ y_ : List Int, y_ = (([0, 1, 2, 3, 4, 4, 5, 6, 7, (-1)] : List Int)) := ⟨_, rfl⟩
 rw [← hy117] at H
 have Ny117 := mkA hy117
 clear hy117
 obtain ⟨⟨t120, t121, t122⟩, A2, H⟩ := obE H
 dsimp only at H
 obtain ⟨t123, A3, H⟩ := obE H
 obtain ⟨t124, A4, H⟩ := obE H
 obtain ⟨⟨t125, t126, t127⟩, A5, H⟩ := obE H
 dsimp only at H
 obtain ⟨⟨t128, t129, t130⟩, A6, H⟩ := obE H
 dsimp only at H
 obtain ⟨y131, hy131⟩ : ∃ y_ : List Int, y_ = (([0, 1, wrap64 (t124 - 1), t124, (-1), t125, t128] : List Int)) := ⟨_, rfl⟩
 rw [← hy131] at H
 have Ny131 := mkA hy131
 clear hy131
 obtain ⟨⟨t134, t135, t136⟩, A7, H⟩ := obE H
 dsimp only at H
 simp only [Option.some.injEq, Prod.mk.injEq] at H
 obtain ⟨rfl, rfl⟩ := H
 go_enter Tryd.func5, Tryd.ntmps5
 go_wp2_with (first | ((with_reducible refine gate_dst (N := 9) rfl ?_); refine boxE (N := 9) (cs := #[.slice A0 l0.length c0, .int .i64 0, .int .u64 0]) (t := 43) ?_; intro gb116 hg w8 hbox hb; have HI116 := mkA ((⟨_, _, hbox, (by rw [hg]; exact (below_size (bel_g HB.out))), HR0.out⟩ : IsS43 w w8 gb116 l0 0 0)); have GE116 := geB HB hg; replace HB := bst HB hb; clear hb hbox hg) | ((with_reducible refine gate_dst (N := 11) rfl ?_); refine litE (Kd.int .i64) 3 ([0, 1, 2, 3, 4, 4, 5, 6, 7, (-1)] : List Int) [.int .i64 0, .int .i64 1, .int .i64 2, .int .i64 3, .int .i64 4, .int .i64 4, .int .i64 5, .int .i64 6, .int .i64 7, .int .i64 (-1)] ?hp ?_; (case hp => exact (Reps.one (show Kd.M (Kd.int .i64) _ _ _ 0 [.int .i64 0] from rfl) (Reps.one (show Kd.M (Kd.int .i64) _ _ _ 1 [.int .i64 1] from rfl) (Reps.one (show Kd.M (Kd.int .i64) _ _ _ 2 [.int .i64 2] from rfl) (Reps.one (show Kd.M (Kd.int .i64) _ _ _ 3 [.int .i64 3] from rfl) (Reps.one (show Kd.M (Kd.int .i64) _ _ _ 4 [.int .i64 4] from rfl) (Reps.one (show Kd.M (Kd.int .i64) _ _ _ 4 [.int .i64 4] from rfl) (Reps.one (show Kd.M (Kd.int .i64) _ _ _ 5 [.int .i64 5] from rfl) (Reps.one (show Kd.M (Kd.int .i64) _ _ _ 6 [.int .i64 6] from rfl) (Reps.one (show Kd.M (Kd.int .i64) _ _ _ 7 [.int .i64 7] from rfl) (Reps.one (show Kd.M (Kd.int .i64) _ _ _ (-1) [.int .i64 (-1)] from rfl) (Reps.none _ _)))))))))))); intro v118 w9 ho10 hb hg_ hnew_; clear hg_ hnew_; (first | rw [← Ny117.out] at ho10 | (simp only [Int.reduceToNat] at ho10; rw [← Ny117.out] at ho10)); have HO119 := mkA (Kd.R_lower ho10 (below_size (by exact bl43_0 HB.out HI116.out))); replace HB := mkA (below_step (by exact bl43_0 HB.out HI116.out) hb); replace HI116 := mkA (IsS43.below (by exact st43_0 HI116.out) hb); clear hb ho10; obtain ⟨Ao11, co11, rfl⟩ := Kd.R_slice HO119.out) | ((with_reducible refine gate_callee (f := 21) rfl ?_); refine goesQ (some 12) Tryd.func21 #[.pointer (some ⟨gb116, 0, none⟩), .slice Ao11 y117.length co11] ?_; (with_reducible refine (spec_l1Cur_among.calls gb116 l0 0 0 _ _ y117 t120 t121 t122 w _ ?_ ?_ ?_ ?_ ?_ A2.out).mono ?_); exact st43_0 HI116.out; exact bl43_0 HB.out HI116.out; exact rC HO119; exact rL HO119; exact far_slice (IsS43.own_ne HI116.out HO119.out (by decide)); rintro e w12 ⟨rfl, hi, hb, hk⟩; refine ⟨_, rfl, ?_⟩; replace HO119 := rK (IsS43.apart (show IsS43 w _ gb116 l0 0 0 from by exact st43_0 HI116.out) (Kd.R_g HO119.out) (by decide)) hk; replace HI116 := mkA (hi); replace HB := mkA (hb); clear hb hk hi) | ((with_reducible refine gate_callee (f := 23) rfl ?_); refine goesQ (some 14) Tryd.func23 #[.int .i64 0, .int .i64 t120] ?_; (with_reducible refine (spec_l1Most.calls 0 t120 t123 _ A3.out).mono ?_); rintro e w' ⟨rfl, ⟨nd, rfl⟩⟩; refine ⟨_, rfl, ?_⟩) | ((with_reducible refine gate_callee (f := 22) rfl ?_); refine goesQ (some 15) Tryd.func22 #[.int .i64 t123] ?_; (with_reducible refine (spec_weCount.calls k t123 t124 _ A4.out).mono ?_); rintro e w' ⟨rfl, ⟨nd, rfl⟩⟩; refine ⟨_, rfl, ?_⟩) | ((with_reducible refine gate_callee (f := 24) rfl ?_); refine goesQ (some 23) Tryd.func24 #[.pointer (some ⟨gb116, 0, none⟩), .int .i64 t124] ?_; (with_reducible refine (spec_l1Cur_pick.calls gb116 l0 t121 t122 t124 t125 t126 t127 w _ ?_ ?_ A5.out).mono ?_); exact st43_0 HI116.out; exact bl43_0 HB.out HI116.out; rintro e w13 ⟨rfl, hi, hb, hk⟩; refine ⟨_, rfl, ?_⟩; replace HO119 := rK (IsS43.apart (show IsS43 w _ gb116 l0 t121 t122 from by exact st43_0 HI116.out) (Kd.R_g HO119.out) (by decide)) hk; replace HI116 := mkA (hi); replace HB := mkA (hb); clear hb hk hi) | ((with_reducible refine gate_callee (f := 24) rfl ?_); refine goesQ (some 26) Tryd.func24 #[.pointer (some ⟨gb116, 0, none⟩), .int .i64 t124] ?_; (with_reducible refine (spec_l1Cur_pick.calls gb116 l0 t126 t127 t124 t128 t129 t130 w _ ?_ ?_ A6.out).mono ?_); exact st43_0 HI116.out; exact bl43_0 HB.out HI116.out; rintro e w14 ⟨rfl, hi, hb, hk⟩; refine ⟨_, rfl, ?_⟩; replace HO119 := rK (IsS43.apart (show IsS43 w _ gb116 l0 t126 t127 from by exact st43_0 HI116.out) (Kd.R_g HO119.out) (by decide)) hk; replace HI116 := mkA (hi); replace HB := mkA (hb); clear hb hk hi) | ((with_reducible refine gate_dst (N := 27) rfl ?_); refine litE (Kd.int .i64) 3 ([0, 1, wrap64 (t124 - 1), t124, (-1), t125, t128] : List Int) [.int .i64 0, .int .i64 1, .int .i64 (wrap64 (t124 - 1)), .int .i64 t124, .int .i64 (-1), .int .i64 t125, .int .i64 t128] ?hp ?_; (case hp => exact (Reps.one (show Kd.M (Kd.int .i64) _ _ _ 0 [.int .i64 0] from rfl) (Reps.one (show Kd.M (Kd.int .i64) _ _ _ 1 [.int .i64 1] from rfl) (Reps.one (show Kd.M (Kd.int .i64) _ _ _ (wrap64 (t124 - 1)) [.int .i64 (wrap64 (t124 - 1))] from rfl) (Reps.one (show Kd.M (Kd.int .i64) _ _ _ t124 [.int .i64 t124] from rfl) (Reps.one (show Kd.M (Kd.int .i64) _ _ _ (-1) [.int .i64 (-1)] from rfl) (Reps.one (show Kd.M (Kd.int .i64) _ _ _ t125 [.int .i64 t125] from rfl) (Reps.one (show Kd.M (Kd.int .i64) _ _ _ t128 [.int .i64 t128] from rfl) (Reps.none _ _))))))))); intro v132 w15 ho16 hb hg_ hnew_; clear hg_ hnew_; (first | rw [← Ny131.out] at ho16 | (simp only [Int.reduceToNat] at ho16; rw [← Ny131.out] at ho16)); have HO133 := mkA (Kd.R_lower (rN ho16 HO119) (below_size (by exact bl43_0 HB.out HI116.out))); replace HO119 := rE HO119 ho16 hb; replace HB := mkA (below_step (by exact bl43_0 HB.out HI116.out) hb); replace HI116 := mkA (IsS43.below (by exact st43_0 HI116.out) hb); clear hb ho16; obtain ⟨Ao17, co17, rfl⟩ := Kd.R_slice HO133.out) | ((with_reducible refine gate_callee (f := 21) rfl ?_); refine goesQ (some 28) Tryd.func21 #[.pointer (some ⟨gb116, 0, none⟩), .slice Ao17 y131.length co17] ?_; (with_reducible refine (spec_l1Cur_among.calls gb116 l0 t129 t130 _ _ y131 t134 t135 t136 w _ ?_ ?_ ?_ ?_ ?_ A7.out).mono ?_); exact st43_0 HI116.out; exact bl43_0 HB.out HI116.out; exact rC HO133; exact rL HO133; exact far_slice (IsS43.own_ne HI116.out HO133.out (by decide)); rintro e w18 ⟨rfl, hi, hb, hk⟩; refine ⟨_, rfl, ?_⟩; replace HO119 := rK (IsS43.apart (show IsS43 w _ gb116 l0 t129 t130 from by exact st43_0 HI116.out) (Kd.R_g HO119.out) (by decide)) hk; replace HO133 := rK (IsS43.apart (show IsS43 w _ gb116 l0 t129 t130 from by exact st43_0 HI116.out) (Kd.R_g HO133.out) (by decide)) hk; replace HI116 := mkA (hi); replace HB := mkA (hb); clear hb hk hi))
 go_ret2
 exact ⟨eqE, by exact bl43_0 HB.out HI116.out⟩
def impl_within.f (a0 : Int) (a1 : Int) (a2 : Int) : Option (Bool) := if a0 ≥ a1 then (some (decide (a0 ≤ a2))) else (some false)
theorem impl_within.calls (a0 : Int) (a1 : Int) (a2 : Int) (r : Bool) (w : World) (h : impl_within.f a0 a1 a2 = some r) :
  Calls Tryd.prog 25 #[.int .i64 a0, .int .i64 a1, .int .i64 a2] w fun e w' => e = .returned (.bool r) ∧ Drawn0 w w' := by
 have H := h
 clear h
 unfold impl_within.f at H
 rcases iteP H with ⟨c4, H⟩ | ⟨c4, H⟩
 ·have c4b0 := decide_eq_true c4
  clear c4
  obtain rfl := Option.some.inj H
  go_enter Tryd.func25, Tryd.ntmps25
  go_wp2
  go_ret
  exact ⟨eqS, drE⟩
 ·have c4b0 := decide_eq_false c4
  clear c4
  obtain rfl := Option.some.inj H
  go_enter Tryd.func25, Tryd.ntmps25
  go_wp2
  go_ret
  exact ⟨eqS, drE⟩
end Go.Proofs.YtfpicdkanmgdoaaDoor.Q
/-
  DERIVED: THE SHELF's CONTRACTS AT THIS DUMP, IN PLAIN WORDS (tools/lay-plain.mjs out of 'YtfpicdkanmgdoaaDoorQShelf.lean', which tools/lay-shelf.mjs wrote): THE SAME DECLARATIONS UNDER THE SAME NAMES: 'import', 'namespace', 'open', 'def', 'theorem' AND NOTHING ELSE: no command of the shelf's: FOR A HAND-IN. Each laying: the table of numbers ('.._ren') and one theorem, a field a fact of the dump's own or the kernel's comparison; each contract: ONE APPLICATION.
-/
namespace Go.Proofs
open Go.Shelf
def Tryd.lays189_ren : Go.Shelf.Ren := ⟨fun | 189 => 66 | 125 => 72 | 257 => 71 | 128 => 82 | 129 => 83 | 294 => 73 | 295 => 74 | 296 => 75 | 297 => 76 | 298 => 77 | 299 => 78 | 216 => 79 | 300 => 80 | 301 => 81 | 328 => 84 | 329 => 85 | 330 => 86 | 331 => 87 | 332 => 88 | 215 => 89 | 343 => 90 | n => n, fun | 28 => 26 | 3 => 3 | 46 => 65 | 0 => 0 | 51 => 74 | 53 => 41 | 4 => 4 | 183 => 82 | 182 => 81 | 131 => 30 | 5 => 5 | 9 => 9 | 218 => 86 | 222 => 90 | 228 => 92 | 229 => 24 | n => n, fun | n => n⟩
theorem Tryd.lays189 : Go.Proofs.Lays.n189 Tryd.prog Tryd.lays189_ren := {
  mixed := by kernel_rfl
  f125 := Tryd.func72.trans (congrArg some (by kernel_rfl))
  f128 := Tryd.func82.trans (congrArg some (by kernel_rfl))
  f129 := Tryd.func83.trans (congrArg some (by kernel_rfl))
  f189 := Tryd.func66.trans (congrArg some (by kernel_rfl))
  f215 := Tryd.func89.trans (congrArg some (by kernel_rfl))
  f216 := Tryd.func79.trans (congrArg some (by kernel_rfl))
  f257 := Tryd.func71.trans (congrArg some (by kernel_rfl))
  f294 := Tryd.func73.trans (congrArg some (by kernel_rfl))
  f295 := Tryd.func74.trans (congrArg some (by kernel_rfl))
  f296 := Tryd.func75.trans (congrArg some (by kernel_rfl))
  f297 := Tryd.func76.trans (congrArg some (by kernel_rfl))
  f298 := Tryd.func77.trans (congrArg some (by kernel_rfl))
  f299 := Tryd.func78.trans (congrArg some (by kernel_rfl))
  f300 := Tryd.func80.trans (congrArg some (by kernel_rfl))
  f301 := Tryd.func81.trans (congrArg some (by kernel_rfl))
  f328 := Tryd.func84.trans (congrArg some (by kernel_rfl))
  f329 := Tryd.func85.trans (congrArg some (by kernel_rfl))
  f330 := Tryd.func86.trans (congrArg some (by kernel_rfl))
  f331 := Tryd.func87.trans (congrArg some (by kernel_rfl))
  f332 := Tryd.func88.trans (congrArg some (by kernel_rfl))
  f343 := Tryd.func90.trans (congrArg some (by kernel_rfl))
  t0 := Tryd.underlying0
  a0 := Tryd.isAgg0
  z0 := Tryd.sizeOf0
  v0 := Tryd.zeroValue0
  t3 := Tryd.underlying3
  a3 := Tryd.isAgg3
  z3 := Tryd.sizeOf3
  v3 := Tryd.zeroValue3
  t4 := Tryd.underlying4
  a4 := Tryd.isAgg4
  z4 := Tryd.sizeOf4
  v4 := Tryd.zeroValue4
  t5 := Tryd.underlying5
  a5 := Tryd.isAgg5
  z5 := Tryd.sizeOf5
  v5 := Tryd.zeroValue5
  t9 := Tryd.underlying9
  a9 := Tryd.isAgg9
  z9 := Tryd.sizeOf9
  v9 := Tryd.zeroValue9
  t28 := Tryd.underlying26
  a28 := Tryd.isAgg26
  z28 := Tryd.sizeOf26
  v28 := Tryd.zeroValue26
  t46 := Tryd.underlying65
  a46 := Tryd.isAgg65
  z46 := Tryd.sizeOf65
  v46 := Tryd.zeroValue65
  t51 := Tryd.underlying74
  a51 := Tryd.isAgg74
  z51 := Tryd.sizeOf74
  v51 := Tryd.zeroValue74
  t53 := Tryd.underlying41
  a53 := Tryd.isAgg41
  z53 := Tryd.sizeOf41
  v53 := Tryd.zeroValue41
  t131 := Tryd.underlying30
  a131 := Tryd.isAgg30
  z131 := Tryd.sizeOf30
  v131 := Tryd.zeroValue30
  t182 := Tryd.underlying81
  a182 := Tryd.isAgg81
  z182 := Tryd.sizeOf81
  v182 := Tryd.zeroValue81
  t183 := Tryd.underlying82
  a183 := Tryd.isAgg82
  z183 := Tryd.sizeOf82
  v183 := Tryd.zeroValue82
  t218 := Tryd.underlying86
  a218 := Tryd.isAgg86
  z218 := Tryd.sizeOf86
  v218 := Tryd.zeroValue86
  t222 := Tryd.underlying90
  a222 := Tryd.isAgg90
  z222 := Tryd.sizeOf90
  v222 := Tryd.zeroValue90
  t228 := Tryd.underlying92
  a228 := Tryd.isAgg92
  z228 := Tryd.sizeOf92
  v228 := Tryd.zeroValue92
  t229 := Tryd.underlying24
  a229 := Tryd.isAgg24
  z229 := Tryd.sizeOf24
  v229 := Tryd.zeroValue24 }
open Go.Sort Go.RowKit in
theorem Tryd.slices_Sort_int (blk off cap : Nat) (zs : List Int) (w : World) (hH : Holds (Value.int .i64) w blk off zs.toArray) (hblk : blk < w.heap.size) (hsz : zs.length < 4611686018427387904) :
    Calls Tryd.prog 66 #[.slice (some ⟨blk, off, none⟩) zs.length cap] w fun e w' =>
      e = .returned (.tuple #[]) ∧ ∃ n os, w' = grow (putRow (Value.int .i64) (Sort.ahead w n) blk off (zs.mergeSort fun x y => decide (x ≤ y)).toArray) os := Any.slices_Sort_int Tryd.lays189 blk off cap zs w hH hblk hsz
def Tryd.laysNm220_ren : Go.Shelf.Ren := ⟨fun | 20 => 58 | n => n, fun | 22 => 26 | 3 => 3 | 4 => 4 | 0 => 0 | n => n, fun | n => n⟩
theorem Tryd.laysNm220 : Go.Proofs.Lays2.n20 Tryd.prog Tryd.laysNm220_ren := {
  mixed := by kernel_rfl
  f20 := Tryd.func58.trans (congrArg some (by kernel_rfl))
  t0 := Tryd.underlying0
  a0 := Tryd.isAgg0
  z0 := Tryd.sizeOf0
  v0 := Tryd.zeroValue0
  t3 := Tryd.underlying3
  a3 := Tryd.isAgg3
  z3 := Tryd.sizeOf3
  v3 := Tryd.zeroValue3
  t4 := Tryd.underlying4
  a4 := Tryd.isAgg4
  z4 := Tryd.sizeOf4
  v4 := Tryd.zeroValue4
  t22 := Tryd.underlying26
  a22 := Tryd.isAgg26
  z22 := Tryd.sizeOf26
  v22 := Tryd.zeroValue26
  i3 := by kernel_rfl }
open Go.RowKit Go.Lib Go.Sort in
theorem Tryd.slices_Compact_int (blk off cap : Nat) (zs : List Int) (w : World) (hH : Holds (Value.int .i64) w blk off zs.toArray) (hsz : zs.length ≤ 9223372036854775807) (hcap : zs.length ≤ cap) :
    Calls Tryd.prog 58 #[.slice (some ⟨blk, off, none⟩) zs.length cap] w fun e w' => e = .returned (.slice (some ⟨blk, off, none⟩) (Lib.compact zs).length cap) ∧ ∃ q, w' = putRow (Value.int .i64) (Sort.ahead w q) blk off (Lib.compact zs ++ List.replicate (zs.length - (Lib.compact zs).length) 0).toArray := Any.slices_Compact_int Tryd.laysNm220 blk off cap zs w hH hsz hcap
open Go.RowKit Go.Lib Go.Sort in
theorem Tryd.slices_Compact_int_empty (a : Option Addr) (cap : Nat) (w : World) :
    Calls Tryd.prog 58 #[.slice a 0 cap] w fun e w' => e = .returned (.slice a 0 cap) ∧ w' = w := Any.slices_Compact_int_empty Tryd.laysNm220 a cap w
open Go.RowKit Go.Sort in
theorem Tryd.slices_Sort_int_none (p : Option Addr) (cap : Nat) (w : World) :
    Calls Tryd.prog 66 #[.slice p 0 cap] w fun e w' => e = .returned (.tuple #[]) ∧ w' = w := Any.slices_Sort_int_none Tryd.lays189 p cap w
end Go.Proofs
