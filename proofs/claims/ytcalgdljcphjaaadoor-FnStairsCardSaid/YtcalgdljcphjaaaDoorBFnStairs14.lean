import Derived.WalkSpells
import Derived.Test.YtcalgdljcphjaaaDoorBFnStairs1
namespace Go.Proofs.YtcalgdljcphjaaaDoor.Q
open Go.RowKit Go.Proofs.YtcalgdljcphjaaaDoorW.PrintWords Go.Proofs.YtcalgdljcphjaaaDoorW.PrintLast Go.Proofs.YtcalgdljcphjaaaDoorW.PrintMore
attribute [local go_sem] max2_int min2_int max_two min_two max_three min_three max_four min_four neB_f
set_option linter.unusedVariables false
set_option maxHeartbeats 8000000
set_option maxRecDepth 100000
set_option linter.unusedSimpArgs false
def spec_DrawStairsOf.f (l0 : List Int) : Option (Int) := (spec_l1Cur_among.f l0 0 0 (([0, 1, 2, 3, 4, 5, 6, 7, (-1)] : List Int))).bind fun bt471 => (some bt471.1)
theorem spec_DrawStairsOf.calls (A0 : Option Addr) (c0 : Nat) (l0 : List Int) (r : Int) (w : World) (hr0 : Kd.C (Kd.int .u8) w A0 l0.length l0) (hc0 : l0.length ≤ c0) (h : spec_DrawStairsOf.f l0 = some r) :
  Calls Tryd.prog 16 #[.slice A0 l0.length c0] w fun e w' => e = .returned (.int .i64 r) ∧ Below w.heap.size w w' := by
 have hu56 := Tryd.underlying56
 have HR0 := mkA hr0
 have HC0 := mkA hc0
 clear hr0 hc0
 have HB := mkA (Below.refl w.heap.size w)
 have H := h
 clear h
 unfold spec_DrawStairsOf.f at H
 obtain ⟨y468, hy468⟩ : ∃ y_ : List Int, y_ = (([0, 1, 2, 3, 4, 5, 6, 7, (-1)] : List Int)) := ⟨_, rfl⟩
 rw [← hy468] at H
 have Ny468 := mkA hy468
 clear hy468
 obtain ⟨⟨t471, t472, t473⟩, A2, H⟩ := obE H
 dsimp only at H
 obtain rfl := Option.some.inj H
 go_enter Tryd.func16, Tryd.ntmps16
 go_wp2_with (first | ((with_reducible refine gate_dst (N := 6) rfl ?_); refine boxE (N := 6) (cs := #[.slice A0 l0.length c0, .int .i64 0, .int .u64 0]) (t := 56) ?_; intro gb467 hg w3 hbox hb; have HI467 := mkA ((⟨_, _, hbox, (by rw [hg]; exact (below_size (bel_g HB.out))), HR0.out⟩ : IsS56 w w3 gb467 l0 0 0)); have GE467 := geB HB hg; replace HB := bst HB hb; clear hb hbox hg) | ((with_reducible refine gate_dst (N := 8) rfl ?_); refine litE (Kd.int .i64) 3 ([0, 1, 2, 3, 4, 5, 6, 7, (-1)] : List Int) [.int .i64 0, .int .i64 1, .int .i64 2, .int .i64 3, .int .i64 4, .int .i64 5, .int .i64 6, .int .i64 7, .int .i64 (-1)] ?hp ?_; (case hp => exact (Reps.one (show Kd.M (Kd.int .i64) _ _ _ 0 [.int .i64 0] from rfl) (Reps.one (show Kd.M (Kd.int .i64) _ _ _ 1 [.int .i64 1] from rfl) (Reps.one (show Kd.M (Kd.int .i64) _ _ _ 2 [.int .i64 2] from rfl) (Reps.one (show Kd.M (Kd.int .i64) _ _ _ 3 [.int .i64 3] from rfl) (Reps.one (show Kd.M (Kd.int .i64) _ _ _ 4 [.int .i64 4] from rfl) (Reps.one (show Kd.M (Kd.int .i64) _ _ _ 5 [.int .i64 5] from rfl) (Reps.one (show Kd.M (Kd.int .i64) _ _ _ 6 [.int .i64 6] from rfl) (Reps.one (show Kd.M (Kd.int .i64) _ _ _ 7 [.int .i64 7] from rfl) (Reps.one (show Kd.M (Kd.int .i64) _ _ _ (-1) [.int .i64 (-1)] from rfl) (Reps.none _ _))))))))))); intro v469 w4 ho5 hb hg_ hnew_; clear hg_ hnew_; (first | rw [← Ny468.out] at ho5 | (simp only [Int.reduceToNat] at ho5; rw [← Ny468.out] at ho5)); have HO470 := mkA (Kd.R_lower ho5 (below_size (by exact bl56_0 HB.out HI467.out))); replace HB := mkA (below_step (by exact bl56_0 HB.out HI467.out) hb); replace HI467 := mkA (IsS56.below (by exact st56_0 HI467.out) hb); clear hb ho5; obtain ⟨Ao6, co6, rfl⟩ := Kd.R_slice HO470.out) | ((with_reducible refine gate_callee (f := 35) rfl ?_); refine goesQ (some 9) Tryd.func35 #[.pointer (some ⟨gb467, 0, none⟩), .slice Ao6 y468.length co6] ?_; (with_reducible refine (spec_l1Cur_among.calls gb467 l0 0 0 _ _ y468 t471 t472 t473 w _ ?_ ?_ ?_ ?_ ?_ A2.out).mono ?_); exact st56_0 HI467.out; exact bl56_0 HB.out HI467.out; exact rC HO470; exact rL HO470; exact far_slice (IsS56.own_ne HI467.out HO470.out (by decide)); rintro e w7 ⟨rfl, hi, hb, hk⟩; refine ⟨_, rfl, ?_⟩; replace HO470 := rK (IsS56.apart (show IsS56 w _ gb467 l0 0 0 from by exact st56_0 HI467.out) (Kd.R_g HO470.out) (by decide)) hk; replace HI467 := mkA (hi); replace HB := mkA (hb); clear hb hk hi))
 go_ret
 exact ⟨eqE, by exact bl56_0 HB.out HI467.out⟩
def slices_Clone_int_int.f (l0 : List Int) : Option (List Int) := if l0.length < 17592186044416 then (some l0) else none
theorem slices_Clone_int_int.calls (A0 : Option Addr) (c0 : Nat) (l0 : List Int) (r : List Int) (w : World) (hr0 : Kd.C (Kd.int .i64) w A0 l0.length l0) (hc0 : l0.length ≤ c0) (h : slices_Clone_int_int.f l0 = some r) :
  Calls Tryd.prog 52 #[.slice A0 l0.length c0] w fun e w' => ∃ v0_ : Value, e = .returned (v0_) ∧ Kd.R (Kd.int .i64) 3 w' w.heap.size (fun _ => True) v0_ r ∧ Below w.heap.size w w' := by
 have hlen : l0.length < 17592186044416 := by
  unfold slices_Clone_int_int.f at h
  split at h
  ·assumption
  ·cases h
 obtain rfl : l0 = r := by
  unfold slices_Clone_int_int.f at h
  rw [if_pos hlen] at h
  exact Option.some.inj h
 clear h
 by_cases hA : A0 = none
 ·subst hA
  obtain rfl : l0 = [] := by
   cases l0 with
   | nil => rfl
   | cons a t =>
    obtain ⟨ad, h, _⟩ := hr0.2.2 (by simp)
    cases h
  clear hr0 hlen
  have hq := fun (w : World) => Lib.run_eql_slice_nil (P := Tryd.prog) w 24 3 none 0 c0 0 0 Tryd.underlying24
  go_enter Tryd.func52, Tryd.ntmps52
  go_wp2
  go_ret
  exact ⟨_, rfl, Kd.R_nil _ _ _ _ _, Below.refl _ _⟩
 ·obtain ⟨ad, rfl⟩ : ∃ ad, A0 = some ad := by
   cases A0 with
   | none => exact absurd rfl hA
   | some ad => exact ⟨ad, rfl⟩
  clear hA
  have HR0 := mkA hr0
  have HC0 := mkA hc0
  have LMc2 := mkA hlen
  clear hr0 hc0 hlen
  have HB := mkA (Below.refl w.heap.size w)
  obtain ⟨y307, hy307⟩ : ∃ y_ : List Int, y_ = (([] : List Int) ++ l0) := ⟨_, rfl⟩
  have Ny307 := mkA hy307
  clear hy307
  have hq := fun (w : World) => Lib.run_eql_slice_nil (P := Tryd.prog) w 24 3 (some ad) l0.length c0 0 0 Tryd.underlying24
  go_enter Tryd.func52, Tryd.ntmps52
  go_wp2_with (first | ((with_reducible refine gate_dst (N := 5) rfl ?_); refine litE (Kd.int .i64) 3 ([] : List Int) [] ?hp ?_; (case hp => exact (Reps.none _ _)); intro v305 w3 ho4 hb hg_ hnew_; clear hg_ hnew_; have HO306 := rLo ho4 HB; replace HB := bst HB hb; clear hb ho4) | ((with_reducible refine gate_builtin (b := .append) (xs := #[.tmp 5, .tmp 6]) rfl ?_); at_builtin; refine Kd.R_append_rows (Kd.int .i64) (w0 := w) w.heap.size rfl (.tmp 5) (.tmp 6) 24 3 (.int .i64 0) 8 rfl Tryd.underlying24 info3 rfl (by decide) (by omega) v305 ([] : List Int) l0 _ _ _ (fun _ => True) (fun _ => False) rfl rfl ?aO ?aR (fun _ _ h => h) (fun _ h => h.elim) ?aF ?aB ?aS ?aL ?_; (case aR => exact C_g HR0 HB); (case aB => exact (bel_g HB.out)); (case aF => exact (fun _ _ => trivial)); (case aO => exact (Kd.R_g HO306.out)); (case aS => exact (below_size (bel_g HB.out))); (case aL => have := LMc2.out; simp only [List.length_nil]; omega); intro v308 w5 ho hb hg hat; rw [← Ny307.out] at ho; have HO309 := mkA (ho); replace HB := mkA (hb); clear HO306; clear ho hb hg hat))
  go_ret
  obtain rfl : y307 = l0 := Ny307.out
  exact ⟨_, rfl, Kd.R_g HO309.out, bel_g HB.out⟩
end Go.Proofs.YtcalgdljcphjaaaDoor.Q
