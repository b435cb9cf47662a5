import Derived.WalkSpells
import Derived.Test.YtokeomcijelbmaaDoorBFnFourRefuse0
namespace Go.Proofs.YtokeomcijelbmaaDoor.Q
open Go.RowKit Go.Proofs.YtokeomcijelbmaaDoorW.PrintWords Go.Proofs.YtokeomcijelbmaaDoorW.PrintLast Go.Proofs.YtokeomcijelbmaaDoorW.PrintMore
attribute [local go_sem] max2_int min2_int max_two min_two max_three min_three max_four min_four neB_f
set_option linter.unusedVariables false
set_option maxHeartbeats 8000000
set_option maxRecDepth 100000
set_option linter.unusedSimpArgs false
def slices_Clone_int_int.f (l0 : List Int) : Option (List Int) := if l0.length < 17592186044416 then (some l0) else none
theorem slices_Clone_int_int.calls (A0 : Option Addr) (c0 : Nat) (l0 : List Int) (r : List Int) (w : World) (hr0 : Kd.C (Kd.int .i64) w A0 l0.length l0) (hc0 : l0.length ≤ c0) (h : slices_Clone_int_int.f l0 = some r) :
  Calls Tryd.prog 45 #[.slice A0 l0.length c0] w fun e w' => ∃ v0_ : Value, e = .returned (v0_) ∧ Kd.R (Kd.int .i64) 3 w' w.heap.size (fun _ => True) v0_ r ∧ Below w.heap.size w w' := by
 have hlen : l0.length < 17592186044416 := by
  unfold slices_Clone_int_int.f at h
  split at h
  ·assumption
  ·cases h
 obtain rfl : l0 = r := by
  unfold slices_Clone_int_int.f at h
  rw [if_pos hlen] at h
  exact Option.some.inj h
 clear h
 by_cases hA : A0 = none
 ·subst hA
  obtain rfl : l0 = [] := by
   cases l0 with
   | nil => rfl
   | cons a t =>
    obtain ⟨ad, h, _⟩ := hr0.2.2 (by simp)
    cases h
  clear hr0 hlen
  have hq := fun (w : World) => Lib.run_eql_slice_nil (P := Tryd.prog) w 24 3 none 0 c0 0 0 Tryd.underlying24
  go_enter Tryd.func45, Tryd.ntmps45
  go_wp2
  go_ret
  exact ⟨_, rfl, Kd.R_nil _ _ _ _ _, Below.refl _ _⟩
 ·obtain ⟨ad, rfl⟩ : ∃ ad, A0 = some ad := by
   cases A0 with
   | none => exact absurd rfl hA
   | some ad => exact ⟨ad, rfl⟩
  clear hA
  have HR0 := mkA hr0
  have HC0 := mkA hc0
  have LMc2 := mkA hlen
  clear hr0 hc0 hlen
  have HB := mkA (Below.refl w.heap.size w)
  obtain ⟨y307, hy307⟩ : ∃ y_ : List Int, y_ = (([] : List Int) ++ l0) := ⟨_, rfl⟩
  have Ny307 := mkA hy307
  clear hy307
  have hq := fun (w : World) => Lib.run_eql_slice_nil (P := Tryd.prog) w 24 3 (some ad) l0.length c0 0 0 Tryd.underlying24
  go_enter Tryd.func45, Tryd.ntmps45
  go_wp2_with (first | ((with_reducible refine gate_dst (N := 5) rfl ?_); refine litE (Kd.int .i64) 3 ([] : List Int) [] ?hp ?_; (case hp => exact (Reps.none _ _)); intro v305 w3 ho4 hb hg_ hnew_; clear hg_ hnew_; have HO306 := rLo ho4 HB; replace HB := bst HB hb; clear hb ho4) | ((with_reducible refine gate_builtin (b := .append) (xs := #[.tmp 5, .tmp 6]) rfl ?_); at_builtin; refine Kd.R_append_rows (Kd.int .i64) (w0 := w) w.heap.size rfl (.tmp 5) (.tmp 6) 24 3 (.int .i64 0) 8 rfl Tryd.underlying24 info3 rfl (by decide) (by omega) v305 ([] : List Int) l0 _ _ _ (fun _ => True) (fun _ => False) rfl rfl ?aO ?aR (fun _ _ h => h) (fun _ h => h.elim) ?aF ?aB ?aS ?aL ?_; (case aR => exact C_g HR0 HB); (case aB => exact (bel_g HB.out)); (case aF => exact (fun _ _ => trivial)); (case aO => exact (Kd.R_g HO306.out)); (case aS => exact (below_size (bel_g HB.out))); (case aL => have := LMc2.out; simp only [List.length_nil]; omega); intro v308 w5 ho hb hg hat; rw [← Ny307.out] at ho; have HO309 := mkA (ho); replace HB := mkA (hb); clear HO306; clear ho hb hg hat))
  go_ret
  obtain rfl : y307 = l0 := Ny307.out
  exact ⟨_, rfl, Kd.R_g HO309.out, bel_g HB.out⟩
end Go.Proofs.YtokeomcijelbmaaDoor.Q
