import Derived.Test.YtdpmoehmbjmkpaaDoorBFnPatterns0
namespace Go.Proofs.YtdpmoehmbjmkpaaDoor.Q
open Go.RowKit Go.Proofs.YtdpmoehmbjmkpaaDoorW.PrintWords Go.Proofs.YtdpmoehmbjmkpaaDoorW.PrintLast Go.Proofs.YtdpmoehmbjmkpaaDoorW.PrintMore
attribute [local go_sem] max2_int min2_int max_two min_two max_three min_three max_four min_four neB_f
set_option linter.unusedVariables false
set_option maxHeartbeats 8000000
set_option maxRecDepth 100000
set_option linter.unusedSimpArgs false
def spec_l1Least.f (a0 : Int) (a1 : Int) : Option (Int) := if a0 < a1 then (some a0) else (some a1)
theorem spec_l1Least.calls (a0 : Int) (a1 : Int) (r : Int) (w : World) (h : spec_l1Least.f a0 a1 = some r) :
  Calls Tryd.prog 21 #[.int .i64 a0, .int .i64 a1] w fun e w' => e = .returned (.int .i64 r) ∧ Drawn0 w w' := by
 have H := h
 clear h
 unfold spec_l1Least.f at H
 rcases iteE H with ⟨c3b0, H⟩ | ⟨c3b0, H⟩
 ·obtain rfl := Option.some.inj H
  go_enter Tryd.func21, Tryd.ntmps21
  go_wp2
  go_ret
  exact ⟨eqS, drE⟩
 ·obtain rfl := Option.some.inj H
  go_enter Tryd.func21, Tryd.ntmps21
  go_wp2
  go_ret
  exact ⟨eqS, drE⟩
def spec_orUpTo.l0 : Nat → Int → List Int → Int → Option (List Int)
 | 0, _, _, _ => none
 | k + 1, x0, x3, x4 => if x4 < x0 then (if x3.length < 17592186044416 then (spec_orUpTo.l0 k x0 (x3 ++ [x4]) (wrap64 (x4 + 1))) else (none)) else (some x3)
def spec_orUpTo.f (k : Nat) (a0 : Int) : Option (List Int) := spec_orUpTo.l0 k a0 ([] : List Int) 0
theorem spec_orUpTo.mono_l : ∀ k, (∀ y0 y1 y2, LeO (spec_orUpTo.l0 k y0 y1 y2) (spec_orUpTo.l0 (k + 1) y0 y1 y2))
 | 0 => fun _ _ _ r h => by simp [spec_orUpTo.l0] at h
 | k + 1 => by
  have ih0 := spec_orUpTo.mono_l k
  ·intro y0 y1 y2
   unfold spec_orUpTo.l0
   repeat' (with_reducible first|apply ih0|apply LeO.refl|apply LeO.none|apply LeO.ite|apply LeO.bind|intro)
theorem spec_orUpTo.mono : ∀ a0 k, LeO (spec_orUpTo.f k a0) (spec_orUpTo.f (k + 1) a0) := by
 intro a0 k
 have ih0 := spec_orUpTo.mono_l k
 unfold spec_orUpTo.f
 repeat' (with_reducible first|apply ih0|apply LeO.refl|apply LeO.none|apply LeO.ite|apply LeO.bind|intro)
theorem spec_orUpTo.calls (k : Nat) (a0 : Int) (r : List Int) (w : World) (h : spec_orUpTo.f k a0 = some r) :
  Calls Tryd.prog 35 #[.int .i64 a0] w fun e w' => ∃ v0_ : Value, e = .returned (v0_) ∧ Kd.R (Kd.int .i64) 3 w' w.heap.size (fun _ => True) v0_ r ∧ Below w.heap.size w w' := by
 have HB := mkA (Below.refl w.heap.size w)
 have H := h
 clear h
 unfold spec_orUpTo.f at H
 have H' := mkA H
 clear H
 go_enter Tryd.func35, Tryd.ntmps35
 go_wp2
 go_loopg [3, 4] k (fun kq v3 v4 w' => ∃ (x3_1 : List Int) (x4_1 : Int), v4 = .int .i64 x4_1 ∧ Fc (spec_orUpTo.l0 kq a0 x3_1 x4_1 = some r) ∧ Fc (kq ≤ k) ∧ Fc (Kd.R (Kd.int .i64) 3 w' w.heap.size (fun _ => True) v3 x3_1) ∧ Fc (Below w.heap.size w w'))
 case atStart => exact ⟨(([] : List Int)), (0), eqS, H', ⟨Nat.le_refl _⟩, ⟨nilE⟩, hbg HB⟩
 case round =>
  clear H'
  obtain ⟨x3_1, x4_1, rfl, HA, HK1, HO_3, HB⟩ := hrel
  cases gk with
  | zero => exact absurd HA.out (by simp [spec_orUpTo.l0])
  | succ k1 =>
   have H := HA.out
   clear HA
   simp only [spec_orUpTo.l0] at H
   rcases iteE H with ⟨c2b0, H⟩ | ⟨c2b0, H⟩
   ·obtain ⟨c3, H⟩ := itNP H
    have LMc3 := mkA c3
    clear c3
    obtain ⟨y234, hy234⟩ : ∃ y_ : List Int, y_ = (x3_1 ++ [x4_1]) := ⟨_, rfl⟩
    rw [← hy234] at H
    have Ny234 := mkA hy234
    clear hy234
    have H' := mkA H
    clear H
    go_wp2_with (first | ((with_reducible refine gate_builtin (b := .append) (xs := #[.tmp 10, .tmp 12]) rfl ?_); at_builtin; refine Kd.R_append (Kd.int .i64) (w0 := w) w.heap.size rfl (.tmp 10) (.tmp 12) 24 3 (.int .i64 0) 8 rfl Tryd.underlying24 info3 rfl (by decide) (by omega) u3 x3_1 x4_1 [.int .i64 x4_1] (fun _ => True) (fun _ => False) rfl rfl ?aP (fun _ hk => hk.elim) ?aF ?aO ?aB ?aS ?aL ?_; (case aP => exact rfl); (case aB => exact (bel_g HB.out)); (case aF => exact (fun _ _ => trivial)); (case aO => exact (Kd.R_g HO_3.out)); (case aS => exact (below_size (bel_g HB.out))); (case aL => have := LMc3.out; omega); intro v235 w4 ho hb hg hat; rw [← Ny234.out] at ho; have HO236 := mkA (ho); replace HB := mkA (hb); clear HO_3; clear ho hb hg hat))
    go_roundg k1
    case measure => have := HK1.out; omega
    case rel => exact ⟨(y234), (wrap64 (x4_1 + 1)), eqS, H', ⟨by have := HK1.out; omega⟩, rg HO236, hbg HB⟩
   ·obtain rfl := Option.some.inj H
    go_wp2
    go_ret
    exact ⟨_, eqE, Kd.R_g HO_3.out, bel_g HB.out⟩
end Go.Proofs.YtdpmoehmbjmkpaaDoor.Q
