-- printed by this project's own program (wip/mp/mp.py) over the kit's print, for this seat; Lean checks it
import Derived.Test.YtmdldleodieooaaQx0
import Derived.Test.YtmdldleodieooaaQLawsMarkints
import Derived.Test.YtmdldleodieooaaQLawsMarkints
namespace Go.Proofs.Ytmdldleodieooaa.Q
open Go.RowKit Go.Proofs.YtmdldleodieooaaW.PrintWords Go.Proofs.YtmdldleodieooaaW.PrintLast Go.Proofs.YtmdldleodieooaaW.PrintMore
attribute [local go_sem] max2_int min2_int max_two min_two max_three min_three max_four min_four   -- for this text's walks alone
set_option linter.unusedVariables false
set_option maxHeartbeats 8000000
set_option maxRecDepth 100000
set_option linter.unusedSimpArgs false

/-! ### laws_markIntSS: function 7 -/
-- rows of rows are marked row by row: each row is lent to markIntS and put back
def laws_markIntSS.l0 : Nat → List (List Int) → Int → Int → Option (Int × List (List Int))
 | 0, _, _, _ => none
 | k + 1, x0, x1, x5 => if x5 < (x0.length : Int) then (if 0 ≤ x5 then ((laws_markIntS.f k (x0.getD x5.toNat []) x1).bind fun b => laws_markIntSS.l0 k (x0.set x5.toNat b.2) b.1 (wrap64 (x5 + 1))) else none) else some (x1, x0)
def laws_markIntSS.f (k : Nat) (l0 : List (List Int)) (a1 : Int) : Option Int := (laws_markIntSS.l0 k l0 a1 0).bind fun b => some b.1
theorem laws_markIntSS.mono_l : ∀ k, (∀ y0 y1 y2, LeO (laws_markIntSS.l0 k y0 y1 y2) (laws_markIntSS.l0 (k + 1) y0 y1 y2))
 | 0 => fun _ _ _ r h => by simp [laws_markIntSS.l0] at h
 | k + 1 => by
  have ih0 := laws_markIntSS.mono_l k
  intro y0 y1 y2
  unfold laws_markIntSS.l0
  repeat' first
   | exact ih0 _ _ _
   | exact laws_markIntS.mono _ _ _
   | exact LeO.refl _
   | exact LeO.none _
   | refine LeO.ite ?_ ?_
   | refine LeO.bind ?_ (fun _ => ?_)
theorem laws_markIntSS.mono : ∀ a0 a1 k, LeO (laws_markIntSS.f k a0 a1) (laws_markIntSS.f (k + 1) a0 a1) := by
 intro a0 a1 k
 unfold laws_markIntSS.f
 exact LeO.bind (laws_markIntSS.mono_l k _ _ _) (fun _ => LeO.refl _)
theorem laws_markIntSS.calls (k : Nat) (P0_ : Nat → Prop) (u9000_ : Value) (l0 : List (List Int)) (a1 : Int) (r1 : Int) (w0 w : World) (hB : Below w0.heap.size w0 w) (ho0 : Kd.S (Kd.slice 3 (Kd.int .i64)) 29 w w0.heap.size P0_ u9000_ l0) (h : laws_markIntSS.f k l0 a1 = some r1) :
  Calls Try.prog 7 #[u9000_, .int .i64 a1] w fun e w' => e = .returned (.int .i64 r1) ∧ Below w0.heap.size w0 w' ∧ Kept w w' (fun k_ => P0_ k_) := by
 obtain ⟨⟨r1', r2⟩, hq, h2⟩ := Option.bind_eq_some_iff.mp h
 clear h
 obtain rfl : r1' = r1 := Option.some.inj h2
 clear h2
 have HO0 := mkA (show Kd.S (Kd.slice 3 (Kd.int .i64)) 29 w w0.heap.size (fun k_ => (P0_ k_ ∨ w.heap.size ≤ k_)) u9000_ l0 from Kd.S_mono ho0 (fun k_ hk => (.inl hk)))
 have HK := mkA (Kept.refl w (fun k_ => P0_ k_))
 have HW0 := mkA hB.size
 have HB := mkA hB
 clear hB ho0
 have H' : Fc ((laws_markIntSS.l0 k l0 a1 0) = some (r1', r2)) := ⟨hq⟩
 clear hq
 go_enter Try.func7, Try.ntmps7
 go_wp2
 go_loopg [1, 5] k (fun kq v1 v5 w' => ∃ (x0_1 : List (List Int)) (x1_1 : Int) (x5_1 : Int), v1 = .int .i64 x1_1 ∧ v5 = .int .i64 x5_1 ∧ Fc (laws_markIntSS.l0 kq x0_1 x1_1 x5_1 = some (r1', r2)) ∧ Fc (kq ≤ k) ∧ Fc (Kd.S (Kd.slice 3 (Kd.int .i64)) 29 w' w0.heap.size (fun k_ => (P0_ k_ ∨ w.heap.size ≤ k_)) u9000_ x0_1) ∧ Fc (Kept w w' (fun k_ => P0_ k_)) ∧ Fc (Below w0.heap.size w0 w'))
 case atStart => exact ⟨l0, a1, 0, rfl, rfl, H', ⟨Nat.le_refl _⟩, HO0, HK, HB⟩
 case round =>
  clear H'
  obtain ⟨x0_1, x1_1, x5_1, rfl, rfl, HA, HK1, HO_0, HK, HB⟩ := hrel
  cases gk with
  | zero => exact absurd HA.out (by simp [laws_markIntSS.l0])
  | succ k1 =>
   have H := HA.out
   clear HA
   simp only [laws_markIntSS.l0] at H
   rcases iteP H with ⟨c3, H⟩ | ⟨c3, H⟩
   ·have c3b0 := decide_eq_true c3
    obtain ⟨c4, H⟩ := itNP H
    have c4b0 := decide_eq_true c4
    obtain ⟨⟨b1, b2⟩, hb, H⟩ := Option.bind_eq_some_iff.mp H
    have H' := mkA H
    clear H
    obtain ⟨go5, co5, rfl, gb5, gl5, cl5, HG5⟩ := Kd.S_form HO_0.out (by omega)
    obtain ⟨oki, cs, hcs, hM, hcell, hoki, hH⟩ := Kd.S_lend HO_0.out [] x5_1 c4 c3
    obtain ⟨u5, rfl, hR5⟩ := hM
    have hx5_0 : wr.cell? ⟨go5, x5_1.toNat, none⟩ = some u5 := by simpa [Kd.slice] using hcell 0 u5 rfl
    have HR5 := mkA hR5
    have HB5 := mkA hb
    have HOK := mkA hoki
    have HH := mkA (Kd.H_widen hH)
    have HX := mkA HK.out.1
    clear hR5 hb hoki hH hcell hcs gb5 gl5 HG5 HO_0
    have p5 := eq_true c4
    have q5 := eq_true c3
    clear c3 c4
    go_wp2_with (first | ((with_reducible refine gate_callee (f := 15) rfl ?_); refine goesL_ (some 17) rfl rfl Try.func15 (by kernel_rfl) rfl #[u5, .int .i64 x1_1] rfl (by (try simp only [List.map_toArray, List.map_cons, List.map_nil]); first | done | rfl) ?_; (with_reducible refine (laws_markIntS.calls k1 _ _ _ x1_1 b1 b2 _ _ HB.out HR5.out HB5.out).mono ?_); rintro e w9 ⟨rfl, hr9, hb9, hk9⟩; refine ⟨_, rfl, ?_⟩))
    go_roundg k1
    case measure => have := HK1.out; omega
    case rel =>
     refine ⟨_, _, _, rfl, rfl, H', ⟨by have := HK1.out; omega⟩, ⟨?_⟩, ⟨?_⟩, ⟨hb9⟩⟩
     ·exact Kd.H_back (Kd.H_kept HH.out hk9 (fun k_ _ hn h2 => hn (.inl h2))) (okp := fun k_ => oki k_ ∨ wr.heap.size ≤ k_) ⟨u5, rfl, hr9⟩ (fun k_ hk => hk.elim .inl (fun h2 => .inr ⟨.inr (Nat.le_trans HX.out h2), h2⟩))
     ·exact HK.out.then_ hk9 (fun k_ hk => (HOK.out k_ hk).1)
   ·have c3b0 := decide_eq_false c3
    clear c3
    simp only [Option.some.injEq, Prod.mk.injEq] at H
    obtain ⟨rfl, rfl⟩ := H
    obtain ⟨Ao9, co9, rfl⟩ := Kd.S_slice HO_0.out
    go_wp2
    go_ret
    exact ⟨rfl, HB.out, HK.out⟩


end Go.Proofs.Ytmdldleodieooaa.Q
