-- printed by this project's own program (wip/mp/mp.py) over the kit's print, for this seat; Lean checks it
import Derived.Test.YtmdldleodieooaaQx0
import Derived.Test.YtmdldleodieooaaQSpecListascents
import Derived.Test.YtmdldleodieooaaQImplListascents
import Derived.Test.YtmdldleodieooaaQLawsEqintss
import Derived.Test.YtmdldleodieooaaQLawsMarkints
import Derived.Test.YtmdldleodieooaaQLawsMarkintss
import Derived.Test.YtmdldleodieooaaQLawsHeldintss
import Derived.Test.YtmdldleodieooaaQLawsMarkints
import Derived.Test.YtmdldleodieooaaQLawsMarkintss
import Derived.Test.YtmdldleodieooaaQLawsEqintss
import Derived.Test.YtmdldleodieooaaQLawsHeldintss
import Derived.Test.YtmdldleodieooaaQImplListascents
import Derived.Test.YtmdldleodieooaaQSpecListascents
namespace Go.Proofs.Ytmdldleodieooaa.Q
open Go.RowKit Go.Proofs.YtmdldleodieooaaW.PrintWords Go.Proofs.YtmdldleodieooaaW.PrintLast Go.Proofs.YtmdldleodieooaaW.PrintMore
attribute [local go_sem] max2_int min2_int max_two min_two max_three min_three max_four min_four   -- for this text's walks alone
set_option linter.unusedVariables false
set_option maxHeartbeats 8000000
set_option maxRecDepth 100000
set_option linter.unusedSimpArgs false

/-! ### laws_FnExactListAscents: function 3 -/
theorem laws_markIntSS.kept (k : Nat) (P0_ : Nat → Prop) (u9000_ : Value) (l0 : List (List Int)) (a1 : Int) (r1' : Int) (r2 : List (List Int)) (w0 w : World) (hB : Below w0.heap.size w0 w) (ho0 : Kd.S (Kd.slice 3 (Kd.int .i64)) 29 w w0.heap.size P0_ u9000_ l0) (h : laws_markIntSS.l0 k l0 a1 0 = some (r1', r2)) :
  Calls Try.prog 7 #[u9000_, .int .i64 a1] w fun e w' => e = .returned (.int .i64 r1') ∧ Kd.S (Kd.slice 3 (Kd.int .i64)) 29 w' w0.heap.size (fun k_ => (P0_ k_ ∨ w.heap.size ≤ k_)) u9000_ r2 ∧ Below w0.heap.size w0 w' ∧ Kept w w' (fun k_ => P0_ k_) := by
 have hq := h
 clear h
 have HO0 := mkA (show Kd.S (Kd.slice 3 (Kd.int .i64)) 29 w w0.heap.size (fun k_ => (P0_ k_ ∨ w.heap.size ≤ k_)) u9000_ l0 from Kd.S_mono ho0 (fun k_ hk => (.inl hk)))
 have HK := mkA (Kept.refl w (fun k_ => P0_ k_))
 have HW0 := mkA hB.size
 have HB := mkA hB
 clear hB ho0
 have H' : Fc ((laws_markIntSS.l0 k l0 a1 0) = some (r1', r2)) := ⟨hq⟩
 clear hq
 go_enter Try.func7, Try.ntmps7
 go_wp2
 go_loopg [1, 5] k (fun kq v1 v5 w' => ∃ (x0_1 : List (List Int)) (x1_1 : Int) (x5_1 : Int), v1 = .int .i64 x1_1 ∧ v5 = .int .i64 x5_1 ∧ Fc (laws_markIntSS.l0 kq x0_1 x1_1 x5_1 = some (r1', r2)) ∧ Fc (kq ≤ k) ∧ Fc (Kd.S (Kd.slice 3 (Kd.int .i64)) 29 w' w0.heap.size (fun k_ => (P0_ k_ ∨ w.heap.size ≤ k_)) u9000_ x0_1) ∧ Fc (Kept w w' (fun k_ => P0_ k_)) ∧ Fc (Below w0.heap.size w0 w'))
 case atStart => exact ⟨l0, a1, 0, rfl, rfl, H', ⟨Nat.le_refl _⟩, HO0, HK, HB⟩
 case round =>
  clear H'
  obtain ⟨x0_1, x1_1, x5_1, rfl, rfl, HA, HK1, HO_0, HK, HB⟩ := hrel
  cases gk with
  | zero => exact absurd HA.out (by simp [laws_markIntSS.l0])
  | succ k1 =>
   have H := HA.out
   clear HA
   simp only [laws_markIntSS.l0] at H
   rcases iteP H with ⟨c3, H⟩ | ⟨c3, H⟩
   ·have c3b0 := decide_eq_true c3
    obtain ⟨c4, H⟩ := itNP H
    have c4b0 := decide_eq_true c4
    obtain ⟨⟨b1, b2⟩, hb, H⟩ := Option.bind_eq_some_iff.mp H
    have H' := mkA H
    clear H
    obtain ⟨go5, co5, rfl, gb5, gl5, cl5, HG5⟩ := Kd.S_form HO_0.out (by omega)
    obtain ⟨oki, cs, hcs, hM, hcell, hoki, hH⟩ := Kd.S_lend HO_0.out [] x5_1 c4 c3
    obtain ⟨u5, rfl, hR5⟩ := hM
    have hx5_0 : wr.cell? ⟨go5, x5_1.toNat, none⟩ = some u5 := by simpa [Kd.slice] using hcell 0 u5 rfl
    have HR5 := mkA hR5
    have HB5 := mkA hb
    have HOK := mkA hoki
    have HH := mkA (Kd.H_widen hH)
    have HX := mkA HK.out.1
    clear hR5 hb hoki hH hcell hcs gb5 gl5 HG5 HO_0
    have p5 := eq_true c4
    have q5 := eq_true c3
    clear c3 c4
    go_wp2_with (first | ((with_reducible refine gate_callee (f := 15) rfl ?_); refine goesL_ (some 17) rfl rfl Try.func15 (by kernel_rfl) rfl #[u5, .int .i64 x1_1] rfl (by (try simp only [List.map_toArray, List.map_cons, List.map_nil]); first | done | rfl) ?_; (with_reducible refine (laws_markIntS.calls k1 _ _ _ x1_1 b1 b2 _ _ HB.out HR5.out HB5.out).mono ?_); rintro e w9 ⟨rfl, hr9, hb9, hk9⟩; refine ⟨_, rfl, ?_⟩))
    go_roundg k1
    case measure => have := HK1.out; omega
    case rel =>
     refine ⟨_, _, _, rfl, rfl, H', ⟨by have := HK1.out; omega⟩, ⟨?_⟩, ⟨?_⟩, ⟨hb9⟩⟩
     ·exact Kd.H_back (Kd.H_kept HH.out hk9 (fun k_ _ hn h2 => hn (.inl h2))) (okp := fun k_ => oki k_ ∨ wr.heap.size ≤ k_) ⟨u5, rfl, hr9⟩ (fun k_ hk => hk.elim .inl (fun h2 => .inr ⟨.inr (Nat.le_trans HX.out h2), h2⟩))
     ·exact HK.out.then_ hk9 (fun k_ hk => (HOK.out k_ hk).1)
   ·have c3b0 := decide_eq_false c3
    clear c3
    simp only [Option.some.injEq, Prod.mk.injEq] at H
    obtain ⟨rfl, rfl⟩ := H
    obtain ⟨Ao9, co9, rfl⟩ := Kd.S_slice HO_0.out
    go_wp2
    go_ret
    exact ⟨rfl, HO_0.out, HB.out, HK.out⟩
def laws_FnExactListAscents.f (k : Nat) (a0 : Int) : Option Bool :=
 (spec_ListAscents.f k a0).bind fun b => (impl_ListAscents.f k a0).bind fun c => if b = c then ((laws_eqIntSS.f k b.1 b.1).bind fun t => if t = true then ((laws_markIntSS.l0 k b.1 1 0).bind fun m => if m.1 < 0 then none else ((laws_heldIntSS.f k m.2 1).bind fun q => if q = m.1 then some true else none)) else none) else none
theorem laws_FnExactListAscents.calls (k : Nat) (a0 : Int) (r : Bool) (w : World) (h : laws_FnExactListAscents.f k a0 = some r) :
  Calls Try.prog 3 #[.int .i64 a0] w fun e w' => e = .returned (.bool r) ∧ Below w.heap.size w w' := by
 unfold laws_FnExactListAscents.f at h
 obtain ⟨⟨L, b⟩, h1, g1⟩ := Option.bind_eq_some_iff.mp h
 obtain ⟨c, h2, g2⟩ := Option.bind_eq_some_iff.mp g1
 by_cases hc : (L, b) = c
 case neg => rw [if_neg hc] at g2; cases g2
 rw [if_pos hc] at g2
 subst hc
 obtain ⟨t, h3, g3⟩ := Option.bind_eq_some_iff.mp g2
 by_cases ht : t = true
 case neg => rw [if_neg ht] at g3; cases g3
 rw [if_pos ht] at g3
 subst ht
 obtain ⟨⟨q, L2⟩, h4, g4⟩ := Option.bind_eq_some_iff.mp g3
 by_cases hm : q < 0
 case pos => rw [if_pos hm] at g4; cases g4
 rw [if_neg hm] at g4
 obtain ⟨q2, h5, g5⟩ := Option.bind_eq_some_iff.mp g4
 by_cases hq : q2 = q
 case neg => rw [if_neg hq] at g5; cases g5
 rw [if_pos hq] at g5
 obtain rfl := Option.some.inj g5
 subst hq
 clear g1 g2 g3 g4 g5 h
 dsimp only at h3 h4 h5
 have H1 := mkA h1
 have H2 := mkA h2
 have H3 := mkA h3
 have H4 := mkA h4
 have H5 := mkA h5
 have cm : decide (q2 < 0) = false := decide_eq_false hm
 have cq : (q2 == q2) = true := beq_self_eq_true q2
 have cn : (q2 != q2) = false := bne_self_eq_false q2
 clear h1 h2 h3 h4 h5 hm
 cases b
 all_goals
  go_enter Try.func3, Try.ntmps3
  go_wp2_with (first | ((with_reducible refine gate_callee (f := 4) rfl ?_); refine goesL_ (some 13) rfl rfl Try.func4 (by kernel_rfl) rfl #[.int .i64 a0] rfl (by (try simp only [List.map_toArray, List.map_cons, List.map_nil]); first | done | rfl) ?_; (with_reducible refine (spec_ListAscents.calls k a0 L _ _ H1.out).mono ?_); rintro e w1 ⟨v0, rfl, ho0, hb0⟩; refine ⟨_, rfl, ?_⟩; have HS := mkA (show Kd.N (Kd.slice 3 (Kd.int .i64)) 29 w1 w.heap.size (fun k_ => k_ < w1.heap.size) v0 L from Kd.N_mono (Kd.N_bound ho0) (fun _ h_ => h_.2)); have HW := mkA (show Below w.heap.size w w1 from hb0); clear ho0 hb0; obtain ⟨A0, c0, e0⟩ := Kd.N_slice HS.out; subst e0) | ((with_reducible refine gate_callee (f := 5) rfl ?_); refine goesL_ (some 18) rfl rfl Try.func5 (by kernel_rfl) rfl #[.int .i64 a0] rfl (by (try simp only [List.map_toArray, List.map_cons, List.map_nil]); first | done | rfl) ?_; (with_reducible refine (impl_ListAscents.calls k a0 L _ _ H2.out).mono ?_); rintro e w2 ⟨v1, rfl, ho1, hb1⟩; refine ⟨_, rfl, ?_⟩; have HG := mkA (show Kd.S (Kd.slice 3 (Kd.int .i64)) 29 w2 w1.heap.size (fun k_ => w1.heap.size ≤ k_) v1 L from Kd.S_mono (Kd.S_bound ho1) (fun _ h_ => h_.2.1)); have HB := mkA (show Below w1.heap.size w1 w2 from hb1); have n0_ := mkA (Kd.N_below HS.out hb1); clear HS; have HS := n0_; clear n0_ ho1 hb1; obtain ⟨A1, c1, e1⟩ := Kd.S_slice HG.out; subst e1) | ((with_reducible refine gate_callee (f := 6) rfl ?_); refine goesL_ (some 23) rfl rfl Try.func6 (by kernel_rfl) rfl #[.slice A1 L.length c1, .slice A0 L.length c0] rfl (by (try simp only [List.map_toArray, List.map_cons, List.map_nil]); first | done | rfl) ?_; (with_reducible refine (laws_eqIntSS.calls k A1 c1 L A0 c0 L true _ (Kd.S_reads' HG.out).2.2 (Kd.S_reads' HG.out).2.1 (Kd.N_reads' HS.out).2.2 (Kd.N_reads' HS.out).2.1 H3.out).mono ?_); rintro e w' ⟨rfl, ⟨nd, rfl⟩⟩; refine ⟨_, rfl, ?_⟩) | ((with_reducible refine gate_callee (f := 7) rfl ?_); refine goesL_ (some 32) rfl rfl Try.func7 (by kernel_rfl) rfl #[.slice A1 L.length c1, .int .i64 1] rfl (by (try simp only [List.map_toArray, List.map_cons, List.map_nil]); first | done | rfl) ?_; (with_reducible refine (laws_markIntSS.kept k (fun k_ => w1.heap.size ≤ k_) _ L 1 q2 L2 w1 _ (by (with_reducible repeat (first | apply pw_below_drewN | apply below_drew1)); exact HB.out) (by (with_reducible repeat (first | apply Kd.S_drewN | apply Kd.S_drew)); exact HG.out) H4.out).mono ?_); rintro e w4 ⟨rfl, ho4, hb4, hk4⟩; refine ⟨_, rfl, ?_⟩; have n0_ := mkA (Kd.N_mono (Kd.N_keptB (by (with_reducible repeat (first | apply Kd.N_drewN)); exact HS.out) hk4 (fun _ h_ h2_ => Nat.not_le.2 h_ h2_)) (fun _ h_ => h_.1)); have n1_ := mkA (Kd.S_mono (Kd.S_bound ho4) (fun _ h_ => h_.2.1)); clear HS HG HB; have HS := n0_; have HG := n1_; have HB := mkA hb4; clear n0_ n1_ ho4 hb4 hk4; have HL := mkA (Kd.S_reads' HG.out).1; have C8 := laws_heldIntSS.calls k A1 c1 L2 1 q2; rw [← HL.out] at C8) | ((with_reducible refine gate_callee (f := 8) rfl ?_); refine goesL_ (some 35) rfl rfl Try.func8 (by kernel_rfl) rfl #[.slice A1 L.length c1, .int .i64 1] rfl (by (try simp only [List.map_toArray, List.map_cons, List.map_nil]); first | done | rfl) ?_; (with_reducible refine (C8 _ (by rw [HL.out]; exact (Kd.S_reads' HG.out).2.2) (Kd.S_reads' HG.out).2.1 H5.out).mono ?_); rintro e w' ⟨rfl, ⟨nd, rfl⟩⟩; refine ⟨_, rfl, ?_⟩) | ((with_reducible refine gate_callee (f := 5) rfl ?_); refine goesL_ (some 43) rfl rfl Try.func5 (by kernel_rfl) rfl #[.int .i64 a0] rfl (by (try simp only [List.map_toArray, List.map_cons, List.map_nil]); first | done | rfl) ?_; (with_reducible refine (impl_ListAscents.calls k a0 L _ _ H2.out).mono ?_); rintro e w6 ⟨v2, rfl, ho6, hb6⟩; refine ⟨_, rfl, ?_⟩; have n0_ := mkA (Kd.N_below (by (with_reducible repeat (first | apply Kd.N_drewN)); exact HS.out) hb6); have n1_ := mkA (Kd.S_below (by (with_reducible repeat (first | apply Kd.S_drewN | apply Kd.S_drew)); exact HG.out) hb6); have n2_ := mkA (below_step (by (with_reducible repeat (first | apply pw_below_drewN | apply below_drew1)); exact HB.out) hb6); clear HS HG HB; have HS := n0_; have HG := n1_; have HB := n2_; have HH := mkA ho6; clear n0_ n1_ n2_ ho6 hb6; obtain ⟨A2, c2, e2⟩ := Kd.S_slice HH.out; subst e2) | ((with_reducible refine gate_callee (f := 6) rfl ?_); refine goesL_ (some 48) rfl rfl Try.func6 (by kernel_rfl) rfl #[.slice A2 L.length c2, .slice A0 L.length c0] rfl (by (try simp only [List.map_toArray, List.map_cons, List.map_nil]); first | done | rfl) ?_; (with_reducible refine (laws_eqIntSS.calls k A2 c2 L A0 c0 L true _ (Kd.S_reads' HH.out).2.2 (Kd.S_reads' HH.out).2.1 (Kd.N_reads' HS.out).2.2 (Kd.N_reads' HS.out).2.1 H3.out).mono ?_); rintro e w' ⟨rfl, ⟨nd, rfl⟩⟩; refine ⟨_, rfl, ?_⟩) | ((with_reducible refine gate_callee (f := 8) rfl ?_); refine goesL_ (some 57) rfl rfl Try.func8 (by kernel_rfl) rfl #[.slice A1 L.length c1, .int .i64 1] rfl (by (try simp only [List.map_toArray, List.map_cons, List.map_nil]); first | done | rfl) ?_; (with_reducible refine (C8 _ (Kd.C_drewN (by rw [HL.out]; exact (Kd.S_reads' HG.out).2.2) _) (Kd.S_reads' HG.out).2.1 H5.out).mono ?_); rintro e w' ⟨rfl, ⟨nd, rfl⟩⟩; refine ⟨_, rfl, ?_⟩))
  go_ret
  exact ⟨rfl, below_step HW.out (by (with_reducible repeat (first | apply pw_below_drewN | apply below_drew1)); exact HB.out)⟩
def laws_FnExactListAscents.Pure : Prop := ∀ (a0 : Int), (Lit.int .i64 a0).wf = true → ∃ k, laws_FnExactListAscents.f k a0 = some true
theorem laws_FnExactListAscents.walk (P : laws_FnExactListAscents.Pure) (a0 : Int) (w : World) (w0 : (Lit.int .i64 a0).wf = true) :
  Calls Try.prog 3 #[.int .i64 a0] w fun e w' => e = .returned (.bool true) ∧ Below w.heap.size w w' := by
 obtain ⟨k, h⟩ := P a0 w0
 refine (laws_FnExactListAscents.calls k a0 true w h).mono ?_
 rintro e w' ⟨rfl, hd⟩
 exact ⟨rfl, hd⟩


end Go.Proofs.Ytmdldleodieooaa.Q
