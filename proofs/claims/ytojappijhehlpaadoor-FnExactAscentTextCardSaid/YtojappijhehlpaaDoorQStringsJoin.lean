-- printed by this project's own program (wip/mp/mp.py) over the kit's print, for this seat; Lean checks it
import Derived.Test.YtojappijhehlpaaDoorQx0
import Derived.Test.YtojappijhehlpaaDoorQShelf
namespace Go.Proofs.YtojappijhehlpaaDoor.Q
open Go.RowKit Go.Proofs.YtojappijhehlpaaDoorW.PrintWords Go.Proofs.YtojappijhehlpaaDoorW.PrintLast Go.Proofs.YtojappijhehlpaaDoorW.PrintMore
attribute [local go_sem] max2_int min2_int max_two min_two max_three min_three max_four min_four   -- for this text's walks alone
set_option linter.unusedVariables false
set_option maxHeartbeats 8000000
set_option maxRecDepth 100000
set_option linter.unusedSimpArgs false

/-! ### strings_Join: function 26 -/
def strings_Join.f (l0 : List ByteArray) (a1 : ByteArray) : Option (ByteArray × List ByteArray) := if l0.length ≤ 140737488355328 ∧ (Go.Lib.join (l0.map (·.data.toList)) a1.data.toList).length ≤ 140737488355328 then some (⟨(Go.Lib.join (l0.map (·.data.toList)) a1.data.toList).toArray⟩, l0) else none
theorem strings_Join.calls (P0_ : Nat → Prop) (u9000_ : Value) (l0 : List ByteArray) (a1 : ByteArray) (r1 : ByteArray) (r2 : List ByteArray) (w0 w : World) (hB : Below w0.heap.size w0 w) (ho0 : Kd.R Kd.string 9 w w0.heap.size P0_ u9000_ l0) (h : strings_Join.f l0 a1 = some (r1, r2)) :
  Calls Tryd.prog 26 #[u9000_, .string a1] w fun e w' => e = .returned (.string r1) ∧ Kd.R Kd.string 9 w' w0.heap.size (fun k_ => (P0_ k_ ∨ w.heap.size ≤ k_)) u9000_ r2 ∧ Below w0.heap.size w0 w' ∧ Kept w w' (fun k_ => P0_ k_) := by
 unfold strings_Join.f at h
 split at h
 case isFalse => cases h
 case isTrue hc =>
 simp only [Option.some.injEq, Prod.mk.injEq] at h
 obtain ⟨rfl, rfl⟩ := h
 have key : Calls Tryd.prog 26 #[u9000_, .string a1] w fun e w' => e = .returned (.string ⟨(Go.Lib.join (l0.map (·.data.toList)) a1.data.toList).toArray⟩) ∧ Below w.heap.size w w' := by
  obtain ⟨A, c, e1⟩ := Kd.R_slice ho0
  subst e1
  obtain ⟨g1, g2, g3⟩ := Kd.R_reads' ho0
  by_cases hz : l0.length = 0
  ·have hn : l0 = [] := List.eq_nil_of_length_eq_zero hz
   subst hn
   refine (Tryd.strings_Join_none A c a1 w).mono ?_
   rintro e w' ⟨rfl, rfl⟩
   exact ⟨rfl, Below.refl _ _⟩
  ·obtain ⟨ad, ha, hcell⟩ := g3.2.2 (by omega)
   subst ha
   obtain ⟨g, rfl⟩ := Kd.R_head ho0
   have hcl : ∀ (j : Nat) x, l0[j]? = some x → w.cell? ⟨g, 0 + j, none⟩ = some (.string x) := by
    intro j x hx
    have hj : j < l0.length := (List.getElem?_eq_some_iff.1 hx).1
    obtain ⟨ad, e2, h2⟩ := Kd.at_string g3 (j : Int) (by omega) (by omega)
    cases e2
    have e3 : rdOf ByteArray.empty l0 (j : Int) = x := by simp [rdOf, hx, List.getD_eq_getElem?_getD]
    rw [e3, Int.toNat_natCast] at h2
    simpa [add_plain] using h2
   have hlt : g < w.heap.size := World.block_lt_of_cell? w _ (hcl 0 l0[0] (by simp))
   exact Tryd.strings_Join g 0 c l0 a1 w hcl hlt hc.1 g2 hc.2
 refine key.mono ?_
 rintro e w' ⟨rfl, hb⟩
 exact ⟨rfl, Kd.R_mono (Kd.R_below ho0 hb) (fun _ hk => .inl hk), below_step hB hb, Kept.of_below hb _⟩


end Go.Proofs.YtojappijhehlpaaDoor.Q
