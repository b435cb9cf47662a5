-- printed by this project's own program (wip/mp/mp.py) over the kit's print, for this seat; Lean checks it
import Derived.Test.YtojappijhehlpaaDoorQx0
import Derived.Test.YtojappijhehlpaaDoorQStrconvItoa25
import Derived.Test.YtojappijhehlpaaDoorQStringsJoin
namespace Go.Proofs.YtojappijhehlpaaDoor.Q
open Go.RowKit Go.Proofs.YtojappijhehlpaaDoorW.PrintWords Go.Proofs.YtojappijhehlpaaDoorW.PrintLast Go.Proofs.YtojappijhehlpaaDoorW.PrintMore
attribute [local go_sem] max2_int min2_int max_two min_two max_three min_three max_four min_four   -- for this text's walks alone
set_option linter.unusedVariables false
set_option maxHeartbeats 8000000
set_option maxRecDepth 100000
set_option linter.unusedSimpArgs false

/-! ### impl_ascentText: function 16 -/
def impl_ascentText.l0 : Nat → List ByteArray → List Int → Int → Int → Option (ByteArray)
 | 0, _, _, _, _ => none
 | k + 1, x3, x7, x8, x9 => if x9 < x8 then (if 0 ≤ x9 then (if x9 < (x7.length : Int) then ((strconv_Itoa_25.f (rd x7 x9)).bind fun t158 => (if x3.length < 8796093022208 then (impl_ascentText.l0 k (x3 ++ [t158]) x7 x8 (wrap64 (x9 + 1))) else (none))) else (none)) else (none)) else ((strings_Join.f x3 (⟨#[44]⟩ : ByteArray)).bind fun bt162 => (some bt162.1))
def impl_ascentText.f (k : Nat) (l0 : List Int) : Option (ByteArray) := impl_ascentText.l0 k (([] : List ByteArray)) l0 (l0.length : Int) 0
theorem impl_ascentText.mono_l : ∀ k, (∀ y0 y1 y2 y3, LeO (impl_ascentText.l0 k y0 y1 y2 y3) (impl_ascentText.l0 (k + 1) y0 y1 y2 y3))
 | 0 => fun _ _ _ _ r h => by simp [impl_ascentText.l0] at h
 | k + 1 => by
  have ih0 := impl_ascentText.mono_l k
  ·intro y0 y1 y2 y3
   unfold impl_ascentText.l0
   repeat' (with_reducible first|apply ih0|apply LeO.refl|apply LeO.none|apply LeO.ite|apply LeO.bind|intro)
theorem impl_ascentText.mono : ∀ a0 k, LeO (impl_ascentText.f k a0) (impl_ascentText.f (k + 1) a0) := by
 intro a0 k
 have ih0 := impl_ascentText.mono_l k
 unfold impl_ascentText.f
 repeat' (with_reducible first|apply ih0|apply LeO.refl|apply LeO.none|apply LeO.ite|apply LeO.bind|intro)
theorem impl_ascentText.calls (k : Nat) (A0 : Option Addr) (c0 : Nat) (l0 : List Int) (r : ByteArray) (w : World) (hr0 : Kd.C (Kd.int .i64) w A0 l0.length l0) (hc0 : l0.length ≤ c0) (h : impl_ascentText.f k l0 = some r) :
  Calls Tryd.prog 16 #[.slice A0 l0.length c0] w fun e w' => e = .returned (.string r) ∧ Below w.heap.size w w' := by
 have HR0 := mkA hr0
 have HC0 := mkA hc0
 clear hr0 hc0
 have HB := mkA (Below.refl w.heap.size w)
 have H := h
 clear h
 unfold impl_ascentText.f at H
 obtain ⟨y154, hy154⟩ : ∃ y_ : List ByteArray, y_ = (([] : List ByteArray)) := ⟨_, rfl⟩
 rw [← hy154] at H
 have Ny154 := mkA hy154
 clear hy154
 have H' := mkA H
 clear H
 go_enter Tryd.func16, Tryd.ntmps16
 go_wp2_with (first | ((with_reducible refine gate_dst (N := 6) rfl ?_); refine Kd.R_lit Kd.string _ 9 ?hg (N := 6) ?hd (xs := ([] : List ByteArray)) (inner := []) (ok := fun _ => True) (okp := fun _ => True) ?hr ?hp (fun _ hk => hk) trivial (Below.refl _ _) (Nat.le_refl _) (by simp) ?_; (case hd => rfl); (case hg => rfl); (case hr => first | (go_simp; done) | (go_simp; rfl)); (case hp => exact (Reps.none _ _)); intro v155 w2 ho3 hb hg_ hnew_; clear hg_ hnew_; (first | rw [← Ny154.out] at ho3 | (simp only [Int.reduceToNat] at ho3; rw [← Ny154.out] at ho3)); have HO156 := rLo ho3 HB; replace HB := bst HB hb; clear hb ho3))
 go_loopg [3, 9] k (fun kq v3 v9 w' => ∃ (x3_1 : List ByteArray) (x9_1 : Int), v9 = .int .i64 x9_1 ∧ Fc (impl_ascentText.l0 kq x3_1 l0 (l0.length : Int) x9_1 = some r) ∧ Fc (kq ≤ k) ∧ Fc (Kd.R Kd.string 9 w' w.heap.size (fun _ => True) v3 x3_1) ∧ Fc (Below w.heap.size w w'))
 case atStart => exact ⟨(y154), (0), eqS, H', ⟨Nat.le_refl _⟩, rg HO156, hbg HB⟩
 case round =>
  clear H'
  obtain ⟨x3_1, x9_1, rfl, HA, HK1, HO_3, HB⟩ := hrel
  cases gk with
  | zero => exact absurd HA.out (by simp [impl_ascentText.l0])
  | succ k1 =>
   have H := HA.out
   clear HA
   simp only [impl_ascentText.l0] at H
   rcases iteE H with ⟨c4b0, H⟩ | ⟨c4b0, H⟩
   ·obtain ⟨c5b0, H⟩ := itND H
    obtain ⟨c6b0, H⟩ := itND H
    obtain ⟨t158, A7, H⟩ := obE H
    obtain ⟨c8, H⟩ := itNP H
    have LMc8 := mkA c8
    clear c8
    obtain ⟨y159, hy159⟩ : ∃ y_ : List ByteArray, y_ = (x3_1 ++ [t158]) := ⟨_, rfl⟩
    rw [← hy159] at H
    have Ny159 := mkA hy159
    clear hy159
    have H' := mkA H
    clear H
    obtain ⟨p157, q157, ad157, e157, hx157_0⟩ := atI HR0.out x9_1
    cases e157
    replace hx157_0 := (HB.out.cell (World.block_lt_of_cell? w _ hx157_0)).trans hx157_0
    go_wp2_with (first | ((with_reducible refine gate_callee (f := 25) rfl ?_); refine goesQ (some 15) Tryd.func25 #[.int .i64 (rd l0 x9_1)] ?_; (with_reducible refine (strconv_Itoa_25.calls (rd l0 x9_1) t158 _ A7.out).mono ?_); rintro e w' ⟨rfl, ⟨nd, rfl⟩⟩; refine ⟨_, rfl, ?_⟩) | ((with_reducible refine gate_builtin (b := .append) (xs := #[.tmp 13, .tmp 16]) rfl ?_); at_builtin; refine Kd.R_append Kd.string (w0 := w) w.heap.size rfl (.tmp 13) (.tmp 16) 33 9 (.string ⟨#[]⟩) 16 rfl Tryd.underlying33 info9 rfl (by decide) (by omega) u3 x3_1 t158 [.string t158] (fun _ => True) (fun _ => False) rfl rfl ?aP (fun _ hk => hk.elim) ?aF ?aO ?aB ?aS ?aL ?_; (case aP => exact rfl); (case aB => exact (bel_g HB.out)); (case aF => exact (fun _ _ => trivial)); (case aO => exact (Kd.R_g HO_3.out)); (case aS => exact (below_size (bel_g HB.out))); (case aL => have := LMc8.out; omega); intro v160 w9 ho hb hg hat; rw [← Ny159.out] at ho; have HO161 := mkA (ho); replace HB := mkA (hb); clear HO_3; clear ho hb hg hat))
    go_roundg k1
    case measure => have := HK1.out; omega
    case rel => exact ⟨(y159), (wrap64 (x9_1 + 1)), eqS, H', ⟨by have := HK1.out; omega⟩, rg HO161, hbg HB⟩
   ·obtain ⟨⟨t162, t163⟩, A10, H⟩ := obE H
    dsimp only at H
    obtain rfl := Option.some.inj H
    obtain ⟨Ao11, co11, rfl⟩ := Kd.R_slice HO_3.out
    go_wp2_with (first | ((with_reducible refine gate_callee (f := 26) rfl ?_); refine goesQ (some 20) Tryd.func26 #[.slice Ao11 x3_1.length co11, .string (⟨#[44]⟩ : ByteArray)] ?_; (with_reducible refine (strings_Join.calls (fun k_ => some k_ = (.slice Ao11 x3_1.length co11 : Value).ownBlock) (.slice Ao11 x3_1.length co11) x3_1 (⟨#[44]⟩ : ByteArray) t162 t163 w _ ?_ ?_ A10.out).mono ?_); exact bel_g HB.out; exact Kd.R_tight rfl HO_3.out; rintro e w12 ⟨rfl, hy0, hb, hkp⟩; refine ⟨_, rfl, ?_⟩; replace HO_3 := mkA (Kd.R_reok rfl hy0 (fun k_ e_ => HO_3.out.1 k_ e_)); replace HB := mkA (hb); clear hb hkp hy0))
    go_ret
    exact ⟨eqE, bel_g HB.out⟩

end Go.Proofs.YtojappijhehlpaaDoor.Q
