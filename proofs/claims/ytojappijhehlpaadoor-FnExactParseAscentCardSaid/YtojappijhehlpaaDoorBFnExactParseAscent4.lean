import Derived.Lib.AtoiErrMem
import Derived.Test.YtojappijhehlpaaDoorBFnExactParseAscent3
namespace Go.Proofs.YtojappijhehlpaaDoor.Q
open Go.RowKit Go.Proofs.YtojappijhehlpaaDoorW.PrintWords Go.Proofs.YtojappijhehlpaaDoorW.PrintLast Go.Proofs.YtojappijhehlpaaDoorW.PrintMore
attribute [local go_sem] max2_int min2_int max_two min_two max_three min_three max_four min_four
set_option linter.unusedVariables false
set_option maxHeartbeats 8000000
set_option maxRecDepth 100000
set_option linter.unusedSimpArgs false
def impl_ascentText.l0 : Nat → List ByteArray → List Int → Int → Int → Option (ByteArray)
 | 0, _, _, _, _ => none
 | k + 1, x3, x7, x8, x9 => if x9 < x8 then (if 0 ≤ x9 then (if x9 < (x7.length : Int) then ((strconv_Itoa_25.f (rd x7 x9)).bind fun t158 => (if x3.length < 8796093022208 then (impl_ascentText.l0 k (x3 ++ [t158]) x7 x8 (wrap64 (x9 + 1))) else (none))) else (none)) else (none)) else ((strings_Join.f x3 (⟨#[44]⟩ : ByteArray)).bind fun bt162 => (some bt162.1))
def impl_ascentText.f (k : Nat) (l0 : List Int) : Option (ByteArray) := impl_ascentText.l0 k (([] : List ByteArray)) l0 (l0.length : Int) 0
theorem impl_ascentText.mono_l : ∀ k, (∀ y0 y1 y2 y3, LeO (impl_ascentText.l0 k y0 y1 y2 y3) (impl_ascentText.l0 (k + 1) y0 y1 y2 y3))
 | 0 => fun _ _ _ _ r h => by simp [impl_ascentText.l0] at h
 | k + 1 => by
  have ih0 := impl_ascentText.mono_l k
  ·intro y0 y1 y2 y3
   unfold impl_ascentText.l0
   repeat' (with_reducible first|apply ih0|apply LeO.refl|apply LeO.none|apply LeO.ite|apply LeO.bind|intro)
theorem impl_ascentText.mono : ∀ a0 k, LeO (impl_ascentText.f k a0) (impl_ascentText.f (k + 1) a0) := by
 intro a0 k
 have ih0 := impl_ascentText.mono_l k
 unfold impl_ascentText.f
 repeat' (with_reducible first|apply ih0|apply LeO.refl|apply LeO.none|apply LeO.ite|apply LeO.bind|intro)
theorem impl_ascentText.calls (k : Nat) (A0 : Option Addr) (c0 : Nat) (l0 : List Int) (r : ByteArray) (w : World) (hr0 : Kd.C (Kd.int .i64) w A0 l0.length l0) (hc0 : l0.length ≤ c0) (h : impl_ascentText.f k l0 = some r) :
  Calls Tryd.prog 16 #[.slice A0 l0.length c0] w fun e w' => e = .returned (.string r) ∧ Below w.heap.size w w' := by
 have HR0 := mkA hr0
 have HC0 := mkA hc0
 clear hr0 hc0
 have HB := mkA (Below.refl w.heap.size w)
 have H := h
 clear h
 unfold impl_ascentText.f at H
 obtain ⟨y154, hy154⟩ : ∃ y_ : List ByteArray, y_ = (([] : List ByteArray)) := ⟨_, rfl⟩
 rw [← hy154] at H
 have Ny154 := mkA hy154
 clear hy154
 have H' := mkA H
 clear H
 go_enter Tryd.func16, Tryd.ntmps16
 go_wp2_with (first | ((with_reducible refine gate_dst (N := 6) rfl ?_); refine Kd.R_lit Kd.string _ 9 ?hg (N := 6) ?hd (xs := ([] : List ByteArray)) (inner := []) (ok := fun _ => True) (okp := fun _ => True) ?hr ?hp (fun _ hk => hk) trivial (Below.refl _ _) (Nat.le_refl _) (by simp) ?_; (case hd => rfl); (case hg => rfl); (case hr => first | (go_simp; done) | (go_simp; rfl)); (case hp => exact (Reps.none _ _)); intro v155 w2 ho3 hb hg_ hnew_; clear hg_ hnew_; (first | rw [← Ny154.out] at ho3 | (simp only [Int.reduceToNat] at ho3; rw [← Ny154.out] at ho3)); have HO156 := rLo ho3 HB; replace HB := bst HB hb; clear hb ho3))
 go_loopg [3, 9] k (fun kq v3 v9 w' => ∃ (x3_1 : List ByteArray) (x9_1 : Int), v9 = .int .i64 x9_1 ∧ Fc (impl_ascentText.l0 kq x3_1 l0 (l0.length : Int) x9_1 = some r) ∧ Fc (kq ≤ k) ∧ Fc (Kd.R Kd.string 9 w' w.heap.size (fun _ => True) v3 x3_1) ∧ Fc (Below w.heap.size w w'))
 case atStart => exact ⟨(y154), (0), eqS, H', ⟨Nat.le_refl _⟩, rg HO156, hbg HB⟩
 case round =>
  clear H'
  obtain ⟨x3_1, x9_1, rfl, HA, HK1, HO_3, HB⟩ := hrel
  cases gk with
  | zero => exact absurd HA.out (by simp [impl_ascentText.l0])
  | succ k1 =>
   have H := HA.out
   clear HA
   simp only [impl_ascentText.l0] at H
   rcases iteE H with ⟨c4b0, H⟩ | ⟨c4b0, H⟩
   ·obtain ⟨c5b0, H⟩ := itND H
    obtain ⟨c6b0, H⟩ := itND H
    obtain ⟨t158, A7, H⟩ := obE H
    obtain ⟨c8, H⟩ := itNP H
    have LMc8 := mkA c8
    clear c8
    obtain ⟨y159, hy159⟩ : ∃ y_ : List ByteArray, y_ = (x3_1 ++ [t158]) := ⟨_, rfl⟩
    rw [← hy159] at H
    have Ny159 := mkA hy159
    clear hy159
    have H' := mkA H
    clear H
    obtain ⟨p157, q157, ad157, e157, hx157_0⟩ := atI HR0.out x9_1
    cases e157
    replace hx157_0 := (HB.out.cell (World.block_lt_of_cell? w _ hx157_0)).trans hx157_0
    go_wp2_with (first | ((with_reducible refine gate_callee (f := 25) rfl ?_); refine goesQ (some 15) Tryd.func25 #[.int .i64 (rd l0 x9_1)] ?_; (with_reducible refine (strconv_Itoa_25.calls (rd l0 x9_1) t158 _ A7.out).mono ?_); rintro e w' ⟨rfl, ⟨nd, rfl⟩⟩; refine ⟨_, rfl, ?_⟩) | ((with_reducible refine gate_builtin (b := .append) (xs := #[.tmp 13, .tmp 16]) rfl ?_); at_builtin; refine Kd.R_append Kd.string (w0 := w) w.heap.size rfl (.tmp 13) (.tmp 16) 33 9 (.string ⟨#[]⟩) 16 rfl Tryd.underlying33 info9 rfl (by decide) (by omega) u3 x3_1 t158 [.string t158] (fun _ => True) (fun _ => False) rfl rfl ?aP (fun _ hk => hk.elim) ?aF ?aO ?aB ?aS ?aL ?_; (case aP => exact rfl); (case aB => exact (bel_g HB.out)); (case aF => exact (fun _ _ => trivial)); (case aO => exact (Kd.R_g HO_3.out)); (case aS => exact (below_size (bel_g HB.out))); (case aL => have := LMc8.out; omega); intro v160 w9 ho hb hg hat; rw [← Ny159.out] at ho; have HO161 := mkA (ho); replace HB := mkA (hb); clear HO_3; clear ho hb hg hat))
    go_roundg k1
    case measure => have := HK1.out; omega
    case rel => exact ⟨(y159), (wrap64 (x9_1 + 1)), eqS, H', ⟨by have := HK1.out; omega⟩, rg HO161, hbg HB⟩
   ·obtain ⟨⟨t162, t163⟩, A10, H⟩ := obE H
    dsimp only at H
    obtain rfl := Option.some.inj H
    obtain ⟨Ao11, co11, rfl⟩ := Kd.R_slice HO_3.out
    go_wp2_with (first | ((with_reducible refine gate_callee (f := 26) rfl ?_); refine goesQ (some 20) Tryd.func26 #[.slice Ao11 x3_1.length co11, .string (⟨#[44]⟩ : ByteArray)] ?_; (with_reducible refine (strings_Join.calls (fun k_ => some k_ = (.slice Ao11 x3_1.length co11 : Value).ownBlock) (.slice Ao11 x3_1.length co11) x3_1 (⟨#[44]⟩ : ByteArray) t162 t163 w _ ?_ ?_ A10.out).mono ?_); exact bel_g HB.out; exact Kd.R_tight rfl HO_3.out; rintro e w12 ⟨rfl, hy0, hb, hkp⟩; refine ⟨_, rfl, ?_⟩; replace HO_3 := mkA (Kd.R_reok rfl hy0 (fun k_ e_ => HO_3.out.1 k_ e_)); replace HB := mkA (hb); clear hb hkp hy0))
    go_ret
    exact ⟨eqE, bel_g HB.out⟩
def impl_numbersOf.l0 : Nat → List ByteArray → List Int → Int → Option (List Int × Bool)
 | 0, _, _, _ => none
 | k + 1, ws, x4, x18 => if x18 < (ws.length : Int) then (if 0 ≤ x18 then (if (rdOf ByteArray.empty ws x18).size ≤ 281474976710656 then (match Go.Lib.atoiAll (rdOf ByteArray.empty ws x18).data.toList with
   | .ok v => if x4.length < 17592186044416 then impl_numbersOf.l0 k ws (x4 ++ [v]) (wrap64 (x18 + 1)) else none
   | _ => some ([], false)) else none) else none) else some (x4, true)
def impl_numbersOf.f (a0 : ByteArray) : Option (List Int × Bool) := (strings_Split.f a0 (⟨#[44]⟩ : ByteArray)).bind fun ws => if 12 < (ws.length : Int) then some ([], false) else impl_numbersOf.l0 14 ws [] 0
theorem below_of_or {w W : World} (h : W = w ∨ ∃ t, W = Go.Lib.bytesWorld w 5 t) : Below w.heap.size w W := by
 rcases h with rfl | ⟨t, rfl⟩
 ·exact Below.refl _ _
 ·exact Go.Lib.bytesWorld_below _ _ _
theorem impl_numbersOf.calls (a0 : ByteArray) (r1 : List Int) (r2 : Bool) (w : World) (hG : Tab w) (h : impl_numbersOf.f a0 = some (r1, r2)) :
  Calls Tryd.prog 19 #[.string a0] w fun e w' => ∃ v0_ : Value, e = .returned (.tuple #[v0_, .bool r2]) ∧ Kd.R (Kd.int .i64) 3 w' w.heap.size (fun _ => True) v0_ r1 ∧ Below w.heap.size w w' := by
 have HTAB := mkA hG
 clear hG
 have HB := mkA (Below.refl w.heap.size w)
 obtain ⟨ws, A10, H⟩ := Option.bind_eq_some_iff.mp h
 have A1 := mkA A10
 clear A10 h
 rcases iteP H with ⟨c2, H⟩ | ⟨c2, H⟩
 ·have c2b0 := decide_eq_true c2
  have c2b1 : decide (12 < ws.length) = true := decide_eq_true (by omega)
  clear c2
  simp only [Option.some.injEq, Prod.mk.injEq] at H
  obtain ⟨rfl, rfl⟩ := H
  go_enter Tryd.func19, Tryd.ntmps19
  go_wp2_with (first | ((with_reducible refine gate_dst (N := 10) rfl ?_); refine litE (Kd.int .i64) 3 ([] : List Int) [] ?hp ?_; (case hp => exact (Reps.none _ _)); intro v155 w2 ho3 hb hg_ hnew_; clear hg_ hnew_; have n0_ := rLo ho3 HB; have n1_ := bst HB hb; clear HB; have HO10 := n0_; have HB := n1_; clear n0_ n1_ hb ho3) | ((with_reducible refine gate_callee (f := 27) rfl ?_); refine goesL_ (some 12) rfl rfl Tryd.func27 (by kernel_rfl) rfl #[.string a0, .string (⟨#[44]⟩ : ByteArray)] rfl (by (try simp only [List.map_toArray, List.map_cons, List.map_nil]); first | done | rfl) ?_; (with_reducible refine (strings_Split.calls a0 (⟨#[44]⟩ : ByteArray) ws _ ?sideT A1.out).mono ?_); (case sideT => exact Tab.below HTAB.out (bel_g HB.out)); rintro e w6 ⟨v191, rfl, ho0, hb⟩; refine ⟨_, rfl, ?_⟩; have n0_ := rB HO10 hb; have n1_ := rLo ho0 HB; have n2_ := bst HB hb; clear HO10 HB; have HO10 := n0_; have HO192 := n1_; have HB := n2_; clear n0_ n1_ n2_ hb ho0; obtain ⟨Ao7, co7, rfl⟩ := Kd.R_slice HO192.out))
  go_ret2
  exact ⟨_, rfl, Kd.R_nil _ _ _ _ _, bel_g HB.out⟩
 ·have c2b0 := decide_eq_false c2
  have c2b1 : decide (12 < ws.length) = false := decide_eq_false (by omega)
  clear c2
  have H' := mkA H
  clear H
  go_enter Tryd.func19, Tryd.ntmps19
  go_wp2_with (first | ((with_reducible refine gate_dst (N := 10) rfl ?_); refine litE (Kd.int .i64) 3 ([] : List Int) [] ?hp ?_; (case hp => exact (Reps.none _ _)); intro v155 w2 ho3 hb hg_ hnew_; clear hg_ hnew_; have n0_ := rLo ho3 HB; have n1_ := bst HB hb; clear HB; have HO10 := n0_; have HB := n1_; clear n0_ n1_ hb ho3) | ((with_reducible refine gate_callee (f := 27) rfl ?_); refine goesL_ (some 12) rfl rfl Tryd.func27 (by kernel_rfl) rfl #[.string a0, .string (⟨#[44]⟩ : ByteArray)] rfl (by (try simp only [List.map_toArray, List.map_cons, List.map_nil]); first | done | rfl) ?_; (with_reducible refine (strings_Split.calls a0 (⟨#[44]⟩ : ByteArray) ws _ ?sideT A1.out).mono ?_); (case sideT => exact Tab.below HTAB.out (bel_g HB.out)); rintro e w6 ⟨v191, rfl, ho0, hb⟩; refine ⟨_, rfl, ?_⟩; have n0_ := rB HO10 hb; have n1_ := rLo ho0 HB; have n2_ := bst HB hb; clear HO10 HB; have HO10 := n0_; have HO192 := n1_; have HB := n2_; clear n0_ n1_ n2_ hb ho0; obtain ⟨Ao7, co7, rfl⟩ := Kd.R_slice HO192.out))
  go_loopg [4, 18] 14 (fun kq v4 v18 w' => ∃ (x4_1 : List Int) (x18_1 : Int), v18 = .int .i64 x18_1 ∧ Fc (impl_numbersOf.l0 kq ws x4_1 x18_1 = some (r1, r2)) ∧ Fc (kq ≤ 14) ∧ Fc (Kd.R (Kd.int .i64) 3 w' w.heap.size (fun _ => True) v4 x4_1) ∧ Fc (Kd.R Kd.string 9 w' w.heap.size (fun _ => True) (.slice Ao7 ws.length co7) ws) ∧ Fc (Below w.heap.size w w'))
  case atStart => exact ⟨[], 0, rfl, H', ⟨Nat.le_refl _⟩, rg HO10, rg HO192, hbg HB⟩
  case round =>
   clear H' HO10 HO192 HB
   obtain ⟨x4_1, x18_1, rfl, HA, HK1, HO_4, HO_10, HB⟩ := hrel
   cases gk with
   | zero => exact absurd HA.out (by simp [impl_numbersOf.l0])
   | succ k1 =>
    have H := HA.out
    clear HA
    unfold impl_numbersOf.l0 at H
    rcases iteP H with ⟨c8, H⟩ | ⟨c8, H⟩
    ·have c8b0 := decide_eq_true c8
     rcases iteP H with ⟨c9, H⟩ | ⟨c9, H⟩
     ·have c9b0 := decide_eq_true c9
      obtain ⟨ad193, e193, hx193_0⟩ := Kd.at_string (Kd.R_reads' HO_10.out).2.2 x18_1 c9 c8
      cases e193
      have p193 := eq_true c9
      have q193 := eq_true c8
      clear c8 c9
      rcases iteP H with ⟨c10, H⟩ | ⟨c10, H⟩
      ·have HSZ := mkA c10
       clear c10
       cases hat_ : Go.Lib.atoiAll (rdOf ByteArray.empty ws x18_1).data.toList with
       | ok v =>
        rw [hat_] at H
        dsimp only at H
        rcases iteP H with ⟨c12, H⟩ | ⟨c12, H⟩
        ·have LMc12 := mkA c12
         clear c12
         have H' := mkA H
         clear H
         have HAT := mkA hat_
         clear hat_
         go_wp2_with (first | ((with_reducible refine gate_callee (f := 28) rfl ?_); refine goesL_ (some 24) rfl rfl Tryd.func28 (by kernel_rfl) rfl #[.string (rdOf ByteArray.empty ws x18_1)] rfl (by (try simp only [List.map_toArray, List.map_cons, List.map_nil]); first | done | rfl) ?_; (with_reducible refine (Tryd.strconv_Atoi_ok (rdOf ByteArray.empty ws x18_1) (Nat.le_trans HSZ.out (by decide)) v HAT.out _).mono ?_); rintro e w7 ⟨rfl, hw7⟩; refine ⟨_, rfl, ?_⟩; have hb := below_of_or hw7; clear hw7; have n0_ := rB HO_4 hb; have n1_ := rB HO_10 hb; have n2_ := bst HB hb; clear HO_4 HO_10 HB; have HO_4 := n0_; have HO_10 := n1_; have HB := n2_; clear n0_ n1_ n2_ hb) | ((with_reducible refine gate_builtin (b := .append) (xs := #[.tmp 29, .tmp 31]) rfl ?_); at_builtin; refine Kd.R_append (Kd.int .i64) (w0 := w) w.heap.size rfl (.tmp 29) (.tmp 31) 22 3 (.int .i64 0) 8 rfl Tryd.underlying22 info3 rfl (by decide) (by omega) u4 x4_1 v [.int .i64 v] (fun _ => True) (fun _ => False) rfl rfl ?aP (fun _ hk => hk.elim) ?aF ?aO ?aB ?aS ?aL ?_; (case aP => exact rfl); (case aB => exact (bel_g HB.out)); (case aF => exact (fun _ _ => trivial)); (case aO => exact (Kd.R_g HO_4.out)); (case aS => exact (below_size (bel_g HB.out))); (case aL => have := LMc12.out; omega); intro v196 w13 ho hb hg hat; have n0_ := mkA (Kd.R_over' (Kd.R_g HO_10.out) (Kd.R_typed (Kd.R_g HO_4.out)) (by decide) hg); have n1_ := mkA (hb); have n2_ := mkA (ho); clear HO_10 HB HO_4; have HO_10 := n0_; have HB := n1_; have HO197 := n2_; clear n0_ n1_ n2_ ho hb hg hat))
         go_roundg k1
         case measure => have := HK1.out; omega
         case rel => exact ⟨(x4_1 ++ [v]), (wrap64 (x18_1 + 1)), eqS, H', ⟨by have := HK1.out; omega⟩, rg HO197, rg HO_10, hbg HB⟩
        ·cases H
       | range =>
        rw [hat_] at H
        dsimp only at H
        simp only [Option.some.injEq, Prod.mk.injEq] at H
        obtain ⟨rfl, rfl⟩ := H
        have HAT := mkA hat_
        clear hat_
        obtain ⟨ev_, hv_, hev_⟩ := (Tab.below HTAB.out HB.out).2.2
        go_wp2_with (first | ((with_reducible refine gate_callee (f := 28) rfl ?_); refine goesL_ (some 24) rfl rfl Tryd.func28 (by kernel_rfl) rfl #[.string (rdOf ByteArray.empty ws x18_1)] rfl (by (try simp only [List.map_toArray, List.map_cons, List.map_nil]); first | done | rfl) ?_; (with_reducible refine (Tryd.strconv_Atoi_range (rdOf ByteArray.empty ws x18_1) HSZ.out HAT.out ev_ _ hv_ hev_).mono ?_); rintro e w7 ⟨N, rfl, _, _, hb⟩; refine ⟨_, rfl, ?_⟩; have n2_ := bst HB hb; clear HB; have HB := n2_; clear n2_ hb))
        go_ret2
        exact ⟨_, rfl, Kd.R_nil _ _ _ _ _, bel_g HB.out⟩
       | _ =>
        rw [hat_] at H
        dsimp only at H
        simp only [Option.some.injEq, Prod.mk.injEq] at H
        obtain ⟨rfl, rfl⟩ := H
        have HAT := mkA hat_
        clear hat_
        obtain ⟨ev_, hv_, hev_⟩ := (Tab.below HTAB.out HB.out).2.1
        go_wp2_with (first | ((with_reducible refine gate_callee (f := 28) rfl ?_); refine goesL_ (some 24) rfl rfl Tryd.func28 (by kernel_rfl) rfl #[.string (rdOf ByteArray.empty ws x18_1)] rfl (by (try simp only [List.map_toArray, List.map_cons, List.map_nil]); first | done | rfl) ?_; (with_reducible refine (Tryd.strconv_Atoi_syntax (rdOf ByteArray.empty ws x18_1) HSZ.out (by have e_ := HAT.out; first | (rw [e_]; exact True.intro) | (simp only [e_])) ev_ _ hv_ hev_).mono ?_); rintro e w7 ⟨N, rfl, _, _, hb⟩; refine ⟨_, rfl, ?_⟩; have n2_ := bst HB hb; clear HB; have HB := n2_; clear n2_ hb))
        go_ret2
        exact ⟨_, rfl, Kd.R_nil _ _ _ _ _, bel_g HB.out⟩
      ·cases H
     ·cases H
    ·have c8b0 := decide_eq_false c8
     clear c8
     simp only [Option.some.injEq, Prod.mk.injEq] at H
     obtain ⟨rfl, rfl⟩ := H
     go_wp2
     go_ret2
     exact ⟨_, rfl, Kd.R_g HO_4.out, bel_g HB.out⟩
def impl_ParseAscent.f (k : Nat) (a0 : ByteArray) : Option (List Int × Bool) := if a0.toList = ([] : List UInt8) then (some ((([] : List Int)), true)) else ((impl_numbersOf.f a0).bind fun bt219 => (if bt219.2 = true then ((impl_IsAscent.f k bt219.1).bind fun t223 => (if t223 = true then ((impl_ascentText.f k bt219.1).bind fun t224 => (if t224.toList = a0.toList then (some (bt219.1, true)) else (some (([] : List Int), false)))) else (some (([] : List Int), false)))) else (some (([] : List Int), false))))
theorem impl_ParseAscent.mono : ∀ a0 k, LeO (impl_ParseAscent.f k a0) (impl_ParseAscent.f (k + 1) a0) := by
 intro a0 k
 unfold impl_ParseAscent.f
 repeat' (with_reducible first|apply impl_IsAscent.mono|apply impl_ascentText.mono|apply LeO.refl|apply LeO.none|apply LeO.ite|apply LeO.bind|intro)
theorem impl_ParseAscent.calls (k : Nat) (a0 : ByteArray) (r1 : List Int) (r2 : Bool) (w : World) (hTAB : Tab w) (h : impl_ParseAscent.f k a0 = some (r1, r2)) :
  Calls Tryd.prog 10 #[.string a0] w fun e w' => ∃ v0_ : Value, e = .returned (.tuple #[v0_, .bool r2]) ∧ Kd.R (Kd.int .i64) 3 w' w.heap.size (fun _ => True) v0_ r1 ∧ Below w.heap.size w w' := by
 have HTAB := mkA hTAB
 clear hTAB
 have HB := mkA (Below.refl w.heap.size w)
 have H := h
 clear h
 unfold impl_ParseAscent.f at H
 rcases iteP H with ⟨c2, H⟩ | ⟨c2, H⟩
 ·have c2b0 := beq_iff_eq.mpr c2
  have c2b1 := bne_eq_false_iff_eq.mpr c2
  clear c2
  obtain ⟨y216, hy216⟩ : ∃ y_ : List Int, y_ = (([] : List Int)) := ⟨_, rfl⟩
  rw [← hy216] at H
  have Ny216 := mkA hy216
  clear hy216
  simp only [Option.some.injEq, Prod.mk.injEq] at H
  obtain ⟨rfl, rfl⟩ := H
  go_enter Tryd.func10, Tryd.ntmps10
  go_wp2_with (first | ((with_reducible refine gate_dst (N := 8) rfl ?_); refine litE (Kd.int .i64) 3 ([] : List Int) [] ?hp ?_; (case hp => exact (Reps.none _ _)); intro v217 w3 ho4 hb hg_ hnew_; clear hg_ hnew_; (first | rw [← Ny216.out] at ho4 | (simp only [Int.reduceToNat] at ho4; rw [← Ny216.out] at ho4)); have HO218 := rLo ho4 HB; replace HB := bst HB hb; clear hb ho4))
  go_ret2
  exact ⟨_, eqE, Kd.R_g HO218.out, bel_g HB.out⟩
 ·have c2b0 := beq_eq_false_iff_ne.mpr c2
  have c2b1 := bne_iff_ne.mpr c2
  obtain ⟨⟨t219, t220⟩, A5, H⟩ := obE H
  dsimp only at H
  by_cases c6 : t220 = true
  ·subst c6
   replace H := ifT H
   obtain ⟨t223, A7, H⟩ := obE H
   by_cases c8 : t223 = true
   ·subst c8
    replace H := ifT H
    obtain ⟨t224, A9, H⟩ := obE H
    rcases iteP H with ⟨c10, H⟩ | ⟨c10, H⟩
    ·have c10b0 := beq_iff_eq.mpr c10
     have c10b1 := bne_eq_false_iff_eq.mpr c10
     clear c10
     simp only [Option.some.injEq, Prod.mk.injEq] at H
     obtain ⟨rfl, rfl⟩ := H
     go_enter Tryd.func10, Tryd.ntmps10
     go_wp2_with (first | ((with_reducible refine gate_callee (f := 19) rfl ?_); refine goesQ (some 11) Tryd.func19 #[.string a0] ?_; (with_reducible refine (impl_numbersOf.calls a0 t219 true _ ?_ A5.out).mono ?_); exact Tab.below HTAB.out (bel_g HB.out); rintro e w11 ⟨v221, rfl, ho0, hb⟩; refine ⟨_, rfl, ?_⟩; have HO222 := rLo ho0 HB; replace HB := bst HB hb; clear hb ho0; obtain ⟨Ao12, co12, rfl⟩ := Kd.R_slice HO222.out) | (go_at_call 15; (with_reducible refine (impl_IsAscent.calls k _ _ t219 true _ ?_ ?_ A7.out).mono ?_); exact rC HO222; exact rL HO222; rintro e w' ⟨rfl, ⟨nd, rfl⟩⟩) | (go_at_call 16; (with_reducible refine (impl_ascentText.calls k _ _ t219 t224 _ ?_ ?_ A9.out).mono ?_); exact rC HO222; exact rL HO222; rintro e w13 ⟨rfl, hb⟩; replace HO222 := rB HO222 hb; replace HB := bst HB hb; clear hb))
     go_ret2
     exact ⟨_, eqE, Kd.R_g HO222.out, bel_g HB.out⟩
    ·have c10b0 := beq_eq_false_iff_ne.mpr c10
     have c10b1 := bne_iff_ne.mpr c10
     simp only [Option.some.injEq, Prod.mk.injEq] at H
     obtain ⟨rfl, rfl⟩ := H
     go_enter Tryd.func10, Tryd.ntmps10
     go_wp2_with (first | ((with_reducible refine gate_callee (f := 19) rfl ?_); refine goesQ (some 11) Tryd.func19 #[.string a0] ?_; (with_reducible refine (impl_numbersOf.calls a0 t219 true _ ?_ A5.out).mono ?_); exact Tab.below HTAB.out (bel_g HB.out); rintro e w14 ⟨v221, rfl, ho0, hb⟩; refine ⟨_, rfl, ?_⟩; have HO222 := rLo ho0 HB; replace HB := bst HB hb; clear hb ho0; obtain ⟨Ao15, co15, rfl⟩ := Kd.R_slice HO222.out) | (go_at_call 15; (with_reducible refine (impl_IsAscent.calls k _ _ t219 true _ ?_ ?_ A7.out).mono ?_); exact rC HO222; exact rL HO222; rintro e w' ⟨rfl, ⟨nd, rfl⟩⟩) | (go_at_call 16; (with_reducible refine (impl_ascentText.calls k _ _ t219 t224 _ ?_ ?_ A9.out).mono ?_); exact rC HO222; exact rL HO222; rintro e w16 ⟨rfl, hb⟩; replace HO222 := rB HO222 hb; replace HB := bst HB hb; clear hb))
     go_ret2
     exact ⟨_, eqE, nilE, bel_g HB.out⟩
   ·replace c8 := Bool.eq_false_iff.mpr c8
    subst c8
    replace H := ifF H
    simp only [Option.some.injEq, Prod.mk.injEq] at H
    obtain ⟨rfl, rfl⟩ := H
    go_enter Tryd.func10, Tryd.ntmps10
    go_wp2_with (first | ((with_reducible refine gate_callee (f := 19) rfl ?_); refine goesQ (some 11) Tryd.func19 #[.string a0] ?_; (with_reducible refine (impl_numbersOf.calls a0 t219 true _ ?_ A5.out).mono ?_); exact Tab.below HTAB.out (bel_g HB.out); rintro e w17 ⟨v221, rfl, ho0, hb⟩; refine ⟨_, rfl, ?_⟩; have HO222 := rLo ho0 HB; replace HB := bst HB hb; clear hb ho0; obtain ⟨Ao18, co18, rfl⟩ := Kd.R_slice HO222.out) | (go_at_call 15; (with_reducible refine (impl_IsAscent.calls k _ _ t219 false _ ?_ ?_ A7.out).mono ?_); exact rC HO222; exact rL HO222; rintro e w' ⟨rfl, ⟨nd, rfl⟩⟩))
    go_ret2
    exact ⟨_, eqE, nilE, bel_g HB.out⟩
  ·replace c6 := Bool.eq_false_iff.mpr c6
   subst c6
   replace H := ifF H
   simp only [Option.some.injEq, Prod.mk.injEq] at H
   obtain ⟨rfl, rfl⟩ := H
   go_enter Tryd.func10, Tryd.ntmps10
   go_wp2_with (first | ((with_reducible refine gate_callee (f := 19) rfl ?_); refine goesQ (some 11) Tryd.func19 #[.string a0] ?_; (with_reducible refine (impl_numbersOf.calls a0 t219 false _ ?_ A5.out).mono ?_); exact Tab.below HTAB.out (bel_g HB.out); rintro e w19 ⟨v221, rfl, ho0, hb⟩; refine ⟨_, rfl, ?_⟩; have HO222 := rLo ho0 HB; replace HB := bst HB hb; clear hb ho0))
   go_ret2
   exact ⟨_, eqE, nilE, bel_g HB.out⟩
def laws_markIntS.l0 : Nat → List Int → Int → Int → Option (Int × List Int)
 | 0, _, _, _ => none
 | k + 1, x0, x1, x5 => if x5 < (x0.length : Int) then (if 0 ≤ x5 then (laws_markIntS.l0 k (x0.set (x5 : Int).toNat x1) (wrap64 (x1 + 1)) (wrap64 (x5 + 1))) else (none)) else (some (x1, x0))
def laws_markIntS.f (k : Nat) (l0 : List Int) (a1 : Int) : Option (Int × List Int) := laws_markIntS.l0 k l0 a1 0
theorem laws_markIntS.mono_l : ∀ k, (∀ y0 y1 y2, LeO (laws_markIntS.l0 k y0 y1 y2) (laws_markIntS.l0 (k + 1) y0 y1 y2))
 | 0 => fun _ _ _ r h => by simp [laws_markIntS.l0] at h
 | k + 1 => by
  have ih0 := laws_markIntS.mono_l k
  ·intro y0 y1 y2
   unfold laws_markIntS.l0
   repeat' (with_reducible first|apply ih0|apply LeO.refl|apply LeO.none|apply LeO.ite|apply LeO.bind|intro)
theorem laws_markIntS.mono : ∀ a0 a1 k, LeO (laws_markIntS.f k a0 a1) (laws_markIntS.f (k + 1) a0 a1) := by
 intro a0 a1 k
 have ih0 := laws_markIntS.mono_l k
 unfold laws_markIntS.f
 repeat' (with_reducible first|apply ih0|apply LeO.refl|apply LeO.none|apply LeO.ite|apply LeO.bind|intro)
theorem laws_markIntS.calls (k : Nat) (P0_ : Nat → Prop) (u9000_ : Value) (l0 : List Int) (a1 : Int) (r1 : Int) (r2 : List Int) (w0 w : World) (hB : Below w0.heap.size w0 w) (ho0 : Kd.R (Kd.int .i64) 3 w w0.heap.size P0_ u9000_ l0) (h : laws_markIntS.f k l0 a1 = some (r1, r2)) :
  Calls Tryd.prog 11 #[u9000_, .int .i64 a1] w fun e w' => e = .returned (.int .i64 r1) ∧ Kd.R (Kd.int .i64) 3 w' w0.heap.size (fun k_ => (P0_ k_ ∨ w.heap.size ≤ k_)) u9000_ r2 ∧ Below w0.heap.size w0 w' ∧ Kept w w' (fun k_ => P0_ k_) := by
 have HO0 := mkA (show Kd.R (Kd.int .i64) 3 w w0.heap.size (fun k_ => (P0_ k_ ∨ w.heap.size ≤ k_)) u9000_ l0 from Kd.R_mono ho0 (fun k_ hk => (.inl hk)))
 have HK := mkA (Kept.refl w (fun k_ => P0_ k_))
 have HW0 := mkA hB.size
 have HB := mkA hB
 clear hB
 have H := h
 clear h
 unfold laws_markIntS.f at H
 have H' := mkA H
 clear H
 go_enter Tryd.func11, Tryd.ntmps11
 go_wp2
 go_loopg [1, 5] k (fun kq v1 v5 w' => ∃ (x0_1 : List Int) (x1_1 : Int) (x5_1 : Int), v1 = .int .i64 x1_1 ∧ v5 = .int .i64 x5_1 ∧ Fc (laws_markIntS.l0 kq x0_1 x1_1 x5_1 = some (r1, r2)) ∧ Fc (kq ≤ k) ∧ Fc (Kd.R (Kd.int .i64) 3 w' w0.heap.size (fun k_ => (P0_ k_ ∨ w.heap.size ≤ k_)) u9000_ x0_1) ∧ Fc (Kept w w' (fun k_ => P0_ k_)) ∧ Fc (Below w0.heap.size w0 w'))
 case atStart => exact ⟨(l0), (a1), (0), eqS, eqS, H', ⟨Nat.le_refl _⟩, rg HO0, ⟨by repeat (first | (with_reducible first | exact HK.out | apply Kept.alloc | apply Kept.drewN | apply Kept.drew) | exact HK.out)⟩, hbg HB⟩
 case round =>
  clear H'
  obtain ⟨x0_1, x1_1, x5_1, rfl, rfl, HA, HK1, HO_0, HK, HB⟩ := hrel
  cases gk with
  | zero => exact absurd HA.out (by simp [laws_markIntS.l0])
  | succ k1 =>
   have H := HA.out
   clear HA
   simp only [laws_markIntS.l0] at H
   rcases iteE H with ⟨c3b0, H⟩ | ⟨c3b0, H⟩
   ·obtain ⟨c4b0, H⟩ := itND H
    obtain ⟨y225, hy225⟩ : ∃ y_ : List Int, y_ = (x0_1.set (x5_1 : Int).toNat x1_1) := ⟨_, rfl⟩
    rw [← hy225] at H
    have Ny225 := mkA hy225
    clear hy225
    have H' := mkA H
    clear H
    obtain ⟨Ao6, co6, rfl⟩ := Kd.R_slice HO_0.out
    have p5 : 0 ≤ (x5_1 : Int) := ofd
    have q5 : (x5_1 : Int) < ((x0_1.length : Int) : Int) := ofd
    obtain ⟨go5, co5, eo5, gb5, gl5, cl5, HG5⟩ := Kd.R_form HO_0.out (by omega)
    (first | cases eo5 | (injection eo5 with ea_ en_ ec_; (first | subst ea_ | (injection ea_ with ea_; subst ea_)); subst ec_; clear en_))
    have GB5 : Ge _ _ := ⟨gb5⟩
    have GG5 := mkA HG5
    clear gb5 gl5 HG5
    have HMgo5 := mkA (show (P0_ go5 ∨ w.heap.size ≤ go5) from (HO_0.out.1 _ rfl))
    obtain ⟨hx5_0, hf5_0⟩ := Kd.R_celln 0 HO_0.out (x5_1 : Int) p5 q5
    replace p5 := eq_true p5
    replace q5 := eq_true q5
    have HP7 := Kd.R_putg HO_0.out (x5_1 : Int) x1_1
    go_wp2_with (first | ((with_reducible refine gate_store (t := 3) (p := 15) rfl ?_); refine store_event (t := 3) (p := 15) (v := ?vo_w8) (w1 := (wr.setCell ⟨go5, (x5_1 : Int).toNat, none⟩ (.int .i64 x1_1))) ?hg ?ho ?hn ?hr ?_; (case ho => rfl); (case hg => rfl); (case hn => rfl); (case hr => first | (go_simp; done) | (go_simp; rfl)); intro w8 hw; have hg : wr.grownBy w8 (some go5) := (by rw [hw]; exact HP7.2); have hp_ : Kd.R (Kd.int .i64) 3 w8 w0.heap.size (fun k_ => (P0_ k_ ∨ w.heap.size ≤ k_)) (.slice (some ⟨go5, 0, none⟩) x0_1.length co6) y225 := (by rw [hw, Ny225.out]; exact HP7.1); clear HP7; replace HK := mkA (Kept.of_grown (S := (fun k_ => P0_ k_)) hg (by repeat (first | (with_reducible first | exact HK.out | apply Kept.alloc | apply Kept.drewN | apply Kept.drew) | exact HK.out)) (fun k_ e_ => (HO_0.out.1 k_ e_))); replace HO_0 := mkA (hp_); replace HB := mkA ((by rw [hw]; exact below_set (HB.out) GB5.out : Below w0.heap.size w0 w8)); clear hg hw hp_))
    go_roundg k1
    case measure => have := HK1.out; omega
    case rel => exact ⟨(y225), (wrap64 (x1_1 + 1)), (wrap64 (x5_1 + 1)), eqS, eqS, H', ⟨by have := HK1.out; omega⟩, rg HO_0, ⟨by repeat (first | (with_reducible first | exact HK.out | apply Kept.alloc | apply Kept.drewN | apply Kept.drew) | exact HK.out)⟩, hbg HB⟩
   ·simp only [Option.some.injEq, Prod.mk.injEq] at H
    obtain ⟨rfl, rfl⟩ := H
    obtain ⟨Ao9, co9, rfl⟩ := Kd.R_slice HO_0.out
    go_wp2
    go_ret
    exact ⟨eqE, Kd.R_g HO_0.out, bel_g HB.out, by repeat (first | (with_reducible first | exact HK.out | apply Kept.alloc | apply Kept.drewN | apply Kept.drew) | exact HK.out)⟩
end Go.Proofs.YtojappijhehlpaaDoor.Q
