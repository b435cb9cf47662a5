import Derived.Laws.Bits64b
import Derived.Test.YteechpappfagpaaDoorBFnMirrors0
import Derived.Test.YteechpappfagpaaDoorBFnMirrors3
import Derived.Test.YteechpappfagpaaDoorBFnMirrors4
import Derived.Test.YteechpappfagpaaDoorBFnMirrors6
namespace Go.Proofs.YteechpappfagpaaDoor.Pure
open Go.RowKit Go.Proofs.YteechpappfagpaaDoor.Q Go.Proofs.YteechpappfagpaaDoorW.PrintWords Go.Proofs.YteechpappfagpaaDoorW.PrintLast
set_option linter.unusedVariables false
set_option linter.unusedSimpArgs false

-- small laws over rounds, numbers and lists; no program in sight
theorem Ev.shift {α : Type} {g : Nat → Option α} {r : α} (h : Ev (fun k => g (k + 1)) r) : Ev g r := by
  obtain ⟨K, hK⟩ := h
  refine ⟨K + 1, fun k hk => ?_⟩
  obtain ⟨m, rfl⟩ : ∃ m, k = m + 1 := ⟨k - 1, by omega⟩
  exact hK m (by omega)
theorem Ev.pos {α : Type} {c : Prop} [Decidable c] {f g : Nat → Option α} {r : α} (h : c) (k : Ev f r) : Ev (fun n => if c then f n else g n) r := by
  simp only [if_pos h]; exact k
theorem Ev.neg {α : Type} {c : Prop} [Decidable c] {f g : Nat → Option α} {r : α} (h : ¬ c) (k : Ev g r) : Ev (fun n => if c then f n else g n) r := by
  simp only [if_neg h]; exact k
theorem Ev.bindc {α β : Type} {a : Option α} {x : α} {f : Nat → α → Option β} {r : β} (h : a = some x) (k : Ev (fun n => f n x) r) : Ev (fun n => a.bind (f n)) r := by
  subst h; exact k
theorem Ev.ret {α : Type} {r s : α} (h : r = s) : Ev (fun _ => some r) s := by subst h; exact Ev.now _
theorem Ev.const {α : Type} {a : Option α} {r : α} (h : a = some r) : Ev (fun _ => a) r := ⟨0, fun _ _ => h⟩
theorem Ev.eq {α : Type} {g : Nat → Option α} {r s : α} (h : Ev g r) (e : r = s) : Ev g s := e ▸ h
theorem Ev.uniq {α : Type} {g : Nat → Option α} {r s : α} (h : Ev g r) (h' : Ev g s) : r = s := by
  obtain ⟨K, hK⟩ := h; obtain ⟨L, hL⟩ := h'
  have a := hK (max K L) (by omega); have b := hL (max K L) (by omega)
  rw [a] at b; exact Option.some.inj b
theorem Ev.at1 {α : Type} {g : Nat → Option α} {r : α} (h : Ev g r) : ∃ k, g k = some r := h.rounds
theorem wrap64_id {x : Int} (h1 : -9223372036854775808 ≤ x) (h2 : x ≤ 9223372036854775807) : wrap64 x = x := by unfold wrap64; omega
theorem rd_nat (l : List Int) (i : Nat) : rd l (i : Int) = l.getD i 0 := by simp [rd]
theorem rd_lt (l : List Int) (i : Nat) (h : i < l.length) : rd l (i : Int) = l[i] := by simp [rd, h]
theorem cast1 (i : Nat) : (i : Int) + 1 = ((i + 1 : Nat) : Int) := by omega
theorem set_prefix {l m : List Int} {i : Nat} (hm : m.length = l.length) (hi : i < l.length) (h : m.take i = l.take i) : (m.set i (rd l (i : Int))).take (i + 1) = l.take (i + 1) := by
  apply List.ext_getElem?
  intro j
  by_cases hj : j < i + 1
  · rw [List.getElem?_take_of_lt hj, List.getElem?_take_of_lt hj]
    by_cases e : j = i
    · subst e; rw [List.getElem?_set_self (by omega), rd_lt l j hi]; simp [hi]
    · rw [List.getElem?_set_ne (by omega)]
      have := congrArg (fun t => t[j]?) h
      rwa [List.getElem?_take_of_lt (by omega), List.getElem?_take_of_lt (by omega)] at this
  · rw [List.getElem?_eq_none (by simp; omega), List.getElem?_eq_none (by simp; omega)]

end Go.Proofs.YteechpappfagpaaDoor.Pure

namespace Go.Proofs.YteechpappfagpaaDoor.Pure
open Go.RowKit Go.Proofs.YteechpappfagpaaDoor.Q Go.Proofs.YteechpappfagpaaDoorW.PrintWords Go.Proofs.YteechpappfagpaaDoorW.PrintLast
set_option linter.unusedVariables false
set_option linter.unusedSimpArgs false

-- choices out of bytes: numbers below what is asked, the place goes on by a few
def bytesP (l : List Int) : Prop := ∀ x ∈ l, 0 ≤ x ∧ x < 256
theorem bytesP.rd {l : List Int} (h : bytesP l) {i : Int} (h0 : 0 ≤ i) (h1 : i < l.length) : 0 ≤ rd l i ∧ rd l i < 256 := by
  obtain ⟨m, rfl⟩ : ∃ m : Nat, i = m := ⟨i.toNat, by omega⟩
  rw [rd_lt l m (by omega)]
  exact h _ (List.getElem_mem _)
theorem bytesP.of {l : List Int} (h : ∀ x ∈ l, (Lit.int .u8 x).wf = true) : bytesP l := fun x hx => by
  have := h x hx
  simp [Lit.wf, IntKind.min, IntKind.max, IntKind.signed, IntKind.bits] at this
  omega
theorem and255 (x : Int) : 0 ≤ Go.bits .and .u64 x 255 ∧ Go.bits .and .u64 x 255 < 256 := by
  show 0 ≤ IntKind.u64.wrap ((BitVec.ofInt 64 x &&& BitVec.ofInt 64 255).toNat : Int) ∧ IntKind.u64.wrap ((BitVec.ofInt 64 x &&& BitVec.ofInt 64 255).toNat : Int) < 256
  rw [BitVec.toNat_and]
  have h : (BitVec.ofInt 64 x).toNat &&& (BitVec.ofInt 64 255).toNat ≤ (BitVec.ofInt 64 255).toNat := Nat.and_le_right
  have e : (BitVec.ofInt 64 255).toNat = 255 := by decide
  rw [e] at h
  rw [e]
  generalize (BitVec.ofInt 64 x).toNat &&& 255 = m at h
  simp [IntKind.wrap, IntKind.signed, IntKind.bits]; omega
/-- some choice: its value is one of P, the place goes on by at most n -/
def Drw {α : Type} (g : Option (α × Int × Int)) (P : α → Prop) (a n : Int) : Prop := ∃ x a' s', g = some (x, a', s') ∧ P x ∧ a ≤ a' ∧ a' ≤ a + n
theorem next_d {c : List Int} (hc : bytesP c) {a : Int} (s : Int) (h0 : 0 ≤ a) (h1 : a ≤ 1152921504606846976) : Drw (spec_l1Cur_next.f c a s) (fun x => 0 ≤ x ∧ x < 256) a 1 := by
  unfold Drw spec_l1Cur_next.f
  rw [wrap64_id (x := a + 1) (by omega) (by omega)]
  have hb := and255
  by_cases h2 : a < (c.length : Int)
  · have hr := hc.rd h0 h2
    rw [if_pos h2, if_pos h0, if_pos (by omega)]
    exact ⟨_, _, _, rfl, by rw [wrap64_id (by omega) (by omega)]; exact hr, by omega, by omega⟩
  · rw [if_neg h2, if_neg (by omega)]
    refine ⟨_, _, _, rfl, ?_, by omega, by omega⟩
    have := hb (IntKind.u64.wrap (IntKind.u64.wrap (IntKind.u64.wrap (s * 6364136223846793005) + 0) + 1442695040888963407) / 1099511627776)
    rw [wrap64_id (by omega) (by omega)]; exact this
theorem pick_d {c : List Int} (hc : bytesP c) {a : Int} (s n : Int) (h0 : 0 ≤ a) (h1 : a ≤ 1000000000000) (hn : 1 ≤ n) : Drw (spec_l1Cur_pick.f c a s n) (fun x => 0 ≤ x ∧ x < n) a 2 := by
  unfold spec_l1Cur_pick.f
  by_cases h2 : n ≤ 1
  · rw [if_pos h2]; exact ⟨_, _, _, rfl, by omega, by omega, by omega⟩
  · rw [if_neg h2]
    obtain ⟨x, a', s', e, hx, h3, h4⟩ := next_d hc s h0 (by omega)
    rw [e, Option.bind_some]
    by_cases h5 : n > 200
    · rw [if_pos h5]
      obtain ⟨y, a2, s2, e2, hy, h6, h7⟩ := next_d hc s' (a := a') (by omega) (by omega)
      dsimp only
      rw [e2, Option.bind_some, if_neg (by omega)]
      refine ⟨_, _, _, rfl, ?_, by dsimp only; omega, by dsimp only; omega⟩
      dsimp only
      rw [wrap64_id (x := x * 256) (by omega) (by omega), wrap64_id (by omega) (by omega)]
      exact ⟨Int.tmod_nonneg _ (by omega), Int.tmod_lt_of_pos _ (by omega)⟩
    · rw [if_neg h5, if_neg (by omega)]
      exact ⟨_, _, _, rfl, ⟨Int.tmod_nonneg _ hx.1, Int.tmod_lt_of_pos _ (by omega)⟩, by dsimp only; omega, by dsimp only; omega⟩
theorem one_d {c : List Int} (hc : bytesP c) {a : Int} (s n : Int) (h0 : 0 ≤ a) (h1 : a ≤ 1000000000000) (hn : 1 ≤ n) : Drw (spec_l1Cur_one.f c a s n) (fun _ => True) a 2 := by
  unfold spec_l1Cur_one.f
  obtain ⟨x, a', s', e, hx, h3, h4⟩ := pick_d hc s n h0 h1 hn
  rw [e, Option.bind_some]
  exact ⟨_, _, _, rfl, trivial, h3, h4⟩
theorem among_d {c : List Int} (hc : bytesP c) {a : Int} (s : Int) (l : List Int) (h0 : 0 ≤ a) (h1 : a ≤ 1000000000000) (hn : 1 ≤ l.length) : Drw (spec_l1Cur_among.f c a s l) (fun x => x ∈ l) a 2 := by
  unfold spec_l1Cur_among.f
  obtain ⟨x, a', s', e, hx, h3, h4⟩ := pick_d hc s (l.length : Int) h0 h1 (by omega)
  rw [e, Option.bind_some]
  dsimp only
  rw [if_pos hx.1, if_pos hx.2]
  refine ⟨_, _, _, rfl, ?_, h3, h4⟩
  obtain ⟨m, rfl⟩ : ∃ m : Nat, x = m := ⟨x.toNat, by omega⟩
  rw [rd_lt l m (by omega)]; exact List.getElem_mem _

end Go.Proofs.YteechpappfagpaaDoor.Pure

-- printed by this project's own program (wip/mp/mp.py) over the kit's print, for this seat; Lean checks it
namespace Go.Proofs.YteechpappfagpaaDoor.Q
open Go.RowKit Go.Proofs.YteechpappfagpaaDoorW.PrintWords Go.Proofs.YteechpappfagpaaDoorW.PrintLast Go.Proofs.YteechpappfagpaaDoorW.PrintMore
attribute [local go_sem] max2_int min2_int max_two min_two max_three min_three max_four min_four   -- for this text's walks alone
set_option linter.unusedVariables false
set_option maxHeartbeats 8000000
set_option maxRecDepth 100000
set_option linter.unusedSimpArgs false

/-! ### spec_orList: function 94 -/
def spec_orList.l0 : Nat → Int → List Int → Int → Option (List Int)
 | 0, _, _, _ => none
 | k + 1, x0, x3, x4 => if 0 ≤ x4 then (if (shr .i64 x0 x4) > 0 then ((spec_orHas.f x0 x4).bind fun t103 => (if t103 = true then (if x3.length < 17592186044416 then (spec_orList.l0 k x0 (x3 ++ [x4]) (wrap64 (x4 + 1))) else (none)) else (spec_orList.l0 k x0 x3 (wrap64 (x4 + 1))))) else (some x3)) else (none)
def spec_orList.f (k : Nat) (a0 : Int) : Option (List Int) := spec_orList.l0 k a0 ([] : List Int) 0
theorem spec_orList.mono_l : ∀ k, (∀ y0 y1 y2, LeO (spec_orList.l0 k y0 y1 y2) (spec_orList.l0 (k + 1) y0 y1 y2))
 | 0 => fun _ _ _ r h => by simp [spec_orList.l0] at h
 | k + 1 => by
  have ih0 := spec_orList.mono_l k
  ·intro y0 y1 y2
   unfold spec_orList.l0
   repeat' (with_reducible first|exact ih0 _ _ _|exact LeO.refl _|exact LeO.none _|refine LeO.ite ?_ ?_|refine LeO.bind ?_ (fun _ => ?_))
theorem spec_orList.mono : ∀ a0 k, LeO (spec_orList.f k a0) (spec_orList.f (k + 1) a0) := by
 intro a0 k
 have ih0 := spec_orList.mono_l k
 unfold spec_orList.f
 repeat' (with_reducible first|exact ih0 _ _ _|exact LeO.refl _|exact LeO.none _|refine LeO.ite ?_ ?_|refine LeO.bind ?_ (fun _ => ?_))
theorem spec_orList.calls (k : Nat) (a0 : Int) (r : List Int) (w : World) (h : spec_orList.f k a0 = some r) :
  Calls Tryd.prog 94 #[.int .i64 a0] w fun e w' => ∃ v0_ : Value, e = .returned (v0_) ∧ Kd.R (Kd.int .i64) 3 w' w.heap.size (fun _ => True) v0_ r ∧ Below w.heap.size w w' := by
 have HB := Aside0.mk (Below.refl w.heap.size w)
 have H : (spec_orList.l0 k a0 ([] : List Int) 0) = some r := h
 clear h
 have H' := Aside0.mk H
 clear H
 go_enter Tryd.func94, Tryd.ntmps94
 go_wp2
 go_loopg [3, 4] k (fun kq v3 v4 w' => ∃ (x3_1 : List Int) (x4_1 : Int), v4 = .int .i64 x4_1 ∧ Aside0 (spec_orList.l0 kq a0 x3_1 x4_1 = some r) ∧ Aside0 (kq ≤ k) ∧ Aside0 (Kd.R (Kd.int .i64) 3 w' w.heap.size (fun _ => True) v3 x3_1) ∧ Aside0 (Below w.heap.size w w'))
 case atStart => exact ⟨(([] : List Int)), (0), eqS, H', ⟨Nat.le_refl _⟩, ⟨by first | exact Kd.R_nil _ _ _ _ _ | exact Kd.N_nil _ _ _ _ _ | exact Kd.V_nil _ _ _ _ _ | exact Kd.Q_nil _ _ _ _ _ | exact Kd.S_nil _ _ _ _ _⟩, ⟨bel_g HB.out⟩⟩
 case round =>
  clear H'
  obtain ⟨x3_1, x4_1, rfl, HA, HK1, HO_3, HB⟩ := hrel
  cases gk with
  | zero => exact absurd HA.out (by simp [spec_orList.l0])
  | succ k1 =>
   have H := HA.out
   clear HA
   simp only [spec_orList.l0] at H
   rcases iteP H with ⟨c2, H⟩ | ⟨c2, H⟩
   ·have c2b0 := eq_true c2
    have c2b1 : decide (0 ≤ x4_1) = true := decide_eq_true c2
    clear c2
    obtain ⟨ji3, hji3⟩ : ∃ j_ : Int, (shr .i64 a0 x4_1) = j_ := ⟨_, rfl⟩
    replace H : (if (ji3) > 0 then ((spec_orHas.f a0 x4_1).bind fun t103 => (if t103 = true then (if x3_1.length < 17592186044416 then (spec_orList.l0 k1 a0 (x3_1 ++ [x4_1]) (wrap64 (x4_1 + 1))) else (none)) else (spec_orList.l0 k1 a0 x3_1 (wrap64 (x4_1 + 1))))) else (some x3_1)) = some r := by first | (rw [hji3] at H; exact H) | (simp only [hji3] at H ⊢; exact H)
    have hji3_ : (a0 / 2 ^ min x4_1.toNat 64) = ji3 := hji3
    have hji3z : x4_1 ≤ 64 → (a0 / 2 ^ x4_1.toNat) = ji3 := shr_small hji3
    rcases iteP H with ⟨c4, H⟩ | ⟨c4, H⟩
    ·have c4b0 : decide (0 < (ji3)) = true := decide_eq_true c4
     clear c4
     obtain ⟨t103, A5, H⟩ := obE H
     by_cases c6 : t103 = true
     ·subst c6
      replace H := ifT H
      rcases iteP H with ⟨c7, H⟩ | ⟨c7, H⟩
      ·have LMc7 := Aside0.mk c7
       clear c7
       obtain ⟨y104, hy104⟩ : ∃ y_ : List Int, y_ = (x3_1 ++ [x4_1]) := ⟨_, rfl⟩
       replace H : (spec_orList.l0 k1 a0 y104 (wrap64 (x4_1 + 1))) = some r := by first | (rw [hy104]; with_reducible exact H) | (have H2_ := (Option.bind_some _ _).symm.trans H; rw [hy104]; with_reducible exact H2_) | (have H2_ := (Option.bind_some _ _).symm.trans H; with_reducible exact H2_) | with_reducible exact H | (rw [hy104]; exact H) | exact H
       have Ny104 := Aside0.mk hy104
       clear hy104
       have H' := Aside0.mk H
       clear H
       go_wp2_with (first | ((with_reducible refine gate_callee (f := 120) rfl ?_); refine goesQ (some 13) Tryd.func120 #[.int .i64 a0, .int .i64 x4_1] ?_; (with_reducible refine (spec_orHas.calls a0 x4_1 true _ A5.out).mono ?_); rintro e w' ⟨rfl, ⟨nd, rfl⟩⟩; refine ⟨_, rfl, ?_⟩) | ((with_reducible refine gate_builtin (b := .append) (xs := #[.tmp 14, .tmp 16]) rfl ?_); at_builtin; refine Kd.R_append (Kd.int .i64) (w0 := w) w.heap.size rfl (.tmp 14) (.tmp 16) 22 3 (.int .i64 0) 8 rfl Tryd.underlying22 info3 rfl (by decide) (by omega) u3 x3_1 x4_1 [.int .i64 x4_1] (fun _ => True) (fun _ => False) rfl rfl ?aP (fun _ hk => hk.elim) ?aF ?aO ?aB ?aS ?aL ?_; (case aP => exact rfl); (case aB => exact (bel_g HB.out)); (case aF => exact (fun _ _ => trivial)); (case aO => exact (Kd.R_g HO_3.out)); (case aS => exact (below_size (bel_g HB.out))); (case aL => have := LMc7.out; omega); intro v105 w8 ho hb hg hat; rw [← Ny104.out] at ho; have HO106 := Aside0.mk (ho); replace HB := Aside0.mk (hb); clear HO_3; clear ho hb hg hat))
       go_roundg k1
       case measure => have := HK1.out; omega
       case rel => exact ⟨(y104), (wrap64 (x4_1 + 1)), eqS, H', ⟨by have := HK1.out; omega⟩, ⟨Kd.R_g HO106.out⟩, ⟨bel_g HB.out⟩⟩
      ·exact absurd H (by simp)
     ·replace c6 := Bool.eq_false_iff.mpr c6
      subst c6
      replace H := ifF H
      have H' := Aside0.mk H
      clear H
      go_wp2_with (first | ((with_reducible refine gate_callee (f := 120) rfl ?_); refine goesQ (some 13) Tryd.func120 #[.int .i64 a0, .int .i64 x4_1] ?_; (with_reducible refine (spec_orHas.calls a0 x4_1 false _ A5.out).mono ?_); rintro e w' ⟨rfl, ⟨nd, rfl⟩⟩; refine ⟨_, rfl, ?_⟩))
      go_roundg k1
      case measure => have := HK1.out; omega
      case rel => exact ⟨(x3_1), (wrap64 (x4_1 + 1)), eqS, H', ⟨by have := HK1.out; omega⟩, ⟨Kd.R_g HO_3.out⟩, ⟨bel_g HB.out⟩⟩
    ·have c4b0 : decide (0 < (ji3)) = false := decide_eq_false c4
     clear c4
     obtain rfl := Option.some.inj H
     go_wp2
     go_ret
     exact ⟨_, by first | rfl | (simp [errW_none, errW_some] <;> rfl) | (simp only [← hji3]; first | rfl | (simp [errW_none, errW_some] <;> rfl)) | (simp [*, errW_none, errW_some] <;> rfl), by (with_reducible repeat (first | apply Kd.R_alloc | apply Kd.R_drewN | apply Kd.R_drew)); exact HO_3.out, bel_g HB.out⟩
   ·exact absurd H (by simp)

end Go.Proofs.YteechpappfagpaaDoor.Q

-- printed by this project's own program (wip/mp/mp.py) over the kit's print, for this seat; Lean checks it
namespace Go.Proofs.YteechpappfagpaaDoor.Q
open Go.RowKit Go.Proofs.YteechpappfagpaaDoorW.PrintWords Go.Proofs.YteechpappfagpaaDoorW.PrintLast Go.Proofs.YteechpappfagpaaDoorW.PrintMore
attribute [local go_sem] max2_int min2_int max_two min_two max_three min_three max_four min_four   -- for this text's walks alone
set_option linter.unusedVariables false
set_option maxHeartbeats 8000000
set_option maxRecDepth 100000
set_option linter.unusedSimpArgs false

/-! ### spec_orGood: function 84 -/
mutual
def spec_orGood.l0 : Nat → List Int → Int → Int → Int → List Int → Option (Bool)
 | 0, _, _, _, _, _ => none
 | k + 1, x11, x12, x13, x113000, x113001 => if x13 < x12 then (if 0 ≤ x13 then (if x13 < (x11.length : Int) then ((spec_orHas.f (rd x11 x13) x13).bind fun t115 => (if t115 = true then (some false) else ((spec_orList.f k (rd x11 x13)).bind fun t116 => (spec_orGood.l1 k (rd x11 x13) x11 x12 x13 t116 (t116.length : Int) 0 x113000 x113001)))) else (none)) else (none)) else (some true)
def spec_orGood.l1 : Nat → Int → List Int → Int → Int → List Int → Int → Int → Int → List Int → Option (Bool)
 | 0, _, _, _, _, _, _, _, _, _ => none
 | k + 1, x4, x11, x12, x13, x22, x23, x24, x113000, x113001 => if x24 < x23 then (if 0 ≤ x24 then (if x24 < (x22.length : Int) then (if 0 ≤ (rd x22 x24) then (if (rd x22 x24) < (x113001.length : Int) then (if (Go.bits .andNot .i64 (rd x113001 (rd x22 x24)) x4) = 0 then (spec_orGood.l1 k x4 x11 x12 x13 x22 x23 (wrap64 (x24 + 1)) x113000 x113001) else (some false)) else (none)) else (none)) else (none)) else (none)) else (spec_orGood.l0 k x11 x12 (wrap64 (x13 + 1)) x113000 x113001)
end
def spec_orGood.f (k : Nat) (a0_0 : Int) (l0_1 : List Int) : Option (Bool) := (spec_orRelation.f k a0_0 l0_1).bind fun t113 => (if t113 = true then (spec_orGood.l0 k l0_1 (l0_1.length : Int) 0 a0_0 l0_1) else (some false))
theorem spec_orGood.mono_l : ∀ k, (∀ y0 y1 y2 y3 y4, LeO (spec_orGood.l0 k y0 y1 y2 y3 y4) (spec_orGood.l0 (k + 1) y0 y1 y2 y3 y4)) ∧ (∀ y0 y1 y2 y3 y4 y5 y6 y7 y8, LeO (spec_orGood.l1 k y0 y1 y2 y3 y4 y5 y6 y7 y8) (spec_orGood.l1 (k + 1) y0 y1 y2 y3 y4 y5 y6 y7 y8))
 | 0 => ⟨fun _ _ _ _ _ r h => by simp [spec_orGood.l0] at h, fun _ _ _ _ _ _ _ _ _ r h => by simp [spec_orGood.l1] at h⟩
 | k + 1 => by
  obtain ⟨ih0, ih1⟩ := spec_orGood.mono_l k
  refine ⟨?_, ?_⟩
  ·intro y0 y1 y2 y3 y4
   unfold spec_orGood.l0
   repeat' (with_reducible first|exact ih0 _ _ _ _ _|exact ih1 _ _ _ _ _ _ _ _ _|exact spec_orList.mono _ _|exact spec_orRelation.mono _ _ _|exact LeO.refl _|exact LeO.none _|refine LeO.ite ?_ ?_|refine LeO.bind ?_ (fun _ => ?_))
  ·intro y0 y1 y2 y3 y4 y5 y6 y7 y8
   unfold spec_orGood.l1
   repeat' (with_reducible first|exact ih0 _ _ _ _ _|exact ih1 _ _ _ _ _ _ _ _ _|exact spec_orList.mono _ _|exact spec_orRelation.mono _ _ _|exact LeO.refl _|exact LeO.none _|refine LeO.ite ?_ ?_|refine LeO.bind ?_ (fun _ => ?_))
theorem spec_orGood.mono : ∀ a0 a1 k, LeO (spec_orGood.f k a0 a1) (spec_orGood.f (k + 1) a0 a1) := by
 intro a0 a1 k
 obtain ⟨ih0, ih1⟩ := spec_orGood.mono_l k
 unfold spec_orGood.f
 repeat' (with_reducible first|exact ih0 _ _ _ _ _|exact ih1 _ _ _ _ _ _ _ _ _|exact spec_orList.mono _ _|exact spec_orRelation.mono _ _ _|exact LeO.refl _|exact LeO.none _|refine LeO.ite ?_ ?_|refine LeO.bind ?_ (fun _ => ?_))
theorem spec_orGood.calls (k : Nat) (a0_0 : Int) (A0_1 : Option Addr) (c0_1 : Nat) (l0_1 : List Int) (r : Bool) (w : World) (hr0_1 : Kd.C (Kd.int .i64) w A0_1 l0_1.length l0_1) (hc0_1 : l0_1.length ≤ c0_1) (h : spec_orGood.f k a0_0 l0_1 = some r) :
  Calls Tryd.prog 84 #[.agg #[.int .i64 a0_0, .slice A0_1 l0_1.length c0_1]] w fun e w' => e = .returned (.bool r) ∧ Below w.heap.size w w' := by
 have hu28 := Tryd.underlying28
 have HR0_1 := Aside0.mk hr0_1
 have HC0_1 := Aside0.mk hc0_1
 clear hr0_1 hc0_1
 have HB := Aside0.mk (Below.refl w.heap.size w)
 have H : ((spec_orRelation.f k a0_0 l0_1).bind fun t113 => (if t113 = true then (spec_orGood.l0 k l0_1 (l0_1.length : Int) 0 a0_0 l0_1) else (some false))) = some r := h
 clear h
 obtain ⟨t113, A2, H⟩ := obE H
 by_cases c3 : t113 = true
 ·subst c3
  replace H := ifT H
  have H' := Aside0.mk H
  clear H
  go_enter Tryd.func84, Tryd.ntmps84
  go_wp2_with (first | ((with_reducible refine gate_dst (N := 1) rfl ?_); refine boxE (N := 1) (cs := #[.int .i64 a0_0, .slice A0_1 l0_1.length c0_1]) (t := 28) ?_; intro gb112 hg w4 hbox hb; have BK112 := Aside0.mk (hbox); have GE112 := geB HB hg; replace HB := bst HB hb; clear hb hbox hg; obtain ⟨hcz5_0, hcz5_1, hfz5_0, hfz5_1⟩ := blk2 BK112) | ((with_reducible refine gate_callee (f := 111) rfl ?_); refine goesQ (some 8) Tryd.func111 #[.agg #[.int .i64 a0_0, .slice A0_1 l0_1.length c0_1]] ?_; (with_reducible refine (spec_orRelation.calls k a0_0 _ _ l0_1 true _ ?side1 ?side2 A2.out).mono ?_); (case side1 => exact C_g HR0_1 HB); (case side2 => exact HC0_1.out); rintro e w6 ⟨rfl, hb⟩; refine ⟨_, rfl, ?_⟩; replace BK112 := blkB BK112 hb; replace HB := bst HB hb; (try clear hb); obtain ⟨hcz7_0, hcz7_1, hfz7_0, hfz7_1⟩ := blk2 BK112))
  go_loopg [13] k (fun kq v13 w' => ∃ (x13_1 : Int), v13 = .int .i64 x13_1 ∧ Aside0 (spec_orGood.l0 kq l0_1 (l0_1.length : Int) x13_1 a0_0 l0_1 = some r) ∧ Aside0 (kq ≤ k) ∧ Aside0 (w'.heap[gb112]? = some (.cells #[.int .i64 a0_0, (.slice A0_1 l0_1.length c0_1)] 28 (0, 0))) ∧ Aside0 (Below w.heap.size w w'))
  case atStart => exact ⟨(0), eqS, H', ⟨Nat.le_refl _⟩, ⟨blk_g BK112.out⟩, ⟨bel_g HB.out⟩⟩
  case round =>
   clear H'
   try clear c3
   try clear hcz5_0
   try clear hcz5_1
   try clear hcz7_0
   try clear hcz7_1
   try clear hfz5_0
   try clear hfz5_1
   try clear hfz7_0
   try clear hfz7_1
   obtain ⟨x13_1, rfl, HA, HK1, BK112, HB⟩ := hrel
   cases gk with
   | zero => exact absurd HA.out (by simp [spec_orGood.l0])
   | succ k1 =>
    have H := HA.out
    clear HA
    simp only [spec_orGood.l0] at H
    rcases iteE H with ⟨c8b0, H⟩ | ⟨c8b0, H⟩
    ·rcases iteP H with ⟨c9, H⟩ | ⟨c9, H⟩
     ·have c9b0 : decide (0 ≤ x13_1) = true := decide_eq_true c9
      clear c9
      rcases iteP H with ⟨c10, H⟩ | ⟨c10, H⟩
      ·have c10b0 : decide (x13_1 < (l0_1.length : Int)) = true := decide_eq_true c10
       clear c10
       obtain ⟨t115, A11, H⟩ := obE H
       by_cases c12 : t115 = true
       ·subst c12
        replace H := ifT H
        obtain rfl := Option.some.inj H
        have p114 : 0 ≤ (x13_1 : Int) := ofd
        have q114 : x13_1 < (l0_1.length : Int) := ofd
        obtain ⟨ad114, e114, hx114_0⟩ := Kd.at_int HR0_1.out x13_1 p114 q114
        cases e114
        replace hx114_0 := (HB.out.cell (World.block_lt_of_cell? w _ hx114_0)).trans hx114_0
        replace p114 := eq_true p114
        replace q114 := eq_true q114
        go_wp2_with (first | ((with_reducible refine gate_callee (f := 120) rfl ?_); refine goesQ (some 20) Tryd.func120 #[.int .i64 (rd l0_1 x13_1), .int .i64 x13_1] ?_; (with_reducible refine (spec_orHas.calls (rd l0_1 x13_1) x13_1 true _ A11.out).mono ?_); rintro e w' ⟨rfl, ⟨nd, rfl⟩⟩; refine ⟨_, rfl, ?_⟩))
        go_ret
        exact ⟨eqE, bel_g HB.out⟩
       ·replace c12 := Bool.eq_false_iff.mpr c12
        subst c12
        replace H := ifF H
        obtain ⟨t116, A13, H⟩ := obE H
        have H' := Aside0.mk H
        clear H
        have p114 : 0 ≤ (x13_1 : Int) := ofd
        have q114 : x13_1 < (l0_1.length : Int) := ofd
        obtain ⟨ad114, e114, hx114_0⟩ := Kd.at_int HR0_1.out x13_1 p114 q114
        cases e114
        replace hx114_0 := (HB.out.cell (World.block_lt_of_cell? w _ hx114_0)).trans hx114_0
        replace p114 := eq_true p114
        replace q114 := eq_true q114
        go_wp2_with (first | ((with_reducible refine gate_callee (f := 120) rfl ?_); refine goesQ (some 20) Tryd.func120 #[.int .i64 (rd l0_1 x13_1), .int .i64 x13_1] ?_; (with_reducible refine (spec_orHas.calls (rd l0_1 x13_1) x13_1 false _ A11.out).mono ?_); rintro e w' ⟨rfl, ⟨nd, rfl⟩⟩; refine ⟨_, rfl, ?_⟩) | ((with_reducible refine gate_callee (f := 94) rfl ?_); refine goesQ (some 22) Tryd.func94 #[.int .i64 (rd l0_1 x13_1)] ?_; (with_reducible refine (spec_orList.calls k1 (rd l0_1 x13_1) t116 _ A13.out).mono ?_); rintro e w14 ⟨v117, rfl, ho0, hb⟩; refine ⟨_, rfl, ?_⟩; have HO118 := Aside0.mk (Kd.R_lower ho0 (below_size (bel_g HB.out))); replace BK112 := blkB BK112 hb; replace HB := bst HB hb; (try clear hb); (try clear ho0); obtain ⟨Ao15, co15, eo15⟩ := Kd.R_slice HO118.out; subst eo15))
        go_loopg [24] k1 (fun kq v24 w' => ∃ (x24_2 : Int), v24 = .int .i64 x24_2 ∧ Aside0 (spec_orGood.l1 kq (rd l0_1 x13_1) l0_1 (l0_1.length : Int) x13_1 t116 (t116.length : Int) x24_2 a0_0 l0_1 = some r) ∧ Aside0 (kq ≤ k1) ∧ Aside0 (Kd.R (Kd.int .i64) 3 w' w.heap.size (fun _ => True) (.slice Ao15 t116.length co15) t116) ∧ Aside0 (w'.heap[gb112]? = some (.cells #[.int .i64 a0_0, (.slice (some ad114) l0_1.length c0_1)] 28 (0, 0))) ∧ Aside0 (Below w.heap.size w w'))
        case atStart => exact ⟨(0), eqS, H', ⟨Nat.le_refl _⟩, ⟨Kd.R_g HO118.out⟩, ⟨blk_g BK112.out⟩, ⟨bel_g HB.out⟩⟩
        case round =>
         clear H'
         try clear c3
         try clear c8b0
         try clear c9
         try clear c9b0
         try clear c10
         try clear c10b0
         try clear c12
         try clear hcz5_0
         try clear hcz5_1
         try clear hcz7_0
         try clear hcz7_1
         try clear hfz5_0
         try clear hfz5_1
         try clear hfz7_0
         try clear hfz7_1
         try clear hx114_0
         try clear p114
         try clear q114
         obtain ⟨x24_2, rfl, HA, HK2, HO_22, BK112, HB⟩ := hrel
         cases gk with
         | zero => exact absurd HA.out (by simp [spec_orGood.l1])
         | succ k2 =>
          have H := HA.out
          clear HA
          simp only [spec_orGood.l1] at H
          rcases iteE H with ⟨c16b0, H⟩ | ⟨c16b0, H⟩
          ·rcases iteP H with ⟨c17, H⟩ | ⟨c17, H⟩
           ·have c17b0 : decide (0 ≤ x24_2) = true := decide_eq_true c17
            clear c17
            rcases iteP H with ⟨c18, H⟩ | ⟨c18, H⟩
            ·have c18b0 : decide (x24_2 < (t116.length : Int)) = true := decide_eq_true c18
             clear c18
             rcases iteP H with ⟨c19, H⟩ | ⟨c19, H⟩
             ·have c19b0 : decide (0 ≤ (rd t116 x24_2)) = true := decide_eq_true c19
              clear c19
              rcases iteP H with ⟨c20, H⟩ | ⟨c20, H⟩
              ·have c20b0 : decide ((rd t116 x24_2) < (l0_1.length : Int)) = true := decide_eq_true c20
               clear c20
               rcases iteP H with ⟨c21, H⟩ | ⟨c21, H⟩
               ·have c21b0 : ((Go.bits .andNot .i64 (rd l0_1 (rd t116 x24_2)) (rd l0_1 x13_1)) == 0) = true := beq_iff_eq.mpr c21
                have c21b1 : ((Go.bits .andNot .i64 (rd l0_1 (rd t116 x24_2)) (rd l0_1 x13_1)) != 0) = false := bne_eq_false_iff_eq.mpr c21
                clear c21
                have H' := Aside0.mk H
                clear H
                have p119 : 0 ≤ (x24_2 : Int) := ofd
                have q119 : x24_2 < (t116.length : Int) := ofd
                obtain ⟨ad119, e119, hx119_0⟩ := Kd.at_int (Kd.R_reads' HO_22.out).2.2 x24_2 p119 q119
                cases e119
                replace p119 := eq_true p119
                replace q119 := eq_true q119
                obtain ⟨hcz22_0, hcz22_1, hfz22_0, hfz22_1⟩ := blk2 BK112
                have p120 : 0 ≤ ((rd t116 x24_2) : Int) := ofd
                have q120 : (rd t116 x24_2) < (l0_1.length : Int) := ofd
                obtain ⟨ad120, e120, hx120_0⟩ := Kd.at_int HR0_1.out (rd t116 x24_2) p120 q120
                obtain rfl : ad114 = ad120 := (by injection e120)
                replace hx120_0 := (HB.out.cell (World.block_lt_of_cell? w _ hx120_0)).trans hx120_0
                replace p120 := eq_true p120
                replace q120 := eq_true q120
                go_wp2
                go_roundg k2
                case measure => have := HK1.out; have := HK2.out; omega
                case rel => exact ⟨(wrap64 (x24_2 + 1)), eqS, H', ⟨by have := HK1.out; have := HK2.out; omega⟩, ⟨Kd.R_g HO_22.out⟩, ⟨blk_g BK112.out⟩, ⟨bel_g HB.out⟩⟩
               ·have c21b0 : ((Go.bits .andNot .i64 (rd l0_1 (rd t116 x24_2)) (rd l0_1 x13_1)) == 0) = false := beq_eq_false_iff_ne.mpr c21
                have c21b1 : ((Go.bits .andNot .i64 (rd l0_1 (rd t116 x24_2)) (rd l0_1 x13_1)) != 0) = true := bne_iff_ne.mpr c21
                obtain rfl := Option.some.inj H
                have p119 : 0 ≤ (x24_2 : Int) := ofd
                have q119 : x24_2 < (t116.length : Int) := ofd
                obtain ⟨ad119, e119, hx119_0⟩ := Kd.at_int (Kd.R_reads' HO_22.out).2.2 x24_2 p119 q119
                cases e119
                replace p119 := eq_true p119
                replace q119 := eq_true q119
                obtain ⟨hcz23_0, hcz23_1, hfz23_0, hfz23_1⟩ := blk2 BK112
                have p120 : 0 ≤ ((rd t116 x24_2) : Int) := ofd
                have q120 : (rd t116 x24_2) < (l0_1.length : Int) := ofd
                obtain ⟨ad120, e120, hx120_0⟩ := Kd.at_int HR0_1.out (rd t116 x24_2) p120 q120
                obtain rfl : ad114 = ad120 := (by injection e120)
                replace hx120_0 := (HB.out.cell (World.block_lt_of_cell? w _ hx120_0)).trans hx120_0
                replace p120 := eq_true p120
                replace q120 := eq_true q120
                go_wp2
                go_ret
                exact ⟨eqE, bel_g HB.out⟩
              ·exact absurd H (by simp)
             ·exact absurd H (by simp)
            ·exact absurd H (by simp)
           ·exact absurd H (by simp)
          ·have H' := Aside0.mk H
           clear H
           go_wp2
           go_roundg k2
           case measure => have := HK1.out; have := HK2.out; omega
           case rel => exact ⟨(wrap64 (x13_1 + 1)), eqS, H', ⟨by have := HK1.out; have := HK2.out; omega⟩, ⟨blk_g BK112.out⟩, ⟨bel_g HB.out⟩⟩
      ·exact absurd H (by simp)
     ·exact absurd H (by simp)
    ·obtain rfl := Option.some.inj H
     go_wp2
     go_ret
     exact ⟨eqE, bel_g HB.out⟩
 ·replace c3 := Bool.eq_false_iff.mpr c3
  subst c3
  replace H := ifF H
  obtain rfl := Option.some.inj H
  go_enter Tryd.func84, Tryd.ntmps84
  go_wp2_with (first | ((with_reducible refine gate_dst (N := 1) rfl ?_); refine boxE (N := 1) (cs := #[.int .i64 a0_0, .slice A0_1 l0_1.length c0_1]) (t := 28) ?_; intro gb112 hg w24 hbox hb; have BK112 := Aside0.mk (hbox); have GE112 := geB HB hg; replace HB := bst HB hb; clear hb hbox hg; obtain ⟨hcz25_0, hcz25_1, hfz25_0, hfz25_1⟩ := blk2 BK112) | ((with_reducible refine gate_callee (f := 111) rfl ?_); refine goesQ (some 8) Tryd.func111 #[.agg #[.int .i64 a0_0, .slice A0_1 l0_1.length c0_1]] ?_; (with_reducible refine (spec_orRelation.calls k a0_0 _ _ l0_1 false _ ?side1 ?side2 A2.out).mono ?_); (case side1 => exact C_g HR0_1 HB); (case side2 => exact HC0_1.out); rintro e w26 ⟨rfl, hb⟩; refine ⟨_, rfl, ?_⟩; replace BK112 := blkB BK112 hb; replace HB := bst HB hb; (try clear hb)))
  go_ret
  exact ⟨eqE, bel_g HB.out⟩

end Go.Proofs.YteechpappfagpaaDoor.Q
