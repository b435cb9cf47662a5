import Derived.Laws.Bits64b
import Derived.Test.YteechpappfagpaaDoorBFnOrdersOfPlaces0
import Derived.Test.YteechpappfagpaaDoorBFnOrdersOfPlaces1
import Derived.Test.YteechpappfagpaaDoorBFnOrdersOfPlaces2
namespace Go.Proofs.YteechpappfagpaaDoor.Pure
open Go.RowKit Go.Proofs.YteechpappfagpaaDoor.Q Go.Proofs.YteechpappfagpaaDoorW.PrintWords Go.Proofs.YteechpappfagpaaDoorW.PrintLast
set_option linter.unusedVariables false
set_option linter.unusedSimpArgs false

-- small laws over rounds, numbers and lists; no program in sight
theorem Ev.shift {α : Type} {g : Nat → Option α} {r : α} (h : Ev (fun k => g (k + 1)) r) : Ev g r := by
  obtain ⟨K, hK⟩ := h
  refine ⟨K + 1, fun k hk => ?_⟩
  obtain ⟨m, rfl⟩ : ∃ m, k = m + 1 := ⟨k - 1, by omega⟩
  exact hK m (by omega)
theorem Ev.pos {α : Type} {c : Prop} [Decidable c] {f g : Nat → Option α} {r : α} (h : c) (k : Ev f r) : Ev (fun n => if c then f n else g n) r := by
  simp only [if_pos h]; exact k
theorem Ev.neg {α : Type} {c : Prop} [Decidable c] {f g : Nat → Option α} {r : α} (h : ¬ c) (k : Ev g r) : Ev (fun n => if c then f n else g n) r := by
  simp only [if_neg h]; exact k
theorem Ev.bindc {α β : Type} {a : Option α} {x : α} {f : Nat → α → Option β} {r : β} (h : a = some x) (k : Ev (fun n => f n x) r) : Ev (fun n => a.bind (f n)) r := by
  subst h; exact k
theorem Ev.ret {α : Type} {r s : α} (h : r = s) : Ev (fun _ => some r) s := by subst h; exact Ev.now _
theorem Ev.const {α : Type} {a : Option α} {r : α} (h : a = some r) : Ev (fun _ => a) r := ⟨0, fun _ _ => h⟩
theorem Ev.eq {α : Type} {g : Nat → Option α} {r s : α} (h : Ev g r) (e : r = s) : Ev g s := e ▸ h
theorem Ev.uniq {α : Type} {g : Nat → Option α} {r s : α} (h : Ev g r) (h' : Ev g s) : r = s := by
  obtain ⟨K, hK⟩ := h; obtain ⟨L, hL⟩ := h'
  have a := hK (max K L) (by omega); have b := hL (max K L) (by omega)
  rw [a] at b; exact Option.some.inj b
theorem Ev.at1 {α : Type} {g : Nat → Option α} {r : α} (h : Ev g r) : ∃ k, g k = some r := h.rounds
theorem wrap64_id {x : Int} (h1 : -9223372036854775808 ≤ x) (h2 : x ≤ 9223372036854775807) : wrap64 x = x := by unfold wrap64; omega
theorem rd_nat (l : List Int) (i : Nat) : rd l (i : Int) = l.getD i 0 := by simp [rd]
theorem rd_lt (l : List Int) (i : Nat) (h : i < l.length) : rd l (i : Int) = l[i] := by simp [rd, h]
theorem cast1 (i : Nat) : (i : Int) + 1 = ((i + 1 : Nat) : Int) := by omega
theorem set_prefix {l m : List Int} {i : Nat} (hm : m.length = l.length) (hi : i < l.length) (h : m.take i = l.take i) : (m.set i (rd l (i : Int))).take (i + 1) = l.take (i + 1) := by
  apply List.ext_getElem?
  intro j
  by_cases hj : j < i + 1
  · rw [List.getElem?_take_of_lt hj, List.getElem?_take_of_lt hj]
    by_cases e : j = i
    · subst e; rw [List.getElem?_set_self (by omega), rd_lt l j hi]; simp [hi]
    · rw [List.getElem?_set_ne (by omega)]
      have := congrArg (fun t => t[j]?) h
      rwa [List.getElem?_take_of_lt (by omega), List.getElem?_take_of_lt (by omega)] at this
  · rw [List.getElem?_eq_none (by simp; omega), List.getElem?_eq_none (by simp; omega)]

end Go.Proofs.YteechpappfagpaaDoor.Pure

namespace Go.Proofs.YteechpappfagpaaDoor.Pure
open Go.RowKit Go.Proofs.YteechpappfagpaaDoor.Q Go.Proofs.YteechpappfagpaaDoorW.PrintWords Go.Proofs.YteechpappfagpaaDoorW.PrintLast
set_option linter.unusedVariables false
set_option linter.unusedSimpArgs false

theorem big_f (l m : List Int) (hl : l.length ≤ maxLen) : ∃ b, laws_big.f l m = some b := by
  unfold laws_big.f
  by_cases h : (l.length : Int) > 1048576
  · exact ⟨_, if_pos h⟩
  · exact ⟨_, if_neg h⟩
theorem big_fit (l m : List Int) (hl : l.length ≤ maxLen) : ∃ b, laws_big.f l m = some b ∧ (¬ b = true → l.length ≤ 1048576 ∧ m.length ≤ 1048576) := by
  unfold laws_big.f
  by_cases h : (l.length : Int) > 1048576
  · exact ⟨_, if_pos h, fun h => by simp at h⟩
  · refine ⟨_, if_neg h, fun h2 => ?_⟩
    rw [wrap64_id (by omega) (by omega)] at h2
    simp only [decide_eq_true_eq] at h2
    omega

end Go.Proofs.YteechpappfagpaaDoor.Pure

namespace Go.Proofs.YteechpappfagpaaDoor.Pure
open Go.RowKit Go.Proofs.YteechpappfagpaaDoor.Q Go.Proofs.YteechpappfagpaaDoorW.PrintWords Go.Proofs.YteechpappfagpaaDoorW.PrintLast
set_option linter.unusedVariables false
set_option linter.unusedSimpArgs false

-- choices out of bytes: numbers below what is asked, the place goes on by a few
def bytesP (l : List Int) : Prop := ∀ x ∈ l, 0 ≤ x ∧ x < 256
theorem bytesP.rd {l : List Int} (h : bytesP l) {i : Int} (h0 : 0 ≤ i) (h1 : i < l.length) : 0 ≤ rd l i ∧ rd l i < 256 := by
  obtain ⟨m, rfl⟩ : ∃ m : Nat, i = m := ⟨i.toNat, by omega⟩
  rw [rd_lt l m (by omega)]
  exact h _ (List.getElem_mem _)
theorem bytesP.of {l : List Int} (h : ∀ x ∈ l, (Lit.int .u8 x).wf = true) : bytesP l := fun x hx => by
  have := h x hx
  simp [Lit.wf, IntKind.min, IntKind.max, IntKind.signed, IntKind.bits] at this
  omega
theorem and255 (x : Int) : 0 ≤ Go.bits .and .u64 x 255 ∧ Go.bits .and .u64 x 255 < 256 := by
  show 0 ≤ IntKind.u64.wrap ((BitVec.ofInt 64 x &&& BitVec.ofInt 64 255).toNat : Int) ∧ IntKind.u64.wrap ((BitVec.ofInt 64 x &&& BitVec.ofInt 64 255).toNat : Int) < 256
  rw [BitVec.toNat_and]
  have h : (BitVec.ofInt 64 x).toNat &&& (BitVec.ofInt 64 255).toNat ≤ (BitVec.ofInt 64 255).toNat := Nat.and_le_right
  have e : (BitVec.ofInt 64 255).toNat = 255 := by decide
  rw [e] at h
  rw [e]
  generalize (BitVec.ofInt 64 x).toNat &&& 255 = m at h
  simp [IntKind.wrap, IntKind.signed, IntKind.bits]; omega
/-- some choice: its value is one of P, the place goes on by at most n -/
def Drw {α : Type} (g : Option (α × Int × Int)) (P : α → Prop) (a n : Int) : Prop := ∃ x a' s', g = some (x, a', s') ∧ P x ∧ a ≤ a' ∧ a' ≤ a + n
theorem next_d {c : List Int} (hc : bytesP c) {a : Int} (s : Int) (h0 : 0 ≤ a) (h1 : a ≤ 1152921504606846976) : Drw (spec_l1Cur_next.f c a s) (fun x => 0 ≤ x ∧ x < 256) a 1 := by
  unfold Drw spec_l1Cur_next.f
  rw [wrap64_id (x := a + 1) (by omega) (by omega)]
  have hb := and255
  by_cases h2 : a < (c.length : Int)
  · have hr := hc.rd h0 h2
    rw [if_pos h2, if_pos h0, if_pos (by omega)]
    exact ⟨_, _, _, rfl, by rw [wrap64_id (by omega) (by omega)]; exact hr, by omega, by omega⟩
  · rw [if_neg h2, if_neg (by omega)]
    refine ⟨_, _, _, rfl, ?_, by omega, by omega⟩
    have := hb (IntKind.u64.wrap (IntKind.u64.wrap (IntKind.u64.wrap (s * 6364136223846793005) + 0) + 1442695040888963407) / 1099511627776)
    rw [wrap64_id (by omega) (by omega)]; exact this
theorem pick_d {c : List Int} (hc : bytesP c) {a : Int} (s n : Int) (h0 : 0 ≤ a) (h1 : a ≤ 1000000000000) (hn : 1 ≤ n) : Drw (spec_l1Cur_pick.f c a s n) (fun x => 0 ≤ x ∧ x < n) a 2 := by
  unfold spec_l1Cur_pick.f
  by_cases h2 : n ≤ 1
  · rw [if_pos h2]; exact ⟨_, _, _, rfl, by omega, by omega, by omega⟩
  · rw [if_neg h2]
    obtain ⟨x, a', s', e, hx, h3, h4⟩ := next_d hc s h0 (by omega)
    rw [e, Option.bind_some]
    by_cases h5 : n > 200
    · rw [if_pos h5]
      obtain ⟨y, a2, s2, e2, hy, h6, h7⟩ := next_d hc s' (a := a') (by omega) (by omega)
      dsimp only
      rw [e2, Option.bind_some, if_neg (by omega)]
      refine ⟨_, _, _, rfl, ?_, by dsimp only; omega, by dsimp only; omega⟩
      dsimp only
      rw [wrap64_id (x := x * 256) (by omega) (by omega), wrap64_id (by omega) (by omega)]
      exact ⟨Int.tmod_nonneg _ (by omega), Int.tmod_lt_of_pos _ (by omega)⟩
    · rw [if_neg h5, if_neg (by omega)]
      exact ⟨_, _, _, rfl, ⟨Int.tmod_nonneg _ hx.1, Int.tmod_lt_of_pos _ (by omega)⟩, by dsimp only; omega, by dsimp only; omega⟩
theorem one_d {c : List Int} (hc : bytesP c) {a : Int} (s n : Int) (h0 : 0 ≤ a) (h1 : a ≤ 1000000000000) (hn : 1 ≤ n) : Drw (spec_l1Cur_one.f c a s n) (fun _ => True) a 2 := by
  unfold spec_l1Cur_one.f
  obtain ⟨x, a', s', e, hx, h3, h4⟩ := pick_d hc s n h0 h1 hn
  rw [e, Option.bind_some]
  exact ⟨_, _, _, rfl, trivial, h3, h4⟩
theorem among_d {c : List Int} (hc : bytesP c) {a : Int} (s : Int) (l : List Int) (h0 : 0 ≤ a) (h1 : a ≤ 1000000000000) (hn : 1 ≤ l.length) : Drw (spec_l1Cur_among.f c a s l) (fun x => x ∈ l) a 2 := by
  unfold spec_l1Cur_among.f
  obtain ⟨x, a', s', e, hx, h3, h4⟩ := pick_d hc s (l.length : Int) h0 h1 (by omega)
  rw [e, Option.bind_some]
  dsimp only
  rw [if_pos hx.1, if_pos hx.2]
  refine ⟨_, _, _, rfl, ?_, h3, h4⟩
  obtain ⟨m, rfl⟩ : ∃ m : Nat, x = m := ⟨x.toNat, by omega⟩
  rw [rd_lt l m (by omega)]; exact List.getElem_mem _

end Go.Proofs.YteechpappfagpaaDoor.Pure

-- printed by this project's own program (wip/mp/mp.py) over the kit's print, for this seat; Lean checks it
namespace Go.Proofs.YteechpappfagpaaDoor.Q
open Go.RowKit Go.Proofs.YteechpappfagpaaDoorW.PrintWords Go.Proofs.YteechpappfagpaaDoorW.PrintLast Go.Proofs.YteechpappfagpaaDoorW.PrintMore
attribute [local go_sem] max2_int min2_int max_two min_two max_three min_three max_four min_four   -- for this text's walks alone
set_option linter.unusedVariables false
set_option maxHeartbeats 8000000
set_option maxRecDepth 100000
set_option linter.unusedSimpArgs false

/-! ### spec_orHas: function 120 -/
def spec_orHas.f (a0 : Int) (a1 : Int) : Option (Bool) := if 0 ≤ a1 then (some ((Int.tmod (shr .i64 a0 a1) 2) == 1)) else (none)
theorem spec_orHas.calls (a0 : Int) (a1 : Int) (r : Bool) (w : World) (h : spec_orHas.f a0 a1 = some r) :
  Calls Tryd.prog 120 #[.int .i64 a0, .int .i64 a1] w fun e w' => e = .returned (.bool r) ∧ Drawn0 w w' := by
 have H : (if 0 ≤ a1 then (some ((Int.tmod (shr .i64 a0 a1) 2) == 1)) else (none)) = some r := h
 clear h
 rcases iteP H with ⟨c3, H⟩ | ⟨c3, H⟩
 ·have c3b0 := eq_true c3
  have c3b1 : decide (0 ≤ a1) = true := decide_eq_true c3
  clear c3
  obtain ⟨ji4, hji4⟩ : ∃ j_ : Int, (shr .i64 a0 a1) = j_ := ⟨_, rfl⟩
  replace H : (some ((Int.tmod (ji4) 2) == 1)) = some r := by first | (rw [hji4] at H; exact H) | (simp only [hji4] at H ⊢; exact H)
  have hji4_ : (a0 / 2 ^ min a1.toNat 64) = ji4 := hji4
  have hji4z : a1 ≤ 64 → (a0 / 2 ^ a1.toNat) = ji4 := shr_small hji4
  obtain rfl := Option.some.inj H
  go_enter Tryd.func120, Tryd.ntmps120
  go_wp2
  go_ret
  exact ⟨by first | rfl | (simp; done) | (simp only [← hji4] <;> (first | rfl | simp)) | (simp [*]; done), by repeat (first | exact Drawn0.refl _ | apply Drawn0.step)⟩
 ·exact absurd H (by simp)

end Go.Proofs.YteechpappfagpaaDoor.Q

-- printed by this project's own program (wip/mp/mp.py) over the kit's print, for this seat; Lean checks it
namespace Go.Proofs.YteechpappfagpaaDoor.Q
open Go.RowKit Go.Proofs.YteechpappfagpaaDoorW.PrintWords Go.Proofs.YteechpappfagpaaDoorW.PrintLast Go.Proofs.YteechpappfagpaaDoorW.PrintMore
attribute [local go_sem] max2_int min2_int max_two min_two max_three min_three max_four min_four   -- for this text's walks alone
set_option linter.unusedVariables false
set_option maxHeartbeats 8000000
set_option maxRecDepth 100000
set_option linter.unusedSimpArgs false

/-! ### spec_orBelow: function 147 -/
def spec_orBelow.l0 : Nat → Int → Int → List Int → Int → Int → Option (Int)
 | 0, _, _, _, _, _ => none
 | k + 1, x1, x5, x9, x10, x11 => if x11 < x10 then (if 0 ≤ x11 then (if x11 < (x9.length : Int) then ((spec_orHas.f (rd x9 x11) x1).bind fun t381 => (if t381 = true then (spec_orBelow.l0 k x1 (Go.bits .or .i64 x5 (shl .i64 1 x11)) x9 x10 (wrap64 (x11 + 1))) else (spec_orBelow.l0 k x1 x5 x9 x10 (wrap64 (x11 + 1))))) else (none)) else (none)) else (some x5)
def spec_orBelow.f (k : Nat) (a0_0 : Int) (l0_1 : List Int) (a1 : Int) : Option (Int) := spec_orBelow.l0 k a1 0 l0_1 (l0_1.length : Int) 0
theorem spec_orBelow.mono_l : ∀ k, (∀ y0 y1 y2 y3 y4, LeO (spec_orBelow.l0 k y0 y1 y2 y3 y4) (spec_orBelow.l0 (k + 1) y0 y1 y2 y3 y4))
 | 0 => fun _ _ _ _ _ r h => by simp [spec_orBelow.l0] at h
 | k + 1 => by
  have ih0 := spec_orBelow.mono_l k
  ·intro y0 y1 y2 y3 y4
   unfold spec_orBelow.l0
   repeat' (with_reducible first|exact ih0 _ _ _ _ _|exact LeO.refl _|exact LeO.none _|refine LeO.ite ?_ ?_|refine LeO.bind ?_ (fun _ => ?_))
theorem spec_orBelow.mono : ∀ a0 a1 a2 k, LeO (spec_orBelow.f k a0 a1 a2) (spec_orBelow.f (k + 1) a0 a1 a2) := by
 intro a0 a1 a2 k
 have ih0 := spec_orBelow.mono_l k
 unfold spec_orBelow.f
 repeat' (with_reducible first|exact ih0 _ _ _ _ _|exact LeO.refl _|exact LeO.none _|refine LeO.ite ?_ ?_|refine LeO.bind ?_ (fun _ => ?_))
theorem spec_orBelow.calls (k : Nat) (a0_0 : Int) (A0_1 : Option Addr) (c0_1 : Nat) (l0_1 : List Int) (a1 : Int) (r : Int) (w : World) (hr0_1 : Kd.C (Kd.int .i64) w A0_1 l0_1.length l0_1) (hc0_1 : l0_1.length ≤ c0_1) (h : spec_orBelow.f k a0_0 l0_1 a1 = some r) :
  Calls Tryd.prog 147 #[.agg #[.int .i64 a0_0, .slice A0_1 l0_1.length c0_1], .int .i64 a1] w fun e w' => e = .returned (.int .i64 r) ∧ Below w.heap.size w w' := by
 have hu28 := Tryd.underlying28
 have HR0_1 := Aside0.mk hr0_1
 have HC0_1 := Aside0.mk hc0_1
 clear hr0_1 hc0_1
 have HB := Aside0.mk (Below.refl w.heap.size w)
 have H : (spec_orBelow.l0 k a1 0 l0_1 (l0_1.length : Int) 0) = some r := h
 clear h
 have H' := Aside0.mk H
 clear H
 go_enter Tryd.func147, Tryd.ntmps147
 go_wp2_with (first | ((with_reducible refine gate_dst (N := 2) rfl ?_); refine boxE (N := 2) (cs := #[.int .i64 a0_0, .slice A0_1 l0_1.length c0_1]) (t := 28) ?_; intro gb379 hg w3 hbox hb; have BK379 := Aside0.mk (hbox); have GE379 := geB HB hg; replace HB := bst HB hb; clear hb hbox hg; obtain ⟨hcz4_0, hcz4_1, hfz4_0, hfz4_1⟩ := blk2 BK379))
 go_loopg [5, 11] k (fun kq v5 v11 w' => ∃ (x5_1 : Int) (x11_1 : Int), v5 = .int .i64 x5_1 ∧ v11 = .int .i64 x11_1 ∧ Aside0 (spec_orBelow.l0 kq a1 x5_1 l0_1 (l0_1.length : Int) x11_1 = some r) ∧ Aside0 (kq ≤ k) ∧ Aside0 (w'.heap[gb379]? = some (.cells #[.int .i64 a0_0, (.slice A0_1 l0_1.length c0_1)] 28 (0, 0))) ∧ Aside0 (Below w.heap.size w w'))
 case atStart => exact ⟨(0), (0), eqS, eqS, H', ⟨Nat.le_refl _⟩, ⟨blk_g BK379.out⟩, ⟨bel_g HB.out⟩⟩
 case round =>
  clear H'
  try clear hcz4_0
  try clear hcz4_1
  try clear hfz4_0
  try clear hfz4_1
  obtain ⟨x5_1, x11_1, rfl, rfl, HA, HK1, BK379, HB⟩ := hrel
  cases gk with
  | zero => exact absurd HA.out (by simp [spec_orBelow.l0])
  | succ k1 =>
   have H := HA.out
   clear HA
   simp only [spec_orBelow.l0] at H
   rcases iteE H with ⟨c5b0, H⟩ | ⟨c5b0, H⟩
   ·rcases iteP H with ⟨c6, H⟩ | ⟨c6, H⟩
    ·have c6b0 : decide (0 ≤ x11_1) = true := decide_eq_true c6
     clear c6
     rcases iteP H with ⟨c7, H⟩ | ⟨c7, H⟩
     ·have c7b0 : decide (x11_1 < (l0_1.length : Int)) = true := decide_eq_true c7
      clear c7
      obtain ⟨t381, A8, H⟩ := obE H
      by_cases c9 : t381 = true
      ·subst c9
       replace H := ifT H
       have c10b0 := eq_true (ofd : 0 ≤ x11_1)
       obtain ⟨ji11, hji11⟩ : ∃ j_ : Int, (shl .i64 1 x11_1) = j_ := ⟨_, rfl⟩
       replace H : (spec_orBelow.l0 k1 a1 (Go.bits .or .i64 x5_1 (ji11)) l0_1 (l0_1.length : Int) (wrap64 (x11_1 + 1))) = some r := by first | (rw [hji11] at H; exact H) | (simp only [hji11] at H ⊢; exact H)
       (try rw [hji11] at A8)
       have hji11_ : (IntKind.i64.wrap (1 * 2 ^ min x11_1.toNat 64)) = ji11 := hji11
       have hji11z : x11_1 ≤ 64 → (IntKind.i64.wrap (1 * 2 ^ x11_1.toNat)) = ji11 := shl_small hji11
       have hji11u : (IntKind.i64.wrap (2 ^ min x11_1.toNat 64)) = ji11 := by have h_ := hji11_; rw [Int.one_mul] at h_; exact h_
       have hji11v : x11_1 ≤ 64 → (IntKind.i64.wrap (2 ^ x11_1.toNat)) = ji11 := fun hle_ => by have h_ := hji11z hle_; rw [Int.one_mul] at h_; exact h_
       have hji11y : (wrap64 (1 * 2 ^ min x11_1.toNat 64)) = ji11 := (i64_w _).symm.trans hji11_
       have hji11x : x11_1 ≤ 64 → (wrap64 (1 * 2 ^ x11_1.toNat)) = ji11 := fun h_ => (i64_w _).symm.trans (hji11z h_)
       have H' := Aside0.mk H
       clear H
       have p380 : 0 ≤ (x11_1 : Int) := ofd
       have q380 : x11_1 < (l0_1.length : Int) := ofd
       obtain ⟨ad380, e380, hx380_0⟩ := Kd.at_int HR0_1.out x11_1 p380 q380
       cases e380
       replace hx380_0 := (HB.out.cell (World.block_lt_of_cell? w _ hx380_0)).trans hx380_0
       replace p380 := eq_true p380
       replace q380 := eq_true q380
       go_wp2_with (first | ((with_reducible refine gate_callee (f := 120) rfl ?_); refine goesQ (some 18) Tryd.func120 #[.int .i64 (rd l0_1 x11_1), .int .i64 a1] ?_; (with_reducible refine (spec_orHas.calls (rd l0_1 x11_1) a1 true _ A8.out).mono ?_); rintro e w' ⟨rfl, ⟨nd, rfl⟩⟩; refine ⟨_, rfl, ?_⟩))
       go_roundg k1
       case measure => have := HK1.out; omega
       case rel => exact ⟨(Go.bits .or .i64 x5_1 (ji11)), (wrap64 (x11_1 + 1)), (by first | rfl | (simp; done) | (simp only [← hji11] <;> (first | rfl | simp)) | (simp [*]; done)), eqS, H', ⟨by have := HK1.out; omega⟩, ⟨blk_g BK379.out⟩, ⟨bel_g HB.out⟩⟩
      ·replace c9 := Bool.eq_false_iff.mpr c9
       subst c9
       replace H := ifF H
       have H' := Aside0.mk H
       clear H
       have p380 : 0 ≤ (x11_1 : Int) := ofd
       have q380 : x11_1 < (l0_1.length : Int) := ofd
       obtain ⟨ad380, e380, hx380_0⟩ := Kd.at_int HR0_1.out x11_1 p380 q380
       cases e380
       replace hx380_0 := (HB.out.cell (World.block_lt_of_cell? w _ hx380_0)).trans hx380_0
       replace p380 := eq_true p380
       replace q380 := eq_true q380
       go_wp2_with (first | ((with_reducible refine gate_callee (f := 120) rfl ?_); refine goesQ (some 18) Tryd.func120 #[.int .i64 (rd l0_1 x11_1), .int .i64 a1] ?_; (with_reducible refine (spec_orHas.calls (rd l0_1 x11_1) a1 false _ A8.out).mono ?_); rintro e w' ⟨rfl, ⟨nd, rfl⟩⟩; refine ⟨_, rfl, ?_⟩))
       go_roundg k1
       case measure => have := HK1.out; omega
       case rel => exact ⟨(x5_1), (wrap64 (x11_1 + 1)), eqS, eqS, H', ⟨by have := HK1.out; omega⟩, ⟨blk_g BK379.out⟩, ⟨bel_g HB.out⟩⟩
     ·exact absurd H (by simp)
    ·exact absurd H (by simp)
   ·obtain rfl := Option.some.inj H
    go_wp2
    go_ret
    exact ⟨eqE, bel_g HB.out⟩

end Go.Proofs.YteechpappfagpaaDoor.Q

-- printed by this project's own program (wip/mp/mp.py) over the kit's print, for this seat; Lean checks it
namespace Go.Proofs.YteechpappfagpaaDoor.Q
open Go.RowKit Go.Proofs.YteechpappfagpaaDoorW.PrintWords Go.Proofs.YteechpappfagpaaDoorW.PrintLast Go.Proofs.YteechpappfagpaaDoorW.PrintMore
attribute [local go_sem] max2_int min2_int max_two min_two max_three min_three max_four min_four   -- for this text's walks alone
set_option linter.unusedVariables false
set_option maxHeartbeats 8000000
set_option maxRecDepth 100000
set_option linter.unusedSimpArgs false

/-! ### spec_orFree: function 95 -/
def spec_orFree.f (k : Nat) (a0_0 : Int) (l0_1 : List Int) (a1 : Int) : Option (Int) := if 0 ≤ a0_0 then (if 0 ≤ a1 then (if a1 < (l0_1.length : Int) then ((spec_orBelow.f k a0_0 l0_1 a1).bind fun t384 => (some (Go.bits .andNot .i64 (wrap64 ((shl .i64 1 a0_0) - 1)) (Go.bits .or .i64 (Go.bits .or .i64 (rd l0_1 a1) t384) (shl .i64 1 a1))))) else (none)) else (none)) else (none)
theorem spec_orFree.mono : ∀ a0 a1 a2 k, LeO (spec_orFree.f k a0 a1 a2) (spec_orFree.f (k + 1) a0 a1 a2) := by
 intro a0 a1 a2 k
 unfold spec_orFree.f
 repeat' (with_reducible first|exact spec_orBelow.mono _ _ _ _|exact LeO.refl _|exact LeO.none _|refine LeO.ite ?_ ?_|refine LeO.bind ?_ (fun _ => ?_))
def spec_orFree.T1 : Bool × List (List Nat × List Nat) := (true, [([], []), ([0], [0]), ([1], [1]), ([2], [2]), ([], []), ([4], [4]), ([], []), ([5, 6], [5, 6]), ([7], [7]), ([], []), ([], []), ([9, 10], [9, 10]), ([8, 11], [8, 11]), ([], []), ([13], [13]), ([12, 14], [12, 14]), ([3, 15], [3, 15]), ([16, 11, 0, 1, 2, 3, 4, 5, 6, 7, 8, 9, 10, 11, 12, 13, 14, 15, 16], [16])])
def spec_orFree.B1 : List Nat := [0, 1, 3, 7, 0, 16, 0, 112, 240, 0, 0, 1536, 4080, 0, 8192, 32752, 65535, 131071]
theorem spec_orFree.tab1 : rtab .any (opsOf Tryd.f95 1) = spec_orFree.T1 := by kernel_rfl
theorem spec_orFree.bits1 : waitsOk spec_orFree.T1.2 spec_orFree.B1 = true := by kernel_rfl
theorem spec_orFree.calls (k : Nat) (a0_0 : Int) (A0_1 : Option Addr) (c0_1 : Nat) (l0_1 : List Int) (a1 : Int) (r : Int) (w : World) (hr0_1 : Kd.C (Kd.int .i64) w A0_1 l0_1.length l0_1) (hc0_1 : l0_1.length ≤ c0_1) (h : spec_orFree.f k a0_0 l0_1 a1 = some r) :
  Calls Tryd.prog 95 #[.agg #[.int .i64 a0_0, .slice A0_1 l0_1.length c0_1], .int .i64 a1] w fun e w' => e = .returned (.int .i64 r) ∧ Below w.heap.size w w' := by
 have hu28 := Tryd.underlying28
 have HR0_1 := Aside0.mk hr0_1
 have HC0_1 := Aside0.mk hc0_1
 clear hr0_1 hc0_1
 have HB := Aside0.mk (Below.refl w.heap.size w)
 have H : (if 0 ≤ a0_0 then (if 0 ≤ a1 then (if a1 < (l0_1.length : Int) then ((spec_orBelow.f k a0_0 l0_1 a1).bind fun t384 => (some (Go.bits .andNot .i64 (wrap64 ((shl .i64 1 a0_0) - 1)) (Go.bits .or .i64 (Go.bits .or .i64 (rd l0_1 a1) t384) (shl .i64 1 a1))))) else (none)) else (none)) else (none)) = some r := h
 clear h
 rcases iteP H with ⟨c3, H⟩ | ⟨c3, H⟩
 ·have c3b0 := eq_true c3
  have c3b1 : decide (0 ≤ a0_0) = true := decide_eq_true c3
  clear c3
  obtain ⟨ji4, hji4⟩ : ∃ j_ : Int, (shl .i64 1 a0_0) = j_ := ⟨_, rfl⟩
  replace H : (if 0 ≤ a1 then (if a1 < (l0_1.length : Int) then ((spec_orBelow.f k a0_0 l0_1 a1).bind fun t384 => (some (Go.bits .andNot .i64 (wrap64 ((ji4) - 1)) (Go.bits .or .i64 (Go.bits .or .i64 (rd l0_1 a1) t384) (shl .i64 1 a1))))) else (none)) else (none)) = some r := by first | (rw [hji4] at H; exact H) | (simp only [hji4] at H ⊢; exact H)
  have hji4_ : (IntKind.i64.wrap (1 * 2 ^ min a0_0.toNat 64)) = ji4 := hji4
  have hji4z : a0_0 ≤ 64 → (IntKind.i64.wrap (1 * 2 ^ a0_0.toNat)) = ji4 := shl_small hji4
  have hji4u : (IntKind.i64.wrap (2 ^ min a0_0.toNat 64)) = ji4 := by have h_ := hji4_; rw [Int.one_mul] at h_; exact h_
  have hji4v : a0_0 ≤ 64 → (IntKind.i64.wrap (2 ^ a0_0.toNat)) = ji4 := fun hle_ => by have h_ := hji4z hle_; rw [Int.one_mul] at h_; exact h_
  have hji4y : (wrap64 (1 * 2 ^ min a0_0.toNat 64)) = ji4 := (i64_w _).symm.trans hji4_
  have hji4x : a0_0 ≤ 64 → (wrap64 (1 * 2 ^ a0_0.toNat)) = ji4 := fun h_ => (i64_w _).symm.trans (hji4z h_)
  rcases iteP H with ⟨c5, H⟩ | ⟨c5, H⟩
  ·have c5b0 : decide (0 ≤ a1) = true := decide_eq_true c5
   clear c5
   rcases iteP H with ⟨c6, H⟩ | ⟨c6, H⟩
   ·have c6b0 : decide (a1 < (l0_1.length : Int)) = true := decide_eq_true c6
    clear c6
    obtain ⟨t384, A7, H⟩ := obE H
    have c8b0 := eq_true (ofd : 0 ≤ a1)
    obtain ⟨ji9, hji9⟩ : ∃ j_ : Int, (shl .i64 1 a1) = j_ := ⟨_, rfl⟩
    replace H : (some (Go.bits .andNot .i64 (wrap64 ((ji4) - 1)) (Go.bits .or .i64 (Go.bits .or .i64 (rd l0_1 a1) t384) (ji9)))) = some r := by first | (rw [hji9] at H; exact H) | (simp only [hji9] at H ⊢; exact H)
    (try rw [hji9] at A7)
    have hji9_ : (IntKind.i64.wrap (1 * 2 ^ min a1.toNat 64)) = ji9 := hji9
    have hji9z : a1 ≤ 64 → (IntKind.i64.wrap (1 * 2 ^ a1.toNat)) = ji9 := shl_small hji9
    have hji9u : (IntKind.i64.wrap (2 ^ min a1.toNat 64)) = ji9 := by have h_ := hji9_; rw [Int.one_mul] at h_; exact h_
    have hji9v : a1 ≤ 64 → (IntKind.i64.wrap (2 ^ a1.toNat)) = ji9 := fun hle_ => by have h_ := hji9z hle_; rw [Int.one_mul] at h_; exact h_
    have hji9y : (wrap64 (1 * 2 ^ min a1.toNat 64)) = ji9 := (i64_w _).symm.trans hji9_
    have hji9x : a1 ≤ 64 → (wrap64 (1 * 2 ^ a1.toNat)) = ji9 := fun h_ => (i64_w _).symm.trans (hji9z h_)
    obtain rfl := Option.some.inj H
    go_enter Tryd.func95, Tryd.ntmps95
    try go_wp2_with (first | ((with_reducible refine gate_dst (N := 2) rfl ?_); refine boxE (N := 2) (cs := #[.int .i64 a0_0, .slice A0_1 l0_1.length c0_1]) (t := 28) ?_; intro gb382 hg w10 hbox hb; have BK382 := Aside0.mk (hbox); have GE382 := geB HB hg; replace HB := bst HB hb; clear hb hbox hg))
    replace BK382 := Aside0.mk (blk_drew BK382.out)
    replace HB := Aside0.mk (below_drew1 HB.out)
    have p383 : 0 ≤ (a1 : Int) := ofd
    have q383 : a1 < (l0_1.length : Int) := ofd
    obtain ⟨ad383, e383, hx383_0⟩ := Kd.at_int HR0_1.out a1 p383 q383
    have hw383_0 := hx383_0
    cases e383
    replace hx383_0 := (HB.out.cell (World.block_lt_of_cell? w _ hx383_0)).trans hx383_0
    replace p383 := eq_true p383
    replace q383 := eq_true q383
    refine start_ (n := 18) (S := fun w' => w'.cell? ⟨gb382, 0, none⟩ = some (.int .i64 a0_0) ∧ w'.cell? ⟨gb382, 1, none⟩ = some (.slice (some ad383) l0_1.length c0_1) ∧ w'.cell? (ad383.add (a1).toNat) = some (.int .i64 (rd l0_1 a1))) (ds := []) (bm 18 0) (by kernel_rfl) rfl (by kernel_rfl) ⟨(blk_cell BK382.out 0).trans rfl, (blk_cell BK382.out 1).trans rfl, ((HB.out.cell (World.block_lt_of_cell? w _ hw383_0)).trans hw383_0)⟩ (fun hHeld => ?_); refine with_tabW spec_orFree.tab1 spec_orFree.bits1 (fun HT_ HW_ => ?_)
    generalize w10.drew = w11 at BK382 HB hx383_0 hHeld ⊢
    refine pureW 0 (some 5) (bm 18 1) HT_ ?_
    refine pureW 4 (some 9) (bm 18 17) HT_ ?_
    refine pureW 6 (some 11) (bm 18 81) HT_ ?_
    refine pureW 10 (some 15) (bm 18 1105) HT_ ?_
    refine pureW 13 (some 18) (bm 18 9297) HT_ ?_
    refine pureW 14 (some 19) (bm 18 25681) HT_ ?_
    refine takeW 1 (some 6) (bm 18 25683) HT_ HW_ hHeld ?_
    refine pureW 2 (some 7) (bm 18 25687) HT_ ?_
    refine pureW 3 (some 8) (bm 18 25695) HT_ ?_
    refine takeW 5 (some 10) (bm 18 25727) HT_ HW_ hHeld ?_
    refine pureW 7 (some 12) (bm 18 25855) HT_ ?_
    refine takeW 8 (some 13) (bm 18 26111) HT_ HW_ hHeld ?_
    refine takeW 9 (some 14) (bm 18 26623) HT_ HW_ hHeld ?_
    refine oneW 11 (some 16) (bm 18 28671) HT_ (fun K hK => ?_)
    refine goesR Tryd.func147 #[.agg #[.int .i64 a0_0, .slice (some ad383) l0_1.length c0_1], .int .i64 a1] ?_
    with_reducible refine (spec_orBelow.calls k a0_0 _ _ l0_1 a1 t384 _ ?side1 ?side2 A7.out).mono ?_
    (case side1 => exact C_g HR0_1 HB)
    (case side2 => exact HC0_1.out)
    rintro e w12 ⟨rfl, hb⟩
    refine ⟨_, rfl, ?_⟩
    replace BK382 := blkB BK382 hb
    replace HB := bst HB hb
    (try clear hb)
    (try clear hb2)
    (try clear hk)
    (try clear hi)
    refine hK.out _ _ ⟨(blk_cell BK382.out 0).trans rfl, (blk_cell BK382.out 1).trans rfl, ((HB.out.cell (World.block_lt_of_cell? w _ hw383_0)).trans hw383_0)⟩ (fun hHeld => ?_)
    clear hK K
    refine normW 16 ?_
    refine pureW 12 (some 17) (bm 18 32767) HT_ ?_
    refine pureW 15 (some 20) (bm 18 65535) HT_ ?_
    refine pureW 16 (some 21) (bm 18 131071) HT_ ?_
    refine pureW 17 (some 4) (bm 18 262143) HT_ ?_
    refine doneW HT_ ?_
    try go_wp2
    go_ret
    exact ⟨by first | rfl | (simp [errW_none, errW_some] <;> rfl) | (simp only [← hji4, ← hji9]; first | rfl | (simp [errW_none, errW_some] <;> rfl)) | (simp [*, errW_none, errW_some] <;> rfl), bel_g HB.out⟩
   ·exact absurd H (by simp)
  ·exact absurd H (by simp)
 ·exact absurd H (by simp)

end Go.Proofs.YteechpappfagpaaDoor.Q
