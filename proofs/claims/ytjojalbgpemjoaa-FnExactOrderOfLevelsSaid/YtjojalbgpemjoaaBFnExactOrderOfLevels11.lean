import Derived.Lib.SlicesCompact
import Derived.Lib.RowBridge
import Derived.Test.YtjojalbgpemjoaaBFnExactOrderOfLevels0
import Derived.Test.YtjojalbgpemjoaaBFnExactOrderOfLevels1
import Derived.Test.YtjojalbgpemjoaaBFnExactOrderOfLevels2
import Derived.Test.YtjojalbgpemjoaaBFnExactOrderOfLevels5
import Derived.Test.YtjojalbgpemjoaaBFnExactOrderOfLevels8
import Derived.Test.YtjojalbgpemjoaaBFnExactOrderOfLevels9
namespace Go.Proofs.Ytjojalbgpemjoaa.Pure
open Go.RowKit Go.Proofs.Ytjojalbgpemjoaa.Q Go.Proofs.YtjojalbgpemjoaaW.PrintWords Go.Proofs.YtjojalbgpemjoaaW.PrintLast
set_option linter.unusedVariables false
set_option linter.unusedSimpArgs false

-- small laws over rounds, numbers and lists; no program in sight
theorem Ev.shift {α : Type} {g : Nat → Option α} {r : α} (h : Ev (fun k => g (k + 1)) r) : Ev g r := by
  obtain ⟨K, hK⟩ := h
  refine ⟨K + 1, fun k hk => ?_⟩
  obtain ⟨m, rfl⟩ : ∃ m, k = m + 1 := ⟨k - 1, by omega⟩
  exact hK m (by omega)
theorem Ev.pos {α : Type} {c : Prop} [Decidable c] {f g : Nat → Option α} {r : α} (h : c) (k : Ev f r) : Ev (fun n => if c then f n else g n) r := by
  simp only [if_pos h]; exact k
theorem Ev.neg {α : Type} {c : Prop} [Decidable c] {f g : Nat → Option α} {r : α} (h : ¬ c) (k : Ev g r) : Ev (fun n => if c then f n else g n) r := by
  simp only [if_neg h]; exact k
theorem Ev.bindc {α β : Type} {a : Option α} {x : α} {f : Nat → α → Option β} {r : β} (h : a = some x) (k : Ev (fun n => f n x) r) : Ev (fun n => a.bind (f n)) r := by
  subst h; exact k
theorem Ev.ret {α : Type} {r s : α} (h : r = s) : Ev (fun _ => some r) s := by subst h; exact Ev.now _
theorem Ev.const {α : Type} {a : Option α} {r : α} (h : a = some r) : Ev (fun _ => a) r := ⟨0, fun _ _ => h⟩
theorem Ev.eq {α : Type} {g : Nat → Option α} {r s : α} (h : Ev g r) (e : r = s) : Ev g s := e ▸ h
theorem Ev.uniq {α : Type} {g : Nat → Option α} {r s : α} (h : Ev g r) (h' : Ev g s) : r = s := by
  obtain ⟨K, hK⟩ := h; obtain ⟨L, hL⟩ := h'
  have a := hK (max K L) (by omega); have b := hL (max K L) (by omega)
  rw [a] at b; exact Option.some.inj b
theorem Ev.at1 {α : Type} {g : Nat → Option α} {r : α} (h : Ev g r) : ∃ k, g k = some r := h.rounds
theorem wrap64_id {x : Int} (h1 : -9223372036854775808 ≤ x) (h2 : x ≤ 9223372036854775807) : wrap64 x = x := by unfold wrap64; omega
theorem rd_nat (l : List Int) (i : Nat) : rd l (i : Int) = l.getD i 0 := by simp [rd]
theorem rd_lt (l : List Int) (i : Nat) (h : i < l.length) : rd l (i : Int) = l[i] := by simp [rd, h]
theorem cast1 (i : Nat) : (i : Int) + 1 = ((i + 1 : Nat) : Int) := by omega
theorem set_prefix {l m : List Int} {i : Nat} (hm : m.length = l.length) (hi : i < l.length) (h : m.take i = l.take i) : (m.set i (rd l (i : Int))).take (i + 1) = l.take (i + 1) := by
  apply List.ext_getElem?
  intro j
  by_cases hj : j < i + 1
  · rw [List.getElem?_take_of_lt hj, List.getElem?_take_of_lt hj]
    by_cases e : j = i
    · subst e; rw [List.getElem?_set_self (by omega), rd_lt l j hi]; simp [hi]
    · rw [List.getElem?_set_ne (by omega)]
      have := congrArg (fun t => t[j]?) h
      rwa [List.getElem?_take_of_lt (by omega), List.getElem?_take_of_lt (by omega)] at this
  · rw [List.getElem?_eq_none (by simp; omega), List.getElem?_eq_none (by simp; omega)]

end Go.Proofs.Ytjojalbgpemjoaa.Pure

namespace Go.Proofs.Ytjojalbgpemjoaa.Pure
open Go.RowKit Go.Proofs.Ytjojalbgpemjoaa.Q Go.Proofs.YtjojalbgpemjoaaW.PrintWords Go.Proofs.YtjojalbgpemjoaaW.PrintLast
set_option linter.unusedVariables false
set_option linter.unusedSimpArgs false

-- copying, comparing, marking, looking again: what the statements' own helpers answer
theorem toIntS_l (l : List Int) (hl : l.length ≤ 1048576) (d : Nat) : ∀ (i : Nat) (m : List Int), i + d = l.length → m.length = l.length → m.take i = l.take i → Ev (fun k => laws_toIntS.l0 k l m i) l := by
  induction d with
  | zero =>
    intro i m hi hm ht
    refine Ev.shift ?_
    simp only [laws_toIntS.l0]
    refine Ev.neg (by omega) ?_
    refine Ev.ret ?_
    rw [List.take_of_length_le (by omega), List.take_of_length_le (by omega)] at ht
    exact ht
  | succ d ih =>
    intro i m hi hm ht
    refine Ev.shift ?_
    simp only [laws_toIntS.l0]
    refine Ev.pos (by omega) (Ev.pos (by omega) (Ev.pos (by omega) ?_))
    rw [wrap64_id (by omega) (by omega), cast1]
    refine ih (i + 1) _ (by omega) (by rw [List.length_set]; exact hm) ?_
    exact set_prefix hm (by omega) ht
theorem toIntS (l : List Int) (hl : l.length ≤ 1048576) : Ev (fun k => laws_toIntS.f k l) l := by
  unfold laws_toIntS.f
  refine Ev.pos (by omega) (Ev.pos (by omega) ?_)
  exact toIntS_l l hl l.length 0 _ (by omega) (by simp) (by simp)
theorem eqIntS_l (l : List Int) (hl : l.length ≤ 1048576) (d : Nat) : ∀ (i : Nat), i + d = l.length → Ev (fun k => laws_eqIntS.l0 k l l i) true := by
  induction d with
  | zero =>
    intro i hi
    refine Ev.shift ?_
    simp only [laws_eqIntS.l0]
    exact Ev.neg (by omega) (Ev.ret rfl)
  | succ d ih =>
    intro i hi
    refine Ev.shift ?_
    simp only [laws_eqIntS.l0]
    refine Ev.pos (by omega) (Ev.pos (by omega) (Ev.pos (by omega) ?_))
    rw [wrap64_id (by omega) (by omega), cast1]
    exact Ev.pos trivial (ih (i + 1) (by omega))
theorem eqIntS_same (l : List Int) (hl : l.length ≤ 1048576) : Ev (fun k => laws_eqIntS.f k l l) true := by
  unfold laws_eqIntS.f
  refine Ev.pos rfl ?_
  exact eqIntS_l l hl l.length 0 (by omega)

end Go.Proofs.Ytjojalbgpemjoaa.Pure

namespace Go.Proofs.Ytjojalbgpemjoaa.Pure
open Go.RowKit Go.Proofs.Ytjojalbgpemjoaa.Q Go.Proofs.YtjojalbgpemjoaaW.PrintWords Go.Proofs.YtjojalbgpemjoaaW.PrintLast
set_option linter.unusedVariables false
set_option linter.unusedSimpArgs false

/-- the numbers a, a+1, .. -/
def markL (a : Int) (n : Nat) : List Int := (List.range n).map fun (i : Nat) => a + (i : Int)
theorem markL_length (a : Int) (n : Nat) : (markL a n).length = n := by simp [markL]
theorem markL_rd (a : Int) (n i : Nat) (h : i < n) : rd (markL a n) (i : Int) = a + i := by
  rw [rd_lt _ _ (by rw [markL_length]; exact h)]; simp [markL]
theorem mark_prefix {a : Int} {m : List Int} {i n : Nat} (hm : m.length = n) (hi : i < n) (h : m.take i = markL a i) : (m.set i (a + i)).take (i + 1) = markL a (i + 1) := by
  apply List.ext_getElem?
  intro j
  by_cases hj : j < i + 1
  · rw [List.getElem?_take_of_lt hj]
    by_cases e : j = i
    · subst e; rw [List.getElem?_set_self (by omega)]; simp [markL]
    · rw [List.getElem?_set_ne (by omega)]
      have := congrArg (fun t => t[j]?) h
      rw [List.getElem?_take_of_lt (by omega)] at this
      rw [this]; simp [markL]; rw [List.getElem?_range (by omega), List.getElem?_range (by omega)]
  · rw [List.getElem?_eq_none (by simp; omega), List.getElem?_eq_none (by simp [markL]; omega)]
theorem markIntS_l (n : Nat) (hn : n ≤ 1048576) (a : Int) (h0 : -4611686018427387904 ≤ a) (h1 : a ≤ 4611686018427387904) (d : Nat) : ∀ (i : Nat) (m : List Int), i + d = n → m.length = n → m.take i = markL a i → Ev (fun k => laws_markIntS.l0 k m (a + i) i) (a + n, markL a n) := by
  induction d with
  | zero =>
    intro i m hi hm ht
    refine Ev.shift ?_
    simp only [laws_markIntS.l0]
    refine Ev.neg (by omega) (Ev.ret ?_)
    rw [List.take_of_length_le (by omega)] at ht
    obtain rfl : i = n := by omega
    rw [ht]
  | succ d ih =>
    intro i m hi hm ht
    refine Ev.shift ?_
    simp only [laws_markIntS.l0]
    refine Ev.pos (by omega) (Ev.pos (by omega) ?_)
    rw [wrap64_id (x := (i : Int) + 1) (by omega) (by omega), wrap64_id (x := a + (i : Int) + 1) (by omega) (by omega), Int.toNat_natCast]
    have e : a + (i : Int) + 1 = a + ((i + 1 : Nat) : Int) := by omega
    rw [e, cast1]
    exact ih (i + 1) _ (by omega) (by rw [List.length_set]; exact hm) (mark_prefix hm (by omega) ht)
theorem markIntS (l : List Int) (hl : l.length ≤ 1048576) (a : Int) (h0 : -4611686018427387904 ≤ a) (h1 : a ≤ 4611686018427387904) : Ev (fun k => laws_markIntS.f k l a) (a + l.length, markL a l.length) := by
  unfold laws_markIntS.f
  have := markIntS_l l.length hl a h0 h1 l.length 0 l (by omega) rfl (by simp [markL])
  simpa using this
theorem heldIntS_l (n : Nat) (hn : n ≤ 1048576) (a : Int) (h0 : -4611686018427387904 ≤ a) (h1 : a ≤ 4611686018427387904) (d : Nat) : ∀ (i : Nat), i + d = n → Ev (fun k => laws_heldIntS.l0 k (markL a n) (a + i) i) (a + n) := by
  induction d with
  | zero =>
    intro i hi
    refine Ev.shift ?_
    simp only [laws_heldIntS.l0, markL_length]
    refine Ev.neg (by omega) (Ev.ret ?_)
    rw [show i = n by omega]
  | succ d ih =>
    intro i hi
    refine Ev.shift ?_
    simp only [laws_heldIntS.l0, markL_length]
    refine Ev.pos (by omega) (Ev.pos (by omega) (Ev.pos (markL_rd a n i (by omega)) ?_))
    rw [wrap64_id (x := (i : Int) + 1) (by omega) (by omega), wrap64_id (x := a + (i : Int) + 1) (by omega) (by omega)]
    have e : a + (i : Int) + 1 = a + ((i + 1 : Nat) : Int) := by omega
    rw [e, cast1]
    exact ih (i + 1) (by omega)
theorem heldIntS (n : Nat) (hn : n ≤ 1048576) (a : Int) (h0 : -4611686018427387904 ≤ a) (h1 : a ≤ 4611686018427387904) : Ev (fun k => laws_heldIntS.f k (markL a n) a) (a + n) := by
  unfold laws_heldIntS.f
  have := heldIntS_l n hn a h0 h1 n 0 (by omega)
  simpa using this

end Go.Proofs.Ytjojalbgpemjoaa.Pure

namespace Go.Proofs.Ytjojalbgpemjoaa.Pure
open Go.RowKit Go.Proofs.Ytjojalbgpemjoaa.Q Go.Proofs.YtjojalbgpemjoaaW.PrintWords Go.Proofs.YtjojalbgpemjoaaW.PrintLast
set_option linter.unusedVariables false
set_option linter.unusedSimpArgs false

theorem eqOrder_same (n : Int) (x : List Int) (hx : x.length ≤ 1048576) : Ev (fun k => laws_eqOrder.f k n x n x) true := by
  unfold laws_eqOrder.f
  exact Ev.pos rfl (Ev.bind (eqIntS_same x hx) (Ev.pos rfl (Ev.ret rfl)))
theorem markOrder (n : Int) (x : List Int) (hx : x.length ≤ 1048576) (a : Int) (h0 : -4611686018427387904 ≤ a) (h1 : a ≤ 4611686018427387904) : Ev (fun k => laws_markOrder.f k n x a) (a + x.length, markL a x.length) := by
  unfold laws_markOrder.f
  exact Ev.bind (markIntS x hx a h0 h1) (Ev.ret rfl)
theorem heldOrder (n : Int) (m : Nat) (hm : m ≤ 1048576) (a : Int) (h0 : 0 ≤ a) (h1 : a ≤ 4611686018427387904) : Ev (fun k => laws_heldOrder.f k n (markL a m) a) (a + m) := by
  unfold laws_heldOrder.f
  exact Ev.bind (heldIntS m hm a (by omega) h1) (Ev.neg (by omega) (Ev.ret rfl))

end Go.Proofs.Ytjojalbgpemjoaa.Pure

-- printed by this project's own program (wip/mp/mp.py) over the kit's print, for this seat; Lean checks it
namespace Go.Proofs.Ytjojalbgpemjoaa.Q
open Go.RowKit Go.Proofs.YtjojalbgpemjoaaW.PrintWords Go.Proofs.YtjojalbgpemjoaaW.PrintLast Go.Proofs.YtjojalbgpemjoaaW.PrintMore
attribute [local go_sem] max2_int min2_int max_two min_two max_three min_three max_four min_four   -- for this text's walks alone
set_option linter.unusedVariables false
set_option linter.unusedSimpArgs false

/-! ### impl_within: function 54 -/
def impl_within.f (a0 : Int) (a1 : Int) (a2 : Int) : Option (Bool) := if a0 ≥ a1 then (some (decide (a0 ≤ a2))) else (some false)
set_option maxHeartbeats 8000000 in
set_option maxRecDepth 100000 in
theorem impl_within.calls (a0 : Int) (a1 : Int) (a2 : Int) (r : Bool) (w : World) (h : impl_within.f a0 a1 a2 = some r) :
    Calls Try.prog 54 #[.int .i64 a0, .int .i64 a1, .int .i64 a2] w fun e w' => e = .returned (.bool r) ∧ Drawn0 w w' := by
  have H : (if a0 ≥ a1 then (some (decide (a0 ≤ a2))) else (some false)) = some r := h
  clear h
  by_cases c4 : a0 ≥ a1
  · rw [if_pos c4] at H
    have c4b0 : decide (a1 ≤ a0) = true := decide_eq_true c4
    clear c4
    obtain rfl := Option.some.inj H
    go_enter Try.func54, Try.ntmps54
    go_wp2
    go_ret
    exact ⟨by first | rfl | (simp; done) | (simp [*]; done), by repeat (first | exact Drawn0.refl _ | apply Drawn0.step)⟩
  · rw [if_neg c4] at H
    have c4b0 : decide (a1 ≤ a0) = false := decide_eq_false c4
    clear c4
    obtain rfl := Option.some.inj H
    go_enter Try.func54, Try.ntmps54
    go_wp2
    go_ret
    exact ⟨by first | rfl | (simp; done) | (simp [*]; done), by repeat (first | exact Drawn0.refl _ | apply Drawn0.step)⟩

end Go.Proofs.Ytjojalbgpemjoaa.Q

namespace Go.Proofs.Ytjojalbgpemjoaa.Pure
open Go.RowKit Go.Proofs.Ytjojalbgpemjoaa.Q Go.Proofs.YtjojalbgpemjoaaW.PrintWords Go.Proofs.YtjojalbgpemjoaaW.PrintLast
set_option linter.unusedVariables false
set_option linter.unusedSimpArgs false

theorem bang (zs : List Int) (i : Nat) (h : i < zs.length) : zs.toArray[i]! = zs[i] := by
  rw [getElem!_pos zs.toArray i (by simpa using h)]; simp
/-- the different numbers of a list, in order -/
def dif (l : List Int) : List Int := Lib.compact (l.mergeSort fun x y => decide (x ≤ y))
theorem compactUpTo_facts (d : Array Int) (hs : ∀ i j : Nat, i < j → j < d.size → d[i]! ≤ d[j]!) : ∀ m, m ≤ d.size →
    (Lib.compactUpTo d m).Pairwise (· < ·) ∧ (∀ x, x ∈ Lib.compactUpTo d m ↔ ∃ j, j < m ∧ d[j]! = x) ∧ (∀ x ∈ Lib.compactUpTo d m, ∀ j, m = j + 1 → x ≤ d[j]!) := by
  intro m
  induction m with
  | zero => intro _; simp [Lib.compactUpTo]
  | succ m ih =>
    intro hm
    obtain ⟨h1, h2, h3⟩ := ih (by omega)
    rw [Lib.compactUpTo_succ]
    by_cases h0 : m = 0
    · subst h0
      rw [Lib.keeps_lt_one d 0 (by omega)]
      simp [Lib.compactUpTo]
      intro x; exact eq_comm
    · obtain ⟨q, rfl⟩ : ∃ q, m = q + 1 := ⟨m - 1, by omega⟩
      have hle : d[q]! ≤ d[q + 1]! := hs q (q + 1) (by omega) (by omega)
      by_cases he : d[q + 1]! = d[q]!
      · rw [Lib.keeps_neg (by omega) (by simpa using he)]
        simp only [Bool.false_eq_true, if_false, List.append_nil]
        refine ⟨h1, fun x => ?_, fun x hx j hj => ?_⟩
        · rw [h2]
          constructor
          · rintro ⟨j, hj, e⟩; exact ⟨j, by omega, e⟩
          · rintro ⟨j, hj, e⟩
            by_cases hjq : j = q + 1
            · subst hjq; exact ⟨q, by omega, by rw [← he]; exact e⟩
            · exact ⟨j, by omega, e⟩
        · obtain rfl : j = q + 1 := by omega
          have := h3 x hx q rfl
          omega
      · rw [Lib.keeps_pos (by simpa using he)]
        simp only [if_true]
        refine ⟨?_, fun x => ?_, fun x hx j hj => ?_⟩
        · rw [List.pairwise_append]
          refine ⟨h1, by simp, fun x hx y hy => ?_⟩
          have := h3 x hx q rfl
          rw [List.mem_singleton] at hy
          subst hy
          omega
        · rw [List.mem_append, h2, List.mem_singleton]
          constructor
          · rintro (⟨j, hj, e⟩ | e)
            · exact ⟨j, by omega, e⟩
            · exact ⟨q + 1, by omega, e.symm⟩
          · rintro ⟨j, hj, e⟩
            by_cases hjq : j = q + 1
            · subst hjq; exact .inr e.symm
            · exact .inl ⟨j, by omega, e⟩
        · obtain rfl : j = q + 1 := by omega
          rw [List.mem_append, List.mem_singleton] at hx
          rcases hx with hx | rfl
          · have := h3 x hx q rfl; omega
          · omega
theorem sort_pairwise (l : List Int) : (l.mergeSort fun x y => decide (x ≤ y)).Pairwise (· ≤ ·) := by
  have := List.pairwise_mergeSort (le := fun x y : Int => decide (x ≤ y)) (by intro a b c h1 h2; simp at h1 h2 ⊢; omega) (by intro a b; simp; omega) l
  simpa using this
theorem dif_facts (l : List Int) : (dif l).Pairwise (· < ·) ∧ ∀ x, x ∈ dif l ↔ x ∈ l := by
  have hp := sort_pairwise l
  have h := compactUpTo_facts (l.mergeSort fun x y => decide (x ≤ y)).toArray (fun i j hij hj => by
    have hj' : j < (l.mergeSort fun x y => decide (x ≤ y)).length := by simpa using hj
    have := List.pairwise_iff_getElem.1 hp i j (by omega) hj' hij
    rw [bang _ i (by omega), bang _ j hj']
    exact this) (l.mergeSort fun x y => decide (x ≤ y)).length (by simp)
  refine ⟨h.1, fun x => ?_⟩
  show x ∈ Lib.compactUpTo _ _ ↔ _
  rw [h.2.1, ← List.mem_mergeSort (le := fun x y : Int => decide (x ≤ y)), List.mem_iff_getElem]
  constructor
  · rintro ⟨j, hj, e⟩; exact ⟨j, hj, by rw [bang _ j hj] at e; exact e⟩
  · rintro ⟨j, hj, e⟩; exact ⟨j, hj, by rw [bang _ j hj]; exact e⟩
theorem dif_sorted (l : List Int) : (dif l).Pairwise (· < ·) := (dif_facts l).1
theorem mem_dif {l : List Int} {x : Int} : x ∈ dif l ↔ x ∈ l := (dif_facts l).2 x
theorem dif_length (l : List Int) : (dif l).length ≤ l.length := by
  have := Lib.compact_length_le (l.mergeSort fun x y => decide (x ≤ y))
  rwa [List.length_mergeSort] at this
/-- two rising lists of the same numbers are one -/
theorem rising_ext : ∀ {a b : List Int}, a.Pairwise (· < ·) → b.Pairwise (· < ·) → (∀ x, x ∈ a ↔ x ∈ b) → a = b
  | [], [], _, _, _ => rfl
  | [], y :: b, _, _, h => by have := (h y).2 (by simp); simp at this
  | x :: a, [], _, _, h => by have := (h x).1 (by simp); simp at this
  | x :: a, y :: b, ha, hb, h => by
    rw [List.pairwise_cons] at ha hb
    have e : x = y := by
      rcases List.mem_cons.1 ((h x).1 (by simp)) with e | hx
      · exact e
      · rcases List.mem_cons.1 ((h y).2 (by simp)) with e | hy
        · exact e.symm
        · have := ha.1 y hy; have := hb.1 x hx; omega
    subst e
    congr 1
    refine rising_ext ha.2 hb.2 fun z => ?_
    constructor
    · intro hz
      rcases List.mem_cons.1 ((h z).1 (List.mem_cons_of_mem _ hz)) with e | hz'
      · have := ha.1 z hz; omega
      · exact hz'
    · intro hz
      rcases List.mem_cons.1 ((h z).2 (List.mem_cons_of_mem _ hz)) with e | hz'
      · have := hb.1 z hz; omega
      · exact hz'
theorem different_f (l : List Int) (h : l.length ≤ 1048576) : impl_different.f l = some (dif l) := by
  unfold impl_different.f dif
  rw [if_pos (by omega)]

end Go.Proofs.Ytjojalbgpemjoaa.Pure

namespace Go.Proofs.Ytjojalbgpemjoaa.Pure
open Go.RowKit Go.Proofs.Ytjojalbgpemjoaa.Q Go.Proofs.YtjojalbgpemjoaaW.PrintWords Go.Proofs.YtjojalbgpemjoaaW.PrintLast
set_option linter.unusedVariables false
set_option linter.unusedSimpArgs false

theorem spec_in (a b c : Int) : spec_l1In.f a b c = some (decide (b ≤ a ∧ a ≤ c)) := by
  unfold spec_l1In.f
  by_cases h : a ≥ b
  · rw [if_pos h]; by_cases h2 : a ≤ c <;> simp [h2] <;> omega
  · rw [if_neg h]; simp; omega
theorem impl_in (a b c : Int) : impl_within.f a b c = some (decide (b ≤ a ∧ a ≤ c)) := by
  unfold impl_within.f
  by_cases h : a ≥ b
  · rw [if_pos h]; by_cases h2 : a ≤ c <;> simp [h2] <;> omega
  · rw [if_neg h]; simp; omega
theorem drop_rd (l : List Int) (i : Nat) (h : i < l.length) : l.drop i = rd l (i : Int) :: l.drop (i + 1) := by
  rw [rd_lt l i h]; exact List.drop_eq_getElem_cons h
theorem all_l (a b : Int) (l : List Int) (hl : l.length ≤ 1048576) (d : Nat) : ∀ i : Nat, i + d = l.length → Ev (fun k => spec_l1All.l0 k a b l (l.length : Int) i) (decide (∀ x ∈ l.drop i, a ≤ x ∧ x ≤ b)) := by
  induction d with
  | zero =>
    intro i hi
    refine Ev.shift ?_
    simp only [spec_l1All.l0]
    refine Ev.neg (by omega) (Ev.ret ?_)
    rw [List.drop_of_length_le (by omega)]; simp
  | succ d ih =>
    intro i hi
    refine Ev.shift ?_
    simp only [spec_l1All.l0]
    refine Ev.pos (by omega) (Ev.pos (by omega) (Ev.pos (by omega) (Ev.bindc (spec_in _ _ _) ?_)))
    rw [wrap64_id (by omega) (by omega), cast1, drop_rd l i (by omega)]
    by_cases hc : a ≤ rd l (i : Int) ∧ rd l (i : Int) ≤ b
    · exact Ev.pos (by simpa using hc) (Ev.eq (ih (i + 1) (by omega)) (by simp [hc]))
    · refine Ev.neg (by simpa using hc) (Ev.ret ?_)
      symm; rw [decide_eq_false_iff_not]; intro h; exact hc (h _ (by simp))
theorem all_spec (a b : Int) (l : List Int) (hl : l.length ≤ 1048576) : Ev (fun k => spec_l1All.f k l a b) (decide (∀ x ∈ l, a ≤ x ∧ x ≤ b)) := by
  unfold spec_l1All.f
  simpa using all_l a b l hl l.length 0 (by omega)
theorem has_l (a : Int) (l : List Int) (hl : l.length ≤ 1048576) (d : Nat) : ∀ i : Nat, i + d = l.length → Ev (fun k => spec_l1Has.l0 k a l (l.length : Int) i) (decide (a ∈ l.drop i)) := by
  induction d with
  | zero =>
    intro i hi
    refine Ev.shift ?_
    simp only [spec_l1Has.l0]
    refine Ev.neg (by omega) (Ev.ret ?_)
    rw [List.drop_of_length_le (by omega)]; simp
  | succ d ih =>
    intro i hi
    refine Ev.shift ?_
    simp only [spec_l1Has.l0]
    refine Ev.pos (by omega) (Ev.pos (by omega) (Ev.pos (by omega) ?_))
    rw [wrap64_id (by omega) (by omega), cast1, drop_rd l i (by omega)]
    by_cases hc : rd l (i : Int) = a
    · exact Ev.pos hc (Ev.ret (by simp [hc]))
    · exact Ev.neg hc (Ev.eq (ih (i + 1) (by omega)) (by simp [Ne.symm hc]))
theorem has_spec (a : Int) (l : List Int) (hl : l.length ≤ 1048576) : Ev (fun k => spec_l1Has.f k l a) (decide (a ∈ l)) := by
  unfold spec_l1Has.f
  simpa using has_l a l hl l.length 0 (by omega)
/-- levels: at most ten numbers from 0 to 10, below each positive one the one less by 1 -/
def lvlP (l : List Int) : Prop := l.length ≤ 10 ∧ (∀ x ∈ l, 0 ≤ x ∧ x ≤ 10) ∧ ∀ x ∈ l, 0 < x → x - 1 ∈ l
instance (l : List Int) : Decidable (lvlP l) := by unfold lvlP; infer_instance
theorem weLevels_l (l : List Int) (hl : l.length ≤ 10) (hr : ∀ x ∈ l, 0 ≤ x ∧ x ≤ 10) (d : Nat) : ∀ i : Nat, i + d = l.length → Ev (fun k => spec_weLevels.l0 k l l (l.length : Int) i) (decide (∀ x ∈ l.drop i, 0 < x → x - 1 ∈ l)) := by
  induction d with
  | zero =>
    intro i hi
    refine Ev.shift ?_
    simp only [spec_weLevels.l0]
    refine Ev.neg (by omega) (Ev.ret ?_)
    rw [List.drop_of_length_le (by omega)]; simp
  | succ d ih =>
    intro i hi
    have hx := hr (rd l (i : Int)) (by rw [rd_lt l i (by omega)]; exact List.getElem_mem _)
    refine Ev.shift ?_
    simp only [spec_weLevels.l0]
    refine Ev.pos (by omega) (Ev.pos (by omega) (Ev.pos (by omega) ?_))
    rw [wrap64_id (x := (i : Int) + 1) (by omega) (by omega), wrap64_id (x := rd l (i : Int) - 1) (by omega) (by omega), cast1, drop_rd l i (by omega)]
    by_cases h0 : rd l (i : Int) > 0
    · refine Ev.pos h0 (Ev.bind (has_spec _ l (by omega)) ?_)
      by_cases hm : rd l (i : Int) - 1 ∈ l
      · exact Ev.pos (by simpa using hm) (Ev.eq (ih (i + 1) (by omega)) (by simp [hm]))
      · refine Ev.neg (by simpa using hm) (Ev.ret ?_)
        symm; rw [decide_eq_false_iff_not]; intro h; exact hm (h _ (by simp) h0)
    · exact Ev.neg h0 (Ev.eq (ih (i + 1) (by omega)) (by
        congr 1
        rw [eq_iff_iff]
        constructor
        · intro h x hx hp
          rcases List.mem_cons.1 hx with rfl | hx
          · omega
          · exact h x hx hp
        · intro h x hx hp; exact h x (List.mem_cons_of_mem _ hx) hp))
theorem levels_spec (l : List Int) (hl : l.length ≤ 1048576) : Ev (fun k => spec_weLevels.f k l) (decide (lvlP l)) := by
  unfold spec_weLevels.f
  by_cases h : (l.length : Int) > 10
  · refine Ev.pos h (Ev.shift ?_)
    simp only [spec_weLevels.j0]
    refine Ev.pos (by simp) (Ev.ret ?_)
    symm; rw [decide_eq_false_iff_not]; intro h'; have := h'.1; omega
  · refine Ev.neg h (Ev.bind (all_spec 0 10 l hl) (Ev.shift ?_))
    simp only [spec_weLevels.j0]
    by_cases hr : ∀ x ∈ l, 0 ≤ x ∧ x ≤ 10
    · rw [decide_eq_true hr]
      refine Ev.neg (by simp) (Ev.eq (weLevels_l l (by omega) hr l.length 0 (by omega)) ?_)
      rw [Bool.eq_iff_iff, decide_eq_true_iff, decide_eq_true_iff]
      exact ⟨fun h' => ⟨by omega, hr, by simpa using h'⟩, fun h' => by simpa using h'.2.2⟩
    · rw [decide_eq_false hr]
      refine Ev.pos (by simp) (Ev.ret ?_)
      symm; rw [decide_eq_false_iff_not]; exact fun h' => hr h'.2.1
/-- the numbers 0 to n - 1 -/
def iota (n : Nat) : List Int := (List.range n).map fun (i : Nat) => (i : Int)
theorem mem_iota {n : Nat} {x : Int} : x ∈ iota n ↔ 0 ≤ x ∧ x < n := by
  simp only [iota, List.mem_map, List.mem_range]
  constructor
  · rintro ⟨i, h, rfl⟩; omega
  · intro h; exact ⟨x.toNat, by omega, by omega⟩
theorem iota_length (n : Nat) : (iota n).length = n := by simp [iota]
theorem iota_rising (n : Nat) : (iota n).Pairwise (· < ·) := by
  unfold iota
  rw [List.pairwise_map]
  exact List.pairwise_lt_range.imp (by intro a b h; omega)
theorem dif_iota {l : List Int} {n : Nat} (h : ∀ x, x ∈ l ↔ 0 ≤ x ∧ x < n) : dif l = iota n :=
  rising_ext (dif_sorted l) (iota_rising n) fun x => by rw [mem_dif, mem_iota]; exact h x
/-- levels fill an interval from 0 on -/
theorem lvl_fill {l : List Int} (h : lvlP l) : ∃ n : Nat, n ≤ 10 ∧ ∀ x, x ∈ l ↔ 0 ≤ x ∧ x < n := by
  obtain ⟨h1, h2, h3⟩ := h
  have down : ∀ (d : Nat) (x : Int), x ∈ l → ∀ y, 0 ≤ y → y + d = x → y ∈ l := by
    intro d
    induction d with
    | zero => intro x hx y hy e; rw [show y = x by omega]; exact hx
    | succ d ih =>
      intro x hx y hy e
      exact ih (x - 1) (h3 x hx (by omega)) y hy (by omega)
  have hmax : ∀ m : Nat, (∀ x ∈ l, x < m) → ∃ n : Nat, n ≤ m ∧ ∀ x, x ∈ l ↔ 0 ≤ x ∧ x < n := by
    intro m
    induction m with
    | zero => intro hx; exact ⟨0, by omega, fun x => ⟨fun h => by have := hx x h; have := h2 x h; omega, fun h => by omega⟩⟩
    | succ m ih =>
      intro hx
      by_cases hm : (m : Int) ∈ l
      · refine ⟨m + 1, by omega, fun x => ⟨fun h => ⟨(h2 x h).1, hx x h⟩, fun h => ?_⟩⟩
        exact down (m - x).toNat m hm x h.1 (by omega)
      · obtain ⟨n, hn, h⟩ := ih (fun x hx' => by
          have := hx x hx'
          have : x ≠ m := fun e => hm (e ▸ hx')
          omega)
        exact ⟨n, by omega, h⟩
  obtain ⟨n, hn, h⟩ := hmax 11 (fun x hx => by have := h2 x hx; omega)
  refine ⟨n, ?_, h⟩
  have e := dif_iota h
  have := dif_length l
  rw [e, iota_length] at this
  omega
theorem lvl_iff (l : List Int) : lvlP l ↔ (∀ m : Nat, m < (dif l).length → rd (dif l) (m : Int) = m) ∧ l.length ≤ 10 := by
  constructor
  · intro h
    obtain ⟨n, hn, hx⟩ := lvl_fill h
    refine ⟨fun m hm => ?_, h.1⟩
    rw [rd_lt _ m hm]
    simp [dif_iota hx, iota]
  · rintro ⟨h1, h2⟩
    have hd := dif_length l
    have key : ∀ x, x ∈ l ↔ 0 ≤ x ∧ x < (dif l).length := by
      intro x
      rw [← mem_dif, List.mem_iff_getElem]
      constructor
      · rintro ⟨m, hm, rfl⟩
        have := h1 m hm
        rw [rd_lt _ m hm] at this
        omega
      · intro h
        refine ⟨x.toNat, by omega, ?_⟩
        have := h1 x.toNat (by omega)
        rw [rd_lt _ _ (by omega)] at this
        omega
    exact ⟨h2, fun x hx => by have := (key x).1 hx; omega, fun x hx h0 => (key (x - 1)).2 (by have := (key x).1 hx; omega)⟩
theorem areLevels_l (l D : List Int) (hD : D.length ≤ 1048576) (d : Nat) : ∀ i : Nat, i + d = D.length → ∃ r, Ev (fun k => impl_AreLevels.l0 k l D (D.length : Int) i) r ∧ (r = true ↔ (∀ m : Nat, i ≤ m → m < D.length → rd D (m : Int) = m) ∧ l.length ≤ 10) := by
  induction d with
  | zero =>
    intro i hi
    refine ⟨decide ((l.length : Int) ≤ 10), Ev.shift ?_, ?_⟩
    · simp only [impl_AreLevels.l0]
      exact Ev.neg (by omega) (Ev.ret rfl)
    · rw [decide_eq_true_iff]
      exact ⟨fun h => ⟨fun m h1 h2 => by omega, by omega⟩, fun h => by omega⟩
  | succ d ih =>
    intro i hi
    obtain ⟨r, hr, hq⟩ := ih (i + 1) (by omega)
    by_cases hc : rd D (i : Int) = i
    · refine ⟨r, Ev.shift ?_, hq.trans ⟨fun h => ⟨fun m h1 h2 => ?_, h.2⟩, fun h => ⟨fun m h1 h2 => h.1 m (by omega) h2, h.2⟩⟩⟩
      · simp only [impl_AreLevels.l0]
        refine Ev.pos (by omega) (Ev.pos (by omega) (Ev.pos (by omega) ?_))
        rw [wrap64_id (by omega) (by omega), cast1]
        exact Ev.pos hc hr
      · by_cases e : m = i
        · subst e; exact hc
        · exact h.1 m (by omega) h2
    · refine ⟨false, Ev.shift ?_, ?_⟩
      · simp only [impl_AreLevels.l0]
        exact Ev.pos (by omega) (Ev.pos (by omega) (Ev.pos (by omega) (Ev.neg hc (Ev.ret rfl))))
      · simp only [Bool.false_eq_true, false_iff]
        intro h; exact hc (h.1 i (Nat.le_refl _) (by omega))
theorem levels_impl (l : List Int) (hl : l.length ≤ 1048576) : Ev (fun k => impl_AreLevels.f k l) (decide (lvlP l)) := by
  unfold impl_AreLevels.f
  obtain ⟨r, hr, hq⟩ := areLevels_l l (dif l) (by have := dif_length l; omega) (dif l).length 0 (by omega)
  refine Ev.bindc (different_f l hl) (Ev.eq hr ?_)
  rw [Bool.eq_iff_iff, decide_eq_true_iff, lvl_iff, hq]
  exact ⟨fun h => ⟨fun m hm => h.1 m (Nat.zero_le _) hm, h.2⟩, fun h => ⟨fun m _ hm => h.1 m hm, h.2⟩⟩

end Go.Proofs.Ytjojalbgpemjoaa.Pure
