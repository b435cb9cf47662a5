import Derived.Lib.SlicesCompact
import Derived.Lib.RowBridge
import Derived.Test.YtjojalbgpemjoaaBFnExactMajorityOf0
import Derived.Test.YtjojalbgpemjoaaBFnExactMajorityOf1
import Derived.Test.YtjojalbgpemjoaaBFnExactMajorityOf2
import Derived.Test.YtjojalbgpemjoaaBFnExactMajorityOf3
import Derived.Test.YtjojalbgpemjoaaBFnExactMajorityOf7
import Derived.Test.YtjojalbgpemjoaaBFnExactMajorityOf10
import Derived.Test.YtjojalbgpemjoaaBFnExactMajorityOf14
namespace Go.Proofs.Ytjojalbgpemjoaa.Pure
open Go.RowKit Go.Proofs.Ytjojalbgpemjoaa.Q Go.Proofs.YtjojalbgpemjoaaW.PrintWords Go.Proofs.YtjojalbgpemjoaaW.PrintLast
set_option linter.unusedVariables false
set_option linter.unusedSimpArgs false

-- small laws over rounds, numbers and lists; no program in sight
theorem Ev.shift {α : Type} {g : Nat → Option α} {r : α} (h : Ev (fun k => g (k + 1)) r) : Ev g r := by
  obtain ⟨K, hK⟩ := h
  refine ⟨K + 1, fun k hk => ?_⟩
  obtain ⟨m, rfl⟩ : ∃ m, k = m + 1 := ⟨k - 1, by omega⟩
  exact hK m (by omega)
theorem Ev.pos {α : Type} {c : Prop} [Decidable c] {f g : Nat → Option α} {r : α} (h : c) (k : Ev f r) : Ev (fun n => if c then f n else g n) r := by
  simp only [if_pos h]; exact k
theorem Ev.neg {α : Type} {c : Prop} [Decidable c] {f g : Nat → Option α} {r : α} (h : ¬ c) (k : Ev g r) : Ev (fun n => if c then f n else g n) r := by
  simp only [if_neg h]; exact k
theorem Ev.bindc {α β : Type} {a : Option α} {x : α} {f : Nat → α → Option β} {r : β} (h : a = some x) (k : Ev (fun n => f n x) r) : Ev (fun n => a.bind (f n)) r := by
  subst h; exact k
theorem Ev.ret {α : Type} {r s : α} (h : r = s) : Ev (fun _ => some r) s := by subst h; exact Ev.now _
theorem Ev.const {α : Type} {a : Option α} {r : α} (h : a = some r) : Ev (fun _ => a) r := ⟨0, fun _ _ => h⟩
theorem Ev.eq {α : Type} {g : Nat → Option α} {r s : α} (h : Ev g r) (e : r = s) : Ev g s := e ▸ h
theorem Ev.uniq {α : Type} {g : Nat → Option α} {r s : α} (h : Ev g r) (h' : Ev g s) : r = s := by
  obtain ⟨K, hK⟩ := h; obtain ⟨L, hL⟩ := h'
  have a := hK (max K L) (by omega); have b := hL (max K L) (by omega)
  rw [a] at b; exact Option.some.inj b
theorem Ev.at1 {α : Type} {g : Nat → Option α} {r : α} (h : Ev g r) : ∃ k, g k = some r := h.rounds
theorem wrap64_id {x : Int} (h1 : -9223372036854775808 ≤ x) (h2 : x ≤ 9223372036854775807) : wrap64 x = x := by unfold wrap64; omega
theorem rd_nat (l : List Int) (i : Nat) : rd l (i : Int) = l.getD i 0 := by simp [rd]
theorem rd_lt (l : List Int) (i : Nat) (h : i < l.length) : rd l (i : Int) = l[i] := by simp [rd, h]
theorem cast1 (i : Nat) : (i : Int) + 1 = ((i + 1 : Nat) : Int) := by omega
theorem set_prefix {l m : List Int} {i : Nat} (hm : m.length = l.length) (hi : i < l.length) (h : m.take i = l.take i) : (m.set i (rd l (i : Int))).take (i + 1) = l.take (i + 1) := by
  apply List.ext_getElem?
  intro j
  by_cases hj : j < i + 1
  · rw [List.getElem?_take_of_lt hj, List.getElem?_take_of_lt hj]
    by_cases e : j = i
    · subst e; rw [List.getElem?_set_self (by omega), rd_lt l j hi]; simp [hi]
    · rw [List.getElem?_set_ne (by omega)]
      have := congrArg (fun t => t[j]?) h
      rwa [List.getElem?_take_of_lt (by omega), List.getElem?_take_of_lt (by omega)] at this
  · rw [List.getElem?_eq_none (by simp; omega), List.getElem?_eq_none (by simp; omega)]

end Go.Proofs.Ytjojalbgpemjoaa.Pure

namespace Go.Proofs.Ytjojalbgpemjoaa.Pure
open Go.RowKit Go.Proofs.Ytjojalbgpemjoaa.Q Go.Proofs.YtjojalbgpemjoaaW.PrintWords Go.Proofs.YtjojalbgpemjoaaW.PrintLast
set_option linter.unusedVariables false
set_option linter.unusedSimpArgs false

-- copying, comparing, marking, looking again: what the statements' own helpers answer
theorem toIntS_l (l : List Int) (hl : l.length ≤ 1048576) (d : Nat) : ∀ (i : Nat) (m : List Int), i + d = l.length → m.length = l.length → m.take i = l.take i → Ev (fun k => laws_toIntS.l0 k l m i) l := by
  induction d with
  | zero =>
    intro i m hi hm ht
    refine Ev.shift ?_
    simp only [laws_toIntS.l0]
    refine Ev.neg (by omega) ?_
    refine Ev.ret ?_
    rw [List.take_of_length_le (by omega), List.take_of_length_le (by omega)] at ht
    exact ht
  | succ d ih =>
    intro i m hi hm ht
    refine Ev.shift ?_
    simp only [laws_toIntS.l0]
    refine Ev.pos (by omega) (Ev.pos (by omega) (Ev.pos (by omega) ?_))
    rw [wrap64_id (by omega) (by omega), cast1]
    refine ih (i + 1) _ (by omega) (by rw [List.length_set]; exact hm) ?_
    exact set_prefix hm (by omega) ht
theorem toIntS (l : List Int) (hl : l.length ≤ 1048576) : Ev (fun k => laws_toIntS.f k l) l := by
  unfold laws_toIntS.f
  refine Ev.pos (by omega) (Ev.pos (by omega) ?_)
  exact toIntS_l l hl l.length 0 _ (by omega) (by simp) (by simp)
theorem eqIntS_l (l : List Int) (hl : l.length ≤ 1048576) (d : Nat) : ∀ (i : Nat), i + d = l.length → Ev (fun k => laws_eqIntS.l0 k l l i) true := by
  induction d with
  | zero =>
    intro i hi
    refine Ev.shift ?_
    simp only [laws_eqIntS.l0]
    exact Ev.neg (by omega) (Ev.ret rfl)
  | succ d ih =>
    intro i hi
    refine Ev.shift ?_
    simp only [laws_eqIntS.l0]
    refine Ev.pos (by omega) (Ev.pos (by omega) (Ev.pos (by omega) ?_))
    rw [wrap64_id (by omega) (by omega), cast1]
    exact Ev.pos trivial (ih (i + 1) (by omega))
theorem eqIntS_same (l : List Int) (hl : l.length ≤ 1048576) : Ev (fun k => laws_eqIntS.f k l l) true := by
  unfold laws_eqIntS.f
  refine Ev.pos rfl ?_
  exact eqIntS_l l hl l.length 0 (by omega)

end Go.Proofs.Ytjojalbgpemjoaa.Pure

namespace Go.Proofs.Ytjojalbgpemjoaa.Pure
open Go.RowKit Go.Proofs.Ytjojalbgpemjoaa.Q Go.Proofs.YtjojalbgpemjoaaW.PrintWords Go.Proofs.YtjojalbgpemjoaaW.PrintLast
set_option linter.unusedVariables false
set_option linter.unusedSimpArgs false

/-- the numbers a, a+1, .. -/
def markL (a : Int) (n : Nat) : List Int := (List.range n).map fun (i : Nat) => a + (i : Int)
theorem markL_length (a : Int) (n : Nat) : (markL a n).length = n := by simp [markL]
theorem markL_rd (a : Int) (n i : Nat) (h : i < n) : rd (markL a n) (i : Int) = a + i := by
  rw [rd_lt _ _ (by rw [markL_length]; exact h)]; simp [markL]
theorem mark_prefix {a : Int} {m : List Int} {i n : Nat} (hm : m.length = n) (hi : i < n) (h : m.take i = markL a i) : (m.set i (a + i)).take (i + 1) = markL a (i + 1) := by
  apply List.ext_getElem?
  intro j
  by_cases hj : j < i + 1
  · rw [List.getElem?_take_of_lt hj]
    by_cases e : j = i
    · subst e; rw [List.getElem?_set_self (by omega)]; simp [markL]
    · rw [List.getElem?_set_ne (by omega)]
      have := congrArg (fun t => t[j]?) h
      rw [List.getElem?_take_of_lt (by omega)] at this
      rw [this]; simp [markL]; rw [List.getElem?_range (by omega), List.getElem?_range (by omega)]
  · rw [List.getElem?_eq_none (by simp; omega), List.getElem?_eq_none (by simp [markL]; omega)]
theorem markIntS_l (n : Nat) (hn : n ≤ 1048576) (a : Int) (h0 : -4611686018427387904 ≤ a) (h1 : a ≤ 4611686018427387904) (d : Nat) : ∀ (i : Nat) (m : List Int), i + d = n → m.length = n → m.take i = markL a i → Ev (fun k => laws_markIntS.l0 k m (a + i) i) (a + n, markL a n) := by
  induction d with
  | zero =>
    intro i m hi hm ht
    refine Ev.shift ?_
    simp only [laws_markIntS.l0]
    refine Ev.neg (by omega) (Ev.ret ?_)
    rw [List.take_of_length_le (by omega)] at ht
    obtain rfl : i = n := by omega
    rw [ht]
  | succ d ih =>
    intro i m hi hm ht
    refine Ev.shift ?_
    simp only [laws_markIntS.l0]
    refine Ev.pos (by omega) (Ev.pos (by omega) ?_)
    rw [wrap64_id (x := (i : Int) + 1) (by omega) (by omega), wrap64_id (x := a + (i : Int) + 1) (by omega) (by omega), Int.toNat_natCast]
    have e : a + (i : Int) + 1 = a + ((i + 1 : Nat) : Int) := by omega
    rw [e, cast1]
    exact ih (i + 1) _ (by omega) (by rw [List.length_set]; exact hm) (mark_prefix hm (by omega) ht)
theorem markIntS (l : List Int) (hl : l.length ≤ 1048576) (a : Int) (h0 : -4611686018427387904 ≤ a) (h1 : a ≤ 4611686018427387904) : Ev (fun k => laws_markIntS.f k l a) (a + l.length, markL a l.length) := by
  unfold laws_markIntS.f
  have := markIntS_l l.length hl a h0 h1 l.length 0 l (by omega) rfl (by simp [markL])
  simpa using this
theorem heldIntS_l (n : Nat) (hn : n ≤ 1048576) (a : Int) (h0 : -4611686018427387904 ≤ a) (h1 : a ≤ 4611686018427387904) (d : Nat) : ∀ (i : Nat), i + d = n → Ev (fun k => laws_heldIntS.l0 k (markL a n) (a + i) i) (a + n) := by
  induction d with
  | zero =>
    intro i hi
    refine Ev.shift ?_
    simp only [laws_heldIntS.l0, markL_length]
    refine Ev.neg (by omega) (Ev.ret ?_)
    rw [show i = n by omega]
  | succ d ih =>
    intro i hi
    refine Ev.shift ?_
    simp only [laws_heldIntS.l0, markL_length]
    refine Ev.pos (by omega) (Ev.pos (by omega) (Ev.pos (markL_rd a n i (by omega)) ?_))
    rw [wrap64_id (x := (i : Int) + 1) (by omega) (by omega), wrap64_id (x := a + (i : Int) + 1) (by omega) (by omega)]
    have e : a + (i : Int) + 1 = a + ((i + 1 : Nat) : Int) := by omega
    rw [e, cast1]
    exact ih (i + 1) (by omega)
theorem heldIntS (n : Nat) (hn : n ≤ 1048576) (a : Int) (h0 : -4611686018427387904 ≤ a) (h1 : a ≤ 4611686018427387904) : Ev (fun k => laws_heldIntS.f k (markL a n) a) (a + n) := by
  unfold laws_heldIntS.f
  have := heldIntS_l n hn a h0 h1 n 0 (by omega)
  simpa using this

end Go.Proofs.Ytjojalbgpemjoaa.Pure

namespace Go.Proofs.Ytjojalbgpemjoaa.Pure
open Go.RowKit Go.Proofs.Ytjojalbgpemjoaa.Q Go.Proofs.YtjojalbgpemjoaaW.PrintWords Go.Proofs.YtjojalbgpemjoaaW.PrintLast
set_option linter.unusedVariables false
set_option linter.unusedSimpArgs false

theorem eqOrder_same (n : Int) (x : List Int) (hx : x.length ≤ 1048576) : Ev (fun k => laws_eqOrder.f k n x n x) true := by
  unfold laws_eqOrder.f
  exact Ev.pos rfl (Ev.bind (eqIntS_same x hx) (Ev.pos rfl (Ev.ret rfl)))
theorem markOrder (n : Int) (x : List Int) (hx : x.length ≤ 1048576) (a : Int) (h0 : -4611686018427387904 ≤ a) (h1 : a ≤ 4611686018427387904) : Ev (fun k => laws_markOrder.f k n x a) (a + x.length, markL a x.length) := by
  unfold laws_markOrder.f
  exact Ev.bind (markIntS x hx a h0 h1) (Ev.ret rfl)
theorem heldOrder (n : Int) (m : Nat) (hm : m ≤ 1048576) (a : Int) (h0 : 0 ≤ a) (h1 : a ≤ 4611686018427387904) : Ev (fun k => laws_heldOrder.f k n (markL a m) a) (a + m) := by
  unfold laws_heldOrder.f
  exact Ev.bind (heldIntS m hm a (by omega) h1) (Ev.neg (by omega) (Ev.ret rfl))

end Go.Proofs.Ytjojalbgpemjoaa.Pure

namespace Go.Proofs.Ytjojalbgpemjoaa.Pure
open Go.RowKit Go.Proofs.Ytjojalbgpemjoaa.Q Go.Proofs.YtjojalbgpemjoaaW.PrintWords Go.Proofs.YtjojalbgpemjoaaW.PrintLast
set_option linter.unusedVariables false
set_option linter.unusedSimpArgs false

-- what the statements' own helpers answer at rows of rows
theorem rdL_lt (L : List (List Int)) (i : Nat) (h : i < L.length) : rd_L1 L (i : Int) = L[i] := by simp [rd_L1, h]
theorem dropL (L : List (List Int)) (i : Nat) (h : i < L.length) : L.drop i = rd_L1 L (i : Int) :: L.drop (i + 1) := by
  rw [rdL_lt L i h]; exact List.drop_eq_getElem_cons h
/-- few rows, and none too long -/
def rowsP (L : List (List Int)) : Prop := L.length ≤ 1048576 ∧ ∀ r ∈ L, r.length ≤ 1048576
theorem rowsP.at {L : List (List Int)} (h : rowsP L) {i : Nat} (hi : i < L.length) : (rd_L1 L (i : Int)).length ≤ 1048576 := by
  rw [rdL_lt L i hi]; exact h.2 _ (List.getElem_mem _)
theorem set_prefixL {l m : List (List Int)} {i : Nat} (hm : m.length = l.length) (hi : i < l.length) (h : m.take i = l.take i) : (m.set i (rd_L1 l (i : Int))).take (i + 1) = l.take (i + 1) := by
  apply List.ext_getElem?
  intro j
  by_cases hj : j < i + 1
  · rw [List.getElem?_take_of_lt hj, List.getElem?_take_of_lt hj]
    by_cases e : j = i
    · subst e; rw [List.getElem?_set_self (by omega), rdL_lt l j hi]; simp [hi]
    · rw [List.getElem?_set_ne (by omega)]
      have := congrArg (fun t => t[j]?) h
      rwa [List.getElem?_take_of_lt (by omega), List.getElem?_take_of_lt (by omega)] at this
  · rw [List.getElem?_eq_none (by simp; omega), List.getElem?_eq_none (by simp; omega)]
theorem toSS_l (L : List (List Int)) (h : rowsP L) (d : Nat) : ∀ (i : Nat) (m : List (List Int)), i + d = L.length → m.length = L.length → m.take i = L.take i → Ev (fun k => laws_toIntSS.l0 k L m (i : Int)) L := by
  have hL := h.1
  induction d with
  | zero =>
    intro i m hi hm ht
    refine Ev.shift ?_
    simp only [laws_toIntSS.l0]
    refine Ev.neg (by omega) (Ev.ret ?_)
    rw [List.take_of_length_le (by omega), List.take_of_length_le (by omega)] at ht
    exact ht
  | succ d ih =>
    intro i m hi hm ht
    refine Ev.shift ?_
    simp only [laws_toIntSS.l0]
    refine Ev.pos (by omega) (Ev.pos (by omega) (Ev.bind (toIntS _ (h.at (by omega))) (Ev.pos (by omega) ?_)))
    rw [wrap64_id (by omega) (by omega), cast1, Int.toNat_natCast]
    exact ih (i + 1) _ (by omega) (by rw [List.length_set]; exact hm) (set_prefixL hm (by omega) ht)
theorem toSS (L : List (List Int)) (h : rowsP L) : Ev (fun k => laws_toIntSS.f k L) L := by
  have hL := h.1
  unfold laws_toIntSS.f
  refine Ev.pos (by omega) (Ev.pos (by omega) ?_)
  exact toSS_l L h L.length 0 _ (by omega) (by simp) (by simp)
theorem eqSS_l (L : List (List Int)) (h : rowsP L) (d : Nat) : ∀ (i : Nat), i + d = L.length → Ev (fun k => laws_eqIntSS.l0 k L L (i : Int)) true := by
  have hL := h.1
  induction d with
  | zero =>
    intro i hi
    refine Ev.shift ?_
    simp only [laws_eqIntSS.l0]
    exact Ev.neg (by omega) (Ev.ret rfl)
  | succ d ih =>
    intro i hi
    refine Ev.shift ?_
    simp only [laws_eqIntSS.l0]
    refine Ev.pos (by omega) (Ev.pos (by omega) (Ev.pos (by omega) (Ev.bind (eqIntS_same _ (h.at (by omega))) (Ev.pos rfl ?_))))
    rw [wrap64_id (by omega) (by omega), cast1]
    exact ih (i + 1) (by omega)
theorem eqSS_same (L : List (List Int)) (h : rowsP L) : Ev (fun k => laws_eqIntSS.f k L L) true := by
  unfold laws_eqIntSS.f
  exact Ev.pos rfl (eqSS_l L h L.length 0 (by omega))
theorem markSS_l (L : List (List Int)) (h : rowsP L) (d : Nat) : ∀ (i : Nat) (m : List (List Int)) (a : Int), i + d = L.length → m.length = L.length → m.drop i = L.drop i → 0 ≤ a ∧ a ≤ 1 + 1048576 * i → ∃ s, Ev (fun k => laws_markIntSS.l0 k m a (i : Int)) s ∧ 0 ≤ s.1 := by
  have hL := h.1
  induction d with
  | zero =>
    intro i m a hi hm ht ha
    refine ⟨(a, m), Ev.shift ?_, ha.1⟩
    simp only [laws_markIntSS.l0]
    exact Ev.neg (by omega) (Ev.ret rfl)
  | succ d ih =>
    intro i m a hi hm ht ha
    have hrow : m.getD i [] = rd_L1 L (i : Int) := by
      have := congrArg (fun t => t[0]?) ht
      simp only [List.getElem?_drop, Nat.add_zero] at this
      rw [List.getD_eq_getElem?_getD, this, rdL_lt L i (by omega)]; simp [show i < L.length by omega]
    have hr := h.at (i := i) (by omega)
    obtain ⟨s, hs, h0⟩ := ih (i + 1) (m.set i (markL a (rd_L1 L (i : Int)).length)) (a + (rd_L1 L (i : Int)).length) (by omega) (by rw [List.length_set]; exact hm) (by
      rw [List.drop_set_of_lt (by omega)]
      have := congrArg (List.drop 1) ht
      rwa [List.drop_drop, List.drop_drop] at this) (by omega)
    refine ⟨s, Ev.shift ?_, h0⟩
    simp only [laws_markIntSS.l0]
    refine Ev.pos (by omega) (Ev.pos (by omega) ?_)
    rw [Int.toNat_natCast, hrow]
    refine Ev.bind (markIntS _ hr a (by omega) (by omega)) ?_
    rw [wrap64_id (by omega) (by omega), cast1]
    exact hs
theorem markSS (L : List (List Int)) (h : rowsP L) : ∃ s, Ev (fun k => laws_markIntSS.f k L 1) s ∧ 0 ≤ s := by
  obtain ⟨s, hs, h0⟩ := markSS_l L h L.length 0 L 1 (by omega) rfl rfl (by omega)
  unfold laws_markIntSS.f
  exact ⟨s.1, Ev.bind hs (Ev.ret rfl), h0⟩
theorem szSS_l (L : List (List Int)) (hL : L.length ≤ 1048576) (hr : ∀ r ∈ L, r.length ≤ maxLen) (d : Nat) : ∀ (i : Nat) (a : Int), i + d = L.length → 0 ≤ a ∧ a ≤ 1048576 → ∃ s, Ev (fun k => laws_szIntSS.l0 k L a (i : Int)) s ∧ (0 ≤ s → ∀ r ∈ L.drop i, r.length ≤ 1048576) := by
  induction d with
  | zero =>
    intro i a hi ha
    refine ⟨a, Ev.shift ?_, fun _ r h => by rw [List.drop_of_length_le (by omega)] at h; simp at h⟩
    simp only [laws_szIntSS.l0]
    exact Ev.neg (by omega) (Ev.ret rfl)
  | succ d ih =>
    intro i a hi ha
    have hrow : (rd_L1 L (i : Int)).length ≤ maxLen := by rw [rdL_lt L i (by omega)]; exact hr _ (List.getElem_mem _)
    unfold maxLen at hrow
    rw [dropL L i (by omega)]
    by_cases hc : a < ((rd_L1 L (i : Int)).length : Int)
    · refine ⟨-1, Ev.shift ?_, fun h => by omega⟩
      simp only [laws_szIntSS.l0]
      refine Ev.pos (by omega) (Ev.pos (by omega) (Ev.bindc (x := -1) ?_ (Ev.pos (by omega) (Ev.ret rfl))))
      unfold laws_szIntS.f
      rw [wrap64_id (by omega) (by omega), if_pos (by omega)]
    · obtain ⟨s, hs, h0⟩ := ih (i + 1) (a - (rd_L1 L (i : Int)).length) (by omega) (by omega)
      refine ⟨s, Ev.shift ?_, fun h r hm => ?_⟩
      · simp only [laws_szIntSS.l0]
        refine Ev.pos (by omega) (Ev.pos (by omega) (Ev.bindc (x := a - (rd_L1 L (i : Int)).length) ?_ (Ev.neg (by omega) ?_)))
        · unfold laws_szIntS.f
          rw [wrap64_id (by omega) (by omega), if_neg (by omega)]
        · rw [wrap64_id (by omega) (by omega), cast1]; exact hs
      · rcases List.mem_cons.1 hm with rfl | hm
        · omega
        · exact h0 h r hm
theorem szSS (L : List (List Int)) (hL : L.length ≤ maxLen) (hr : ∀ r ∈ L, r.length ≤ maxLen) : ∃ s, Ev (fun k => laws_szIntSS.f k L 1048576) s ∧ (0 ≤ s → rowsP L) := by
  unfold maxLen at hL
  unfold laws_szIntSS.f
  rw [wrap64_id (by omega) (by omega)]
  by_cases hc : (1048576 : Int) - L.length < 0
  · exact ⟨-1, Ev.pos hc (Ev.ret rfl), fun h => by omega⟩
  · obtain ⟨s, hs, h0⟩ := szSS_l L (by omega) hr L.length 0 (1048576 - L.length) (by omega) (by omega)
    exact ⟨s, Ev.neg hc hs, fun h => ⟨by omega, by simpa using h0 h⟩⟩

end Go.Proofs.Ytjojalbgpemjoaa.Pure

namespace Go.Proofs.Ytjojalbgpemjoaa.Pure
open Go.RowKit Go.Proofs.Ytjojalbgpemjoaa.Q Go.Proofs.YtjojalbgpemjoaaW.PrintWords Go.Proofs.YtjojalbgpemjoaaW.PrintLast
set_option linter.unusedVariables false
set_option linter.unusedSimpArgs false

theorem bang (zs : List Int) (i : Nat) (h : i < zs.length) : zs.toArray[i]! = zs[i] := by
  rw [getElem!_pos zs.toArray i (by simpa using h)]; simp
/-- the different numbers of a list, in order -/
def dif (l : List Int) : List Int := Lib.compact (l.mergeSort fun x y => decide (x ≤ y))
theorem compactUpTo_facts (d : Array Int) (hs : ∀ i j : Nat, i < j → j < d.size → d[i]! ≤ d[j]!) : ∀ m, m ≤ d.size →
    (Lib.compactUpTo d m).Pairwise (· < ·) ∧ (∀ x, x ∈ Lib.compactUpTo d m ↔ ∃ j, j < m ∧ d[j]! = x) ∧ (∀ x ∈ Lib.compactUpTo d m, ∀ j, m = j + 1 → x ≤ d[j]!) := by
  intro m
  induction m with
  | zero => intro _; simp [Lib.compactUpTo]
  | succ m ih =>
    intro hm
    obtain ⟨h1, h2, h3⟩ := ih (by omega)
    rw [Lib.compactUpTo_succ]
    by_cases h0 : m = 0
    · subst h0
      rw [Lib.keeps_lt_one d 0 (by omega)]
      simp [Lib.compactUpTo]
      intro x; exact eq_comm
    · obtain ⟨q, rfl⟩ : ∃ q, m = q + 1 := ⟨m - 1, by omega⟩
      have hle : d[q]! ≤ d[q + 1]! := hs q (q + 1) (by omega) (by omega)
      by_cases he : d[q + 1]! = d[q]!
      · rw [Lib.keeps_neg (by omega) (by simpa using he)]
        simp only [Bool.false_eq_true, if_false, List.append_nil]
        refine ⟨h1, fun x => ?_, fun x hx j hj => ?_⟩
        · rw [h2]
          constructor
          · rintro ⟨j, hj, e⟩; exact ⟨j, by omega, e⟩
          · rintro ⟨j, hj, e⟩
            by_cases hjq : j = q + 1
            · subst hjq; exact ⟨q, by omega, by rw [← he]; exact e⟩
            · exact ⟨j, by omega, e⟩
        · obtain rfl : j = q + 1 := by omega
          have := h3 x hx q rfl
          omega
      · rw [Lib.keeps_pos (by simpa using he)]
        simp only [if_true]
        refine ⟨?_, fun x => ?_, fun x hx j hj => ?_⟩
        · rw [List.pairwise_append]
          refine ⟨h1, by simp, fun x hx y hy => ?_⟩
          have := h3 x hx q rfl
          rw [List.mem_singleton] at hy
          subst hy
          omega
        · rw [List.mem_append, h2, List.mem_singleton]
          constructor
          · rintro (⟨j, hj, e⟩ | e)
            · exact ⟨j, by omega, e⟩
            · exact ⟨q + 1, by omega, e.symm⟩
          · rintro ⟨j, hj, e⟩
            by_cases hjq : j = q + 1
            · subst hjq; exact .inr e.symm
            · exact .inl ⟨j, by omega, e⟩
        · obtain rfl : j = q + 1 := by omega
          rw [List.mem_append, List.mem_singleton] at hx
          rcases hx with hx | rfl
          · have := h3 x hx q rfl; omega
          · omega
theorem sort_pairwise (l : List Int) : (l.mergeSort fun x y => decide (x ≤ y)).Pairwise (· ≤ ·) := by
  have := List.pairwise_mergeSort (le := fun x y : Int => decide (x ≤ y)) (by intro a b c h1 h2; simp at h1 h2 ⊢; omega) (by intro a b; simp; omega) l
  simpa using this
theorem dif_facts (l : List Int) : (dif l).Pairwise (· < ·) ∧ ∀ x, x ∈ dif l ↔ x ∈ l := by
  have hp := sort_pairwise l
  have h := compactUpTo_facts (l.mergeSort fun x y => decide (x ≤ y)).toArray (fun i j hij hj => by
    have hj' : j < (l.mergeSort fun x y => decide (x ≤ y)).length := by simpa using hj
    have := List.pairwise_iff_getElem.1 hp i j (by omega) hj' hij
    rw [bang _ i (by omega), bang _ j hj']
    exact this) (l.mergeSort fun x y => decide (x ≤ y)).length (by simp)
  refine ⟨h.1, fun x => ?_⟩
  show x ∈ Lib.compactUpTo _ _ ↔ _
  rw [h.2.1, ← List.mem_mergeSort (le := fun x y : Int => decide (x ≤ y)), List.mem_iff_getElem]
  constructor
  · rintro ⟨j, hj, e⟩; exact ⟨j, hj, by rw [bang _ j hj] at e; exact e⟩
  · rintro ⟨j, hj, e⟩; exact ⟨j, hj, by rw [bang _ j hj]; exact e⟩
theorem dif_sorted (l : List Int) : (dif l).Pairwise (· < ·) := (dif_facts l).1
theorem mem_dif {l : List Int} {x : Int} : x ∈ dif l ↔ x ∈ l := (dif_facts l).2 x
theorem dif_length (l : List Int) : (dif l).length ≤ l.length := by
  have := Lib.compact_length_le (l.mergeSort fun x y => decide (x ≤ y))
  rwa [List.length_mergeSort] at this
/-- two rising lists of the same numbers are one -/
theorem rising_ext : ∀ {a b : List Int}, a.Pairwise (· < ·) → b.Pairwise (· < ·) → (∀ x, x ∈ a ↔ x ∈ b) → a = b
  | [], [], _, _, _ => rfl
  | [], y :: b, _, _, h => by have := (h y).2 (by simp); simp at this
  | x :: a, [], _, _, h => by have := (h x).1 (by simp); simp at this
  | x :: a, y :: b, ha, hb, h => by
    rw [List.pairwise_cons] at ha hb
    have e : x = y := by
      rcases List.mem_cons.1 ((h x).1 (by simp)) with e | hx
      · exact e
      · rcases List.mem_cons.1 ((h y).2 (by simp)) with e | hy
        · exact e.symm
        · have := ha.1 y hy; have := hb.1 x hx; omega
    subst e
    congr 1
    refine rising_ext ha.2 hb.2 fun z => ?_
    constructor
    · intro hz
      rcases List.mem_cons.1 ((h z).1 (List.mem_cons_of_mem _ hz)) with e | hz'
      · have := ha.1 z hz; omega
      · exact hz'
    · intro hz
      rcases List.mem_cons.1 ((h z).2 (List.mem_cons_of_mem _ hz)) with e | hz'
      · have := hb.1 z hz; omega
      · exact hz'
theorem different_f (l : List Int) (h : l.length ≤ 1048576) : impl_different.f l = some (dif l) := by
  unfold impl_different.f dif
  rw [if_pos (by omega)]

end Go.Proofs.Ytjojalbgpemjoaa.Pure
