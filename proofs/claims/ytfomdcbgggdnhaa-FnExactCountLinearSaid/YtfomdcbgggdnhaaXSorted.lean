import Derived.Test.YtfomdcbgggdnhaaQImplDifferent
import Derived.Test.YtfomdcbgggdnhaaXBase
import Derived.Lib.SlicesCompact
import Derived.Lib.RowBridge
namespace Go.Proofs.Ytfomdcbgggdnhaa.Pure
open Go.RowKit Go.Proofs.Ytfomdcbgggdnhaa.Q Go.Proofs.YtfomdcbgggdnhaaW.PrintWords Go.Proofs.YtfomdcbgggdnhaaW.PrintLast
set_option linter.unusedVariables false
set_option linter.unusedSimpArgs false

theorem bang (zs : List Int) (i : Nat) (h : i < zs.length) : zs.toArray[i]! = zs[i] := by
 rw [getElem!_pos zs.toArray i (by simpa using h)]; simp
/-- the different numbers of a list, in order -/
def dif (l : List Int) : List Int := Lib.compact (l.mergeSort fun x y => decide (x ≤ y))
theorem compactUpTo_facts (d : Array Int) (hs : ∀ i j : Nat, i < j → j < d.size → d[i]! ≤ d[j]!) : ∀ m, m ≤ d.size →
  (Lib.compactUpTo d m).Pairwise (· < ·) ∧ (∀ x, x ∈ Lib.compactUpTo d m ↔ ∃ j, j < m ∧ d[j]! = x) ∧ (∀ x ∈ Lib.compactUpTo d m, ∀ j, m = j + 1 → x ≤ d[j]!) := by
 intro m
 induction m with
 | zero => intro _; simp [Lib.compactUpTo]
 | succ m ih =>
  intro hm
  obtain ⟨h1, h2, h3⟩ := ih (by omega)
  rw [Lib.compactUpTo_succ]
  by_cases h0 : m = 0
  ·subst h0
   rw [Lib.keeps_lt_one d 0 (by omega)]
   simp [Lib.compactUpTo]
   intro x; exact eq_comm
  ·obtain ⟨q, rfl⟩ : ∃ q, m = q + 1 := ⟨m - 1, by omega⟩
   have hle : d[q]! ≤ d[q + 1]! := hs q (q + 1) (by omega) (by omega)
   by_cases he : d[q + 1]! = d[q]!
   ·rw [Lib.keeps_neg (by omega) (by simpa using he)]
    simp only [Bool.false_eq_true, if_false, List.append_nil]
    refine ⟨h1, fun x => ?_, fun x hx j hj => ?_⟩
    ·rw [h2]
     constructor
     ·rintro ⟨j, hj, e⟩; exact ⟨j, by omega, e⟩
     ·rintro ⟨j, hj, e⟩
      by_cases hjq : j = q + 1
      ·subst hjq; exact ⟨q, by omega, by rw [← he]; exact e⟩
      ·exact ⟨j, by omega, e⟩
    ·obtain rfl : j = q + 1 := by omega
     have := h3 x hx q rfl
     omega
   ·rw [Lib.keeps_pos (by simpa using he)]
    simp only [if_true]
    refine ⟨?_, fun x => ?_, fun x hx j hj => ?_⟩
    ·rw [List.pairwise_append]
     refine ⟨h1, by simp, fun x hx y hy => ?_⟩
     have := h3 x hx q rfl
     rw [List.mem_singleton] at hy
     subst hy
     omega
    ·rw [List.mem_append, h2, List.mem_singleton]
     constructor
     ·rintro (⟨j, hj, e⟩ | e)
      ·exact ⟨j, by omega, e⟩
      ·exact ⟨q + 1, by omega, e.symm⟩
     ·rintro ⟨j, hj, e⟩
      by_cases hjq : j = q + 1
      ·subst hjq; exact .inr e.symm
      ·exact .inl ⟨j, by omega, e⟩
    ·obtain rfl : j = q + 1 := by omega
     rw [List.mem_append, List.mem_singleton] at hx
     rcases hx with hx | rfl
     ·have := h3 x hx q rfl; omega
     ·omega
theorem sort_pairwise (l : List Int) : (l.mergeSort fun x y => decide (x ≤ y)).Pairwise (· ≤ ·) := by
 have := List.pairwise_mergeSort (le := fun x y : Int => decide (x ≤ y)) (by intro a b c h1 h2; simp at h1 h2 ⊢; omega) (by intro a b; simp; omega) l
 simpa using this
theorem dif_facts (l : List Int) : (dif l).Pairwise (· < ·) ∧ ∀ x, x ∈ dif l ↔ x ∈ l := by
 have hp := sort_pairwise l
 have h := compactUpTo_facts (l.mergeSort fun x y => decide (x ≤ y)).toArray (fun i j hij hj => by
  have hj' : j < (l.mergeSort fun x y => decide (x ≤ y)).length := by simpa using hj
  have := List.pairwise_iff_getElem.1 hp i j (by omega) hj' hij
  rw [bang _ i (by omega), bang _ j hj']
  exact this) (l.mergeSort fun x y => decide (x ≤ y)).length (by simp)
 refine ⟨h.1, fun x => ?_⟩
 show x ∈ Lib.compactUpTo _ _ ↔ _
 rw [h.2.1, ← List.mem_mergeSort (le := fun x y : Int => decide (x ≤ y)), List.mem_iff_getElem]
 constructor
 ·rintro ⟨j, hj, e⟩; exact ⟨j, hj, by rw [bang _ j hj] at e; exact e⟩
 ·rintro ⟨j, hj, e⟩; exact ⟨j, hj, by rw [bang _ j hj]; exact e⟩
theorem dif_sorted (l : List Int) : (dif l).Pairwise (· < ·) := (dif_facts l).1
theorem mem_dif {l : List Int} {x : Int} : x ∈ dif l ↔ x ∈ l := (dif_facts l).2 x
theorem dif_length (l : List Int) : (dif l).length ≤ l.length := by
 have := Lib.compact_length_le (l.mergeSort fun x y => decide (x ≤ y))
 rwa [List.length_mergeSort] at this
/-- two rising lists of the same numbers are one -/
theorem rising_ext : ∀ {a b : List Int}, a.Pairwise (· < ·) → b.Pairwise (· < ·) → (∀ x, x ∈ a ↔ x ∈ b) → a = b
 | [], [], _, _, _ => rfl
 | [], y :: b, _, _, h => by have := (h y).2 (by simp); simp at this
 | x :: a, [], _, _, h => by have := (h x).1 (by simp); simp at this
 | x :: a, y :: b, ha, hb, h => by
  rw [List.pairwise_cons] at ha hb
  have e : x = y := by
   rcases List.mem_cons.1 ((h x).1 (by simp)) with e | hx
   ·exact e
   ·rcases List.mem_cons.1 ((h y).2 (by simp)) with e | hy
    ·exact e.symm
    ·have := ha.1 y hy; have := hb.1 x hx; omega
  subst e
  congr 1
  refine rising_ext ha.2 hb.2 fun z => ?_
  constructor
  ·intro hz
   rcases List.mem_cons.1 ((h z).1 (List.mem_cons_of_mem _ hz)) with e | hz'
   ·have := ha.1 z hz; omega
   ·exact hz'
  ·intro hz
   rcases List.mem_cons.1 ((h z).2 (List.mem_cons_of_mem _ hz)) with e | hz'
   ·have := hb.1 z hz; omega
   ·exact hz'
theorem different_f (l : List Int) (h : l.length ≤ 1048576) : impl_different.f l = some (dif l) := by
 unfold impl_different.f dif
 rw [if_pos (by omega)]

end Go.Proofs.Ytfomdcbgggdnhaa.Pure
