import Derived.Test.YtojappijhehlpaaDoorQImplAscenttextLow
import Derived.Test.YtojappijhehlpaaDoorQSpecAstext
import Derived.Test.YtojappijhehlpaaDoorQSpecL1Num
import Derived.Test.YtojappijhehlpaaDoorQStrconvItoa25
import Derived.Test.YtojappijhehlpaaDoorQStringsJoin
import Derived.Test.YtojappijhehlpaaDoorXNextasc
import Derived.Test.YtojappijhehlpaaDoorXAscent
namespace Go.Proofs.YtojappijhehlpaaDoor.Pure
open Go.RowKit Go.Proofs.YtojappijhehlpaaDoor.Q Go.Proofs.YtojappijhehlpaaDoorW.PrintWords Go.Proofs.YtojappijhehlpaaDoorW.PrintLast
set_option linter.unusedVariables false
set_option linter.unusedSimpArgs false

/-- a short numeral -/
def tb (n : Nat) : List UInt8 := if n < 10 then [UInt8.ofNat (48 + n)] else [UInt8.ofNat (48 + n / 10), UInt8.ofNat (48 + n % 10)]
theorem tb_digits {n : Nat} (h : n < 100) : Go.Lib.decDigits n = tb n := by
 unfold tb
 by_cases h1 : n < 10
 ·rw [Go.Lib.decDigits, dif_pos h1, if_pos h1]
 ·rw [Go.Lib.decDigits, dif_neg h1, if_neg h1, Go.Lib.decDigits, dif_pos (by omega)]; rfl
theorem tb_len (n : Nat) : 1 ≤ (tb n).length ∧ (tb n).length ≤ 2 := by unfold tb; split <;> simp
theorem num_all : ∀ n : Fin 13, spec_l1Num.f 3 (n.val : Int) = some ⟨(tb n.val).toArray⟩ := by decide +kernel
theorem num_ev {n : Int} (h : 0 ≤ n ∧ n ≤ 12) : Ev (fun k => spec_l1Num.f k n) ⟨(tb n.toNat).toArray⟩ := by
 have := num_all ⟨n.toNat, by omega⟩
 dsimp only at this
 rw [show ((n.toNat : Nat) : Int) = n by omega] at this
 exact ⟨3, fun _ hk => at_rounds (spec_l1Num.mono n) hk this⟩
/-- the text of some numbers -/
def jl (l : List Int) : List UInt8 := Go.Lib.join (l.map fun n => tb n.toNat) [44]
def jt (l : List Int) : ByteArray := ⟨(jl l).toArray⟩
theorem join_snoc (xs : List (List UInt8)) (y sep : List UInt8) (h : xs ≠ []) : Go.Lib.join (xs ++ [y]) sep = Go.Lib.join xs sep ++ sep ++ y := by
 cases xs with
 | nil => exact absurd rfl h
 | cons x r =>
  rw [List.cons_append, Go.Lib.join_cons, Go.Lib.join_cons]
  simp [Go.Lib.joinTail, List.append_assoc]
theorem jl_snoc (l : List Int) (a : Int) (h : l ≠ []) : jl (l ++ [a]) = jl l ++ [44] ++ tb a.toNat := by
 unfold jl
 rw [List.map_append]
 exact join_snoc _ _ _ (by simpa using h)
theorem jl_one (a : Int) : jl [a] = tb a.toNat := by unfold jl; exact Go.Lib.join_one _ _
theorem bytes_app (a b : List UInt8) : (⟨(a ++ b).toArray⟩ : ByteArray) = ⟨a.toArray⟩ ++ ⟨b.toArray⟩ := by
 apply ByteArray.ext
 rw [ByteArray.data_append]
 simp
theorem jt_snoc (l : List Int) (a : Int) (h : l ≠ []) : jt (l ++ [a]) = (jt l ++ (⟨#[44]⟩ : ByteArray)) ++ ⟨(tb a.toNat).toArray⟩ := by
 unfold jt
 rw [jl_snoc l a h, bytes_app, bytes_app]
theorem jt_one (a : Int) : jt [a] = ⟨(tb a.toNat).toArray⟩ := by unfold jt; rw [jl_one]
theorem jt_size (l : List Int) : (jt l).size = (jl l).length := by simp [jt, ByteArray.size]
theorem jl_take {l : List Int} {i : Nat} (hi : i < l.length) : (jl (l.take i)).length ≤ 3 * i := by
 induction i with
 | zero => simp [jl, Go.Lib.join]
 | succ i ih =>
  have := ih (by omega)
  rw [List.take_succ_eq_append_getElem (show i < l.length by omega)]
  have ht := tb_len (l[i]).toNat
  by_cases h0 : i = 0
  ·subst h0
   simp only [List.take_zero, List.nil_append, jl_one]
   omega
  ·rw [jl_snoc _ _ (by intro e; have := congrArg List.length e; rw [List.length_take, List.length_nil] at this; omega)]
   simp only [List.length_append, List.length_cons, List.length_nil]
   omega
theorem jl_all (l : List Int) : (jl l).length ≤ 3 * l.length := by
 by_cases h : l.length = 0
 ·rw [List.eq_nil_of_length_eq_zero h]; simp [jl, Go.Lib.join]
 ·obtain ⟨i, hi⟩ : ∃ i, l.length = i + 1 := ⟨l.length - 1, by omega⟩
  have e : l = l.take i ++ [l[i]] := by
   rw [← List.take_succ_eq_append_getElem (show i < l.length by omega), List.take_of_length_le (by omega)]
  have := jl_take (l := l) (i := i) (by omega)
  have ht := tb_len (l[i]).toNat
  rw [e]
  by_cases h0 : i = 0
  ·subst h0
   simp only [List.take_zero, List.nil_append, jl_one]
   simp
   omega
  ·rw [jl_snoc _ _ (by intro e; have := congrArg List.length e; rw [List.length_take, List.length_nil] at this; omega)]
   simp only [List.length_append, List.length_cons, List.length_nil, List.length_take]
   omega
/-- numbers of at most two digits, and not many -/
def shortP (l : List Int) : Prop := l.length ≤ 12 ∧ ∀ i : Nat, i < l.length → 0 ≤ rd l (i : Int) ∧ rd l (i : Int) ≤ 12
theorem asc_short {l : List Int} (h : isAsc l = true) : shortP l := by
 obtain ⟨hl, hg⟩ := isAsc_goes.1 h
 refine ⟨hl, fun i hi => ?_⟩
 obtain ⟨g1, _⟩ := goes_at hg i (by omega)
 rw [List.drop_eq_getElem_cons hi] at g1
 have hr := ascUpto_range l i
 have ht := topN_range (last := lastOf l i) hr.1
 rw [rd_lt l i hi]
 exact ⟨g1.1, by have := g1.2.1; omega⟩
theorem asText_l {l : List Int} (h : shortP l) (d : Nat) : ∀ i : Nat, i + d = l.length → Ev (fun k => spec_asText.l0 k (jt (l.take i)) l (l.length : Int) (i : Int)) (jt l) := by
 have h12 := h.1
 induction d with
 | zero =>
  intro i hi
  refine Ev.shift ?_
  simp only [spec_asText.l0]
  exact Ev.neg (by omega) (Ev.ret (by rw [List.take_of_length_le (by omega)]))
 | succ d ih =>
  intro i hi
  have hn := h.2 i (by omega)
  have := ih (i + 1) (by omega)
  have hs := jl_take (l := l) (i := i) (by omega)
  rw [← jt_size] at hs
  have ht := tb_len (rd l (i : Int)).toNat
  rw [List.take_succ_eq_append_getElem (show i < l.length by omega), ← rd_lt l i (by omega)] at this
  refine Ev.shift ?_
  simp only [spec_asText.l0]
  rw [wrap64_id (x := (i : Int) + 1) (by omega) (by omega), cast1]
  refine Ev.pos (by omega) (Ev.pos (by omega) (Ev.pos (by omega) ?_))
  have hz : (⟨(tb (rd l (i : Int)).toNat).toArray⟩ : ByteArray).size = (tb (rd l (i : Int)).toNat).length := by simp [ByteArray.size]
  by_cases h0 : i = 0
  ·subst h0
   simp only [List.take_zero, List.nil_append, jt_one] at this
   refine Ev.neg (by omega) (Ev.bind (num_ev hn) (Ev.pos (by rw [hz]; have e0 : (jt (List.take 0 l)).size = 0 := by { simp [jt, jl, Go.Lib.join, ByteArray.size] }; omega) ?_))
   have e : jt (l.take 0) ++ (⟨(tb (rd l ((0 : Nat) : Int)).toNat).toArray⟩ : ByteArray) = ⟨(tb (rd l ((0 : Nat) : Int)).toNat).toArray⟩ := by
    apply ByteArray.ext; rw [ByteArray.data_append]; simp [jt, jl, Go.Lib.join]
   rw [e]
   exact this
  ·rw [jt_snoc _ _ (by intro e; have := congrArg List.length e; rw [List.length_take, List.length_nil] at this; omega)] at this
   refine Ev.pos (by omega) (Ev.pos (by omega) (Ev.bind (num_ev hn) (Ev.pos (by rw [ByteArray.size_append, hz]; have h44 : (⟨#[44]⟩ : ByteArray).size = 1 := rfl; omega) this)))
theorem asText_ev {l : List Int} (h : shortP l) : Ev (fun k => spec_asText.f k l) (jt l) := by
 unfold spec_asText.f
 exact asText_l h l.length 0 (by omega)
/-- the numerals -/
def wordsOf (l : List Int) : List ByteArray := l.map fun n => ⟨(tb n.toNat).toArray⟩
theorem words_data (l : List Int) : (wordsOf l).map (·.data.toList) = l.map fun n => tb n.toNat := by simp [wordsOf]
theorem itoa_f {n : Int} (h : 0 ≤ n ∧ n ≤ 12) : strconv_Itoa_25.f n = some ⟨(tb n.toNat).toArray⟩ := by
 unfold strconv_Itoa_25.f
 rw [if_pos (by omega), tb_digits (by omega)]
theorem join_f {l : List Int} (h : l.length ≤ 12) : strings_Join.f (wordsOf l) (⟨#[44]⟩ : ByteArray) = some (jt l, wordsOf l) := by
 have hj := jl_all l
 have e : Go.Lib.join ((wordsOf l).map (·.data.toList)) (⟨#[44]⟩ : ByteArray).data.toList = jl l := by rw [words_data]; rfl
 unfold strings_Join.f
 rw [e, if_pos ⟨by simp [wordsOf]; omega, by omega⟩]
 rfl
theorem itext_l {l : List Int} (h : shortP l) (d : Nat) : ∀ i : Nat, i + d = l.length → Ev (fun k => impl_ascentText.l0 k (wordsOf (l.take i)) l (l.length : Int) (i : Int)) (jt l) := by
 have h12 := h.1
 induction d with
 | zero =>
  intro i hi
  refine Ev.shift ?_
  simp only [impl_ascentText.l0]
  refine Ev.neg (by omega) ?_
  rw [List.take_of_length_le (by omega)]
  exact Ev.bindc (join_f h12) (Ev.ret rfl)
 | succ d ih =>
  intro i hi
  have hn := h.2 i (by omega)
  have := ih (i + 1) (by omega)
  rw [List.take_succ_eq_append_getElem (show i < l.length by omega), ← rd_lt l i (by omega)] at this
  have e : wordsOf (l.take i ++ [rd l (i : Int)]) = wordsOf (l.take i) ++ [⟨(tb (rd l (i : Int)).toNat).toArray⟩] := by simp [wordsOf]
  rw [e] at this
  refine Ev.shift ?_
  simp only [impl_ascentText.l0]
  rw [wrap64_id (x := (i : Int) + 1) (by omega) (by omega), cast1]
  exact Ev.pos (by omega) (Ev.pos (by omega) (Ev.pos (by omega) (Ev.bindc (itoa_f hn) (Ev.pos (by simp [wordsOf]; omega) this))))
theorem itext_ev {l : List Int} (h : shortP l) : Ev (fun k => impl_ascentText.f k l) (jt l) := by
 unfold impl_ascentText.f
 exact itext_l h l.length 0 (by omega)

end Go.Proofs.YtojappijhehlpaaDoor.Pure
