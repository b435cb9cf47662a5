import Derived.Lib.CountLaws
import Derived.Lib.IndexLaws
import Derived.Test.YtojappijhehlpaaDoorBFnExactParseAscent5
import Derived.Test.YtojappijhehlpaaDoorBFnExactParseAscent6
namespace Go.Proofs.YtojappijhehlpaaDoor.Pure
open Go.RowKit Go.Proofs.YtojappijhehlpaaDoor.Q Go.Proofs.YtojappijhehlpaaDoorW.PrintWords Go.Proofs.YtojappijhehlpaaDoorW.PrintLast
set_option linter.unusedVariables false
set_option linter.unusedSimpArgs false
def ascUpto (l : List Int) : Nat → Int
 | 0 => 0
 | 1 => 0
 | i + 2 => ascUpto l (i + 1) + (if rd l (i : Int) < rd l ((i + 1 : Nat) : Int) then 1 else 0)
theorem ascUpto_range (l : List Int) : ∀ i, 0 ≤ ascUpto l i ∧ ascUpto l i ≤ i
 | 0 => by simp [ascUpto]
 | 1 => by simp [ascUpto]
 | i + 2 => by
  have h := ascUpto_range l (i + 1)
  simp only [ascUpto]
  split <;> omega
theorem sascents_l (l : List Int) (hl : l.length ≤ 1048576) (d : Nat) : ∀ (i : Nat), 1 ≤ i → i + d = l.length ∨ (d = 0 ∧ l.length ≤ i ∧ i ≤ 1) → Ev (fun k => spec_asAscents.l0 k l (ascUpto l i) i) (ascUpto l l.length) := by
 induction d with
 | zero =>
  intro i h1 hi
  refine Ev.shift ?_
  simp only [spec_asAscents.l0]
  refine Ev.neg (by omega) (Ev.ret ?_)
  rcases hi with hi | ⟨_, h2, h3⟩
  ·rw [show i = l.length by omega]
  ·obtain rfl : i = 1 := by omega
   rcases (show l.length = 0 ∨ l.length = 1 by omega) with e | e <;> rw [e] <;> simp [ascUpto]
 | succ d ih =>
  intro i h1 hi
  obtain ⟨j, rfl⟩ : ∃ j, i = j + 1 := ⟨i - 1, by omega⟩
  have hi' : j + 1 + (d + 1) = l.length := by omega
  have hr := ascUpto_range l (j + 1)
  refine Ev.shift ?_
  simp only [spec_asAscents.l0]
  have e1 : wrap64 (((j + 1 : Nat) : Int) - 1) = (j : Int) := by rw [wrap64_id (by omega) (by omega)]; omega
  have e2 : wrap64 (((j + 1 : Nat) : Int) + 1) = ((j + 2 : Nat) : Int) := by rw [wrap64_id (by omega) (by omega)]; omega
  have e3 : wrap64 (ascUpto l (j + 1) + 1) = ascUpto l (j + 1) + 1 := wrap64_id (by omega) (by omega)
  rw [e1, e2, e3]
  refine Ev.pos (by omega) (Ev.pos (by omega) (Ev.pos (by omega) (Ev.pos (by omega) ?_)))
  have ih' := ih (j + 2) (by omega) (by omega)
  by_cases hc : rd l (j : Int) < rd l ((j + 1 : Nat) : Int)
  ·refine Ev.pos hc ?_
   simp only [ascUpto, if_pos hc] at ih'
   exact ih'
  ·refine Ev.neg hc ?_
   simp only [ascUpto, if_neg hc, Int.add_zero] at ih'
   exact ih'
theorem ascents_spec (l : List Int) (hl : l.length ≤ 1048576) : Ev (fun k => spec_asAscents.f k l) (ascUpto l l.length) := by
 unfold spec_asAscents.f
 have := sascents_l l hl (l.length - 1) 1 (by omega) (by omega)
 simpa [ascUpto] using this
theorem ascUpto_take (l : List Int) (i : Nat) (hi : i ≤ l.length) : ∀ j, j ≤ i → ascUpto (l.take i) j = ascUpto l j
 | 0, _ => rfl
 | 1, _ => rfl
 | j + 2, h => by
  have e : ∀ m : Nat, m < i → rd (l.take i) (m : Int) = rd l (m : Int) := fun m hm => by simp [rd, List.getD, List.getElem?_take_of_lt hm]
  simp only [ascUpto]
  rw [ascUpto_take l i hi (j + 1) (by omega), e j (by omega), e (j + 1) (by omega)]
def ascBound (l : List Int) (i : Nat) : Int := if i = 0 then 0 else ascUpto l i + 1
def ascFrom (l : List Int) : Nat → Nat → Bool
 | 0, _ => true
 | d + 1, i => if 0 ≤ rd l (i : Int) ∧ rd l (i : Int) ≤ ascBound l i then ascFrom l d (i + 1) else false
def isAsc (l : List Int) : Bool := if 12 < l.length then false else ascFrom l l.length 0
theorem spec_in (a b c : Int) : spec_l1In.f a b c = some (decide (b ≤ a ∧ a ≤ c)) := by
 unfold spec_l1In.f
 by_cases h : a ≥ b
 ·rw [if_pos h]; by_cases h2 : a ≤ c <;> simp [h2] <;> omega
 ·rw [if_neg h]; simp; omega
theorem impl_in (a b c : Int) : impl_within.f a b c = some (decide (b ≤ a ∧ a ≤ c)) := by
 unfold impl_within.f
 by_cases h : a ≥ b
 ·rw [if_pos h]; by_cases h2 : a ≤ c <;> simp [h2] <;> omega
 ·rw [if_neg h]; simp; omega
theorem bound_spec (l : List Int) (i : Nat) (hl : l.length ≤ 12) (hi : i ≤ l.length) : Ev (fun k => spec_asBound.f k (l.take i)) (ascBound l i) := by
 unfold spec_asBound.f
 have hlen : (l.take i).length = i := by simp; omega
 rw [hlen]
 by_cases h0 : i = 0
 ·exact Ev.pos (by omega) (Ev.ret (by simp [ascBound, h0]))
 ·refine Ev.neg (by omega) ?_
  have h := ascents_spec (l.take i) (by omega)
  rw [hlen, ascUpto_take l i hi i (Nat.le_refl _)] at h
  refine Ev.bind h (Ev.ret ?_)
  have hr := ascUpto_range l i
  rw [wrap64_id (by omega) (by omega)]
  simp [ascBound, h0]
end Go.Proofs.YtojappijhehlpaaDoor.Pure
namespace Go.Proofs.YtojappijhehlpaaDoor.Pure
set_option linter.unusedVariables false
set_option linter.unusedSimpArgs false
-- plain
def sumTo (f : Int → Int) : Nat → Int
  | 0 => 0
  | n + 1 => sumTo f n + f n
def nx (last a x : Int) : Int := if last ≥ 0 ∧ x > last then a + 1 else a
def topN (last a : Int) : Int := if last < 0 then 0 else a + 1
def wys : Nat → Int → Int → Int
  | 0, _, _ => 1
  | m + 1, last, a => sumTo (fun x => wys m x (nx last a x)) (topN last a + 1).toNat
theorem topN_range {last a : Int} (h : 0 ≤ a) : 0 ≤ topN last a ∧ topN last a ≤ a + 1 := by unfold topN; split <;> omega
def Goes : Int → Int → List Int → Prop
  | _, _, [] => True
  | last, a, x :: t => 0 ≤ x ∧ x ≤ topN last a ∧ Goes x (nx last a x) t
def rank : Int → Int → List Int → Int
  | _, _, [] => 0
  | last, a, x :: t => sumTo (fun y => wys t.length y (nx last a y)) x.toNat + rank x (nx last a x) t
def nextL : Int → Int → List Int → Option (List Int)
  | _, _, [] => none
  | last, a, x :: t => match nextL x (nx last a x) t with
    | some t' => some (x :: t')
    | none => if x < topN last a then some ((x + 1) :: List.replicate t.length 0) else none
def tab : Nat → Nat → Nat → Int
  | 0, _, _ => 1
  | m + 1, a, l => sumTo (fun x => if x > (l : Int) then tab m (a + 1) x.toNat else tab m a x.toNat) (if a + 1 < 14 then a + 2 else 0)
def tabL (m : Nat) : List (List Int) := (List.range 14).map fun a => (List.range 14).map fun l => tab m a l
def findK (f : Int → Int) : Nat → Int → Int → Int × Int
  | 0, k, r => (k, r)
  | d + 1, k, r => if r < f k then (k, r) else findK f d (k + 1) (r - f k)
def unrank : Nat → Int → Int → Int → List Int
  | 0, _, _, _ => []
  | m + 1, last, a, r =>
    let kr := findK (fun x => wys m x (nx last a x)) (topN last a).toNat 0 r
    kr.1 :: unrank m kr.1 (nx last a kr.1) kr.2
end Go.Proofs.YtojappijhehlpaaDoor.Pure
namespace Go.Proofs.YtojappijhehlpaaDoor.Pure
open Go.RowKit Go.Proofs.YtojappijhehlpaaDoor.Q Go.Proofs.YtojappijhehlpaaDoorW.PrintWords Go.Proofs.YtojappijhehlpaaDoorW.PrintLast
set_option linter.unusedVariables false
set_option linter.unusedSimpArgs false
-- what is plain of it lies ahead of impl_counter_most.f
def lastOf (l : List Int) (i : Nat) : Int := if i = 0 then -1 else rd l ((i - 1 : Nat) : Int)
theorem nx_at {l : List Int} {i : Nat} (h : i > 0 → 0 ≤ rd l ((i - 1 : Nat) : Int)) : nx (lastOf l i) (ascUpto l i) (rd l (i : Int)) = ascUpto l (i + 1) := by
 unfold nx lastOf
 cases i with
 | zero => simp [ascUpto]
 | succ j =>
  have h := h (by omega)
  simp only [Nat.add_sub_cancel] at h
  simp only [ascUpto, show ¬ (j + 1 = 0) by omega, if_false, Nat.add_sub_cancel]
  by_cases hc : rd l (j : Int) < rd l ((j + 1 : Nat) : Int)
  ·rw [if_pos ⟨h, hc⟩, if_pos hc]
  ·rw [if_neg (fun e => hc e.2), if_neg hc]; omega
theorem topN_at {l : List Int} {i : Nat} (h : i > 0 → 0 ≤ rd l ((i - 1 : Nat) : Int)) : topN (lastOf l i) (ascUpto l i) = ascBound l i := by
 unfold topN lastOf ascBound
 cases i with
 | zero => simp
 | succ j =>
  have h := h (by omega)
  simp only [Nat.add_sub_cancel] at h
  simp only [show ¬ (j + 1 = 0) by omega, if_false, Nat.add_sub_cancel]
  rw [if_neg (by omega)]
theorem goes_from (l : List Int) (d : Nat) : ∀ i : Nat, i + d = l.length → (i > 0 → 0 ≤ rd l ((i - 1 : Nat) : Int)) → (ascFrom l d i = true ↔ Goes (lastOf l i) (ascUpto l i) (l.drop i)) := by
 induction d with
 | zero => intro i hi _; rw [List.drop_of_length_le (by omega)]; simp [ascFrom, Goes]
 | succ d ih =>
  intro i hi h0
  rw [List.drop_eq_getElem_cons (by omega : i < l.length)]
  simp only [ascFrom, Goes]
  rw [← rd_lt l i (by omega), nx_at h0, topN_at h0]
  by_cases h : 0 ≤ rd l (i : Int) ∧ rd l (i : Int) ≤ ascBound l i
  ·rw [if_pos h]
   have e : lastOf l (i + 1) = rd l (i : Int) := by simp [lastOf]
   rw [ih (i + 1) (by omega) (fun _ => by simpa using h.1), e]
   simp [h.1, h.2]
  ·rw [if_neg h]
   constructor
   ·intro h'; cases h'
   ·intro h'; exact absurd ⟨h'.1, h'.2.1⟩ h
theorem isAsc_goes {l : List Int} : isAsc l = true ↔ l.length ≤ 12 ∧ Goes (-1) 0 l := by
 unfold isAsc
 have := goes_from l l.length 0 (by omega) (fun h => by omega)
 simp only [List.drop_zero, show lastOf l 0 = -1 from rfl, show ascUpto l 0 = 0 from rfl] at this
 split
 ·rename_i h; constructor
  ·intro h'; cases h'
  ·intro h'; omega
 ·rw [this]; constructor
  ·intro h'; exact ⟨by omega, h'⟩
  ·intro h'; exact h'.2
theorem drop_rd' (l : List Int) (i : Nat) (h : i < l.length) : l.drop i = rd l (i : Int) :: l.drop (i + 1) := by
 rw [rd_lt l i h]; exact List.drop_eq_getElem_cons h
def withR (n r : Int) : List Int × Bool := if (0 ≤ n ∧ n ≤ 12) ∧ 0 ≤ r ∧ r < wys n.toNat (-1) 0 then (unrank n.toNat (-1) 0 r, true) else ([], false)
def nextAt (l : List Int) (i : Nat) : Option (List Int) := nextL (lastOf l i) (ascUpto l i) (l.drop i)
theorem goes_at {l : List Int} (hg : Goes (-1) 0 l) : ∀ i, i ≤ l.length → Goes (lastOf l i) (ascUpto l i) (l.drop i) ∧ (i > 0 → 0 ≤ rd l ((i - 1 : Nat) : Int))
 | 0, _ => ⟨by simpa [lastOf, ascUpto] using hg, fun h => by omega⟩
 | i + 1, h => by
  obtain ⟨h1, h2⟩ := goes_at hg i (by omega)
  rw [drop_rd' l i (by omega)] at h1
  obtain ⟨g1, g2, g3⟩ := h1
  rw [nx_at h2] at g3
  exact ⟨by simpa [lastOf] using g3, fun _ => by simpa using g1⟩
def nextR (l : List Int) : List Int × Bool := match nextL (-1) 0 l with
 | some t => (t, true)
 | none => ([], false)
theorem ascents_l (l : List Int) (hl : l.length ≤ 1048576) (d : Nat) : ∀ (i : Nat), 1 ≤ i → i + d = l.length ∨ (d = 0 ∧ l.length ≤ i ∧ i ≤ 1) → Ev (fun k => impl_ascents.l0 k l (ascUpto l i) i) (ascUpto l l.length) := by
 induction d with
 | zero =>
  intro i h1 hi
  refine Ev.shift ?_
  simp only [impl_ascents.l0]
  refine Ev.neg (by omega) (Ev.ret ?_)
  rcases hi with hi | ⟨_, h2, h3⟩
  ·rw [show i = l.length by omega]
  ·obtain rfl : i = 1 := by omega
   rcases (show l.length = 0 ∨ l.length = 1 by omega) with e | e <;> rw [e] <;> simp [ascUpto]
 | succ d ih =>
  intro i h1 hi
  obtain ⟨j, rfl⟩ : ∃ j, i = j + 1 := ⟨i - 1, by omega⟩
  have hi' : j + 1 + (d + 1) = l.length := by omega
  have hr := ascUpto_range l (j + 1)
  refine Ev.shift ?_
  simp only [impl_ascents.l0]
  have e1 : wrap64 (((j + 1 : Nat) : Int) - 1) = (j : Int) := by rw [wrap64_id (by omega) (by omega)]; omega
  have e2 : wrap64 (((j + 1 : Nat) : Int) + 1) = ((j + 2 : Nat) : Int) := by rw [wrap64_id (by omega) (by omega)]; omega
  have e3 : wrap64 (ascUpto l (j + 1) + 1) = ascUpto l (j + 1) + 1 := wrap64_id (by omega) (by omega)
  rw [e1, e2, e3]
  refine Ev.pos (by omega) (Ev.pos (by omega) (Ev.pos (by omega) (Ev.pos (by omega) ?_)))
  have ih' := ih (j + 2) (by omega) (by omega)
  by_cases hc : rd l (j : Int) < rd l ((j + 1 : Nat) : Int)
  ·refine Ev.pos hc ?_
   simp only [ascUpto, if_pos hc] at ih'
   exact ih'
  ·refine Ev.neg hc ?_
   simp only [ascUpto, if_neg hc, Int.add_zero] at ih'
   exact ih'
theorem ascents_impl (l : List Int) (hl : l.length ≤ 1048576) : Ev (fun k => impl_ascents.f k l) (ascUpto l l.length) := by
 unfold impl_ascents.f
 have := ascents_l l hl (l.length - 1) 1 (by omega) (by omega)
 simpa [ascUpto] using this
theorem good_l (l : List Int) (hl : l.length ≤ 12) (d : Nat) : ∀ i : Nat, i + d = l.length → Ev (fun k => spec_asGood.l0 k l l (l.length : Int) i) (ascFrom l d i) := by
 induction d with
 | zero =>
  intro i hi
  refine Ev.shift ?_
  simp only [spec_asGood.l0]
  exact Ev.neg (by omega) (Ev.ret rfl)
 | succ d ih =>
  intro i hi
  refine Ev.shift ?_
  simp only [spec_asGood.l0]
  refine Ev.pos (by omega) (Ev.pos (by omega) (Ev.pos (by omega) (Ev.pos (by omega) ?_)))
  rw [Int.toNat_natCast, wrap64_id (by omega) (by omega), cast1]
  refine Ev.bind (bound_spec l i hl (by omega)) (Ev.bindc (spec_in _ _ _) ?_)
  simp only [ascFrom]
  by_cases h : 0 ≤ rd l (i : Int) ∧ rd l (i : Int) ≤ ascBound l i
  ·rw [if_pos h]; exact Ev.pos (by simpa using h) (ih (i + 1) (by omega))
  ·rw [if_neg h]; exact Ev.neg (by simpa using h) (Ev.ret rfl)
theorem good_spec (l : List Int) : Ev (fun k => spec_asGood.f k l) (isAsc l) := by
 unfold spec_asGood.f isAsc
 by_cases h : 12 < l.length
 ·rw [if_pos h]; exact Ev.pos (by omega) (Ev.ret rfl)
 ·rw [if_neg h]; exact Ev.neg (by omega) (good_l l (by omega) l.length 0 (by omega))
theorem isAscent_l (l : List Int) (hl : l.length ≤ 12) (d : Nat) : ∀ i : Nat, i + d = l.length → Ev (fun k => impl_IsAscent.l0 k l l (l.length : Int) i) (ascFrom l d i) := by
 induction d with
 | zero =>
  intro i hi
  refine Ev.shift ?_
  simp only [impl_IsAscent.l0]
  exact Ev.neg (by omega) (Ev.ret rfl)
 | succ d ih =>
  intro i hi
  refine Ev.shift ?_
  simp only [impl_IsAscent.l0]
  refine Ev.pos (by omega) (Ev.pos (by omega) (Ev.pos (by omega) ?_))
  rw [Int.toNat_natCast, wrap64_id (x := (i : Int) + 1) (by omega) (by omega), cast1]
  have hn := ih (i + 1) (by omega)
  simp only [ascFrom]
  by_cases h0 : i = 0
  ·subst h0
   have hb : ascBound l 0 = 0 := rfl
   rw [hb]
   refine Ev.pos (by omega) ?_
   by_cases hz : rd l ((0 : Nat) : Int) = 0
   ·rw [if_pos (by omega)]
    exact Ev.pos hz (Ev.neg (by omega) hn)
   ·rw [if_neg (by omega)]
    exact Ev.neg hz (Ev.ret rfl)
  ·refine Ev.neg (by omega) (Ev.pos (by omega) (Ev.pos (by omega) ?_))
   have h := ascents_impl (l.take i) (by simp; omega)
   have hlen : (l.take i).length = i := by simp; omega
   rw [hlen, ascUpto_take l i (by omega) i (Nat.le_refl _)] at h
   have hr := ascUpto_range l i
   refine Ev.bind h (Ev.bindc (impl_in _ _ _) ?_)
   rw [wrap64_id (by omega) (by omega)]
   by_cases h : 0 ≤ rd l (i : Int) ∧ rd l (i : Int) ≤ ascBound l i
   ·rw [if_pos h]; exact Ev.pos (by simpa [ascBound, h0] using h) hn
   ·rw [if_neg h]; exact Ev.neg (by simpa [ascBound, h0] using h) (Ev.ret rfl)
theorem isAscent_impl (l : List Int) : Ev (fun k => impl_IsAscent.f k l) (isAsc l) := by
 unfold impl_IsAscent.f isAsc
 by_cases h : 12 < l.length
 ·rw [if_pos h]; exact Ev.pos (by omega) (Ev.ret rfl)
 ·rw [if_neg h]; exact Ev.neg (by omega) (isAscent_l l (by omega) l.length 0 (by omega))
def tb (n : Nat) : List UInt8 := if n < 10 then [UInt8.ofNat (48 + n)] else [UInt8.ofNat (48 + n / 10), UInt8.ofNat (48 + n % 10)]
theorem tb_digits {n : Nat} (h : n < 100) : Go.Lib.decDigits n = tb n := by
 unfold tb
 by_cases h1 : n < 10
 ·rw [Go.Lib.decDigits, dif_pos h1, if_pos h1]
 ·rw [Go.Lib.decDigits, dif_neg h1, if_neg h1, Go.Lib.decDigits, dif_pos (by omega)]; rfl
theorem tb_len (n : Nat) : 1 ≤ (tb n).length ∧ (tb n).length ≤ 2 := by unfold tb; split <;> simp
def jl (l : List Int) : List UInt8 := Go.Lib.join (l.map fun n => tb n.toNat) [44]
def jt (l : List Int) : ByteArray := ⟨(jl l).toArray⟩
theorem join_snoc (xs : List (List UInt8)) (y sep : List UInt8) (h : xs ≠ []) : Go.Lib.join (xs ++ [y]) sep = Go.Lib.join xs sep ++ sep ++ y := by
 cases xs with
 | nil => exact absurd rfl h
 | cons x r =>
  rw [List.cons_append, Go.Lib.join_cons, Go.Lib.join_cons]
  simp [Go.Lib.joinTail, List.append_assoc]
theorem jl_snoc (l : List Int) (a : Int) (h : l ≠ []) : jl (l ++ [a]) = jl l ++ [44] ++ tb a.toNat := by
 unfold jl
 rw [List.map_append]
 exact join_snoc _ _ _ (by simpa using h)
theorem jl_one (a : Int) : jl [a] = tb a.toNat := by unfold jl; exact Go.Lib.join_one _ _
theorem jl_take {l : List Int} {i : Nat} (hi : i < l.length) : (jl (l.take i)).length ≤ 3 * i := by
 induction i with
 | zero => simp [jl, Go.Lib.join]
 | succ i ih =>
  have := ih (by omega)
  rw [List.take_succ_eq_append_getElem (show i < l.length by omega)]
  have ht := tb_len (l[i]).toNat
  by_cases h0 : i = 0
  ·subst h0
   simp only [List.take_zero, List.nil_append, jl_one]
   omega
  ·rw [jl_snoc _ _ (by intro e; have := congrArg List.length e; rw [List.length_take, List.length_nil] at this; omega)]
   simp only [List.length_append, List.length_cons, List.length_nil]
   omega
theorem jl_all (l : List Int) : (jl l).length ≤ 3 * l.length := by
 by_cases h : l.length = 0
 ·rw [List.eq_nil_of_length_eq_zero h]; simp [jl, Go.Lib.join]
 ·obtain ⟨i, hi⟩ : ∃ i, l.length = i + 1 := ⟨l.length - 1, by omega⟩
  have e : l = l.take i ++ [l[i]] := by
   rw [← List.take_succ_eq_append_getElem (show i < l.length by omega), List.take_of_length_le (by omega)]
  have := jl_take (l := l) (i := i) (by omega)
  have ht := tb_len (l[i]).toNat
  rw [e]
  by_cases h0 : i = 0
  ·subst h0
   simp only [List.take_zero, List.nil_append, jl_one]
   simp
   omega
  ·rw [jl_snoc _ _ (by intro e; have := congrArg List.length e; rw [List.length_take, List.length_nil] at this; omega)]
   simp only [List.length_append, List.length_cons, List.length_nil, List.length_take]
   omega
def shortP (l : List Int) : Prop := l.length ≤ 12 ∧ ∀ i : Nat, i < l.length → 0 ≤ rd l (i : Int) ∧ rd l (i : Int) ≤ 12
theorem asc_short {l : List Int} (h : isAsc l = true) : shortP l := by
 obtain ⟨hl, hg⟩ := isAsc_goes.1 h
 refine ⟨hl, fun i hi => ?_⟩
 obtain ⟨g1, _⟩ := goes_at hg i (by omega)
 rw [List.drop_eq_getElem_cons hi] at g1
 have hr := ascUpto_range l i
 have ht := topN_range (last := lastOf l i) hr.1
 rw [rd_lt l i hi]
 exact ⟨g1.1, by have := g1.2.1; omega⟩
def wordsOf (l : List Int) : List ByteArray := l.map fun n => ⟨(tb n.toNat).toArray⟩
theorem words_data (l : List Int) : (wordsOf l).map (·.data.toList) = l.map fun n => tb n.toNat := by simp [wordsOf]
theorem itoa_f {n : Int} (h : 0 ≤ n ∧ n ≤ 12) : strconv_Itoa_25.f n = some ⟨(tb n.toNat).toArray⟩ := by
 unfold strconv_Itoa_25.f
 rw [if_pos (by omega), tb_digits (by omega)]
theorem join_f {l : List Int} (h : l.length ≤ 12) : strings_Join.f (wordsOf l) (⟨#[44]⟩ : ByteArray) = some (jt l, wordsOf l) := by
 have hj := jl_all l
 have e : Go.Lib.join ((wordsOf l).map (·.data.toList)) (⟨#[44]⟩ : ByteArray).data.toList = jl l := by rw [words_data]; rfl
 unfold strings_Join.f
 rw [e, if_pos ⟨by simp [wordsOf]; omega, by omega⟩]
 rfl
theorem itext_l {l : List Int} (h : shortP l) (d : Nat) : ∀ i : Nat, i + d = l.length → Ev (fun k => impl_ascentText.l0 k (wordsOf (l.take i)) l (l.length : Int) (i : Int)) (jt l) := by
 have h12 := h.1
 induction d with
 | zero =>
  intro i hi
  refine Ev.shift ?_
  simp only [impl_ascentText.l0]
  refine Ev.neg (by omega) ?_
  rw [List.take_of_length_le (by omega)]
  exact Ev.bindc (join_f h12) (Ev.ret rfl)
 | succ d ih =>
  intro i hi
  have hn := h.2 i (by omega)
  have := ih (i + 1) (by omega)
  rw [List.take_succ_eq_append_getElem (show i < l.length by omega), ← rd_lt l i (by omega)] at this
  have e : wordsOf (l.take i ++ [rd l (i : Int)]) = wordsOf (l.take i) ++ [⟨(tb (rd l (i : Int)).toNat).toArray⟩] := by simp [wordsOf]
  rw [e] at this
  refine Ev.shift ?_
  simp only [impl_ascentText.l0]
  rw [wrap64_id (x := (i : Int) + 1) (by omega) (by omega), cast1]
  exact Ev.pos (by omega) (Ev.pos (by omega) (Ev.pos (by omega) (Ev.bindc (itoa_f hn) (Ev.pos (by simp [wordsOf]; omega) this))))
theorem itext_ev {l : List Int} (h : shortP l) : Ev (fun k => impl_ascentText.f k l) (jt l) := by
 unfold impl_ascentText.f
 exact itext_l h l.length 0 (by omega)
def spl : List UInt8 → List (List UInt8)
 | [] => [[]]
 | c :: t => if c = 44 then [] :: spl t else match spl t with
  | [] => [[c]]
  | h :: r => (c :: h) :: r
theorem spl_ne : ∀ l : List UInt8, spl l ≠ []
 | [] => by simp [spl]
 | c :: t => by
  unfold spl
  split
  ·simp
  ·split <;> simp
def glue (cur : List UInt8) : List (List UInt8) → List (List UInt8)
 | [] => [cur]
 | h :: r => (cur ++ h) :: r
theorem glue_nil {ws : List (List UInt8)} (h : ws ≠ []) : glue [] ws = ws := by
 cases ws with
 | nil => exact absurd rfl h
 | cons a r => rfl
theorem spl_comma (t : List UInt8) : spl (44 :: t) = [] :: spl t := by simp [spl]
theorem spl_cons {c : UInt8} (h : c ≠ 44) (t : List UInt8) : spl (c :: t) = glue [c] (spl t) := by
 have e : spl (c :: t) = if c = 44 then [] :: spl t else match spl t with
  | [] => [[c]]
  | h :: r => (c :: h) :: r := rfl
 rw [e, if_neg h]
 cases spl t <;> rfl
theorem glue_glue (a b : List UInt8) (ws : List (List UInt8)) : glue a (glue b ws) = glue (a ++ b) ws := by
 cases ws <;> simp [glue]
theorem spl_app : ∀ (a t : List UInt8), (∀ c ∈ a, c ≠ 44) → spl (a ++ t) = glue a (spl t)
 | [], t, _ => (glue_nil (spl_ne t)).symm
 | c :: a, t, h => by
  rw [List.cons_append, spl_cons (h c (by simp)), spl_app a t (fun x hx => h x (by simp [hx])), glue_glue]
  rfl
theorem spl_plain (a : List UInt8) (h : ∀ c ∈ a, c ≠ 44) : spl a = [a] := by
 have := spl_app a [] h
 rw [List.append_nil] at this
 rw [this]
 simp [spl, glue]
theorem splitK_spl : ∀ (k : Nat) (l : List UInt8), Go.Lib.count l [44] = k → Go.Lib.splitK [44] 0 k l = spl l := by
 intro k
 induction k with
 | zero =>
  intro l hk
  have hi : Go.Lib.index l [44] = -1 := by
   rcases Go.Lib.indexByte_ge l 44 with hge
   rw [← Go.Lib.index_one] at hge
   refine Decidable.byContradiction fun e => ?_
   obtain ⟨i, hi⟩ : ∃ i : Nat, Go.Lib.index l [44] = i := ⟨(Go.Lib.index l [44]).toNat, by omega⟩
   have := Go.Lib.count_hit (s := l) (sub := [44]) (by simp) hi
   omega
  rw [Go.Lib.index_one] at hi
  have hn := Go.Lib.indexByte_none hi
  unfold Go.Lib.splitK
  refine (spl_plain l fun c hc e => ?_).symm
  obtain ⟨j, hj, rfl⟩ := List.mem_iff_getElem.1 hc
  exact hn j (by rw [List.getElem?_eq_getElem hj, e])
 | succ k ih =>
  intro l hk
  by_cases hm : Go.Lib.index l [44] = -1
  ·have := Go.Lib.count_miss (s := l) (sub := [44]) hm
   omega
  ·have hge := Go.Lib.indexByte_ge l 44
   rw [← Go.Lib.index_one] at hge
   obtain ⟨i, hi⟩ : ∃ i : Nat, Go.Lib.index l [44] = i := ⟨(Go.Lib.index l [44]).toNat, by omega⟩
   have hc := Go.Lib.count_hit (s := l) (sub := [44]) (by simp) hi
   have hr := ih (l.drop (i + 1)) (by simp at hc; omega)
   have hs := hi
   rw [Go.Lib.index_one] at hs
   obtain ⟨g1, g2⟩ := Go.Lib.indexByte_some hs
   have hil : i < l.length := (List.getElem?_eq_some_iff.1 g1).1
   have el : l = l.take i ++ 44 :: l.drop (i + 1) := by
    have h1 := List.drop_eq_getElem_cons hil
    have h2 := (List.getElem?_eq_some_iff.1 g1).2
    rw [h2] at h1
    rw [← h1, List.take_append_drop]
   unfold Go.Lib.splitK
   rw [if_neg (by simpa using hm), hi]
   simp only [Int.toNat_natCast, Nat.add_zero, List.length_cons, List.length_nil, Nat.zero_add]
   rw [hr]
   conv => rhs; rw [el]
   rw [spl_app _ _ (fun c hc e => ?_), spl_comma]
   ·simp [glue]
   ·obtain ⟨j, hj, rfl⟩ := List.mem_iff_getElem.1 hc
    rw [List.length_take] at hj
    refine g2 j (by omega) ?_
    rw [← e, List.getElem_take, List.getElem?_eq_getElem (by omega)]
theorem words_i (s : ByteArray) : (Go.Lib.splitB (⟨#[44]⟩ : ByteArray) 0 (Go.Lib.countB s (⟨#[44]⟩ : ByteArray)) s).map (·.data.toList) = spl s.data.toList := by
 rw [Go.Lib.splitB_data]
 exact splitK_spl _ s.data.toList rfl
theorem join_spl : ∀ l : List UInt8, Go.Lib.join (spl l) [44] = l
 | [] => by simp [spl, Go.Lib.join]
 | c :: t => by
  have ih := join_spl t
  by_cases h : c = 44
  ·subst h
   rw [spl_comma]
   cases ht : spl t with
   | nil => exact absurd ht (spl_ne t)
   | cons a r =>
    rw [ht, Go.Lib.join_cons] at ih
    rw [Go.Lib.join_cons]
    simp only [Go.Lib.joinTail, List.map_cons, List.flatten_cons, List.nil_append] at ih ⊢
    rw [List.append_assoc, ih]
    rfl
  ·rw [spl_cons h]
   cases ht : spl t with
   | nil => exact absurd ht (spl_ne t)
   | cons a r =>
    rw [ht, Go.Lib.join_cons] at ih
    simp only [glue]
    rw [Go.Lib.join_cons, List.append_assoc, ih]
    rfl
theorem spl_tail : ∀ (r : List (List UInt8)), (∀ w ∈ r, ∀ c ∈ w, c ≠ 44) → ∀ x : List UInt8, (∀ c ∈ x, c ≠ 44) → spl (x ++ Go.Lib.joinTail [44] r) = x :: r
 | [], _, x, hx => by simp [Go.Lib.joinTail]; exact spl_plain x hx
 | w :: r, h, x, hx => by
  have e : x ++ Go.Lib.joinTail [44] (w :: r) = x ++ 44 :: (w ++ Go.Lib.joinTail [44] r) := by simp [Go.Lib.joinTail, List.append_assoc]
  rw [e, spl_app x _ hx, spl_comma, spl_tail r (fun v hv => h v (by simp [hv])) w (h w (by simp))]
  simp [glue]
theorem spl_join (ws : List (List UInt8)) (h0 : ws ≠ []) (h : ∀ w ∈ ws, ∀ c ∈ w, c ≠ 44) : spl (Go.Lib.join ws [44]) = ws := by
 cases ws with
 | nil => exact absurd rfl h0
 | cons x r =>
  rw [Go.Lib.join_cons]
  exact spl_tail r (fun w hw => h w (by simp [hw])) x (h x (by simp))
theorem spl_len : ∀ (l w : List UInt8), w ∈ spl l → w.length ≤ l.length
 | [], w, h => by simp [spl] at h; subst h; simp
 | c :: t, w, h => by
  by_cases hc : c = 44
  ·subst hc
   rw [spl_comma] at h
   rcases List.mem_cons.1 h with g | g
   ·subst g; simp
   ·have := spl_len t w g; simp; omega
  ·rw [spl_cons hc] at h
   cases ht : spl t with
   | nil => exact absurd ht (spl_ne t)
   | cons a r =>
    rw [ht] at h
    simp only [glue] at h
    rcases List.mem_cons.1 h with g | g
    ·have := spl_len t a (by rw [ht]; simp); subst g; simp; omega
    ·have := spl_len t w (by rw [ht]; simp [g]); simp; omega
theorem tb_comma : ∀ n : Fin 13, ∀ c ∈ tb n.val, c ≠ 44 := by decide +kernel
theorem tb_atoi : ∀ n : Fin 13, Go.Lib.atoiAll (tb n.val) = .ok (n.val : Int) := by decide +kernel
end Go.Proofs.YtojappijhehlpaaDoor.Pure
