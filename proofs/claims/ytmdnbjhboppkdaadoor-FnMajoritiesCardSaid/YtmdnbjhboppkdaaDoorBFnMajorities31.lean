import Derived.Test.YtmdnbjhboppkdaaDoorBFnMajorities24
import Derived.Test.YtmdnbjhboppkdaaDoorBFnMajorities30
namespace Go.Proofs.YtmdnbjhboppkdaaDoor.Pure
open Go.RowKit Go.Proofs.YtmdnbjhboppkdaaDoor.Q Go.Proofs.YtmdnbjhboppkdaaDoorW.PrintWords Go.Proofs.YtmdnbjhboppkdaaDoorW.PrintLast
set_option linter.unusedVariables false
set_option linter.unusedSimpArgs false
section
variable {L : List (List Int)}
theorem major_yes (h : rowsP L) (hv : votP L) : Ev (fun k => impl_MajorityOf.f k L) (((rd_L2 L 0).length : Int), rel (majP L) (rd_L2 L 0).length, true) ∧ Ev (fun k => spec_MajorityOf.f k L) (((rd_L2 L 0).length : Int), rel (majP L) (rd_L2 L 0).length, true) := by
 have hL := hv.1
 have h10 := (hv.row (q := 0) (by omega)).2.1
 rw [show ((0 : Nat) : Int) = 0 from rfl] at h10
 have hrel := relation_ev (majP L) (rd_L2 L 0).length (by omega) (fun k u0_ u1_ => impl_MajorityOf_1.f k u0_ u1_ L) (fun i j hi hj => by
  unfold impl_MajorityOf_1.f impl_majority.f
  refine Ev.bind (majority_l L hv i j hi hj L.length 0 0 (by omega) (by omega) (by omega)) (Ev.ret ?_)
  simp [majP])
 unfold impl_MajorityOf.f spec_MajorityOf.f
 exact ⟨Ev.bind (areVoters_ev L h) (Ev.pos (by simpa using hv) (Ev.pos (by omega) (Ev.bind hrel (Ev.ret rfl)))), Ev.bind (weVoters_ev L h) (Ev.pos (by simpa using hv) (Ev.pos (by omega) (smaj_l0 L hv (rd_L2 L 0).length 0 (by omega))))⟩
theorem major_no (h : rowsP L) (hv : ¬ votP L) : Ev (fun k => impl_MajorityOf.f k L) (0, [], false) ∧ Ev (fun k => spec_MajorityOf.f k L) (0, [], false) := by
 unfold impl_MajorityOf.f spec_MajorityOf.f
 exact ⟨Ev.bind (areVoters_ev L h) (Ev.neg (by simpa using hv) (Ev.ret rfl)), Ev.bind (weVoters_ev L h) (Ev.neg (by simpa using hv) (Ev.ret rfl))⟩
def vsum (L : List (List Int)) : List Int := sums (List.replicate (rd_L2 L 0).length 0) L
theorem vsum_length (hv : votP L) : (vsum L).length = (rd_L2 L 0).length := by
 unfold vsum
 rw [sums_len L _ (fun r hr => by rw [List.length_replicate]; exact (hv.2 r hr).2), List.length_replicate]
theorem mean_yes (h : rowsP L) (hv : votP L) : Ev (fun k => impl_MeanLevels.f k L) (lev (vsum L), true) ∧ Ev (fun k => spec_MeanLevels.f k L) (lev (vsum L), true) := by
 have hL := hv.1
 have h10 := (hv.row (q := 0) (by omega)).2.1
 rw [show ((0 : Nat) : Int) = 0 from rfl] at h10
 have hlen := vsum_length hv
 unfold vsum at *
 have hz : ∀ j : Nat, j < (List.replicate (rd_L2 L 0).length (0 : Int)).length → 0 ≤ rd (List.replicate (rd_L2 L 0).length (0 : Int)) (j : Int) ∧ rd (List.replicate (rd_L2 L 0).length (0 : Int)) (j : Int) ≤ 10 * ((0 : Nat) : Int) := by
  intro j hj; rw [rd_lt _ j hj]; simp
 unfold impl_MeanLevels.f spec_MeanLevels.f
 refine ⟨Ev.bind (areVoters_ev L h) (Ev.pos (by simpa using hv) (Ev.pos (by omega) (Ev.pos (by omega) (Ev.pos (by omega) ?_)))), Ev.bind (weVoters_ev L h) (Ev.pos (by simpa using hv) (Ev.pos (by omega) (Ev.pos (by omega) (Ev.pos (by omega) ?_))))⟩
 ·rw [Int.toNat_natCast]
  exact imean_l0 L hv _ L.length 0 _ (by omega) (by simp) hz (by rw [List.drop_zero]; exact Ev.bind (leveled_ev _ (by omega)) (Ev.ret rfl))
 ·rw [Int.toNat_natCast]
  exact smean_l0 L hv _ L.length 0 _ (by omega) (by simp) hz (by rw [List.drop_zero]; exact Ev.bind (ofNumbers_ev _ (by omega)) (Ev.ret rfl))
theorem mean_no (h : rowsP L) (hv : ¬ votP L) : Ev (fun k => impl_MeanLevels.f k L) ([], false) ∧ Ev (fun k => spec_MeanLevels.f k L) ([], false) := by
 unfold impl_MeanLevels.f spec_MeanLevels.f
 exact ⟨Ev.bind (areVoters_ev L h) (Ev.neg (by simpa using hv) (Ev.ret rfl)), Ev.bind (weVoters_ev L h) (Ev.neg (by simpa using hv) (Ev.ret rfl))⟩
def moreV (i j : Nat) : List (List Int) → Int
 | [] => 0
 | r :: t => (if rd r (j : Int) > rd r (i : Int) then 1 else 0) + moreV i j t
def lessV (i j : Nat) : List (List Int) → Int
 | [] => 0
 | r :: t => (if rd r (j : Int) < rd r (i : Int) then 1 else 0) + lessV i j t
theorem moreV_range (i j : Nat) : ∀ L : List (List Int), 0 ≤ moreV i j L ∧ moreV i j L ≤ L.length
 | [] => by simp [moreV]
 | r :: t => by have := moreV_range i j t; simp only [moreV, List.length_cons]; split <;> omega
theorem lessV_range (i j : Nat) : ∀ L : List (List Int), 0 ≤ lessV i j L ∧ lessV i j L ≤ L.length
 | [] => by simp [lessV]
 | r :: t => by have := lessV_range i j t; simp only [lessV, List.length_cons]; split <;> omega
theorem majD_eq (i j : Nat) : ∀ L : List (List Int), majD i j L = moreV i j L - lessV i j L
 | [] => rfl
 | r :: t => by
  simp only [majD, moreV, lessV, majD_eq i j t, sgn]
  split <;> split <;> split <;> omega
def sumV (i : Nat) : List (List Int) → Int
 | [] => 0
 | r :: t => rd r (i : Int) + sumV i t
theorem sums_rd (i : Nat) : ∀ (L : List (List Int)) (s : List Int), (∀ r ∈ L, r.length = s.length) → i < s.length → rd (sums s L) (i : Int) = rd s (i : Int) + sumV i L
 | [], s, _, _ => by simp [sums, sumV]
 | r :: t, s, h, hi => by
  have hr := h r (by simp)
  have hz : (List.zipWith (· + ·) s r).length = s.length := by simp; omega
  have := sums_rd i t (List.zipWith (· + ·) s r) (fun r' hr' => by rw [hz]; exact h r' (by simp [hr'])) (by omega)
  have e : sums s (r :: t) = sums (List.zipWith (· + ·) s r) t := rfl
  rw [e, this, rd_lt _ i (by omega), List.getElem_zipWith, ← rd_lt s i hi, ← rd_lt r i (by omega)]
  simp only [sumV]
  omega
theorem vsum_rd (hv : votP L) {i : Nat} (hi : i < (rd_L2 L 0).length) : rd (vsum L) (i : Int) = sumV i L := by
 unfold vsum
 rw [sums_rd i L _ (fun r hr => by rw [List.length_replicate]; exact (hv.2 r hr).2) (by simpa using hi), rd_lt _ i (by simpa using hi)]
 simp
theorem sum_more (i j : Nat) : ∀ L : List (List Int), lessV i j L = 0 → sumV i L + moreV i j L ≤ sumV j L
 | [], _ => by simp [sumV, moreV]
 | r :: t, h => by
  have h1 := lessV_range i j t
  simp only [lessV] at h
  simp only [sumV, moreV]
  split at h
  ·omega
  ·have := sum_more i j t (by omega)
   split <;> omega
theorem mean_law (hv : votP L) {i j : Nat} (hi : i < (rd_L2 L 0).length) (hj : j < (rd_L2 L 0).length) (h0 : lessV i j L = 0) : ¬ rd (lev (vsum L)) (j : Int) < rd (lev (vsum L)) (i : Int) ∧ (0 < moreV i j L → rd (lev (vsum L)) (j : Int) ≠ rd (lev (vsum L)) (i : Int)) := by
 have hl := vsum_length hv
 have hs := sum_more i j L h0
 have hm := moreV_range i j L
 have a := lev_lt (vsum L) (i := j) (j := i) (by omega) (by omega)
 have b := lev_lt (vsum L) (i := i) (j := j) (by omega) (by omega)
 rw [vsum_rd hv hi, vsum_rd hv hj] at a b
 exact ⟨fun h => by have := a.1 h; omega, fun hp e => by have := b.2 (by omega); omega⟩
theorem mean_one (hv : votP L) (h1 : L.length = 1) : lev (vsum L) = rd_L2 L 0 := by
 obtain ⟨r, rfl⟩ : ∃ r, L = [r] := by
  match L, h1 with
  | [r], _ => exact ⟨r, rfl⟩
 have e : rd_L2 [r] 0 = r := by simp [rd_L2]
 have hr := (hv.2 r (by simp)).1
 have ez : vsum [r] = r := by
  refine List.ext_getElem (by rw [vsum_length hv, e]) fun i a b => ?_
  have := vsum_rd hv (i := i) (by rw [e]; exact b)
  rw [rd_lt _ i a] at this
  rw [this]
  simp only [sumV, Int.add_zero]
  exact rd_lt r i b
 obtain ⟨n, _, hx⟩ := lvl_fill hr
 rw [ez, e]
 exact lev_fix (n := n) hx
end
def tl (L : List Int) (i j : Nat) : Int := if lt L i j then 1 else if lt L j i then -1 else 0
theorem told_f {n : Int} {L : List Int} (h : relP n L) {i j : Nat} (hi : i < L.length) (hj : j < L.length) : impl_Order_told.f n L (i : Int) (j : Int) = some (tl L i j) := by
 have hl : L.length ≤ 10 := by have := h.1; have := h.2.1; omega
 unfold impl_Order_told.f tl
 rw [better_f n L hi (h.set hi) (by omega), Option.bind_some]
 show (if lt L i j = true then _ else _) = _
 cases lt L i j
 ·rw [if_neg (by simp), better_f n L hj (h.set hj) (by omega), Option.bind_some]
  show (if lt L j i = true then _ else _) = _
  cases lt L j i <;> rfl
 ·rfl
theorem weTold_f {n : Int} {L : List Int} (h : relP n L) {i j : Nat} (hi : i < L.length) (hj : j < L.length) : spec_weTold.f n L (i : Int) (j : Int) = some (tl L i j) := by
 have hl : L.length ≤ 10 := by have := h.1; have := h.2.1; omega
 unfold spec_weTold.f tl
 rw [if_pos (by omega), if_pos (by omega), orHas_f (h.set hi).1 (h.set hi).2 (by omega), Option.bind_some]
 show (if lt L i j = true then _ else _) = _
 cases lt L i j
 ·rw [if_neg (by simp), if_pos (by omega), if_pos (by omega), orHas_f (h.set hj).1 (h.set hj).2 (by omega), Option.bind_some]
  show (if lt L j i = true then _ else _) = _
  cases lt L j i <;> rfl
 ·rfl
theorem tl_swap {n : Int} {L : List Int} (h : orderP n L) {i j : Nat} (hi : i < L.length) (hj : j < L.length) : tl L i j = - tl L j i := by
 unfold tl
 cases h1 : lt L i j
 ·cases h2 : lt L j i <;> simp
 ·rw [h.asym hi h1]; simp
theorem tl_range (L : List Int) (i j : Nat) : -1 ≤ tl L i j ∧ tl L i j ≤ 1 := by
 unfold tl; split
 ·omega
 ·split <;> omega
theorem abs_f (a : Int) (h : -2 ≤ a ∧ a ≤ 2) : spec_l1Abs.f a = some (if a < 0 then -a else a) := by
 unfold spec_l1Abs.f spec_l1Most.f
 rw [wrap64_id (by omega) (by omega)]
 by_cases h1 : a > -a
 ·rw [if_pos h1, Option.bind_some, if_neg (by omega)]
 ·rw [if_neg h1, Option.bind_some]
  split <;> (congr 1 <;> omega)
theorem mx_f (a : Int) (h : -2 ≤ a ∧ a ≤ 2) : mx a (wrap64 (-a)) = if a < 0 then -a else a := by
 rw [wrap64_id (by omega) (by omega)]
 unfold mx
 split <;> split <;> omega
theorem distance_l0 (n m : Int) (L M : List Int) (h1 : orderP n L) (h2 : orderP m M) (he : n = m) (d : Nat) : ∀ (i : Nat) (s : Int), i + d = L.length → ∃ r, Ev (fun k => impl_PairDistance.l0 k s n (i : Int) n L m M) (r, true) ∧ Ev (fun k => spec_weDistance.l0 k s (i : Int) n L m M) r := by
 have e1 := h1.1.2.1
 have e2 := h2.1.2.1
 have e3 := h1.1.1
 induction d with
 | zero =>
  intro i s hi
  refine ⟨s, Ev.shift ?_, Ev.shift ?_⟩
  ·simp only [impl_PairDistance.l0]
   exact Ev.neg (by omega) (Ev.ret rfl)
  ·simp only [spec_weDistance.l0]
   exact Ev.neg (by omega) (Ev.ret rfl)
 | succ d ih =>
  intro i s hi
  have inner : ∀ (c : Nat) (j : Nat) (s : Int), j + c = i → ∃ r, Ev (fun k => impl_PairDistance.l1 k s (i : Int) n (i : Int) (i : Int) (j : Int) n L m M) (r, true) ∧ Ev (fun k => spec_weDistance.l1 k s (i : Int) (j : Int) n L m M) r := by
   intro c
   induction c with
   | zero =>
    intro j s hj
    obtain ⟨r, hr1, hr2⟩ := ih (i + 1) s (by omega)
    refine ⟨r, Ev.shift ?_, Ev.shift ?_⟩
    ·simp only [impl_PairDistance.l1]
     refine Ev.neg (by omega) ?_
     rw [wrap64_id (x := (i : Int) + 1) (by omega) (by omega), cast1]
     exact hr1
    ·simp only [spec_weDistance.l1]
     refine Ev.neg (by omega) ?_
     rw [wrap64_id (x := (i : Int) + 1) (by omega) (by omega), cast1]
     exact hr2
   | succ c ihc =>
    intro j s hj
    have a1 := tl_range L i j
    have a2 := tl_range M i j
    have a3 := tl_range L j i
    have a4 := tl_range M j i
    have b1 := tl_swap h1 (i := i) (j := j) (by omega) (by omega)
    have b2 := tl_swap h2 (i := i) (j := j) (by omega) (by omega)
    obtain ⟨r, hr1, hr2⟩ := ihc (j + 1) (wrap64 (s + if tl L i j - tl M i j < 0 then -(tl L i j - tl M i j) else tl L i j - tl M i j)) (by omega)
    refine ⟨r, Ev.shift ?_, Ev.shift ?_⟩
    ·simp only [impl_PairDistance.l1]
     refine Ev.pos (by omega) (Ev.bindc (told_f h1.1 (by omega) (by omega)) (Ev.bindc (told_f h2.1 (by omega) (by omega)) ?_))
     rw [wrap64_id (x := (j : Int) + 1) (by omega) (by omega), cast1, wrap64_id (x := tl L i j - tl M i j) (by omega) (by omega), mx_f _ (by omega)]
     exact hr1
    ·simp only [spec_weDistance.l1]
     refine Ev.pos (by omega) (Ev.bindc (weTold_f h1.1 (by omega) (by omega)) (Ev.bindc (weTold_f h2.1 (by omega) (by omega)) ?_))
     rw [wrap64_id (x := (j : Int) + 1) (by omega) (by omega), cast1, wrap64_id (x := tl L j i - tl M j i) (by omega) (by omega)]
     refine Ev.bindc (abs_f _ (by omega)) ?_
     have e : (if tl L j i - tl M j i < 0 then -(tl L j i - tl M j i) else tl L j i - tl M j i) = (if tl L i j - tl M i j < 0 then -(tl L i j - tl M i j) else tl L i j - tl M i j) := by split <;> split <;> omega
     rw [e]
     exact hr2
  obtain ⟨r, hr1, hr2⟩ := inner i 0 s (by omega)
  refine ⟨r, Ev.shift ?_, Ev.shift ?_⟩
  ·simp only [impl_PairDistance.l0]
   exact Ev.pos (by omega) hr1
  ·simp only [spec_weDistance.l0]
   exact Ev.pos (by omega) hr2
theorem PairDistance_both (n : Int) (L : List Int) (m : Int) (M : List Int) (hL : L.length ≤ 1048576) (hM : M.length ≤ 1048576) : ∃ r, Ev (fun k => impl_PairDistance.f k n L m M) r ∧ Ev (fun k => spec_PairDistance.f k n L m M) r := by
 unfold impl_PairDistance.f spec_PairDistance.f impl_areOrders.f
 by_cases h1 : orderP n L
 ·by_cases h2 : orderP m M
  ·by_cases he : n = m
   ·obtain ⟨r, hr1, hr2⟩ := distance_l0 n m L M h1 h2 he L.length 0 0 (by omega)
    refine ⟨(r, true), ?_, ?_⟩
    ·exact Ev.bind (Ev.bind (isOrder_ev n L hL) (Ev.pos (by simpa using h1) (Ev.bind (isOrder_ev m M hM) (Ev.pos (by simpa using h2) (Ev.ret rfl))))) (Ev.pos (by simpa using he) hr1)
    ·refine Ev.bind (orGood_ev n L hL) (Ev.pos (by simpa using h1) (Ev.bind (orGood_ev m M hM) (Ev.pos (by simpa using h2) (Ev.pos he (Ev.bind (a := r) ?_ (Ev.ret rfl))))))
     unfold spec_weDistance.f
     exact hr2
   ·refine ⟨(0, false), ?_, ?_⟩
    ·exact Ev.bind (Ev.bind (isOrder_ev n L hL) (Ev.pos (by simpa using h1) (Ev.bind (isOrder_ev m M hM) (Ev.pos (by simpa using h2) (Ev.ret rfl))))) (Ev.neg (by simpa using he) (Ev.ret rfl))
    ·exact Ev.bind (orGood_ev n L hL) (Ev.pos (by simpa using h1) (Ev.bind (orGood_ev m M hM) (Ev.pos (by simpa using h2) (Ev.neg he (Ev.ret rfl)))))
  ·refine ⟨(0, false), ?_, ?_⟩
   ·exact Ev.bind (Ev.bind (isOrder_ev n L hL) (Ev.pos (by simpa using h1) (Ev.bind (isOrder_ev m M hM) (Ev.neg (by simpa using h2) (Ev.ret rfl))))) (Ev.neg (by simp) (Ev.ret rfl))
   ·exact Ev.bind (orGood_ev n L hL) (Ev.pos (by simpa using h1) (Ev.bind (orGood_ev m M hM) (Ev.neg (by simpa using h2) (Ev.ret rfl))))
 ·refine ⟨(0, false), ?_, ?_⟩
  ·exact Ev.bind (Ev.bind (isOrder_ev n L hL) (Ev.neg (by simpa using h1) (Ev.ret rfl))) (Ev.neg (by simp) (Ev.ret rfl))
  ·exact Ev.bind (orGood_ev n L hL) (Ev.neg (by simpa using h1) (Ev.ret rfl))
end Go.Proofs.YtmdnbjhboppkdaaDoor.Pure
namespace Go.Proofs.YtmdnbjhboppkdaaDoor.Pure
open Go.RowKit Go.Proofs.YtmdnbjhboppkdaaDoor.Q Go.Proofs.YtmdnbjhboppkdaaDoorW.PrintWords Go.Proofs.YtmdnbjhboppkdaaDoorW.PrintLast
set_option linter.unusedVariables false
set_option linter.unusedSimpArgs false
end Go.Proofs.YtmdnbjhboppkdaaDoor.Pure
namespace Go.Proofs.YtmdnbjhboppkdaaDoor.Pure
open Go.RowKit Go.Proofs.YtmdnbjhboppkdaaDoor.Q Go.Proofs.YtmdnbjhboppkdaaDoorW.PrintWords Go.Proofs.YtmdnbjhboppkdaaDoorW.PrintLast
set_option linter.unusedVariables false
set_option linter.unusedSimpArgs false
end Go.Proofs.YtmdnbjhboppkdaaDoor.Pure
namespace Go.Proofs.YtmdnbjhboppkdaaDoor.Pure
set_option linter.unusedVariables false
set_option linter.unusedSimpArgs false
-- plain
-- plain
structure Ord (n : Nat) (r : Nat → Nat → Bool) : Prop where
 irr : ∀ i, i < n → r i i = false
 trans : ∀ i j m, i < n → j < n → m < n → r i j = true → r j m = true → r i m = true
section
variable {n : Nat} {r : Nat → Nat → Bool}
theorem Ord.asym (h : Ord n r) {i j : Nat} (hi : i < n) (hj : j < n) (h1 : r i j = true) : r j i = false := by
 cases hb : r j i
 ·rfl
 ·have := h.trans i j i hi hj hi h1 hb; rw [h.irr i hi] at this; cases this
def No22 (n : Nat) (r : Nat → Nat → Bool) : Prop := ∀ a b c d, a < n → b < n → c < n → d < n → r a b = true → r c d = true → r c b = false → r a d = false → False
def No31 (n : Nat) (r : Nat → Nat → Bool) : Prop := ∀ a b c d, a < n → b < n → c < n → d < n → r a b = true → r b c = true → r a d = false → r d a = false → d ≠ a → r b d = false → r d b = false → d ≠ b → r c d = false → r d c = false → d ≠ c → False
def No21 (n : Nat) (r : Nat → Nat → Bool) : Prop := ∀ a b c, a < n → b < n → c < n → r a b = true → r a c = false → r c a = false → c ≠ a → r b c = false → r c b = false → c ≠ b → False
def trR (n : Nat) (r : Nat → Nat → Bool) (i j : Nat) : Prop := (∃ x, x < n ∧ r x j = true ∧ r x i = false) ∨ (∃ y, y < n ∧ r i y = true ∧ r j y = false)
def num (n : Nat) (r : Nat → Nat → Bool) (i : Nat) : Int := ((List.range n).countP (fun x => r x i) : Int) - ((List.range n).countP (fun y => r i y) : Int)
end
end Go.Proofs.YtmdnbjhboppkdaaDoor.Pure
namespace Go.Proofs.YtmdnbjhboppkdaaDoor.Pure
open Go.RowKit Go.Proofs.YtmdnbjhboppkdaaDoor.Q Go.Proofs.YtmdnbjhboppkdaaDoorW.PrintWords Go.Proofs.YtmdnbjhboppkdaaDoorW.PrintLast
set_option linter.unusedVariables false
set_option linter.unusedSimpArgs false
theorem ord_lt {n : Int} {L : List Int} (h : orderP n L) : Ord L.length (lt L) := ⟨fun i hi => h.irr hi, fun i j m hi hj hm h1 h2 => h.trans hi h1 h2⟩
def dn (L : List Int) (i : Nat) : Int := rowf (fun j => lt L j i) L.length
def dns (L : List Int) : List Int := rel (fun i j => lt L j i) L.length
def ab (x : Int) : Int := if x < 0 then -x else x
def dj (L M : List Int) (i : Nat) : Nat → Nat → Int
 | _, 0 => 0
 | j, c + 1 => ab (tl L i j - tl M i j) + dj L M i (j + 1) c
def di (L M : List Int) : Nat → Nat → Int
 | _, 0 => 0
 | i, d + 1 => dj L M i 0 i + di L M (i + 1) d
theorem ab_range (L M : List Int) (i j : Nat) : 0 ≤ ab (tl L i j - tl M i j) ∧ ab (tl L i j - tl M i j) ≤ 2 := by
 have := tl_range L i j
 have := tl_range M i j
 unfold ab; split <;> omega
theorem dj_range (L M : List Int) (i : Nat) : ∀ (c j : Nat), 0 ≤ dj L M i j c ∧ dj L M i j c ≤ 2 * c
 | 0, _ => by simp [dj]
 | c + 1, j => by
  have := dj_range L M i c (j + 1)
  have := ab_range L M i j
  simp only [dj]
  omega
theorem di_range (L M : List Int) : ∀ (d i : Nat), i + d ≤ 10 → 0 ≤ di L M i d ∧ di L M i d ≤ 20 * d
 | 0, _, _ => by simp [di]
 | d + 1, i, h => by
  have := di_range L M d (i + 1) (by omega)
  have := dj_range L M i i 0
  simp only [di]
  omega
theorem dj_swap (L M : List Int) (i : Nat) : ∀ (c j : Nat), dj L M i j c = dj M L i j c
 | 0, _ => rfl
 | c + 1, j => by
  simp only [dj]
  rw [dj_swap L M i c (j + 1)]
  have : ab (tl L i j - tl M i j) = ab (tl M i j - tl L i j) := by unfold ab; split <;> split <;> omega
  rw [this]
theorem di_swap (L M : List Int) : ∀ (d i : Nat), di L M i d = di M L i d
 | 0, _ => rfl
 | d + 1, i => by simp only [di]; rw [di_swap L M d (i + 1), dj_swap]
theorem dj_zero (L M : List Int) (i : Nat) : ∀ (c j : Nat), dj L M i j c = 0 ↔ ∀ q, j ≤ q → q < j + c → tl L i q = tl M i q
 | 0, j => by simp only [dj, true_iff]; intro q h1 h2; omega
 | c + 1, j => by
  have h1 := dj_range L M i c (j + 1)
  have h2 := ab_range L M i j
  have h3 := dj_zero L M i c (j + 1)
  have h4 : ab (tl L i j - tl M i j) = 0 ↔ tl L i j = tl M i j := by unfold ab; split <;> omega
  simp only [dj]
  constructor
  ·intro h q g1 g2
   by_cases e : q = j
   ·subst e; exact h4.1 (by omega)
   ·exact h3.1 (by omega) q (by omega) (by omega)
  ·intro h
   have g1 := h4.2 (h j (by omega) (by omega))
   have g2 := h3.2 (fun q a b => h q (by omega) (by omega))
   omega
theorem di_zero (L M : List Int) : ∀ (d i : Nat), i + d ≤ 10 → (di L M i d = 0 ↔ ∀ p q, i ≤ p → p < i + d → q < p → tl L p q = tl M p q)
 | 0, i, _ => by simp only [di, true_iff]; intro p q h1 h2; omega
 | d + 1, i, h => by
  have h1 := di_range L M d (i + 1) (by omega)
  have h2 := dj_range L M i i 0
  have h3 := di_zero L M d (i + 1) (by omega)
  have h4 := dj_zero L M i i 0
  simp only [di]
  constructor
  ·intro hz p q g1 g2 g3
   by_cases e : p = i
   ·subst e; exact h4.1 (by omega) q (by omega) (by omega)
   ·exact h3.1 (by omega) p q (by omega) (by omega) g3
  ·intro hz
   have g1 := h4.2 (fun q a b => hz i q (by omega) (by omega) (by omega))
   have g2 := h3.2 (fun p q a b c => hz p q (by omega) (by omega) c)
   omega
section
variable {n m : Int} {L M : List Int}
theorem tl_lt (L : List Int) (i j : Nat) : lt L i j = true ↔ tl L i j = 1 := by
 unfold tl
 split
 ·simp_all
 ·split <;> simp_all
theorem dist_zero (h1 : orderP n L) (h2 : orderP m M) (he : n = m) : di L M 0 L.length = 0 ↔ L = M := by
 have e1 := h1.1.2.1
 have e2 := h2.1.2.1
 have e3 := h1.1.1
 have el : L.length = M.length := by omega
 constructor
 ·intro hz
  have hz := (di_zero L M L.length 0 (by omega)).1 hz
  have key : ∀ p q, p < L.length → q < L.length → lt L p q = lt M p q := by
   intro p q hp hq
   have : tl L p q = tl M p q := by
    rcases Nat.lt_trichotomy q p with g | g | g
    ·exact hz p q (by omega) (by omega) g
    ·subst g
     have a1 := (ord_lt h1).irr q hp
     have a2 := (ord_lt h2).irr q (by omega)
     unfold tl; simp [a1, a2]
    ·rw [tl_swap h1 hp hq, tl_swap h2 (by omega) (by omega), hz q p (by omega) (by omega) g]
   rw [Bool.eq_iff_iff, tl_lt, tl_lt, this]
  refine rel_ext el (fun i hi => h1.1.set hi) (fun i hi => h2.1.set hi) (fun i j hi hj => ?_)
  by_cases hjl : j < L.length
  ·exact key i j hi hjl
  ·have f1 : lt L i j = false := by
    cases hb : lt L i j
    ·rfl
    ·exact absurd (h1.1.lt_len hi hb) hjl
   have f2 : lt M i j = false := by
    cases hb : lt M i j
    ·rfl
    ·have := h2.1.lt_len (by omega) hb; omega
   rw [f1, f2]
 ·rintro rfl
  rw [di_zero L L L.length 0 (by omega)]
  intros; rfl
theorem idist_l (h1 : orderP n L) (h2 : orderP m M) (he : n = m) (d : Nat) : ∀ (i : Nat) (s : Int), i + d = L.length → 0 ≤ s → s ≤ 200 * i → Ev (fun k => impl_PairDistance.l0 k s n (i : Int) n L m M) (s + di L M i d, true) := by
 have e1 := h1.1.2.1
 have e2 := h2.1.2.1
 have e3 := h1.1.1
 induction d with
 | zero =>
  intro i s hi h0 hs
  refine Ev.shift ?_
  simp only [impl_PairDistance.l0, di, Int.add_zero]
  exact Ev.neg (by omega) (Ev.ret rfl)
 | succ d ih =>
  intro i s hi h0 hs
  have inner : ∀ (c : Nat) (j : Nat) (s : Int), j + c = i → 0 ≤ s → s ≤ 200 * i + 20 * j → Ev (fun k => impl_PairDistance.l1 k s (i : Int) n (i : Int) (i : Int) (j : Int) n L m M) (s + dj L M i j c + di L M (i + 1) d, true) := by
   intro c
   induction c with
   | zero =>
    intro j s hj h0 hs
    have := ih (i + 1) s (by omega) h0 (by omega)
    refine Ev.shift ?_
    simp only [impl_PairDistance.l1, dj, Int.add_zero]
    refine Ev.neg (by omega) ?_
    rw [wrap64_id (x := (i : Int) + 1) (by omega) (by omega), cast1]
    exact this
   | succ c ihc =>
    intro j s hj h0 hs
    have a1 := tl_range L i j
    have a2 := tl_range M i j
    have a3 := ab_range L M i j
    have := ihc (j + 1) (s + ab (tl L i j - tl M i j)) (by omega) (by omega) (by omega)
    refine Ev.shift ?_
    simp only [impl_PairDistance.l1, dj]
    refine Ev.pos (by omega) (Ev.bindc (told_f h1.1 (by omega) (by omega)) (Ev.bindc (told_f h2.1 (by omega) (by omega)) ?_))
    rw [wrap64_id (x := (j : Int) + 1) (by omega) (by omega), cast1, wrap64_id (x := tl L i j - tl M i j) (by omega) (by omega), mx_f _ (by omega), wrap64_id (by unfold ab at a3; omega) (by unfold ab at a3; omega), ← Int.add_assoc]
    exact this
  have := inner i 0 s (by omega) h0 (by omega)
  refine Ev.shift ?_
  simp only [impl_PairDistance.l0, di]
  refine Ev.pos (by omega) ?_
  rw [← Int.add_assoc]
  exact this
theorem idist_ev (h1 : orderP n L) (h2 : orderP m M) (he : n = m) (hL : L.length ≤ 1048576) (hM : M.length ≤ 1048576) : Ev (fun k => impl_PairDistance.f k n L m M) (di L M 0 L.length, true) := by
 unfold impl_PairDistance.f impl_areOrders.f
 have := idist_l h1 h2 he L.length 0 0 (by omega) (by omega) (by omega)
 rw [Int.zero_add] at this
 exact Ev.bind (Ev.bind (isOrder_ev n L hL) (Ev.pos (by simpa using h1) (Ev.bind (isOrder_ev m M hM) (Ev.pos (by simpa using h2) (Ev.ret rfl))))) (Ev.pos (by simpa using he) this)
theorem idist_no (h : ¬ (orderP n L ∧ orderP m M ∧ n = m)) (hL : L.length ≤ 1048576) (hM : M.length ≤ 1048576) : Ev (fun k => impl_PairDistance.f k n L m M) (0, false) := by
 unfold impl_PairDistance.f impl_areOrders.f
 by_cases h1 : orderP n L
 ·by_cases h2 : orderP m M
  ·exact Ev.bind (Ev.bind (isOrder_ev n L hL) (Ev.pos (by simpa using h1) (Ev.bind (isOrder_ev m M hM) (Ev.pos (by simpa using h2) (Ev.ret rfl))))) (Ev.neg (by simp; exact fun e => h ⟨h1, h2, e⟩) (Ev.ret rfl))
  ·exact Ev.bind (Ev.bind (isOrder_ev n L hL) (Ev.pos (by simpa using h1) (Ev.bind (isOrder_ev m M hM) (Ev.neg (by simpa using h2) (Ev.ret rfl))))) (Ev.neg (by simp) (Ev.ret rfl))
 ·exact Ev.bind (Ev.bind (isOrder_ev n L hL) (Ev.neg (by simpa using h1) (Ev.ret rfl))) (Ev.neg (by simp) (Ev.ret rfl))
end
-- the statements' own comparisons
theorem vSame_l (l m : List Int) (hlm : l.length = m.length) (hl : l.length ≤ 1048576) (d : Nat) : ∀ i : Nat, i + d = l.length → Ev (fun k => laws_vSame.l0 k l m (l.length : Int) (i : Int)) (l.drop i == m.drop i) := by
 induction d with
 | zero =>
  intro i hi
  refine Ev.shift ?_
  simp only [laws_vSame.l0]
  refine Ev.neg (by omega) (Ev.ret ?_)
  rw [List.drop_of_length_le (by omega), List.drop_of_length_le (by omega)]; rfl
 | succ d ih =>
  intro i hi
  have e := ih (i + 1) (by omega)
  have f1 : (i : Int) < l.length := by omega
  have f2 : (i : Int) < m.length := by omega
  refine Ev.shift ?_
  simp only [laws_vSame.l0]
  refine Ev.pos f1 (Ev.pos (by omega) (Ev.pos f1 (Ev.pos f2 ?_)))
  rw [wrap64_id (by omega) (by omega), cast1, drop_rd l i (by omega), drop_rd m i (by omega)]
  by_cases hc : rd l (i : Int) = rd m (i : Int)
  ·refine Ev.pos hc (Ev.eq e ?_)
   rw [hc]; simp
  ·refine Ev.neg hc (Ev.ret ?_)
   symm; rw [beq_eq_false_iff_ne]; intro h; exact hc (List.cons.inj h).1
theorem vSame_ev (l m : List Int) (hl : l.length ≤ 1048576) : Ev (fun k => laws_vSame.f k l m) (l == m) := by
 unfold laws_vSame.f
 by_cases h : (l.length : Int) = m.length
 ·refine Ev.pos h ?_
  simpa using vSame_l l m (by omega) hl l.length 0 (by omega)
 ·refine Ev.neg h (Ev.ret ?_)
  symm; rw [beq_eq_false_iff_ne]; intro e; exact h (by rw [e])
theorem vOrder_ev (n : Int) (l : List Int) (n' : Int) (m : List Int) (hl : l.length ≤ 1048576) : Ev (fun k => laws_vOrder.f k n l n' m) (decide (n = n') && (l == m)) := by
 unfold laws_vOrder.f
 by_cases h : n = n'
 ·exact Ev.pos h (Ev.bind (vSame_ev l m hl) (Ev.ret (by simp [h])))
 ·exact Ev.neg h (Ev.ret (by simp [h]))
theorem vOrder_self (n : Int) (l : List Int) (hl : l.length ≤ 1048576) : Ev (fun k => laws_vOrder.f k n l n l) true := Ev.eq (vOrder_ev n l n l hl) (by simp)
end Go.Proofs.YtmdnbjhboppkdaaDoor.Pure
namespace Go.Proofs.YtmdnbjhboppkdaaDoor.Pure
open Go.RowKit Go.Proofs.YtmdnbjhboppkdaaDoor.Q Go.Proofs.YtmdnbjhboppkdaaDoorW.PrintWords Go.Proofs.YtmdnbjhboppkdaaDoorW.PrintLast
set_option linter.unusedVariables false
set_option linter.unusedSimpArgs false
end Go.Proofs.YtmdnbjhboppkdaaDoor.Pure
namespace Go.Proofs.YtmdnbjhboppkdaaDoor.Pure
open Go.RowKit Go.Proofs.YtmdnbjhboppkdaaDoor.Q Go.Proofs.YtmdnbjhboppkdaaDoorW.PrintWords Go.Proofs.YtmdnbjhboppkdaaDoorW.PrintLast
set_option linter.unusedVariables false
set_option linter.unusedSimpArgs false
end Go.Proofs.YtmdnbjhboppkdaaDoor.Pure
namespace Go.Proofs.YtmdnbjhboppkdaaDoor.Pure
open Go.RowKit Go.Proofs.YtmdnbjhboppkdaaDoor.Q Go.Proofs.YtmdnbjhboppkdaaDoorW.PrintWords Go.Proofs.YtmdnbjhboppkdaaDoorW.PrintLast
set_option linter.unusedVariables false
set_option linter.unusedSimpArgs false
def freeP (L : List Int) (i j : Nat) : Bool := !lt L i j && !lt L j i && !decide (j = i)
end Go.Proofs.YtmdnbjhboppkdaaDoor.Pure
namespace Go.Proofs.YtmdnbjhboppkdaaDoor.Pure
open Go.RowKit Go.Proofs.YtmdnbjhboppkdaaDoor.Q Go.Proofs.YtmdnbjhboppkdaaDoorW.PrintWords Go.Proofs.YtmdnbjhboppkdaaDoorW.PrintLast
set_option linter.unusedVariables false
set_option linter.unusedSimpArgs false
end Go.Proofs.YtmdnbjhboppkdaaDoor.Pure
namespace Go.Proofs.YtmdnbjhboppkdaaDoor.Pure
open Go.RowKit Go.Proofs.YtmdnbjhboppkdaaDoor.Q Go.Proofs.YtmdnbjhboppkdaaDoorW.PrintWords Go.Proofs.YtmdnbjhboppkdaaDoorW.PrintLast
set_option linter.unusedVariables false
set_option linter.unusedSimpArgs false
-- what is asked of a relation, element by element
theorem has2_ev {n : Int} {L : List Int} {i j : Nat} (hn : n ≤ 10) (hi : (i : Int) < n) (hj : (j : Int) < n) : Ev (fun k => impl_Order_has.f k n L [(i : Int), (j : Int)]) true := by
 unfold impl_Order_has.f
 rw [wrap64_id (by omega) (by omega)]
 exact Ev.bind (allWithin_ev 0 (n - 1) [(i : Int), (j : Int)] (by simp)) (Ev.ret (by simp; omega))
theorem IsBetter_ev {n : Int} {L : List Int} (h : relP n L) {i j : Nat} (hi : i < L.length) (hj : j < L.length) : Ev (fun k => impl_IsBetter.f k n L (i : Int) (j : Int)) (lt L i j, true) := by
 have h1 := h.1; have h2 := h.2.1
 unfold impl_IsBetter.f
 refine Ev.bind (isRelation_ev n L (by omega)) (Ev.pos (by simpa using h) (Ev.bind (has2_ev (by omega) (by omega) (by omega)) (Ev.pos rfl ?_)))
 exact Ev.bindc (better_f n L hi (h.set hi) (by omega)) (Ev.ret rfl)
end Go.Proofs.YtmdnbjhboppkdaaDoor.Pure
