import Derived.Test.YtfpicdkanmgdoaaDoorBFnLevelRanks20
namespace Go.Proofs.YtfpicdkanmgdoaaDoor.Pure
open Go.RowKit Go.Proofs.YtfpicdkanmgdoaaDoor.Q Go.Proofs.YtfpicdkanmgdoaaDoorW.PrintWords Go.Proofs.YtfpicdkanmgdoaaDoorW.PrintLast
set_option linter.unusedVariables false
set_option linter.unusedSimpArgs false
open All
def lvAll (n : Nat) : List (List Int) := fillR (fun l => decide (lvlP l)) n n []
theorem lvAll_len (n : Nat) (hn : n ≤ 6) : (lvAll n).length ≤ 46656 := by
 have h1 := fillR_len (fun l => decide (lvlP l)) n n []
 have h2 : n ^ n ≤ 6 ^ 6 := Nat.le_trans (Nat.pow_le_pow_left hn _) (Nat.pow_le_pow_right (by omega) hn)
 unfold lvAll
 omega
theorem fillOk_ev (n : Nat) : ∀ (m : Nat) (l : List Int), l.length + m ≤ 1000 → ∃ K, ∀ k, K ≤ k → fillOk (impl_AreLevels.f k) n m l = true ∧ fillR (fun l => impl_AreLevels.f k l == some true) n m l = fillR (fun l => decide (lvlP l)) n m l
 | 0, l, hl => by
  obtain ⟨K, h⟩ := levels_impl l (by omega)
  refine ⟨K, fun k hk => ?_⟩
  have h1 : impl_AreLevels.f k l = some (decide (lvlP l)) := h k hk
  unfold fillOk fillR
  rw [h1]
  refine ⟨rfl, ?_⟩
  by_cases hc : lvlP l <;> simp [hc]
 | m + 1, l, hl => by
  have key : ∀ ys : List Nat, ∃ K, ∀ k, K ≤ k → (ys.all fun j : Nat => fillOk (impl_AreLevels.f k) n m (l ++ [(j : Int)])) = true ∧ ys.flatMap (fun j : Nat => fillR (fun l => impl_AreLevels.f k l == some true) n m (l ++ [(j : Int)])) = ys.flatMap (fun j : Nat => fillR (fun l => decide (lvlP l)) n m (l ++ [(j : Int)])) := by
   intro ys
   induction ys with
   | nil => exact ⟨0, fun _ _ => ⟨rfl, rfl⟩⟩
   | cons y ys ih =>
    obtain ⟨K1, h1⟩ := ih
    obtain ⟨K2, h2⟩ := fillOk_ev n m (l ++ [(y : Int)]) (by simp; omega)
    refine ⟨K1 + K2, fun k hk => ?_⟩
    obtain ⟨a1, a2⟩ := h1 k (by omega)
    obtain ⟨b1, b2⟩ := h2 k (by omega)
    rw [List.all_cons, List.flatMap_cons, List.flatMap_cons, a1, a2, b1, b2]
    exact ⟨rfl, rfl⟩
  exact key (List.range n)
theorem allLevels_ev (n : Nat) (hn : n ≤ 6) : Ev (fun k => impl_allLevels.f k (n : Int)) (lvAll n) := by
 obtain ⟨K, h⟩ := fillOk_ev n n [] (by simp; omega)
 refine ⟨K, fun k hk => ?_⟩
 obtain ⟨h1, h2⟩ := h k hk
 show impl_allLevels.f k (n : Int) = _
 unfold impl_allLevels.f
 rw [if_pos ⟨by omega, by omega, by rw [Int.toNat_natCast]; exact h1⟩, Int.toNat_natCast, h2]
 rfl
theorem weAll_l (n : Nat) (hn : n ≤ 6) (m : Nat) (l : List Int) (hl : l.length + (m + 1) = n) (ih : ∀ l : List Int, l.length + m = n → Ev (fun k => spec_weAll.f k l n) (fillR (fun l => decide (lvlP l)) n m l)) (d : Nat) :
  ∀ (i : Nat), i + d = n → Ev (fun k => spec_weAll.l0 k l n (fillTo (fun l => decide (lvlP l)) n m l i) i) (fillR (fun l => decide (lvlP l)) n (m + 1) l) := by
 have hp : ∀ j, j ≤ n → (fillTo (fun l => decide (lvlP l)) n m l j).length ≤ 46656 := by
  intro j hj
  have h1 := fillTo_len (fun l => decide (lvlP l)) n m l j
  have h2 : j * n ^ m ≤ 6 * 6 ^ 5 := Nat.mul_le_mul (by omega) (Nat.le_trans (Nat.pow_le_pow_left hn _) (Nat.pow_le_pow_right (by omega) (by omega)))
  omega
 induction d with
 | zero =>
  intro i hi
  refine Ev.shift ?_
  simp only [spec_weAll.l0]
  refine Ev.neg (by omega) (Ev.ret ?_)
  rw [show i = n by omega]
  rfl
 | succ d ihd =>
  intro i hi
  refine Ev.shift ?_
  simp only [spec_weAll.l0]
  have h1 := hp i (by omega)
  have h2 := hp (i + 1) (by omega)
  rw [fillTo_succ, List.length_append] at h2
  refine Ev.pos (by omega) (Ev.bindc (x := l) (by unfold spec_l1Own.f; simp; omega) (Ev.pos (by omega) (Ev.bind (ih (l ++ [(i : Int)]) (by simp; omega)) (Ev.pos (by omega) ?_))))
  rw [wrap64_id (by omega) (by omega), cast1, ← fillTo_succ]
  exact ihd (i + 1) (by omega)
theorem weAll_ev (n : Nat) (hn : n ≤ 6) : ∀ (m : Nat) (l : List Int), l.length + m = n → Ev (fun k => spec_weAll.f k l n) (fillR (fun l => decide (lvlP l)) n m l)
 | 0, l, hl => by
  refine Ev.shift ?_
  simp only [spec_weAll.f]
  refine Ev.pos (by omega) (Ev.bind (levels_spec l (by omega)) ?_)
  unfold fillR
  by_cases hc : lvlP l
  ·have e : (if decide (lvlP l) = true then [l] else ([] : List (List Int))) = [l] := by simp [hc]
   rw [e]
   exact Ev.pos (by simpa using hc) (Ev.bindc (x := l) (by unfold spec_l1Own.f; simp; omega) (Ev.ret rfl))
  ·have e : (if decide (lvlP l) = true then [l] else ([] : List (List Int))) = [] := by simp [hc]
   rw [e]
   exact Ev.neg (by simpa using hc) (Ev.ret rfl)
 | m + 1, l, hl => by
  refine Ev.shift ?_
  simp only [spec_weAll.f]
  refine Ev.neg (by omega) ?_
  have h := weAll_l n hn m l hl (weAll_ev n hn m) n 0 (by omega)
  rw [show fillTo (fun l => decide (lvlP l)) n m l 0 = [] by simp [fillTo]] at h
  exact h
theorem lvAll_rows (n : Nat) : ∀ l ∈ lvAll n, l.length = n := by
 have key : ∀ (m : Nat) (l : List Int), l.length + m = n → ∀ s ∈ fillR (fun l => decide (lvlP l)) n m l, s.length = n := by
  intro m
  induction m with
  | zero =>
   intro l hl s hs
   unfold fillR at hs
   split at hs
   ·rw [List.mem_singleton.1 hs]; omega
   ·cases hs
  | succ m ih =>
   intro l hl s hs
   unfold fillR at hs
   obtain ⟨j, _, hj⟩ := List.mem_flatMap.1 hs
   exact ih _ (by simp; omega) s hj
 exact key n [] (by simp)
end Go.Proofs.YtfpicdkanmgdoaaDoor.Pure
namespace Go.Proofs.YtfpicdkanmgdoaaDoor.Pure
open Go.RowKit Go.Proofs.YtfpicdkanmgdoaaDoor.Q Go.Proofs.YtfpicdkanmgdoaaDoorW.PrintWords Go.Proofs.YtfpicdkanmgdoaaDoorW.PrintLast
set_option linter.unusedVariables false
set_option linter.unusedSimpArgs false
theorem same_equal (k : Nat) : ∀ a b c d, spec_l1Same.l0 k a b c d = slices_Equal_int_int.l0 k a b c d := by
 induction k with
 | zero => intros; rfl
 | succ k ih => intros; simp only [spec_l1Same.l0, slices_Equal_int_int.l0, ih]
theorem equal_l (a b : List Int) (hl : a.length = b.length) (hb : a.length ≤ 1048576) (d : Nat) : ∀ i : Nat, i + d = a.length → a.take i = b.take i → Ev (fun k => slices_Equal_int_int.l0 k a b (a.length : Int) i) (decide (a = b)) := by
 induction d with
 | zero =>
  intro i hi ht
  refine Ev.shift ?_
  simp only [slices_Equal_int_int.l0]
  refine Ev.neg (by omega) (Ev.ret ?_)
  rw [List.take_of_length_le (by omega), List.take_of_length_le (by omega)] at ht
  simp [ht]
 | succ d ih =>
  intro i hi ht
  refine Ev.shift ?_
  simp only [slices_Equal_int_int.l0]
  refine Ev.pos (by omega) (Ev.pos (by omega) (Ev.pos (by omega) (Ev.pos (by omega) ?_)))
  rw [wrap64_id (by omega) (by omega), cast1]
  by_cases hc : rd a (i : Int) = rd b (i : Int)
  ·refine Ev.pos hc (ih (i + 1) (by omega) ?_)
   rw [rd_lt a i (by omega), rd_lt b i (by omega)] at hc
   rw [List.take_succ_eq_append_getElem (by omega), List.take_succ_eq_append_getElem (by omega), ht, hc]
  ·refine Ev.neg hc (Ev.ret ?_)
   have : a ≠ b := fun e => hc (by rw [e])
   simp [this]
theorem equal_impl (a b : List Int) (hb : a.length ≤ 1048576) : Ev (fun k => slices_Equal_int_int.f k a b) (decide (a = b)) := by
 unfold slices_Equal_int_int.f
 by_cases hl : a.length = b.length
 ·exact Ev.pos (by omega) (equal_l a b hl hb a.length 0 (by omega) (by simp))
 ·refine Ev.neg (by omega) (Ev.ret ?_)
  have : a ≠ b := fun e => hl (by rw [e])
  simp [this]
theorem equal_spec (a b : List Int) (hb : a.length ≤ 1048576) : Ev (fun k => spec_l1Same.f k a b) (decide (a = b)) := by
 have h := equal_impl a b hb
 unfold slices_Equal_int_int.f at h
 unfold spec_l1Same.f
 simpa [same_equal] using h
theorem rdL_lt (L : List (List Int)) (i : Nat) (h : i < L.length) : rd_L2 L (i : Int) = L[i] := by simp [rd_L2, h]
def rowsP (L : List (List Int)) : Prop := L.length ≤ 1048576 ∧ ∀ r ∈ L, r.length ≤ 1048576
theorem rowsP.at {L : List (List Int)} (h : rowsP L) {i : Nat} (hi : i < L.length) : (rd_L2 L (i : Int)).length ≤ 1048576 := by
 rw [rdL_lt L i hi]; exact h.2 _ (List.getElem_mem _)
end Go.Proofs.YtfpicdkanmgdoaaDoor.Pure
namespace Go.Proofs.YtfpicdkanmgdoaaDoor.Pure
open Go.RowKit Go.Proofs.YtfpicdkanmgdoaaDoor.Q Go.Proofs.YtfpicdkanmgdoaaDoorW.PrintWords Go.Proofs.YtfpicdkanmgdoaaDoorW.PrintLast
set_option linter.unusedVariables false
set_option linter.unusedSimpArgs false
open All
def fI (l : List Int) : List (List Int) → Int → Option Int
 | [], _ => none
 | u :: us, i => if u = l then some i else fI l us (i + 1)
theorem fI_some {l : List Int} : ∀ {L : List (List Int)} {i : Int}, l ∈ L → ∃ j, fI l L i = some j
 | [], _, h => by cases h
 | u :: us, i, h => by
  unfold fI
  by_cases hc : u = l
  ·exact ⟨i, by rw [if_pos hc]⟩
  ·rw [if_neg hc]
   rcases List.mem_cons.1 h with h | h
   ·exact absurd h.symm hc
   ·exact fI_some h
theorem fillR_mem (n : Nat) : ∀ (m : Nat) (l s : List Int), s.length = m → (∀ x ∈ s, 0 ≤ x ∧ x < n) → lvlP (l ++ s) → l ++ s ∈ fillR (fun l => decide (lvlP l)) n m l
 | 0, l, s, hs, hx, h => by
  rw [List.eq_nil_of_length_eq_zero hs, List.append_nil] at h ⊢
  unfold fillR
  rw [if_pos (by simpa using h)]
  simp
 | m + 1, l, [], hs, hx, h => by cases hs
 | m + 1, l, x :: s, hs, hx, h => by
  unfold fillR
  have h0 := hx x List.mem_cons_self
  refine List.mem_flatMap.2 ⟨x.toNat, List.mem_range.2 (by omega), ?_⟩
  rw [show ((x.toNat : Nat) : Int) = x by omega]
  have h2 := fillR_mem n m (l ++ [x]) s (by simpa using hs) (fun y hy => hx y (List.mem_cons_of_mem _ hy)) (by simpa using h)
  simpa using h2
theorem lvl_lt {l : List Int} (h : lvlP l) : ∀ x ∈ l, 0 ≤ x ∧ x < (l.length : Int) := by
 intro x hx
 have h1 := (lvl_iff l).1 h
 obtain ⟨i, hi, he⟩ := List.mem_iff_getElem.1 (mem_dif.2 hx)
 have h2 := h1.1 i hi
 rw [rd_lt (dif l) i hi, he] at h2
 have h3 := dif_length l
 omega
theorem lvAll_mem {l : List Int} (h : lvlP l) : l ∈ lvAll l.length := by
 have h1 := fillR_mem l.length l.length [] l rfl (lvl_lt h) (by simpa using h)
 unfold lvAll
 simpa using h1
theorem idx_l (L : List (List Int)) (hL : L.length ≤ 1048576) (l : List Int) (p : List Int → Option Bool) (hp : ∀ u ∈ L, p u = some (decide (u = l))) : ∀ (d k i : Nat), i + d = L.length → d + 1 ≤ k → slices_IndexFunc_int_int.l0 k L p (L.length : Int) (i : Int) = some ((fI l (L.drop i) (i : Int)).getD (-1))
 | 0, 0, i, hi, hk => by omega
 | d + 1, 0, i, hi, hk => by omega
 | 0, k + 1, i, hi, hk => by
  simp only [slices_IndexFunc_int_int.l0]
  rw [if_neg (by omega), List.drop_of_length_le (by omega)]
  rfl
 | d + 1, k + 1, i, hi, hk => by
  have hlt : i < L.length := by omega
  simp only [slices_IndexFunc_int_int.l0]
  rw [if_pos (by omega), if_pos (by omega), if_pos (by omega), rdL_lt L i hlt, hp _ (List.getElem_mem hlt), Option.bind_some, List.drop_eq_getElem_cons hlt]
  unfold fI
  by_cases hc : L[i] = l
  ·rw [if_pos (by simpa using hc), if_pos hc]; rfl
  ·rw [if_neg (by simpa using hc), if_neg hc, wrap64_id (by omega) (by omega), cast1]
   exact idx_l L hL l p hp d k (i + 1) (by omega) (by omega)
theorem lits_ev (l : List Int) : ∀ (L : List (List Int)), (∀ u ∈ L, u.length ≤ 1048576) → ∃ K, ∀ k, K ≤ k → ∀ u ∈ L, impl_RankLevels_1.f k u l = some (decide (u = l))
 | [], _ => ⟨0, fun _ _ u hu => by cases hu⟩
 | v :: L, h => by
  obtain ⟨K1, h1⟩ := lits_ev l L (fun u hu => h u (List.mem_cons_of_mem _ hu))
  obtain ⟨K2, h2⟩ := equal_impl v l (h v List.mem_cons_self)
  refine ⟨K1 + K2, fun k hk u hu => ?_⟩
  rcases List.mem_cons.1 hu with rfl | hu
  ·unfold impl_RankLevels_1.f
   rw [show slices_Equal_int_int.f k u l = some (decide (u = l)) from h2 k (by omega)]
   rfl
  ·exact h1 k (by omega) u hu
theorem indexFunc_ev (L : List (List Int)) (hL : L.length ≤ 1048576) (l : List Int) (h : ∀ u ∈ L, u.length ≤ 1048576) : Ev (fun k => slices_IndexFunc_int_int.f k L (fun u0_ => impl_RankLevels_1.f k u0_ l)) ((fI l L 0).getD (-1)) := by
 obtain ⟨K, hK⟩ := lits_ev l L h
 refine ⟨K + (L.length + 1), fun k hk => ?_⟩
 show slices_IndexFunc_int_int.f k L (fun u0_ => impl_RankLevels_1.f k u0_ l) = _
 unfold slices_IndexFunc_int_int.f
 have := idx_l L hL l (fun u0_ => impl_RankLevels_1.f k u0_ l) (hK k (by omega)) L.length k 0 (by omega) (by omega)
 simpa using this
theorem sIdx_l (L : List (List Int)) (hL : L.length ≤ 1048576) (l : List Int) (h : ∀ u ∈ L, u.length ≤ 1048576) (d : Nat) : ∀ i : Nat, i + d = L.length → Ev (fun k => spec_RankLevels.l0 k l L (L.length : Int) (i : Int)) ((fI l (L.drop i) (i : Int)).elim (0, false) (fun j => (j, true))) := by
 induction d with
 | zero =>
  intro i hi
  refine Ev.shift ?_
  simp only [spec_RankLevels.l0]
  refine Ev.neg (by omega) (Ev.ret ?_)
  rw [List.drop_of_length_le (by omega)]; rfl
 | succ d ih =>
  intro i hi
  have hlt : i < L.length := by omega
  refine Ev.shift ?_
  simp only [spec_RankLevels.l0]
  refine Ev.pos (by omega) (Ev.pos (by omega) (Ev.pos (by omega) ?_))
  rw [rdL_lt L i hlt]
  refine Ev.bind (equal_spec _ l (h _ (List.getElem_mem hlt))) ?_
  rw [wrap64_id (by omega) (by omega), cast1, List.drop_eq_getElem_cons hlt]
  by_cases hc : L[i] = l
  ·exact Ev.pos (by simpa using hc) (Ev.ret (by simp [fI, hc]))
  ·exact Ev.neg (by simpa using hc) (Ev.eq (ih (i + 1) (by omega)) (by simp [fI, hc]))
def rankLv (l : List Int) : Int × Bool := if lvlP l ∧ l.length ≤ 6 then ((fI l (lvAll l.length) 0).getD (-1), true) else (0, false)
theorem sRankLevels (l : List Int) (hl : l.length ≤ 1048576) : Ev (fun k => spec_RankLevels.f k l) (rankLv l) := by
 unfold spec_RankLevels.f rankLv
 refine Ev.bind (levels_spec l hl) ?_
 by_cases hc : lvlP l
 ·refine Ev.pos (by simpa using hc) (Ev.shift ?_)
  simp only [spec_RankLevels.j0]
  by_cases h6 : l.length ≤ 6
  ·rw [if_pos ⟨hc, h6⟩]
   have hw : Ev (fun k => spec_weAll.f k [] (l.length : Int)) (lvAll l.length) := weAll_ev l.length h6 l.length [] (by simp)
   have hn := lvAll_len l.length h6
   refine Ev.neg (by simp; omega) (Ev.bind hw ?_)
   have := sIdx_l (lvAll l.length) (by omega) l (fun u hu => by rw [lvAll_rows _ u hu]; omega) (lvAll l.length).length 0 (by omega)
   refine Ev.eq this ?_
   obtain ⟨j, hj⟩ := fI_some (i := 0) (lvAll_mem hc)
   rw [List.drop_zero, show ((0 : Nat) : Int) = 0 from rfl, hj]
   rfl
  ·rw [if_neg (fun e => h6 e.2)]
   exact Ev.pos (by simp; omega) (Ev.ret rfl)
 ·rw [if_neg (fun e => hc e.1)]
  refine Ev.neg (by simpa using hc) (Ev.shift ?_)
  simp only [spec_RankLevels.j0]
  exact Ev.pos trivial (Ev.ret rfl)
theorem iRankLevels (l : List Int) (hl : l.length ≤ 1048576) : Ev (fun k => impl_RankLevels.f k l) (rankLv l) := by
 unfold impl_RankLevels.f rankLv
 refine Ev.bind (levels_impl l hl) ?_
 by_cases hc : lvlP l
 ·refine Ev.pos (by simpa using hc) (Ev.shift ?_)
  simp only [impl_RankLevels.j0]
  by_cases h6 : l.length ≤ 6
  ·rw [if_pos ⟨hc, h6⟩]
   have hn := lvAll_len l.length h6
   exact Ev.neg (by simp; omega) (Ev.bind (allLevels_ev l.length h6) (Ev.bind (indexFunc_ev (lvAll l.length) (by omega) l (fun u hu => by rw [lvAll_rows _ u hu]; omega)) (Ev.ret rfl)))
  ·rw [if_neg (fun e => h6 e.2)]
   exact Ev.pos (by simp; omega) (Ev.ret rfl)
 ·rw [if_neg (fun e => hc e.1)]
  refine Ev.neg (by simpa using hc) (Ev.shift ?_)
  simp only [impl_RankLevels.j0]
  exact Ev.pos trivial (Ev.ret rfl)
def lexB : List Int → List Int → Bool
 | a :: s, b :: t => if a = b then lexB s t else decide (a < b)
 | _, _ => false
theorem lexB_app (l a b : List Int) : lexB (l ++ a) (l ++ b) = lexB a b := by
 induction l with
 | nil => rfl
 | cons x l ih => simp [lexB, ih]
theorem lexB_irr : ∀ a : List Int, lexB a a = false
 | [] => rfl
 | x :: a => by simp [lexB, lexB_irr a]
theorem fillR_begins (lv : List Int → Bool) (n : Nat) : ∀ (m : Nat) (l : List Int), ∀ x ∈ fillR lv n m l, ∃ s, x = l ++ s
 | 0, l, x, hx => by
  unfold fillR at hx
  split at hx
  ·exact ⟨[], by rw [List.mem_singleton.1 hx, List.append_nil]⟩
  ·cases hx
 | m + 1, l, x, hx => by
  unfold fillR at hx
  obtain ⟨j, _, hj⟩ := List.mem_flatMap.1 hx
  obtain ⟨s, hs⟩ := fillR_begins lv n m _ x hj
  exact ⟨(j : Int) :: s, by rw [hs]; simp⟩
theorem fillR_lex (lv : List Int → Bool) (n : Nat) : ∀ (m : Nat) (l : List Int), (fillR lv n m l).Pairwise (fun a b => lexB a b = true)
 | 0, l => by
  unfold fillR
  split
  ·exact List.pairwise_singleton _ _
  ·exact List.Pairwise.nil
 | m + 1, l => by
  unfold fillR
  rw [List.pairwise_flatMap]
  refine ⟨fun j _ => fillR_lex lv n m _, List.Pairwise.imp (fun {j j'} hlt x hx y hy => ?_) List.pairwise_lt_range⟩
  obtain ⟨s, rfl⟩ := fillR_begins lv n m _ x hx
  obtain ⟨t, rfl⟩ := fillR_begins lv n m _ y hy
  rw [List.append_assoc, List.append_assoc, lexB_app]
  simp only [List.singleton_append, lexB]
  rw [if_neg (by omega)]
  exact decide_eq_true (by omega)
theorem lvAll_lex (n : Nat) : (lvAll n).Pairwise (fun a b => lexB a b = true) := fillR_lex _ n n []
theorem lvAll_apart (n : Nat) {i j : Nat} (hi : i < j) (hj : j < (lvAll n).length) : lexB ((lvAll n)[i]'(by omega)) (lvAll n)[j] = true := List.pairwise_iff_getElem.1 (lvAll_lex n) i j (by omega) hj hi
theorem fI_at {l : List Int} : ∀ (L : List (List Int)) (i : Int) (r : Nat) (h : r < L.length), L[r] = l → (∀ q, (hq : q < r) → L[q] ≠ l) → fI l L i = some (i + r)
 | [], i, r, h, _, _ => by simp at h
 | u :: us, i, 0, h, he, _ => by
  unfold fI
  rw [if_pos (by simpa using he)]
  simp
 | u :: us, i, r + 1, h, he, hn => by
  unfold fI
  have h0 := hn 0 (by omega)
  rw [if_neg (by simpa using h0), fI_at us (i + 1) r (by simpa using h) (by simpa using he) (fun q hq => by have := hn (q + 1) (by omega); simpa using this)]
  congr 1
  omega
theorem rank_at (n : Nat) (r : Nat) (h : r < (lvAll n).length) : fI (lvAll n)[r] (lvAll n) 0 = some (r : Int) := by
 rw [fI_at (lvAll n) 0 r h rfl (fun q hq e => ?_)]
 ·congr 1; omega
 ·have := lvAll_apart n hq h
  rw [e, lexB_irr] at this
  cases this
end Go.Proofs.YtfpicdkanmgdoaaDoor.Pure
namespace Go.Proofs.YtfpicdkanmgdoaaDoor.Pure
open Go.RowKit Go.Proofs.YtfpicdkanmgdoaaDoor.Q Go.Proofs.YtfpicdkanmgdoaaDoorW.PrintWords Go.Proofs.YtfpicdkanmgdoaaDoorW.PrintLast
set_option linter.unusedVariables false
set_option linter.unusedSimpArgs false
theorem vLess_l (a b : List Int) (hab : a.length = b.length) (hl : a.length ≤ 1048576) (d : Nat) : ∀ i : Nat, i + d = a.length → Ev (fun k => laws_vLess.l0 k a b (a.length : Int) (i : Int)) (lexB (a.drop i) (b.drop i)) := by
 induction d with
 | zero =>
  intro i hi
  refine Ev.shift ?_
  simp only [laws_vLess.l0]
  refine Ev.neg (by omega) (Ev.ret ?_)
  rw [List.drop_of_length_le (by omega), List.drop_of_length_le (by omega)]; rfl
 | succ d ih =>
  intro i hi
  have h1 : i < a.length := by omega
  have h2 : i < b.length := by omega
  refine Ev.shift ?_
  simp only [laws_vLess.l0]
  refine Ev.pos (by omega) (Ev.pos (by omega) (Ev.pos (by omega) (Ev.pos (by omega) ?_)))
  rw [rd_lt a i h1, rd_lt b i h2, wrap64_id (by omega) (by omega), cast1, List.drop_eq_getElem_cons h1, List.drop_eq_getElem_cons h2]
  by_cases hc : a[i] = b[i]
  ·exact Ev.pos hc (Ev.eq (ih (i + 1) (by omega)) (by simp [lexB, hc]))
  ·exact Ev.neg hc (Ev.ret (by simp [lexB, hc]))
theorem vLess_ev (a b : List Int) (hab : a.length = b.length) (hl : a.length ≤ 1048576) : Ev (fun k => laws_vLess.f k a b) (lexB a b) := by
 unfold laws_vLess.f
 simpa using vLess_l a b hab hl a.length 0 (by omega)
-- the statements' own comparisons
theorem vSame_l (l m : List Int) (hlm : l.length = m.length) (hl : l.length ≤ 1048576) (d : Nat) : ∀ i : Nat, i + d = l.length → Ev (fun k => laws_vSame.l0 k l m (l.length : Int) (i : Int)) (l.drop i == m.drop i) := by
 induction d with
 | zero =>
  intro i hi
  refine Ev.shift ?_
  simp only [laws_vSame.l0]
  refine Ev.neg (by omega) (Ev.ret ?_)
  rw [List.drop_of_length_le (by omega), List.drop_of_length_le (by omega)]; rfl
 | succ d ih =>
  intro i hi
  have e := ih (i + 1) (by omega)
  have f1 : (i : Int) < l.length := by omega
  have f2 : (i : Int) < m.length := by omega
  refine Ev.shift ?_
  simp only [laws_vSame.l0]
  refine Ev.pos f1 (Ev.pos (by omega) (Ev.pos f1 (Ev.pos f2 ?_)))
  rw [wrap64_id (by omega) (by omega), cast1, drop_rd l i (by omega), drop_rd m i (by omega)]
  by_cases hc : rd l (i : Int) = rd m (i : Int)
  ·refine Ev.pos hc (Ev.eq e ?_)
   rw [hc]; simp
  ·refine Ev.neg hc (Ev.ret ?_)
   symm; rw [beq_eq_false_iff_ne]; intro h; exact hc (List.cons.inj h).1
theorem vSame_ev (l m : List Int) (hl : l.length ≤ 1048576) : Ev (fun k => laws_vSame.f k l m) (l == m) := by
 unfold laws_vSame.f
 by_cases h : (l.length : Int) = m.length
 ·refine Ev.pos h ?_
  simpa using vSame_l l m (by omega) hl l.length 0 (by omega)
 ·refine Ev.neg h (Ev.ret ?_)
  symm; rw [beq_eq_false_iff_ne]; intro e; exact h (by rw [e])
end Go.Proofs.YtfpicdkanmgdoaaDoor.Pure
namespace Go.Proofs.YtfpicdkanmgdoaaDoor.Pure
open Go.RowKit Go.Proofs.YtfpicdkanmgdoaaDoor.Q Go.Proofs.YtfpicdkanmgdoaaDoorW.PrintWords Go.Proofs.YtfpicdkanmgdoaaDoorW.PrintLast
set_option linter.unusedVariables false
set_option linter.unusedSimpArgs false
open All
def maskL (l : List Int) : Nat := l.foldl (fun s x => s ||| 2 ^ x.toNat) 0
theorem maskL_snoc (l : List Int) (j : Nat) : maskL (l ++ [(j : Int)]) = maskL l ||| 2 ^ j := by simp [maskL]
theorem maskL_foldl (i : Nat) : ∀ (l : List Int) (s : Nat), (∀ x ∈ l, 0 ≤ x) → ((l.foldl (fun s x => s ||| 2 ^ x.toNat) s).testBit i = true ↔ s.testBit i = true ∨ (i : Int) ∈ l)
 | [], s, h => by simp
 | x :: l, s, h => by
  have h0 := h x List.mem_cons_self
  rw [List.foldl_cons, maskL_foldl i l _ (fun y hy => h y (List.mem_cons_of_mem _ hy)), Nat.testBit_or, Bool.or_eq_true, Nat.testBit_two_pow, decide_eq_true_eq, List.mem_cons]
  constructor
  ·rintro ((h1 | h1) | h1)
   ·exact .inl h1
   ·exact .inr (.inl (by omega))
   ·exact .inr (.inr h1)
  ·rintro (h1 | h1 | h1)
   ·exact .inl (.inl h1)
   ·exact .inl (.inr (by omega))
   ·exact .inr h1
theorem maskL_bit (l : List Int) (h : ∀ x ∈ l, 0 ≤ x) (i : Nat) : (maskL l).testBit i = true ↔ (i : Int) ∈ l := by
 unfold maskL
 rw [maskL_foldl i l 0 h]
 simp
theorem maskL_lt (l : List Int) (h : ∀ x ∈ l, 0 ≤ x ∧ x < 6) : maskL l < 2 ^ 6 := by
 refine Nat.lt_pow_two_of_testBit _ (fun i hi => ?_)
 rw [Bool.eq_false_iff]
 intro h1
 have := h _ ((maskL_bit l (fun x hx => (h x hx).1) i).1 h1)
 omega
theorem low_mask : ∀ s : Nat, s < 64 → ((s &&& (s + 1) = 0) ↔ ∀ i, i < 6 → 0 < i → s.testBit i = true → s.testBit (i - 1) = true) := by decide +kernel
theorem lvl_mask (l : List Int) (hl : l.length ≤ 10) (h : ∀ x ∈ l, 0 ≤ x ∧ x < 6) : lvlP l ↔ maskL l &&& (maskL l + 1) = 0 := by
 have hb := maskL_bit l (fun x hx => (h x hx).1)
 rw [low_mask (maskL l) (maskL_lt l h)]
 constructor
 ·intro hc i h6 h0 h1
  rw [hb] at h1 ⊢
  have := hc.2.2 _ h1 (by omega)
  rw [show ((i - 1 : Nat) : Int) = (i : Int) - 1 by omega]
  exact this
 ·intro hc
  refine ⟨hl, fun x hx => by have := h x hx; omega, fun x hx h0 => ?_⟩
  have h1 := h x hx
  have h2 := hc x.toNat (by omega) (by omega) ((hb x.toNat).2 (by rw [show ((x.toNat : Nat) : Int) = x by omega]; exact hx))
  have h3 := (hb (x.toNat - 1)).1 h2
  rw [show ((x.toNat - 1 : Nat) : Int) = x - 1 by omega] at h3
  exact h3
def cntM (n : Nat) : Nat → Nat → Nat
 | 0, s => if s &&& (s + 1) = 0 then 1 else 0
 | m + 1, s => ((List.range n).map fun j => cntM n m (s ||| 2 ^ j)).sum
theorem fillR_cnt (n : Nat) (hn : n ≤ 6) : ∀ (m : Nat) (l : List Int), l.length + m ≤ 10 → (∀ x ∈ l, 0 ≤ x ∧ x < 6) → (fillR (fun l => decide (lvlP l)) n m l).length = cntM n m (maskL l)
 | 0, l, hl, h => by
  unfold fillR cntM
  have := lvl_mask l (by omega) h
  by_cases hc : lvlP l
  ·rw [if_pos (by simpa using hc), if_pos (this.1 hc)]; rfl
  ·rw [if_neg (by simpa using hc), if_neg (fun e => hc (this.2 e))]; rfl
 | m + 1, l, hl, h => by
  unfold fillR cntM
  rw [List.length_flatMap]
  congr 1
  refine List.map_congr_left (fun j hj => ?_)
  have hj := List.mem_range.1 hj
  rw [fillR_cnt n hn m (l ++ [(j : Int)]) (by simp; omega) (fun x hx => ?_), maskL_snoc]
  rcases List.mem_append.1 hx with hx | hx
  ·exact h x hx
  ·rw [List.mem_singleton.1 hx]; omega
theorem lvAll_count : ∀ n : Nat, n ≤ 6 → (lvAll n).length = [1, 1, 3, 13, 75, 541, 4683].getD n 0 := by
 have key : ∀ n : Nat, n < 7 → cntM n n 0 = [1, 1, 3, 13, 75, 541, 4683].getD n 0 := by decide +kernel
 intro n hn
 unfold lvAll
 rw [fillR_cnt n hn n [] (by simp; omega) (by simp)]
 exact key n (by omega)
end Go.Proofs.YtfpicdkanmgdoaaDoor.Pure
namespace Go.Proofs.YtfpicdkanmgdoaaDoor.Pure
open Go.RowKit Go.Proofs.YtfpicdkanmgdoaaDoor.Q Go.Proofs.YtfpicdkanmgdoaaDoorW.PrintWords Go.Proofs.YtfpicdkanmgdoaaDoorW.PrintLast
set_option linter.unusedVariables false
set_option linter.unusedSimpArgs false
theorem iCountWeak_low (n : Nat) (hn : n ≤ 6) : Ev (fun k => impl_CountWeak.f k (n : Int)) (((lvAll n).length : Int), true) := by
 rw [lvAll_count n hn]
 have h : ∀ k, 100 ≤ k → ∀ r, impl_CountWeak.f 100 (n : Int) = some r → impl_CountWeak.f k (n : Int) = some r := by
  intro k hk r hr
  induction k with
  | zero => omega
  | succ k ih =>
   by_cases h : 100 ≤ k
   ·exact impl_CountWeak.mono (n : Int) k _ (ih h)
   ·rw [show k + 1 = 100 by omega]; exact hr
 have h2 : ∀ m : Nat, m < 7 → impl_CountWeak.f 100 (m : Int) = some ((([1, 1, 3, 13, 75, 541, 4683].getD m 0 : Nat) : Int), true) := by decide +kernel
 exact ⟨100, fun k hk => h k hk _ (h2 n (by omega))⟩
end Go.Proofs.YtfpicdkanmgdoaaDoor.Pure
namespace Go.Proofs.YtfpicdkanmgdoaaDoor.Pure
open Go.RowKit Go.Proofs.YtfpicdkanmgdoaaDoor.Q Go.Proofs.YtfpicdkanmgdoaaDoorW.PrintWords Go.Proofs.YtfpicdkanmgdoaaDoorW.PrintLast
set_option linter.unusedVariables false
set_option linter.unusedSimpArgs false
open All
def levWith (n r : Int) : List Int × Bool := if 0 ≤ n ∧ n ≤ 6 then (if 0 ≤ r ∧ r ≤ ((lvAll n.toNat).length : Int) - 1 then (rd_L2 (lvAll n.toNat) r, true) else ([], false)) else ([], false)
theorem levWith_len (n r : Int) : (levWith n r).1.length ≤ 6 := by
 unfold levWith
 split
 ·rename_i h
  split
  ·rename_i h2
   have h3 : r.toNat < (lvAll n.toNat).length := by omega
   have h4 := lvAll_rows n.toNat ((lvAll n.toNat)[r.toNat]) (List.getElem_mem _)
   simp only [rd_L2, List.getD_eq_getElem?_getD, List.getElem?_eq_getElem h3, Option.getD_some]
   omega
  ·simp
 ·simp
theorem sLevelsWith (n r : Int) (hr : (Lit.int .i64 r).wf = true) : Ev (fun k => spec_LevelsWith.f k n r) (levWith n r) := by
 unfold spec_LevelsWith.f levWith
 refine Ev.bindc (spec_in _ _ _) ?_
 by_cases hc : 0 ≤ n ∧ n ≤ 6
 ·have hw : Ev (fun k => spec_weAll.f k [] ((n.toNat : Nat) : Int)) (lvAll n.toNat) := weAll_ev n.toNat (by omega) n.toNat [] (by simp)
  rw [show ((n.toNat : Nat) : Int) = n by omega] at hw
  have hl := lvAll_len n.toNat (by omega)
  rw [if_pos hc]
  refine Ev.pos (by simpa using hc) (Ev.bind hw (Ev.bindc (spec_in _ _ _) ?_))
  rw [wrap64_id (by omega) (by omega)]
  show Ev (fun k => if decide (0 ≤ r ∧ r ≤ ((lvAll n.toNat).length : Int) - 1) = true then _ else _) _
  by_cases h2 : 0 ≤ r ∧ r ≤ ((lvAll n.toNat).length : Int) - 1
  ·rw [if_pos h2]
   exact Ev.pos (by simpa using h2) (Ev.pos h2.1 (Ev.pos (show r < ((lvAll n.toNat).length : Int) by omega) (Ev.ret rfl)))
  ·rw [if_neg h2]
   exact Ev.neg (by simpa using h2) (Ev.ret rfl)
 ·rw [if_neg hc]
  exact Ev.neg (by simpa using hc) (Ev.ret rfl)
theorem iLevelsWith (n r : Int) (hr : (Lit.int .i64 r).wf = true) : Ev (fun k => impl_LevelsWith.f k n r) (levWith n r) := by
 unfold impl_LevelsWith.f levWith
 refine Ev.bindc (impl_in _ _ _) ?_
 by_cases hc : 0 ≤ n ∧ n ≤ 6
 ·have hw := allLevels_ev n.toNat (by omega)
  rw [show ((n.toNat : Nat) : Int) = n by omega] at hw
  have hl := lvAll_len n.toNat (by omega)
  rw [if_pos hc]
  refine Ev.pos (by simpa using hc) (Ev.bind hw (Ev.bindc (impl_in _ _ _) ?_))
  rw [wrap64_id (by omega) (by omega)]
  by_cases h2 : 0 ≤ r ∧ r ≤ ((lvAll n.toNat).length : Int) - 1
  ·rw [if_pos h2]
   exact Ev.pos (by simpa using h2) (Ev.pos h2.1 (Ev.pos (show r < ((lvAll n.toNat).length : Int) by omega) (Ev.ret rfl)))
  ·rw [if_neg h2]
   exact Ev.neg (by simpa using h2) (Ev.ret rfl)
 ·rw [if_neg hc]
  exact Ev.neg (by simpa using hc) (Ev.ret rfl)
end Go.Proofs.YtfpicdkanmgdoaaDoor.Pure
