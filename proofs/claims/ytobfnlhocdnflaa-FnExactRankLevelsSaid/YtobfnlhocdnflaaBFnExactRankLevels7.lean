import Derived.Test.YtobfnlhocdnflaaBFnExactRankLevels6
namespace Go.Proofs.Ytobfnlhocdnflaa.Pure
open Go.RowKit Go.Proofs.Ytobfnlhocdnflaa.Q Go.Proofs.YtobfnlhocdnflaaW.PrintWords Go.Proofs.YtobfnlhocdnflaaW.PrintLast
set_option linter.unusedVariables false
set_option linter.unusedSimpArgs false
theorem all_l (a b : Int) (l : List Int) (hl : l.length ≤ 1048576) (d : Nat) : ∀ i : Nat, i + d = l.length → Ev (fun k => spec_l1All.l0 k a b l (l.length : Int) i) (decide (∀ x ∈ l.drop i, a ≤ x ∧ x ≤ b)) := by
 induction d with
 | zero =>
  intro i hi
  refine Ev.shift ?_
  simp only [spec_l1All.l0]
  refine Ev.neg (by omega) (Ev.ret ?_)
  rw [List.drop_of_length_le (by omega)]; simp
 | succ d ih =>
  intro i hi
  refine Ev.shift ?_
  simp only [spec_l1All.l0]
  refine Ev.pos (by omega) (Ev.pos (by omega) (Ev.pos (by omega) (Ev.bindc (spec_in _ _ _) ?_)))
  rw [wrap64_id (by omega) (by omega), cast1, drop_rd l i (by omega)]
  by_cases hc : a ≤ rd l (i : Int) ∧ rd l (i : Int) ≤ b
  ·exact Ev.pos (by simpa using hc) (Ev.eq (ih (i + 1) (by omega)) (by simp [hc]))
  ·refine Ev.neg (by simpa using hc) (Ev.ret ?_)
   symm; rw [decide_eq_false_iff_not]; intro h; exact hc (h _ (by simp))
theorem all_spec (a b : Int) (l : List Int) (hl : l.length ≤ 1048576) : Ev (fun k => spec_l1All.f k l a b) (decide (∀ x ∈ l, a ≤ x ∧ x ≤ b)) := by
 unfold spec_l1All.f
 simpa using all_l a b l hl l.length 0 (by omega)
theorem has_l (a : Int) (l : List Int) (hl : l.length ≤ 1048576) (d : Nat) : ∀ i : Nat, i + d = l.length → Ev (fun k => spec_l1Has.l0 k a l (l.length : Int) i) (decide (a ∈ l.drop i)) := by
 induction d with
 | zero =>
  intro i hi
  refine Ev.shift ?_
  simp only [spec_l1Has.l0]
  refine Ev.neg (by omega) (Ev.ret ?_)
  rw [List.drop_of_length_le (by omega)]; simp
 | succ d ih =>
  intro i hi
  refine Ev.shift ?_
  simp only [spec_l1Has.l0]
  refine Ev.pos (by omega) (Ev.pos (by omega) (Ev.pos (by omega) ?_))
  rw [wrap64_id (by omega) (by omega), cast1, drop_rd l i (by omega)]
  by_cases hc : rd l (i : Int) = a
  ·exact Ev.pos hc (Ev.ret (by simp [hc]))
  ·exact Ev.neg hc (Ev.eq (ih (i + 1) (by omega)) (by simp [Ne.symm hc]))
theorem has_spec (a : Int) (l : List Int) (hl : l.length ≤ 1048576) : Ev (fun k => spec_l1Has.f k l a) (decide (a ∈ l)) := by
 unfold spec_l1Has.f
 simpa using has_l a l hl l.length 0 (by omega)
def lvlP (l : List Int) : Prop := l.length ≤ 10 ∧ (∀ x ∈ l, 0 ≤ x ∧ x ≤ 10) ∧ ∀ x ∈ l, 0 < x → x - 1 ∈ l
instance (l : List Int) : Decidable (lvlP l) := by unfold lvlP; infer_instance
theorem weLevels_l (l : List Int) (hl : l.length ≤ 10) (hr : ∀ x ∈ l, 0 ≤ x ∧ x ≤ 10) (d : Nat) : ∀ i : Nat, i + d = l.length → Ev (fun k => spec_weLevels.l0 k l l (l.length : Int) i) (decide (∀ x ∈ l.drop i, 0 < x → x - 1 ∈ l)) := by
 induction d with
 | zero =>
  intro i hi
  refine Ev.shift ?_
  simp only [spec_weLevels.l0]
  refine Ev.neg (by omega) (Ev.ret ?_)
  rw [List.drop_of_length_le (by omega)]; simp
 | succ d ih =>
  intro i hi
  have hx := hr (rd l (i : Int)) (by rw [rd_lt l i (by omega)]; exact List.getElem_mem _)
  refine Ev.shift ?_
  simp only [spec_weLevels.l0]
  refine Ev.pos (by omega) (Ev.pos (by omega) (Ev.pos (by omega) ?_))
  rw [wrap64_id (x := (i : Int) + 1) (by omega) (by omega), wrap64_id (x := rd l (i : Int) - 1) (by omega) (by omega), cast1, drop_rd l i (by omega)]
  by_cases h0 : rd l (i : Int) > 0
  ·refine Ev.pos h0 (Ev.bind (has_spec _ l (by omega)) ?_)
   by_cases hm : rd l (i : Int) - 1 ∈ l
   ·exact Ev.pos (by simpa using hm) (Ev.eq (ih (i + 1) (by omega)) (by simp [hm]))
   ·refine Ev.neg (by simpa using hm) (Ev.ret ?_)
    symm; rw [decide_eq_false_iff_not]; intro h; exact hm (h _ (by simp) h0)
  ·exact Ev.neg h0 (Ev.eq (ih (i + 1) (by omega)) (by
    congr 1
    rw [eq_iff_iff]
    constructor
    ·intro h x hx hp
     rcases List.mem_cons.1 hx with rfl | hx
     ·omega
     ·exact h x hx hp
    ·intro h x hx hp; exact h x (List.mem_cons_of_mem _ hx) hp))
theorem levels_spec (l : List Int) (hl : l.length ≤ 1048576) : Ev (fun k => spec_weLevels.f k l) (decide (lvlP l)) := by
 unfold spec_weLevels.f
 by_cases h : (l.length : Int) > 10
 ·refine Ev.pos h (Ev.shift ?_)
  simp only [spec_weLevels.j0]
  refine Ev.pos (by simp) (Ev.ret ?_)
  symm; rw [decide_eq_false_iff_not]; intro h'; have := h'.1; omega
 ·refine Ev.neg h (Ev.bind (all_spec 0 10 l hl) (Ev.shift ?_))
  simp only [spec_weLevels.j0]
  by_cases hr : ∀ x ∈ l, 0 ≤ x ∧ x ≤ 10
  ·rw [decide_eq_true hr]
   refine Ev.neg (by simp) (Ev.eq (weLevels_l l (by omega) hr l.length 0 (by omega)) ?_)
   rw [Bool.eq_iff_iff, decide_eq_true_iff, decide_eq_true_iff]
   exact ⟨fun h' => ⟨by omega, hr, by simpa using h'⟩, fun h' => by simpa using h'.2.2⟩
  ·rw [decide_eq_false hr]
   refine Ev.pos (by simp) (Ev.ret ?_)
   symm; rw [decide_eq_false_iff_not]; exact fun h' => hr h'.2.1
theorem lvl_fill {l : List Int} (h : lvlP l) : ∃ n : Nat, n ≤ 10 ∧ ∀ x, x ∈ l ↔ 0 ≤ x ∧ x < n := by
 obtain ⟨h1, h2, h3⟩ := h
 have down : ∀ (d : Nat) (x : Int), x ∈ l → ∀ y, 0 ≤ y → y + d = x → y ∈ l := by
  intro d
  induction d with
  | zero => intro x hx y hy e; rw [show y = x by omega]; exact hx
  | succ d ih =>
   intro x hx y hy e
   exact ih (x - 1) (h3 x hx (by omega)) y hy (by omega)
 have hmax : ∀ m : Nat, (∀ x ∈ l, x < m) → ∃ n : Nat, n ≤ m ∧ ∀ x, x ∈ l ↔ 0 ≤ x ∧ x < n := by
  intro m
  induction m with
  | zero => intro hx; exact ⟨0, by omega, fun x => ⟨fun h => by have := hx x h; have := h2 x h; omega, fun h => by omega⟩⟩
  | succ m ih =>
   intro hx
   by_cases hm : (m : Int) ∈ l
   ·refine ⟨m + 1, by omega, fun x => ⟨fun h => ⟨(h2 x h).1, hx x h⟩, fun h => ?_⟩⟩
    exact down (m - x).toNat m hm x h.1 (by omega)
   ·obtain ⟨n, hn, h⟩ := ih (fun x hx' => by
     have := hx x hx'
     have : x ≠ m := fun e => hm (e ▸ hx')
     omega)
    exact ⟨n, by omega, h⟩
 obtain ⟨n, hn, h⟩ := hmax 11 (fun x hx => by have := h2 x hx; omega)
 refine ⟨n, ?_, h⟩
 have e := dif_iota h
 have := dif_length l
 rw [e, iota_length] at this
 omega
theorem lvl_iff (l : List Int) : lvlP l ↔ (∀ m : Nat, m < (dif l).length → rd (dif l) (m : Int) = m) ∧ l.length ≤ 10 := by
 constructor
 ·intro h
  obtain ⟨n, hn, hx⟩ := lvl_fill h
  refine ⟨fun m hm => ?_, h.1⟩
  rw [rd_lt _ m hm]
  simp [dif_iota hx, iota]
 ·rintro ⟨h1, h2⟩
  have hd := dif_length l
  have key : ∀ x, x ∈ l ↔ 0 ≤ x ∧ x < (dif l).length := by
   intro x
   rw [← mem_dif, List.mem_iff_getElem]
   constructor
   ·rintro ⟨m, hm, rfl⟩
    have := h1 m hm
    rw [rd_lt _ m hm] at this
    omega
   ·intro h
    refine ⟨x.toNat, by omega, ?_⟩
    have := h1 x.toNat (by omega)
    rw [rd_lt _ _ (by omega)] at this
    omega
  exact ⟨h2, fun x hx => by have := (key x).1 hx; omega, fun x hx h0 => (key (x - 1)).2 (by have := (key x).1 hx; omega)⟩
theorem areLevels_l (l D : List Int) (hD : D.length ≤ 1048576) (d : Nat) : ∀ i : Nat, i + d = D.length → ∃ r, Ev (fun k => impl_AreLevels.l0 k l D (D.length : Int) i) r ∧ (r = true ↔ (∀ m : Nat, i ≤ m → m < D.length → rd D (m : Int) = m) ∧ l.length ≤ 10) := by
 induction d with
 | zero =>
  intro i hi
  refine ⟨decide ((l.length : Int) ≤ 10), Ev.shift ?_, ?_⟩
  ·simp only [impl_AreLevels.l0]
   exact Ev.neg (by omega) (Ev.ret rfl)
  ·rw [decide_eq_true_iff]
   exact ⟨fun h => ⟨fun m h1 h2 => by omega, by omega⟩, fun h => by omega⟩
 | succ d ih =>
  intro i hi
  obtain ⟨r, hr, hq⟩ := ih (i + 1) (by omega)
  by_cases hc : rd D (i : Int) = i
  ·refine ⟨r, Ev.shift ?_, hq.trans ⟨fun h => ⟨fun m h1 h2 => ?_, h.2⟩, fun h => ⟨fun m h1 h2 => h.1 m (by omega) h2, h.2⟩⟩⟩
   ·simp only [impl_AreLevels.l0]
    refine Ev.pos (by omega) (Ev.pos (by omega) (Ev.pos (by omega) ?_))
    rw [wrap64_id (by omega) (by omega), cast1]
    exact Ev.pos hc hr
   ·by_cases e : m = i
    ·subst e; exact hc
    ·exact h.1 m (by omega) h2
  ·refine ⟨false, Ev.shift ?_, ?_⟩
   ·simp only [impl_AreLevels.l0]
    exact Ev.pos (by omega) (Ev.pos (by omega) (Ev.pos (by omega) (Ev.neg hc (Ev.ret rfl))))
   ·simp only [Bool.false_eq_true, false_iff]
    intro h; exact hc (h.1 i (Nat.le_refl _) (by omega))
theorem levels_impl (l : List Int) (hl : l.length ≤ 1048576) : Ev (fun k => impl_AreLevels.f k l) (decide (lvlP l)) := by
 unfold impl_AreLevels.f
 obtain ⟨r, hr, hq⟩ := areLevels_l l (dif l) (by have := dif_length l; omega) (dif l).length 0 (by omega)
 refine Ev.bindc (different_f l hl) (Ev.eq hr ?_)
 rw [Bool.eq_iff_iff, decide_eq_true_iff, lvl_iff, hq]
 exact ⟨fun h => ⟨fun m hm => h.1 m (Nat.zero_le _) hm, h.2⟩, fun h => ⟨fun m _ hm => h.1 m hm, h.2⟩⟩
end Go.Proofs.Ytobfnlhocdnflaa.Pure
namespace Go.Proofs.Ytobfnlhocdnflaa.Pure
open Go.RowKit Go.Proofs.Ytobfnlhocdnflaa.Q Go.Proofs.YtobfnlhocdnflaaW.PrintWords Go.Proofs.YtobfnlhocdnflaaW.PrintLast
set_option linter.unusedVariables false
set_option linter.unusedSimpArgs false
open All
def lvAll (n : Nat) : List (List Int) := fillR (fun l => decide (lvlP l)) n n []
theorem lvAll_len (n : Nat) (hn : n ≤ 6) : (lvAll n).length ≤ 46656 := by
 have h1 := fillR_len (fun l => decide (lvlP l)) n n []
 have h2 : n ^ n ≤ 6 ^ 6 := Nat.le_trans (Nat.pow_le_pow_left hn _) (Nat.pow_le_pow_right (by omega) hn)
 unfold lvAll
 omega
theorem fillOk_ev (n : Nat) : ∀ (m : Nat) (l : List Int), l.length + m ≤ 1000 → ∃ K, ∀ k, K ≤ k → fillOk (impl_AreLevels.f k) n m l = true ∧ fillR (fun l => impl_AreLevels.f k l == some true) n m l = fillR (fun l => decide (lvlP l)) n m l
 | 0, l, hl => by
  obtain ⟨K, h⟩ := levels_impl l (by omega)
  refine ⟨K, fun k hk => ?_⟩
  have h1 : impl_AreLevels.f k l = some (decide (lvlP l)) := h k hk
  unfold fillOk fillR
  rw [h1]
  refine ⟨rfl, ?_⟩
  by_cases hc : lvlP l <;> simp [hc]
 | m + 1, l, hl => by
  have key : ∀ ys : List Nat, ∃ K, ∀ k, K ≤ k → (ys.all fun j : Nat => fillOk (impl_AreLevels.f k) n m (l ++ [(j : Int)])) = true ∧ ys.flatMap (fun j : Nat => fillR (fun l => impl_AreLevels.f k l == some true) n m (l ++ [(j : Int)])) = ys.flatMap (fun j : Nat => fillR (fun l => decide (lvlP l)) n m (l ++ [(j : Int)])) := by
   intro ys
   induction ys with
   | nil => exact ⟨0, fun _ _ => ⟨rfl, rfl⟩⟩
   | cons y ys ih =>
    obtain ⟨K1, h1⟩ := ih
    obtain ⟨K2, h2⟩ := fillOk_ev n m (l ++ [(y : Int)]) (by simp; omega)
    refine ⟨K1 + K2, fun k hk => ?_⟩
    obtain ⟨a1, a2⟩ := h1 k (by omega)
    obtain ⟨b1, b2⟩ := h2 k (by omega)
    rw [List.all_cons, List.flatMap_cons, List.flatMap_cons, a1, a2, b1, b2]
    exact ⟨rfl, rfl⟩
  exact key (List.range n)
theorem allLevels_ev (n : Nat) (hn : n ≤ 6) : Ev (fun k => impl_allLevels.f k (n : Int)) (lvAll n) := by
 obtain ⟨K, h⟩ := fillOk_ev n n [] (by simp; omega)
 refine ⟨K, fun k hk => ?_⟩
 obtain ⟨h1, h2⟩ := h k hk
 show impl_allLevels.f k (n : Int) = _
 unfold impl_allLevels.f
 rw [if_pos ⟨by omega, by omega, by rw [Int.toNat_natCast]; exact h1⟩, Int.toNat_natCast, h2]
 rfl
theorem weAll_l (n : Nat) (hn : n ≤ 6) (m : Nat) (l : List Int) (hl : l.length + (m + 1) = n) (ih : ∀ l : List Int, l.length + m = n → Ev (fun k => spec_weAll.f k l n) (fillR (fun l => decide (lvlP l)) n m l)) (d : Nat) :
  ∀ (i : Nat), i + d = n → Ev (fun k => spec_weAll.l0 k l n (fillTo (fun l => decide (lvlP l)) n m l i) i) (fillR (fun l => decide (lvlP l)) n (m + 1) l) := by
 have hp : ∀ j, j ≤ n → (fillTo (fun l => decide (lvlP l)) n m l j).length ≤ 46656 := by
  intro j hj
  have h1 := fillTo_len (fun l => decide (lvlP l)) n m l j
  have h2 : j * n ^ m ≤ 6 * 6 ^ 5 := Nat.mul_le_mul (by omega) (Nat.le_trans (Nat.pow_le_pow_left hn _) (Nat.pow_le_pow_right (by omega) (by omega)))
  omega
 induction d with
 | zero =>
  intro i hi
  refine Ev.shift ?_
  simp only [spec_weAll.l0]
  refine Ev.neg (by omega) (Ev.ret ?_)
  rw [show i = n by omega]
  rfl
 | succ d ihd =>
  intro i hi
  refine Ev.shift ?_
  simp only [spec_weAll.l0]
  have h1 := hp i (by omega)
  have h2 := hp (i + 1) (by omega)
  rw [fillTo_succ, List.length_append] at h2
  refine Ev.pos (by omega) (Ev.bindc (x := l) (by unfold spec_l1Own.f; simp; omega) (Ev.pos (by omega) (Ev.bind (ih (l ++ [(i : Int)]) (by simp; omega)) (Ev.pos (by omega) ?_))))
  rw [wrap64_id (by omega) (by omega), cast1, ← fillTo_succ]
  exact ihd (i + 1) (by omega)
theorem weAll_ev (n : Nat) (hn : n ≤ 6) : ∀ (m : Nat) (l : List Int), l.length + m = n → Ev (fun k => spec_weAll.f k l n) (fillR (fun l => decide (lvlP l)) n m l)
 | 0, l, hl => by
  refine Ev.shift ?_
  simp only [spec_weAll.f]
  refine Ev.pos (by omega) (Ev.bind (levels_spec l (by omega)) ?_)
  unfold fillR
  by_cases hc : lvlP l
  ·have e : (if decide (lvlP l) = true then [l] else ([] : List (List Int))) = [l] := by simp [hc]
   rw [e]
   exact Ev.pos (by simpa using hc) (Ev.bindc (x := l) (by unfold spec_l1Own.f; simp; omega) (Ev.ret rfl))
  ·have e : (if decide (lvlP l) = true then [l] else ([] : List (List Int))) = [] := by simp [hc]
   rw [e]
   exact Ev.neg (by simpa using hc) (Ev.ret rfl)
 | m + 1, l, hl => by
  refine Ev.shift ?_
  simp only [spec_weAll.f]
  refine Ev.neg (by omega) ?_
  have h := weAll_l n hn m l hl (weAll_ev n hn m) n 0 (by omega)
  rw [show fillTo (fun l => decide (lvlP l)) n m l 0 = [] by simp [fillTo]] at h
  exact h
end Go.Proofs.Ytobfnlhocdnflaa.Pure
/- RankLevels answers what the reference answers, for every list of at most 2^20 numbers (longer ones the statement lets pass). Conditions: none. -/
namespace Go.Proofs.Ytobfnlhocdnflaa.Pure
open Go.RowKit Go.Proofs.Ytobfnlhocdnflaa.Q Go.Proofs.YtobfnlhocdnflaaW.PrintWords Go.Proofs.YtobfnlhocdnflaaW.PrintLast
set_option linter.unusedVariables false
set_option linter.unusedSimpArgs false
open All
def fI (l : List Int) : List (List Int) → Int → Option Int
 | [], _ => none
 | u :: us, i => if u = l then some i else fI l us (i + 1)
theorem fI_some {l : List Int} : ∀ {L : List (List Int)} {i : Int}, l ∈ L → ∃ j, fI l L i = some j
 | [], _, h => by cases h
 | u :: us, i, h => by
  unfold fI
  by_cases hc : u = l
  ·exact ⟨i, by rw [if_pos hc]⟩
  ·rw [if_neg hc]
   rcases List.mem_cons.1 h with h | h
   ·exact absurd h.symm hc
   ·exact fI_some h
theorem fillR_mem (n : Nat) : ∀ (m : Nat) (l s : List Int), s.length = m → (∀ x ∈ s, 0 ≤ x ∧ x < n) → lvlP (l ++ s) → l ++ s ∈ fillR (fun l => decide (lvlP l)) n m l
 | 0, l, s, hs, hx, h => by
  rw [List.eq_nil_of_length_eq_zero hs, List.append_nil] at h ⊢
  unfold fillR
  rw [if_pos (by simpa using h)]
  simp
 | m + 1, l, [], hs, hx, h => by cases hs
 | m + 1, l, x :: s, hs, hx, h => by
  unfold fillR
  have h0 := hx x List.mem_cons_self
  refine List.mem_flatMap.2 ⟨x.toNat, List.mem_range.2 (by omega), ?_⟩
  rw [show ((x.toNat : Nat) : Int) = x by omega]
  have h2 := fillR_mem n m (l ++ [x]) s (by simpa using hs) (fun y hy => hx y (List.mem_cons_of_mem _ hy)) (by simpa using h)
  simpa using h2
theorem lvl_lt {l : List Int} (h : lvlP l) : ∀ x ∈ l, 0 ≤ x ∧ x < (l.length : Int) := by
 intro x hx
 have h1 := (lvl_iff l).1 h
 obtain ⟨i, hi, he⟩ := List.mem_iff_getElem.1 (mem_dif.2 hx)
 have h2 := h1.1 i hi
 rw [rd_lt (dif l) i hi, he] at h2
 have h3 := dif_length l
 omega
theorem lvAll_mem {l : List Int} (h : lvlP l) : l ∈ lvAll l.length := by
 have h1 := fillR_mem l.length l.length [] l rfl (lvl_lt h) (by simpa using h)
 unfold lvAll
 simpa using h1
theorem idx_l (L : List (List Int)) (hL : L.length ≤ 1048576) (l : List Int) (p : List Int → Option Bool) (hp : ∀ u ∈ L, p u = some (decide (u = l))) : ∀ (d k i : Nat), i + d = L.length → d + 1 ≤ k → slices_IndexFunc_int_int.l0 k L p (L.length : Int) (i : Int) = some ((fI l (L.drop i) (i : Int)).getD (-1))
 | 0, 0, i, hi, hk => by omega
 | d + 1, 0, i, hi, hk => by omega
 | 0, k + 1, i, hi, hk => by
  simp only [slices_IndexFunc_int_int.l0]
  rw [if_neg (by omega), List.drop_of_length_le (by omega)]
  rfl
 | d + 1, k + 1, i, hi, hk => by
  have hlt : i < L.length := by omega
  simp only [slices_IndexFunc_int_int.l0]
  rw [if_pos (by omega), if_pos (by omega), if_pos (by omega), rdL_lt L i hlt, hp _ (List.getElem_mem hlt), Option.bind_some, List.drop_eq_getElem_cons hlt]
  unfold fI
  by_cases hc : L[i] = l
  ·rw [if_pos (by simpa using hc), if_pos hc]; rfl
  ·rw [if_neg (by simpa using hc), if_neg hc, wrap64_id (by omega) (by omega), cast1]
   exact idx_l L hL l p hp d k (i + 1) (by omega) (by omega)
theorem lits_ev (l : List Int) : ∀ (L : List (List Int)), (∀ u ∈ L, u.length ≤ 1048576) → ∃ K, ∀ k, K ≤ k → ∀ u ∈ L, impl_RankLevels_1.f k u l = some (decide (u = l))
 | [], _ => ⟨0, fun _ _ u hu => by cases hu⟩
 | v :: L, h => by
  obtain ⟨K1, h1⟩ := lits_ev l L (fun u hu => h u (List.mem_cons_of_mem _ hu))
  obtain ⟨K2, h2⟩ := equal_impl v l (h v List.mem_cons_self)
  refine ⟨K1 + K2, fun k hk u hu => ?_⟩
  rcases List.mem_cons.1 hu with rfl | hu
  ·unfold impl_RankLevels_1.f
   rw [show slices_Equal_int_int.f k u l = some (decide (u = l)) from h2 k (by omega)]
   rfl
  ·exact h1 k (by omega) u hu
theorem indexFunc_ev (L : List (List Int)) (hL : L.length ≤ 1048576) (l : List Int) (h : ∀ u ∈ L, u.length ≤ 1048576) : Ev (fun k => slices_IndexFunc_int_int.f k L (fun u0_ => impl_RankLevels_1.f k u0_ l)) ((fI l L 0).getD (-1)) := by
 obtain ⟨K, hK⟩ := lits_ev l L h
 refine ⟨K + (L.length + 1), fun k hk => ?_⟩
 show slices_IndexFunc_int_int.f k L (fun u0_ => impl_RankLevels_1.f k u0_ l) = _
 unfold slices_IndexFunc_int_int.f
 have := idx_l L hL l (fun u0_ => impl_RankLevels_1.f k u0_ l) (hK k (by omega)) L.length k 0 (by omega) (by omega)
 simpa using this
theorem sIdx_l (L : List (List Int)) (hL : L.length ≤ 1048576) (l : List Int) (h : ∀ u ∈ L, u.length ≤ 1048576) (d : Nat) : ∀ i : Nat, i + d = L.length → Ev (fun k => spec_RankLevels.l0 k l L (L.length : Int) (i : Int)) ((fI l (L.drop i) (i : Int)).elim (0, false) (fun j => (j, true))) := by
 induction d with
 | zero =>
  intro i hi
  refine Ev.shift ?_
  simp only [spec_RankLevels.l0]
  refine Ev.neg (by omega) (Ev.ret ?_)
  rw [List.drop_of_length_le (by omega)]; rfl
 | succ d ih =>
  intro i hi
  have hlt : i < L.length := by omega
  refine Ev.shift ?_
  simp only [spec_RankLevels.l0]
  refine Ev.pos (by omega) (Ev.pos (by omega) (Ev.pos (by omega) ?_))
  rw [rdL_lt L i hlt]
  refine Ev.bind (equal_spec _ l (h _ (List.getElem_mem hlt))) ?_
  rw [wrap64_id (by omega) (by omega), cast1, List.drop_eq_getElem_cons hlt]
  by_cases hc : L[i] = l
  ·exact Ev.pos (by simpa using hc) (Ev.ret (by simp [fI, hc]))
  ·exact Ev.neg (by simpa using hc) (Ev.eq (ih (i + 1) (by omega)) (by simp [fI, hc]))
def rankLv (l : List Int) : Int × Bool := if lvlP l ∧ l.length ≤ 6 then ((fI l (lvAll l.length) 0).getD (-1), true) else (0, false)
theorem lvAll_rows (n : Nat) : ∀ l ∈ lvAll n, l.length = n := by
 have key : ∀ (m : Nat) (l : List Int), l.length + m = n → ∀ s ∈ fillR (fun l => decide (lvlP l)) n m l, s.length = n := by
  intro m
  induction m with
  | zero =>
   intro l hl s hs
   unfold fillR at hs
   split at hs
   ·rw [List.mem_singleton.1 hs]; omega
   ·cases hs
  | succ m ih =>
   intro l hl s hs
   unfold fillR at hs
   obtain ⟨j, _, hj⟩ := List.mem_flatMap.1 hs
   exact ih _ (by simp; omega) s hj
 exact key n [] (by simp)
theorem sRankLevels (l : List Int) (hl : l.length ≤ 1048576) : Ev (fun k => spec_RankLevels.f k l) (rankLv l) := by
 unfold spec_RankLevels.f rankLv
 refine Ev.bind (levels_spec l hl) ?_
 by_cases hc : lvlP l
 ·refine Ev.pos (by simpa using hc) (Ev.shift ?_)
  simp only [spec_RankLevels.j0]
  by_cases h6 : l.length ≤ 6
  ·rw [if_pos ⟨hc, h6⟩]
   have hw : Ev (fun k => spec_weAll.f k [] (l.length : Int)) (lvAll l.length) := weAll_ev l.length h6 l.length [] (by simp)
   have hn := lvAll_len l.length h6
   refine Ev.neg (by simp; omega) (Ev.bind hw ?_)
   have := sIdx_l (lvAll l.length) (by omega) l (fun u hu => by rw [lvAll_rows _ u hu]; omega) (lvAll l.length).length 0 (by omega)
   refine Ev.eq this ?_
   obtain ⟨j, hj⟩ := fI_some (i := 0) (lvAll_mem hc)
   rw [List.drop_zero, show ((0 : Nat) : Int) = 0 from rfl, hj]
   rfl
  ·rw [if_neg (fun e => h6 e.2)]
   exact Ev.pos (by simp; omega) (Ev.ret rfl)
 ·rw [if_neg (fun e => hc e.1)]
  refine Ev.neg (by simpa using hc) (Ev.shift ?_)
  simp only [spec_RankLevels.j0]
  exact Ev.pos trivial (Ev.ret rfl)
theorem iRankLevels (l : List Int) (hl : l.length ≤ 1048576) : Ev (fun k => impl_RankLevels.f k l) (rankLv l) := by
 unfold impl_RankLevels.f rankLv
 refine Ev.bind (levels_impl l hl) ?_
 by_cases hc : lvlP l
 ·refine Ev.pos (by simpa using hc) (Ev.shift ?_)
  simp only [impl_RankLevels.j0]
  by_cases h6 : l.length ≤ 6
  ·rw [if_pos ⟨hc, h6⟩]
   have hn := lvAll_len l.length h6
   exact Ev.neg (by simp; omega) (Ev.bind (allLevels_ev l.length h6) (Ev.bind (indexFunc_ev (lvAll l.length) (by omega) l (fun u hu => by rw [lvAll_rows _ u hu]; omega)) (Ev.ret rfl)))
  ·rw [if_neg (fun e => h6 e.2)]
   exact Ev.pos (by simp; omega) (Ev.ret rfl)
 ·rw [if_neg (fun e => hc e.1)]
  refine Ev.neg (by simpa using hc) (Ev.shift ?_)
  simp only [impl_RankLevels.j0]
  exact Ev.pos trivial (Ev.ret rfl)
theorem FnExactRankLevels : laws_FnExactRankLevels.Pure := by
 intro l h1 h2 h3
 refine Ev.at1 ?_
 unfold laws_FnExactRankLevels.f
 by_cases hb : (l.length : Int) > 1048576
 ·exact Ev.pos hb (Ev.ret rfl)
 ·have hl : l.length ≤ 1048576 := by omega
  refine Ev.neg hb (Ev.bind (toIntS l hl) (Ev.bind (sRankLevels l hl) (Ev.bind (toIntS l hl) (Ev.bind (iRankLevels l hl) ?_))))
  refine Ev.pos rfl ?_
  refine Ev.shift ?_
  simp only [laws_FnExactRankLevels.j0]
  exact Ev.neg (by simp) (Ev.bind (toIntS l hl) (Ev.bind (eqIntS_same l hl) (Ev.pos rfl (Ev.ret rfl))))
end Go.Proofs.Ytobfnlhocdnflaa.Pure
