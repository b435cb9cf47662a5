import Derived.Test.YtfpicdkanmgdoaaDoorBFnLevelRanks21
import Derived.Test.YtfpicdkanmgdoaaDoorBFnLevelRanks22
/- Levels have ranks in lexicographic order, as many as are counted, and linear refinements are the extensions, for every two strings of bytes. Condition: the listed variables, tied to the program's text by the card. -/
namespace Go.Proofs.YtfpicdkanmgdoaaDoor.Pure
open Go.RowKit Go.Proofs.YtfpicdkanmgdoaaDoor.Q Go.Proofs.YtfpicdkanmgdoaaDoorW.PrintWords Go.Proofs.YtfpicdkanmgdoaaDoorW.PrintLast
set_option linter.unusedVariables false
set_option linter.unusedSimpArgs false
open All
theorem ev_mono {α : Type} {g : Nat → Option α} (hm : ∀ k, LeO (g k) (g (k + 1))) {K : Nat} {r : α} (h : g K = some r) : Ev g r := by
 refine ⟨K, fun k hk => ?_⟩
 induction k with
 | zero => rw [show K = 0 by omega] at h; exact h
 | succ k ih =>
  by_cases e : K ≤ k
  ·exact hm k r (ih e)
  ·rw [show k + 1 = K by omega]; exact h
theorem fillR_ok (lv : List Int → Bool) (n : Nat) : ∀ (m : Nat) (l : List Int), ∀ x ∈ fillR lv n m l, lv x = true
 | 0, l, x, hx => by
  unfold fillR at hx
  split at hx
  ·rw [List.mem_singleton.1 hx]; assumption
  ·cases hx
 | m + 1, l, x, hx => by
  unfold fillR at hx
  obtain ⟨j, _, hj⟩ := List.mem_flatMap.1 hx
  exact fillR_ok lv n m _ x hj
theorem lvAll_lvl (n : Nat) (l : List Int) (h : l ∈ lvAll n) : lvlP l := by
 have := fillR_ok _ _ _ _ l h
 simpa using this
theorem weC (m : Nat) (hm : m < 8) : ∃ c, Ev (fun k => spec_weCount.f k (m : Int)) c ∧ 1 ≤ c ∧ c ≤ 47293 := by
 have h : ∀ m : Nat, m < 8 → spec_weCount.f 100 (m : Int) = some ([1, 1, 3, 13, 75, 541, 4683, 47293].getD m 0) := by decide +kernel
 have h2 : ∀ m : Nat, m < 8 → 1 ≤ ([1, 1, 3, 13, 75, 541, 4683, 47293].getD m 0 : Int) ∧ ([1, 1, 3, 13, 75, 541, 4683, 47293].getD m 0 : Int) ≤ 47293 := by decide +kernel
 exact ⟨_, ev_mono (fun k => spec_weCount.mono (m : Int) k) (h m hm), h2 m hm⟩
theorem wf_i64 {x : Int} (h0 : -9223372036854775808 ≤ x) (h1 : x ≤ 9223372036854775807) : (Lit.int .i64 x).wf = true := by
 have e1 : IntKind.min .i64 = -9223372036854775808 := by decide
 have e2 : IntKind.max .i64 = 9223372036854775807 := by decide
 simp only [Lit.wf, e1, e2, Bool.and_eq_true]
 exact ⟨decide_eq_true h0, decide_eq_true h1⟩
theorem drawLW {c : List Int} (hc : bytesP c) : ∃ n r, Ev (fun k => spec_DrawLevelsWith.f k c) (n, r) ∧ (-1 ≤ n ∧ n ≤ 7) ∧ -1 ≤ r ∧ r ≤ 47293 := by
 unfold spec_DrawLevelsWith.f
 obtain ⟨n, a1, s1, e1, hn, g1, g2⟩ := among_d hc (a := 0) 0 [0, 1, 2, 3, 4, 4, 5, 6, 7, (-1)] (by omega) (by omega) (by simp)
 have hn2 : -1 ≤ n ∧ n ≤ 7 := by simp at hn; omega
 have hm : spec_l1Most.f 0 n = some (((max 0 n).toNat : Nat) : Int) := by
  unfold spec_l1Most.f
  split
  ·rw [show (((max 0 n).toNat : Nat) : Int) = 0 by omega]
  ·rw [show (((max 0 n).toNat : Nat) : Int) = n by omega]
 obtain ⟨w, hw, w1, w2⟩ := weC (max 0 n).toNat (by omega)
 obtain ⟨x, a2, s2, e2, hx, g3, g4⟩ := pick_d hc (a := a1) s1 w (by omega) (by omega) w1
 obtain ⟨y, a3, s3, e3, hy, g5, g6⟩ := pick_d hc (a := a2) s2 w (by omega) (by omega) w1
 obtain ⟨r, a4, s4, e4, hr, g7, g8⟩ := among_d hc (a := a3) s3 [0, 1, wrap64 (w - 1), w, (-1), x, y] (by omega) (by omega) (by simp)
 refine ⟨n, r, Ev.bindc e1 (Ev.bindc hm (Ev.bind hw (Ev.bindc e2 (Ev.bindc e3 (Ev.bindc e4 (Ev.ret rfl)))))), hn2, ?_⟩
 rw [wrap64_id (by omega) (by omega)] at hr
 simp at hr
 omega
theorem CountWeak_same (a : Int) : ∃ r, Ev (fun k => impl_CountWeak.f k a) r ∧ Ev (fun k => spec_CountWeak.f k a) r := by
 have h : ∀ m : Nat, m < 11 → impl_CountWeak.f 100 (m : Int) = spec_CountWeak.f 100 (m : Int) ∧ (impl_CountWeak.f 100 (m : Int)).isSome = true := by decide +kernel
 by_cases h1 : 0 ≤ a ∧ a ≤ 10
 ·obtain ⟨h2, h3⟩ := h a.toNat (by omega)
  rw [show ((a.toNat : Nat) : Int) = a by omega] at h2 h3
  obtain ⟨r, hr⟩ := Option.isSome_iff_exists.1 h3
  exact ⟨r, ev_mono (fun k => impl_CountWeak.mono a k) hr, ev_mono (fun k => spec_CountWeak.mono a k) (h2 ▸ hr)⟩
 ·refine ⟨(0, false), ?_, ?_⟩
  ·unfold impl_CountWeak.f
   exact Ev.bindc (impl_in _ _ _) (Ev.neg (by simpa using h1) (Ev.ret rfl))
  ·unfold spec_CountWeak.f
   exact Ev.bindc (spec_in _ _ _) (Ev.neg (by simpa using h1) (Ev.ret rfl))
theorem lrTail {c : List Int} (hc : bytesP c) : Ev (fun k => laws_FnLevelRanks.j1 k c) true := by
 obtain ⟨m, a1, s1, e1, _, g1, g2⟩ := among_d hc (a := 0) 0 [0, 1, 2, 3, 5, 10, 11, (-1)] (by omega) (by omega) (by simp)
 have hd : spec_DrawCountWeak.f c = some m := by unfold spec_DrawCountWeak.f; rw [e1]; rfl
 obtain ⟨r, hi, hs⟩ := CountWeak_same m
 obtain ⟨n, a2, s2, e2, hn, g3, g4⟩ := among_d hc (a := 0) 0 [0, 1, 2, 3, 4, 4, 5, 6, 7] (by omega) (by omega) (by simp)
 have hn2 : 0 ≤ n ∧ n ≤ 7 := by simp at hn; omega
 obtain ⟨l, a3, s3, e3, hl, g5, g6⟩ := levels_d hc (a := a2) s2 n (by omega) (by omega) (by omega)
 have hd2 : Ev (fun k => spec_DrawRankLevels.f k c) l := by
  unfold spec_DrawRankLevels.f
  exact Ev.bindc e2 (Ev.bind e3 (Ev.ret rfl))
 refine Ev.shift ?_
 simp only [laws_FnLevelRanks.j1]
 exact Ev.bindc hd (Ev.bind hi (Ev.bind hs (Ev.bind hd2 (Ev.bind (iRankLevels l (by omega)) (Ev.bind (sRankLevels l (by omega)) (Ev.pos (by simp) (Ev.pos rfl (Ev.pos (by simp) (Ev.ret (by simp))))))))))
theorem lrMid {c : List Int} (hc : bytesP c) : Ev (fun k => laws_FnLevelRanks.j0 k c) true := by
 have ht := lrTail hc
 obtain ⟨n, a1, s1, e1, hn, g1, g2⟩ := elements_d hc (a := 0) 0 (by omega) (by omega)
 obtain ⟨l, a2, s2, e2, hl, g3, g4⟩ := levels_d hc (a := a1) s1 n (by omega) (by omega) (by omega)
 have hd : Ev (fun k => spec_DrawCountLinear.f k c) l := by
  have : Ev (fun k => spec_DrawAreLevels.f k c) l := by
   unfold spec_DrawAreLevels.f
   exact Ev.bindc e1 (Ev.bind e2 (Ev.ret rfl))
  unfold spec_DrawCountLinear.f
  exact Ev.bind this (Ev.ret rfl)
 obtain ⟨r, hi, hs⟩ := CountLinear_both l (by omega)
 refine Ev.shift ?_
 simp only [laws_FnLevelRanks.j0]
 refine Ev.bind hd (Ev.bind hi (Ev.bind hs (Ev.neg (by simp) (Ev.pos rfl ?_))))
 by_cases h : lvlP l
 ·have e := Ev.uniq hi (CountLinear_val h)
  subst e
  exact Ev.pos rfl (Ev.bind (iOrderOfLevels_yes h) (Ev.bind (ext_weak h) (Ev.pos rfl (Ev.pos rfl (Ev.pos rfl ht)))))
 ·have e : r.2 = false := by
   have hf : Ev (fun k => impl_CountLinear.f k l) (0, false) := by
    unfold impl_CountLinear.f
    exact Ev.bind (levels_impl l (by omega)) (Ev.neg (by simpa using h) (Ev.ret rfl))
   have e := Ev.uniq hi hf
   rw [e]
  exact Ev.neg (by rw [e]; simp) ht
theorem FnLevelRanks (l0 : List Int) (hm0 : l0.length ≤ maxLen) (hw0 : ∀ x ∈ l0, (Lit.int .u8 x).wf = true) (l1 : List Int) (hm1 : l1.length ≤ maxLen) (hw1 : ∀ x ∈ l1, (Lit.int .u8 x).wf = true) : ∃ k, laws_FnLevelRanks.f k l0 l1 = some true := by
 refine Ev.at1 ?_
 unfold laws_FnLevelRanks.f
 obtain ⟨b, hb⟩ := big_f l0 l1 hm0
 refine Ev.bindc hb ?_
 by_cases hbt : b = true
 ·exact Ev.pos hbt (Ev.ret rfl)
 refine Ev.neg hbt ?_
 have hj := lrMid (bytesP.of hw1)
 obtain ⟨n, r, hd, hn, hr1, hr2⟩ := drawLW (bytesP.of hw0)
 have hwf := wf_i64 (x := r) (by omega) (by omega)
 have hlen := levWith_len n r
 refine Ev.bind hd (Ev.bind (iLevelsWith n r hwf) (Ev.bind (sLevelsWith n r hwf) (Ev.neg (by simp) (Ev.bind (vSame_ev _ _ (by omega)) (Ev.pos (by simp) ?_)))))
 by_cases hok : (levWith n r).2 = true
 ·refine Ev.pos hok ?_
  have hc : (0 ≤ n ∧ n ≤ 6) ∧ (0 ≤ r ∧ r ≤ ((lvAll n.toNat).length : Int) - 1) := by
   unfold levWith at hok
   split at hok
   ·split at hok
    ·rename_i h1 h2; exact ⟨h1, h2⟩
    ·cases hok
   ·cases hok
  obtain ⟨hn2, hr⟩ := hc
  have hrl : r.toNat < (lvAll n.toNat).length := by omega
  have hat : ∀ q : Int, 0 ≤ q → (h : q.toNat < (lvAll n.toNat).length) → levWith n q = ((lvAll n.toNat)[q.toNat], true) := fun q h0 h => by
   obtain ⟨m, rfl⟩ : ∃ m : Nat, q = m := ⟨q.toNat, by omega⟩
   have h' : m < (lvAll n.toNat).length := h
   unfold levWith
   rw [if_pos hn2, if_pos (by omega), rdL_lt _ m h']
   rfl
  have hcount := lvAll_len n.toNat (by omega)
  have hw1 : wrap64 (r + 1) = r + 1 := wrap64_id (by omega) (by omega)
  have hl := hat r hr.1 hrl
  have hrow := lvAll_rows n.toNat _ (List.getElem_mem hrl)
  have hlv : lvlP (lvAll n.toNat)[r.toNat] := lvAll_lvl _ _ (List.getElem_mem hrl)
  have hrank : rankLv (lvAll n.toNat)[r.toNat] = (r, true) := by
   unfold rankLv
   rw [if_pos ⟨hlv, by omega⟩, hrow, rank_at n.toNat r.toNat hrl]
   simp; omega
  have hback := iRankLevels (lvAll n.toNat)[r.toNat] (by omega)
  rw [hrank] at hback
  have hcw := iCountWeak_low n.toNat (by omega)
  rw [show ((n.toNat : Nat) : Int) = n by omega] at hcw
  have hnext := iLevelsWith n (r + 1) (wf_i64 (by omega) (by omega))
  rw [hw1, hl]
  refine Ev.bind hback (Ev.bind hnext (Ev.bind hcw (Ev.pos rfl (Ev.pos rfl (Ev.pos rfl ?_)))))
  by_cases hlast : r + 1 < ((lvAll n.toNat).length : Int)
  ·have hrl2 : (r + 1).toNat < (lvAll n.toNat).length := by omega
   have hl2 := hat (r + 1) (by omega) hrl2
   have hrow2 := lvAll_rows n.toNat _ (List.getElem_mem hrl2)
   rw [hl2]
   refine Ev.neg (by simp [hlast]) (Ev.pos rfl (Ev.bind (vLess_ev (lvAll n.toNat)[r.toNat] (lvAll n.toNat)[(r + 1).toNat] (by rw [hrow, hrow2]) (by omega)) (Ev.pos ?_ hj)))
   exact lvAll_apart n.toNat (by omega) hrl2
  ·have hl2 : levWith n (r + 1) = ([], false) := by
    unfold levWith
    rw [if_pos hn2, if_neg (by omega)]
   rw [hl2]
   exact Ev.neg (by simp [hlast]) (Ev.neg (by simp) hj)
 ·exact Ev.neg hok hj
end Go.Proofs.YtfpicdkanmgdoaaDoor.Pure
