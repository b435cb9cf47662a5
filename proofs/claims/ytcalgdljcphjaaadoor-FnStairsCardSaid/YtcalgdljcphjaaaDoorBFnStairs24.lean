import Derived.Test.YtcalgdljcphjaaaDoorBFnStairs18
import Derived.Test.YtcalgdljcphjaaaDoorBFnStairs23
/- Stairs are semiorders without names, as many as are counted, and names change no stair, for every two strings of bytes. Condition: the listed variables, tied to the program's text by the card. -/
namespace Go.Proofs.YtcalgdljcphjaaaDoor.Pure
open Go.RowKit Go.Proofs.YtcalgdljcphjaaaDoor.Q Go.Proofs.YtcalgdljcphjaaaDoorW.PrintWords Go.Proofs.YtcalgdljcphjaaaDoorW.PrintLast
set_option linter.unusedVariables false
set_option linter.unusedSimpArgs false
theorem stair_d1 {c : List Int} (x4 a s : Int) (d : Nat) : ∀ l : List Int, l.length + d = 11 → ∃ r, Ev (fun k => spec_l1Cur_stair.l1 k l x4 c a s) (r, a, s) ∧ r.length ≤ 11 := by
 induction d generalizing x4 with
 | zero =>
  intro l hl
  refine ⟨l, Ev.shift ?_, by omega⟩
  simp only [spec_l1Cur_stair.l1]
  exact Ev.neg (by omega) (Ev.ret rfl)
 | succ d ih =>
  intro l hl
  obtain ⟨r, h1, h2⟩ := ih x4 (l ++ [x4]) (by simp; omega)
  refine ⟨r, Ev.shift ?_, h2⟩
  simp only [spec_l1Cur_stair.l1]
  exact Ev.pos (by omega) (Ev.pos (by omega) h1)
theorem stair_d0 {c : List Int} (hc : bytesP c) (d : Nat) : ∀ (l : List Int) (x4 a s : Int), l.length + d ≤ 10 → 0 ≤ x4 → x4 ≤ (l.length : Int) → 0 ≤ a → a + 4 * d ≤ 1000 → ∃ r a' s', Ev (fun k => spec_l1Cur_stair.l0 k l x4 (d : Int) c a s) (r, a', s') ∧ r.length ≤ 12 := by
 induction d with
 | zero =>
  intro l x4 a s hl h4 h5 h0 h1
  obtain ⟨b, a1, s1, e1, hb, h6, h7⟩ := pick_d hc (a := a) s 16 (by omega) (by omega) (by omega)
  by_cases hb0 : b = 0
  ·obtain ⟨v, a2, s2, e2, _, _, _⟩ := among_d hc (a := a1) s1 [-1, 0, wrap64 ((l.length : Int) + 1), (l.length : Int)] (by omega) (by omega) (by simp)
   refine ⟨l ++ [v], a2, s2, Ev.shift ?_, by simp; omega⟩
   simp only [spec_l1Cur_stair.l0]
   exact Ev.neg (by omega) (Ev.bindc e1 (Ev.pos hb0 (Ev.bindc e2 (Ev.pos (by omega) (Ev.ret rfl)))))
  ·by_cases hb1 : b = 1
   ·obtain ⟨r, r1, r2⟩ := stair_d1 (c := c) x4 a1 s1 (11 - l.length) l (by omega)
    refine ⟨r, a1, s1, Ev.shift ?_, by omega⟩
    simp only [spec_l1Cur_stair.l0]
    exact Ev.neg (by omega) (Ev.bindc e1 (Ev.neg hb0 (Ev.pos hb1 r1)))
   ·refine ⟨l, a1, s1, Ev.shift ?_, by omega⟩
    simp only [spec_l1Cur_stair.l0]
    exact Ev.neg (by omega) (Ev.bindc e1 (Ev.neg hb0 (Ev.neg hb1 (Ev.ret rfl))))
 | succ d ih =>
  intro l x4 a s hl h4 h5 h0 h1
  obtain ⟨m, hm, hm0, hm1⟩ : ∃ m : Int, spec_l1Least.f 3 (wrap64 ((wrap64 ((l.length : Int) - x4)) + 1)) = some m ∧ 1 ≤ m ∧ m ≤ (l.length : Int) - x4 + 1 := by
   rw [wrap64_id (x := (l.length : Int) - x4) (by omega) (by omega), wrap64_id (by omega) (by omega)]
   unfold spec_l1Least.f
   by_cases hc2 : 3 < (l.length : Int) - x4 + 1
   ·exact ⟨3, if_pos hc2, by omega, by omega⟩
   ·exact ⟨(l.length : Int) - x4 + 1, if_neg hc2, by omega, by omega⟩
  obtain ⟨p, a1, s1, e1, hp, h6, h7⟩ := pick_d hc (a := a) s m (by omega) (by omega) hm0
  have hw : wrap64 (x4 + p) = x4 + p := wrap64_id (by omega) (by omega)
  obtain ⟨r, a2, s2, r1, r2⟩ := ih (l ++ [x4 + p]) (x4 + p) a1 s1 (by simp; omega) (by omega) (by simp; omega) (by omega) (by omega)
  refine ⟨r, a2, s2, Ev.shift ?_, r2⟩
  simp only [spec_l1Cur_stair.l0]
  refine Ev.pos (by omega) (Ev.bindc hm (Ev.bindc e1 (Ev.pos (by omega) ?_)))
  rw [hw, wrap64_id (x := ((d + 1 : Nat) : Int) - 1) (by omega) (by omega), show ((d + 1 : Nat) : Int) - 1 = (d : Int) by omega]
  exact r1
theorem drawStair {c : List Int} (hc : bytesP c) : ∃ r, Ev (fun k => spec_DrawOrderOfStair.f k c) r ∧ r.length ≤ 12 := by
 obtain ⟨t, a1, s1, e1, ht, h1, h2⟩ := among_d hc (a := 0) 0 [4, 7, 11] (by omega) (by omega) (by simp)
 have ht2 : 1 ≤ t ∧ t ≤ 11 := by
  simp only [List.mem_cons, List.not_mem_nil, or_false] at ht
  omega
 obtain ⟨p, a2, s2, e2, hp, h3, h4⟩ := pick_d hc (a := a1) s1 t (by omega) (by omega) (by omega)
 obtain ⟨r, a3, s3, r1, r2⟩ := stair_d0 hc p.toNat [] 0 a2 s2 (by simp; omega) (by omega) (by simp) (by omega) (by omega)
 rw [show ((p.toNat : Nat) : Int) = p by omega] at r1
 refine ⟨r, ?_, r2⟩
 unfold spec_DrawOrderOfStair.f spec_DrawIsStair.f spec_l1Cur_stair.f
 exact Ev.bind (Ev.bind (Ev.bindc e1 (Ev.bindc e2 r1)) (Ev.ret rfl)) (Ev.ret rfl)
theorem vNumber_l {b : List Int} (hb : bytesP b) (hl : b.length ≤ maxLen) (d : Nat) : ∀ (i : Nat) (x : Int), i + d = b.length → 0 ≤ x → x < 1000003 → ∃ y, Ev (fun k => laws_vNumber.l0 k x b (b.length : Int) (i : Int)) y ∧ 0 ≤ y ∧ y < 1000003 := by
 have hm : maxLen = 9223372036854775807 := rfl
 induction d with
 | zero =>
  intro i x hi h0 h1
  refine ⟨x, Ev.shift ?_, h0, h1⟩
  simp only [laws_vNumber.l0]
  exact Ev.neg (by omega) (Ev.ret rfl)
 | succ d ih =>
  intro i x hi h0 h1
  have hr := hb.rd (i := (i : Int)) (by omega) (by omega)
  have hw : Int.tmod (wrap64 ((wrap64 (31 * x)) + (wrap64 (rd b (i : Int))))) 1000003 = (31 * x + rd b (i : Int)) % 1000003 := by
   rw [wrap64_id (x := 31 * x) (by omega) (by omega), wrap64_id (x := rd b (i : Int)) (by omega) (by omega), wrap64_id (by omega) (by omega), Int.tmod_eq_emod_of_nonneg (by omega)]
  obtain ⟨y, y1, y2, y3⟩ := ih (i + 1) ((31 * x + rd b (i : Int)) % 1000003) (by omega) (by omega) (by omega)
  refine ⟨y, Ev.shift ?_, y2, y3⟩
  simp only [laws_vNumber.l0]
  rw [hw, wrap64_id (x := (i : Int) + 1) (by omega) (by omega), cast1]
  exact Ev.pos (by omega) (Ev.pos (by omega) (Ev.pos (by omega) y1))
theorem vNumber_ev {b : List Int} (hb : bytesP b) (hl : b.length ≤ maxLen) : ∃ y, Ev (fun k => laws_vNumber.f k b) y ∧ 0 ≤ y ∧ y < 1000003 := by
 unfold laws_vNumber.f
 exact vNumber_l hb hl b.length 0 0 (by omega) (by omega) (by omega)
def ring (n k i : Nat) : List Int := (List.range i).map fun j => (((j + k) % n : Nat) : Int)
theorem ring_nam {n : Nat} (hn : n ≤ 10) (k : Nat) : namP (n : Int) (ring n k n) := by
 have hm : ∀ x ∈ ring n k n, 0 ≤ x ∧ x ≤ (n : Int) - 1 := fun x hx => by
  obtain ⟨j, hj, rfl⟩ := List.mem_map.1 hx
  have := List.mem_range.1 hj
  have := Nat.mod_lt (j + k) (show n > 0 by omega)
  omega
 refine ⟨by simp [ring], hm, ?_⟩
 obtain ⟨s1, s2⟩ := setL_bits (l := ring n k n) (fun y hy => by have := hm y hy; omega)
 have hf := set_full (n := n) hn
 refine set_ext s1 hf.1 (fun m hm10 => ?_)
 rw [s2, hf.2, decide_eq_decide]
 constructor
 ·intro h
  have := hm _ h
  omega
 ·intro hmn
  have hc : k % n < n := Nat.mod_lt _ (by omega)
  have hk := Nat.div_add_mod k n
  by_cases hle : k % n ≤ m
  ·refine List.mem_map.2 ⟨m - k % n, List.mem_range.2 (by omega), ?_⟩
   have : m - k % n + k = m + n * (k / n) := by omega
   rw [this, Nat.add_mul_mod_self_left, Nat.mod_eq_of_lt hmn]
  ·refine List.mem_map.2 ⟨m + n - k % n, List.mem_range.2 (by omega), ?_⟩
   have : m + n - k % n + k = m + n * (k / n + 1) := by rw [Nat.mul_add, Nat.mul_one]; omega
   rw [this, Nat.add_mul_mod_self_left, Nat.mod_eq_of_lt hmn]
section
variable {l : List Int}
theorem lawL0 (h : stP l) (c : List Int) (K : Nat) (hK : K < 1000003) (hj : Ev (fun k => laws_FnStairs.j1 k c) true) (d : Nat) : ∀ i : Nat, i + d = l.length → Ev (fun k => laws_FnStairs.l0 k c l (l.length : Int) (K : Int) (ring l.length K i) (i : Int) (l.length : Int) (stO l)) true := by
 have h10 := h.2
 induction d with
 | zero =>
  intro i hi
  obtain rfl : i = l.length := by omega
  have hN := ring_nam (n := l.length) (by omega) K
  have hlen : (ring l.length K l.length).length = l.length := by simp [ring]
  have hr := iRename (l.length : Int) (stO l) (ring l.length K l.length) (by rw [stO_length]; omega) (by omega)
  unfold renRes at hr
  rw [if_pos ⟨stO_rel h, hN⟩] at hr
  have h22 := stO_22 h
  have h31 := stO_31 h
  rw [← stO_length l] at h22 h31
  have hs := ren_stair (b := l) (N := ring l.length K l.length) (stO_order h) (by rw [stO_length]; exact hN) h22 h31 (by rw [st_back h]) (st_sorted h)
  refine Ev.shift ?_
  simp only [laws_FnStairs.l0]
  exact Ev.neg (by omega) (Ev.bind hr (Ev.bind hs (Ev.pos rfl (Ev.pos rfl (Ev.bind (vSame_ev l l (by omega)) (Ev.pos (by simp) hj))))))
 | succ d ih =>
  intro i hi
  have hnext := ih (i + 1) (by omega)
  have hlen : (ring l.length K i).length = i := by simp [ring]
  have e : ring l.length K i ++ [Int.tmod (wrap64 ((i : Int) + (K : Int))) (l.length : Int)] = ring l.length K (i + 1) := by
   unfold ring
   rw [List.range_succ, List.map_append, wrap64_id (by omega) (by omega), Int.tmod_eq_emod_of_nonneg (by omega)]
   rfl
  refine Ev.shift ?_
  simp only [laws_FnStairs.l0]
  rw [e, wrap64_id (x := (i : Int) + 1) (by omega) (by omega), cast1]
  exact Ev.pos (by omega) (Ev.neg (by omega) (Ev.pos (by omega) hnext))
end
theorem lawJ1 {c : List Int} (hc : bytesP c) : Ev (fun k => laws_FnStairs.j1 k c) true := by
 obtain ⟨n, a1, s1, e1, hn, _, _⟩ := among_d hc (a := 0) 0 [0, 1, 2, 3, 4, 5, 6, 7, -1] (by omega) (by omega) (by simp)
 obtain ⟨m, a2, s2, e2, hm, _, _⟩ := among_d hc (a := 0) 0 [0, 1, 2, 3, 5, 10, 11, -1] (by omega) (by omega) (by simp)
 have d1 : spec_DrawStairsOf.f c = some n := by unfold spec_DrawStairsOf.f; rw [e1]; rfl
 have d2 : spec_DrawCountStairs.f c = some m := by unfold spec_DrawCountStairs.f; rw [e2]; rfl
 have hend : Ev (fun k => (spec_DrawCountStairs.f c).bind fun t587 => ((impl_CountStairs.f t587).bind fun bt588 => ((spec_CountStairs.f k t587).bind fun bt590 => (if (bt588.2 == bt590.2) = true then (some (bt588.1 == bt590.1)) else (none))))) true :=
  Ev.bindc d2 (Ev.bindc (iCountStairs m) (Ev.bind (sCountStairs m) (Ev.pos (by simp) (Ev.ret (by simp)))))
 refine Ev.shift ?_
 simp only [laws_FnStairs.j1]
 refine Ev.bindc d1 (Ev.bindc (iStairsOf n) (Ev.bind (sStairsOf n) (Ev.neg (by simp) ?_)))
 by_cases h : 0 ≤ n ∧ n ≤ 6
 ·have hr := every_rows (n := n.toNat) (by omega)
  have hcat := every_cat ⟨n.toNat, by omega⟩
  simp only at hcat
  unfold allRes
  rw [if_pos h]
  refine Ev.bind (vLists_ev _ hr) (Ev.pos rfl (Ev.pos rfl (Ev.bindc (iCountStairs n) ?_)))
  unfold cntRes
  rw [if_pos ⟨h.1, by omega⟩]
  exact Ev.pos rfl (Ev.pos hcat.symm hend)
 ·unfold allRes
  rw [if_neg h]
  exact Ev.bind (vLists_ev [] ⟨by simp, by simp⟩) (Ev.pos rfl (Ev.neg (by simp) hend))
theorem FnStairs (l0 : List Int) (hm0 : l0.length ≤ maxLen) (hw0 : ∀ x ∈ l0, (Lit.int .u8 x).wf = true) (l1 : List Int) (hm1 : l1.length ≤ maxLen) (hw1 : ∀ x ∈ l1, (Lit.int .u8 x).wf = true) : ∃ k, laws_FnStairs.f k l0 l1 = some true := by
 refine Ev.at1 ?_
 unfold laws_FnStairs.f
 obtain ⟨b, hb⟩ := big_f l0 l1 hm0
 refine Ev.bindc hb ?_
 by_cases hbt : b = true
 ·exact Ev.pos hbt (Ev.ret rfl)
 refine Ev.neg hbt ?_
 have hj := lawJ1 (bytesP.of hw1)
 obtain ⟨l, hd, hl⟩ := drawStair (bytesP.of hw0)
 have i1 := isStair_ev l (by omega)
 have i2 := sIsStair_ev l (by omega)
 refine Ev.bind hd ?_
 by_cases h : stP l
 ·have h10 := h.2
  have c1 : Ev (fun k => impl_OrderOfStair.f k l) ((l.length : Int), stO l, true) := by
   unfold impl_OrderOfStair.f
   exact Ev.bind i1 (Ev.pos (by simpa using h) (Ev.bind (ofStair_ev (by omega)) (Ev.ret rfl)))
  have c2 : Ev (fun k => spec_OrderOfStair.f k l) ((l.length : Int), stO l, true) := by
   unfold spec_OrderOfStair.f
   exact Ev.bind i2 (Ev.pos (by simpa using h) (Ev.bind (seOrder_ev h) (Ev.ret rfl)))
  have h22 := stO_22 h
  have h31 := stO_31 h
  rw [← stO_length l] at h22 h31
  have c3 : Ev (fun k => impl_IsSemiorder.f k (l.length : Int) (stO l)) (true, true) := by
   unfold impl_IsSemiorder.f
   exact Ev.bind (isOrder_ev _ _ (by rw [stO_length]; omega)) (Ev.pos (by simpa using stO_order h) (Ev.bind (semi_yes (stO_order h) h22 h31) (Ev.ret rfl)))
  have c4 := mirStair_ev h
  have hm := stM_st h
  have c5 := mirStair_ev hm
  rw [stM_twice h] at c5
  have c6 := isStair_ev (stM l) (by rw [stM_length]; omega)
  obtain ⟨y, y1, y2, y3⟩ := vNumber_ev (bytesP.of hw1) hm1
  have c7 := lawL0 h l1 y.toNat (by omega) hj l.length 0 (by omega)
  rw [show ((y.toNat : Nat) : Int) = y by omega] at c7
  have c8 : Ev (fun k => laws_FnStairs.l0 k l1 l (l.length : Int) y ([] : List Int) 0 (l.length : Int) (stO l)) true := c7
  exact Ev.bind c1 (Ev.bind c2 (Ev.neg (by simp) (Ev.bind (vOrder_self _ _ (by rw [stO_length]; omega)) (Ev.pos rfl (Ev.bind i1 (Ev.neg (by simpa using h) (Ev.pos rfl (Ev.bind c3 (Ev.bind (stair_of h) (Ev.bind c4 (Ev.bind c5 (Ev.pos rfl (Ev.pos rfl (Ev.pos rfl (Ev.bind (vSame_ev l l (by omega)) (Ev.pos (by simp) (Ev.pos rfl (Ev.bind c6 (Ev.pos (by simpa using hm) (Ev.pos rfl (Ev.bind (vSame_ev l l (by omega)) (Ev.pos (by simp) (Ev.bind y1 c8)))))))))))))))))))))))
 ·have c1 : Ev (fun k => impl_OrderOfStair.f k l) (0, [], false) := by
   unfold impl_OrderOfStair.f
   exact Ev.bind i1 (Ev.neg (by simpa using h) (Ev.ret rfl))
  have c2 : Ev (fun k => spec_OrderOfStair.f k l) (0, [], false) := by
   unfold spec_OrderOfStair.f
   exact Ev.bind i2 (Ev.neg (by simpa using h) (Ev.ret rfl))
  exact Ev.bind c1 (Ev.bind c2 (Ev.neg (by simp) (Ev.bind (vOrder_self 0 [] (by simp)) (Ev.pos rfl (Ev.bind i1 (Ev.neg (by simpa using h) (Ev.neg (by simp) hj)))))))
end Go.Proofs.YtcalgdljcphjaaaDoor.Pure
