import Derived.Test.YtdpmoehmbjmkpaaDoorBFnPatterns21
import Derived.Test.YtdpmoehmbjmkpaaDoorBFnPatterns25
/- A pattern that is found stands there, and orders that are renamed are of the same kind, for every two strings of bytes. Condition: the listed variables, tied to the program's text by the card. -/
namespace Go.Proofs.YtdpmoehmbjmkpaaDoor.Pure
open Go.RowKit Go.Proofs.YtdpmoehmbjmkpaaDoor.Q Go.Proofs.YtdpmoehmbjmkpaaDoorW.PrintWords Go.Proofs.YtdpmoehmbjmkpaaDoorW.PrintLast
set_option linter.unusedVariables false
set_option linter.unusedSimpArgs false
theorem drawPat {c : List Int} (hc : bytesP c) : ∃ n L m M, Ev (fun k => spec_DrawFindPattern.f k c) (n, L, m, M) ∧ L.length ≤ 10 ∧ M.length ≤ 12 := by
 obtain ⟨n, L, a', s', he, hn, h2, h3⟩ := anyOrder_d hc (a := 0) 0 7 (by omega) (by omega) ⟨by omega, by omega⟩
 have hl : L.length ≤ 10 := hn.2.1
 unfold spec_DrawFindPattern.f
 have hno : ∀ (a s : Int), 0 ≤ a → a ≤ 80000 → ∃ m M, Ev (fun k => spec_DrawFindPattern.j0 k false c a s n L) (n, L, m, M) ∧ M.length ≤ 12 := by
  intro a s h0 h1
  obtain ⟨m, M, a2, s2, e2, hm, _, _⟩ := anyOrder_d hc (a := a) s 5 h0 (by omega) ⟨by omega, by omega⟩
  have : M.length ≤ 10 := hm.2.1
  refine ⟨m, M, Ev.shift ?_, by omega⟩
  simp only [spec_DrawFindPattern.j0]
  exact Ev.neg (by simp) (Ev.bind e2 (Ev.ret rfl))
 have hrel := orRelation_ev n L (show L.length ≤ 1048576 by omega)
 by_cases h : relP n L
 ·have h1 := h.1
  have h4 := h.2.1
  by_cases hp : n > 0
  ·obtain ⟨b, a1, s1, e1, _, h5, h6⟩ := one_d hc (a := a') s' 2 (by omega) (by omega) (by omega)
   cases b with
   | false =>
    obtain ⟨m, M, hj, hM⟩ := hno a1 s1 (by omega) (by omega)
    exact ⟨n, L, m, M, Ev.bind he (Ev.bind hrel (Ev.pos (by simpa using h) (Ev.pos hp (Ev.bindc e1 hj)))), hl, hM⟩
   | true =>
    obtain ⟨N, a2, s2, e2, hN, h7, h8⟩ := names_d hc (a := a1) s1 n (by omega) (by omega) (by omega)
    have hnm := orNames_ev (N := L.length) (by omega) N (by omega)
    rw [h4] at hnm
    by_cases hg : namP n N
    ·obtain ⟨t, a3, s3, e3, ht, h9, h10⟩ := pick_d hc (a := a2) s2 5 (by omega) (by omega) (by omega)
     have hNl := hg.1
     obtain ⟨u, hu, hu0, hu1⟩ : ∃ u : Nat, spec_l1Least.f t n = some (u : Int) ∧ u ≤ 4 ∧ u ≤ N.length := by
      unfold spec_l1Least.f
      by_cases hc2 : t < n
      ·exact ⟨t.toNat, by rw [if_pos hc2]; congr 1; omega, by omega, by omega⟩
      ·exact ⟨n.toNat, by rw [if_neg hc2]; congr 1; omega, by omega, by omega⟩
     have hE := orPart_ev h (N.take u) (fun x hx => by have := hg.2.1 x (List.mem_of_mem_take hx); omega) (by simp; omega)
     refine ⟨n, L, ((N.take u).length : Int), partR L (N.take u), Ev.bind he (Ev.bind hrel (Ev.pos (by simpa using h) (Ev.pos hp (Ev.bindc e1 (Ev.shift ?_))))), hl, ?_⟩
     ·simp only [spec_DrawFindPattern.j0]
      exact Ev.pos trivial (Ev.bind e2 (Ev.bind hnm (Ev.pos (by simpa using hg) (Ev.bindc e3 (Ev.bindc hu (Ev.pos (by omega) (Ev.pos (show (u : Int) ≤ (N.length : Int) by omega) (Ev.bind hE (Ev.ret rfl)))))))))
     ·unfold partR
      rw [rel_length]; simp; omega
    ·obtain ⟨m, M, a4, s4, e4, hm, _, _⟩ := anyOrder_d hc (a := a2) s2 5 (by omega) (by omega) ⟨by omega, by omega⟩
     have : M.length ≤ 10 := hm.2.1
     refine ⟨n, L, m, M, Ev.bind he (Ev.bind hrel (Ev.pos (by simpa using h) (Ev.pos hp (Ev.bindc e1 (Ev.shift ?_))))), hl, by omega⟩
     simp only [spec_DrawFindPattern.j0]
     exact Ev.pos trivial (Ev.bind e2 (Ev.bind hnm (Ev.neg (by simpa using hg) (Ev.bind e4 (Ev.ret rfl)))))
  ·obtain ⟨m, M, hj, hM⟩ := hno a' s' (by omega) (by omega)
   exact ⟨n, L, m, M, Ev.bind he (Ev.bind hrel (Ev.pos (by simpa using h) (Ev.neg hp hj))), hl, hM⟩
 ·obtain ⟨m, M, hj, hM⟩ := hno a' s' (by omega) (by omega)
  exact ⟨n, L, m, M, Ev.bind he (Ev.bind hrel (Ev.neg (by simpa using h) hj)), hl, hM⟩
theorem drawRen {c : List Int} (hc : bytesP c) : ∃ n L N, Ev (fun k => spec_DrawRenameOf.f k c) (n, L, N) ∧ L.length ≤ 10 ∧ N.length ≤ 12 := by
 obtain ⟨n, L, a', s', he, hn, h2, h3⟩ := anyOrder_d hc (a := 0) 0 6 (by omega) (by omega) ⟨by omega, by omega⟩
 have hl : L.length ≤ 10 := hn.2.1
 unfold spec_DrawRenameOf.f
 obtain ⟨m, hm, hm0⟩ : ∃ m : Int, spec_l1Most.f 0 n = some m ∧ 0 ≤ m := by
  unfold spec_l1Most.f
  by_cases h : (0 : Int) > n
  ·exact ⟨0, if_pos h, by omega⟩
  ·exact ⟨n, if_neg h, by omega⟩
 obtain ⟨N, a2, s2, e2, hN, _, _⟩ := names_d hc (a := a') s' m hm0 (by omega) (by omega)
 exact ⟨n, L, N, Ev.bind he (Ev.bindc hm (Ev.bind e2 (Ev.ret rfl))), hl, hN⟩
section
variable {n : Int} {L N : List Int}
theorem patL3 (hL : relP n L) (h : namP n N) (i : Nat) (hi : i < L.length) (r : Bool) (hr : Ev (fun k => laws_FnPatterns.l2 k N (N.length : Int) (wrap64 ((i : Int) + 1)) n L n (renR L N)) r) (d : Nat) :
  ∀ j : Nat, j + d = L.length → Ev (fun k => laws_FnPatterns.l3 k N (i : Int) (N.length : Int) (i : Int) (N.length : Int) (j : Int) n L n (renR L N)) r := by
 have h1 := hL.1
 have h2 := hL.2.1
 have h3 := h.1
 have h' := h
 rw [← h2] at h'
 have hlen : (renR L N).length = L.length := rel_length _ _
 obtain ⟨ei, eil, _⟩ := nm_of (by omega) h' hi
 have hri := hL.row hi
 have hrn := (renR_relP (N := N) hL).row (i := eN N i) (by omega)
 induction d with
 | zero =>
  intro j hj
  refine Ev.shift ?_
  simp only [laws_FnPatterns.l3]
  exact Ev.neg (by omega) hr
 | succ d ih =>
  intro j hj
  obtain ⟨ej, ejl, _⟩ := nm_of (by omega) h' (show j < L.length by omega)
  have hnext := ih (j + 1) (by omega)
  have e1 := pIn_f hri.1 hri.2.1 (show j < 10 by omega)
  have e2 := pIn_f hrn.1 hrn.2.1 (show eN N j < 10 by omega)
  have e := renR_lt hL h hi (show j < L.length by omega)
  refine Ev.shift ?_
  simp only [laws_FnPatterns.l3]
  rw [wrap64_id (x := (j : Int) + 1) (by omega) (by omega), cast1, ei, ej]
  refine Ev.pos (by omega) (Ev.pos (by omega) (Ev.pos (by omega) (Ev.bindc e1 (Ev.pos (by omega) (Ev.pos (by omega) (Ev.pos (by omega) (Ev.pos (by omega) (Ev.pos (by omega) (Ev.bindc e2 (Ev.neg ?_ hnext))))))))))
  have e' : bit (rd (renR L N) (eN N i : Int)) (eN N j) = bit (rd L (i : Int)) j := e
  rw [e']; simp
theorem patL2 (hL : relP n L) (h : namP n N) (r : Bool) (hr : Ev (fun k => impl_IsSameKind.f k n L n (renR L N)) (if n ≤ 6 then (true, true) else (false, false))) (d : Nat) :
  ∀ i : Nat, i + d = L.length → Ev (fun k => laws_FnPatterns.l2 k N (N.length : Int) (i : Int) n L n (renR L N)) true := by
 have h1 := hL.1
 have h2 := hL.2.1
 have h3 := h.1
 induction d with
 | zero =>
  intro i hi
  refine Ev.shift ?_
  simp only [laws_FnPatterns.l2]
  refine Ev.neg (by omega) (Ev.bind hr ?_)
  by_cases h6 : n ≤ 6
  ·rw [if_pos h6]
   exact Ev.pos (by simp [h6]) (Ev.ret rfl)
  ·rw [if_neg h6]
   exact Ev.pos (by simp [h6]) (Ev.ret rfl)
 | succ d ih =>
  intro i hi
  have hnext := ih (i + 1) (by omega)
  refine Ev.shift ?_
  simp only [laws_FnPatterns.l2]
  refine Ev.pos (by omega) ?_
  exact patL3 hL h i (by omega) true (by rw [wrap64_id (x := (i : Int) + 1) (by omega) (by omega), cast1]; exact hnext) L.length 0 (by omega)
theorem sameKind_ren (hL : relP n L) (h : namP n N) : Ev (fun k => impl_IsSameKind.f k n L n (renR L N)) (if n ≤ 6 then (true, true) else (false, false)) := by
 have h1 := hL.1
 have h2 := hL.2.1
 have h' := h
 rw [← h2] at h'
 have hlen : (renR L N).length = L.length := rel_length _ _
 refine Ev.eq (iSameKind hL (renR_relP (N := N) hL)) ?_
 by_cases h6 : n ≤ 6
 ·rw [if_pos ⟨h6, h6⟩, if_pos h6]
  have hs : ((List.range L.length).map fun a => ((ixOf N a : Nat) : Int)).length = L.length := by simp
  have hrd : ∀ a, a < L.length → rd ((List.range L.length).map fun a => ((ixOf N a : Nat) : Int)) (a : Int) = (ixOf N a : Nat) := fun a ha => by
   rw [rd_lt _ a (by omega)]; simp
  obtain ⟨r, hr⟩ := found_ex (L := L) (M := renR L N) (s := (List.range L.length).map fun a => ((ixOf N a : Nat) : Int)) (N := L.length) (fun x hx => by
   obtain ⟨a, ha, rfl⟩ := List.mem_map.1 hx
   have := ix_lt (by omega) h' (List.mem_range.1 ha)
   omega) (fun a b ha hb => by
   rw [hs] at ha hb
   rw [hrd a ha, hrd b hb]
   refine ⟨fun hne e => hne ?_, ?_⟩
   ·have ea := ix_rd (by omega) h' ha
    have eb := ix_rd (by omega) h' hb
    rw [show ixOf N a = ixOf N b by omega, eb] at ea
    omega
   ·unfold renR
    rw [rel_lt (by omega) ha]
    simp [hb])
  rw [hs] at hr
  rw [hlen, hr]
  simp
 ·rw [if_neg (by omega), if_neg h6]
end
theorem patTail {c : List Int} (hc : bytesP c) : Ev (fun k => laws_FnPatterns.j2 k c) true := by
 obtain ⟨n, L, N, hd, hl, hN⟩ := drawRen hc
 refine Ev.shift ?_
 simp only [laws_FnPatterns.j2]
 refine Ev.bind hd (Ev.bind (iRename n L N (by omega) (by omega)) (Ev.bind (sRename n L N (by omega) (by omega)) (Ev.neg (by simp) ?_)))
 unfold renRes
 by_cases h : relP n L ∧ namP n N
 ·rw [if_pos h]
  have hlen : (renR L N).length = L.length := rel_length _ _
  refine Ev.bind (pSameOrder_self n (renR L N) (by omega)) (Ev.pos rfl (Ev.pos rfl ?_))
  exact patL2 h.1 h.2 true (sameKind_ren h.1 h.2) L.length 0 (by omega)
 ·rw [if_neg h]
  exact Ev.bind (pSameOrder_self 0 [] (by simp)) (Ev.pos rfl (Ev.neg (by simp) (Ev.ret rfl)))
section
variable {n m : Int} {L M r : List Int}
theorem patL1 (hL : relP n L) (hM : relP m M) (hr1 : r.length = M.length) (hr2 : ∀ x ∈ r, 0 ≤ x ∧ x < (L.length : Int)) (hr3 : pairsOk L M r) (c : List Int) (a : Nat) (ha : a < r.length) (hk : Ev (fun k => laws_FnPatterns.l0 k c r r (r.length : Int) (wrap64 ((a : Int) + 1)) n L m M) true) (d : Nat) :
  ∀ b : Nat, b + d = r.length → Ev (fun k => laws_FnPatterns.l1 k c r (a : Int) (rd r (a : Int)) r (r.length : Int) (a : Int) r (r.length : Int) (b : Int) n L m M) true := by
 have h1 := hL.1
 have h2 := hL.2.1
 have h3 := hM.1
 have h4 := hM.2.1
 have hx : ∀ q, q < r.length → rd r (q : Int) = (eN r q : Int) ∧ eN r q < L.length := fun q hq => by
  have := hr2 (rd r (q : Int)) (by rw [rd_lt r q hq]; exact List.getElem_mem _)
  unfold eN; omega
 obtain ⟨ea, eal⟩ := hx a ha
 have hra := hL.row eal
 have hrm := hM.row (show a < M.length by omega)
 induction d with
 | zero =>
  intro b hb
  refine Ev.shift ?_
  simp only [laws_FnPatterns.l1]
  exact Ev.neg (by omega) hk
 | succ d ih =>
  intro b hb
  obtain ⟨eb, ebl⟩ := hx b (by omega)
  have hnext := ih (b + 1) (by omega)
  have e1 := pIn_f hra.1 hra.2.1 (show eN r b < 10 by omega)
  have e2 := pIn_f hrm.1 hrm.2.1 (show b < 10 by omega)
  have hp := hr3 a b ha (by omega)
  have e : bit (rd L (eN r a : Int)) (eN r b) = bit (rd M (a : Int)) b := hp.2
  rw [ea] at hnext
  refine Ev.shift ?_
  simp only [laws_FnPatterns.l1]
  rw [wrap64_id (x := (b : Int) + 1) (by omega) (by omega), cast1]
  have hgo : Ev (fun k => if 0 ≤ (eN r a : Int) then (if (eN r a : Int) < (L.length : Int) then ((laws_pIn.f (rd L (eN r a : Int)) (eN r b : Int)).bind fun t495 => (if 0 ≤ (a : Int) then (if (a : Int) < (M.length : Int) then ((laws_pIn.f (rd M (a : Int)) (b : Int)).bind fun t497 => (if (t495 != t497) = true then (none) else (laws_FnPatterns.l1 k c r (a : Int) (eN r a : Int) r (r.length : Int) (a : Int) r (r.length : Int) ((b + 1 : Nat) : Int) n L m M))) else (none)) else (none))) else (none)) else (none)) true := by
   refine Ev.pos (by omega) (Ev.pos (by omega) (Ev.bindc e1 (Ev.pos (by omega) (Ev.pos (by omega) (Ev.bindc e2 (Ev.neg ?_ hnext))))))
   rw [e]; simp
  rw [ea, eb]
  refine Ev.pos (by omega) (Ev.pos (by omega) (Ev.pos (by omega) ?_))
  by_cases hab : (a : Int) = b
  ·exact Ev.pos hab hgo
  ·refine Ev.neg hab (Ev.neg ?_ hgo)
   have := hp.1 (by omega)
   rw [ea, eb] at this
   exact this
theorem patL0 (hL : relP n L) (hM : relP m M) (hr1 : r.length = M.length) (hr2 : ∀ x ∈ r, 0 ≤ x ∧ x < (L.length : Int)) (hr3 : pairsOk L M r) (c : List Int) (ht : Ev (fun k => laws_FnPatterns.j2 k c) true) (d : Nat) :
  ∀ a : Nat, a + d = r.length → Ev (fun k => laws_FnPatterns.l0 k c r r (r.length : Int) (a : Int) n L m M) true := by
 have h1 := hL.1
 have h2 := hL.2.1
 have h3 := hM.1
 have h4 := hM.2.1
 induction d with
 | zero =>
  intro a ha
  refine Ev.shift ?_
  simp only [laws_FnPatterns.l0]
  exact Ev.neg (by omega) (Ev.pos (by omega) ht)
 | succ d ih =>
  intro a ha
  have hnext := ih (a + 1) (by omega)
  refine Ev.shift ?_
  simp only [laws_FnPatterns.l0]
  refine Ev.pos (by omega) (Ev.pos (by omega) (Ev.pos (by omega) ?_))
  exact patL1 hL hM hr1 hr2 hr3 c a (by omega) (by rw [wrap64_id (x := (a : Int) + 1) (by omega) (by omega), cast1]; exact hnext) r.length 0 (by omega)
end
theorem FnPatterns (l0 : List Int) (hm0 : l0.length ≤ maxLen) (hw0 : ∀ x ∈ l0, (Lit.int .u8 x).wf = true) (l1 : List Int) (hm1 : l1.length ≤ maxLen) (hw1 : ∀ x ∈ l1, (Lit.int .u8 x).wf = true) : ∃ k, laws_FnPatterns.f k l0 l1 = some true := by
 refine Ev.at1 ?_
 unfold laws_FnPatterns.f
 obtain ⟨b, hb⟩ := big_f l0 l1 hm0
 refine Ev.bindc hb ?_
 by_cases hbt : b = true
 ·exact Ev.pos hbt (Ev.ret rfl)
 refine Ev.neg hbt ?_
 have hj := patTail (bytesP.of hw1)
 obtain ⟨n, L, m, M, hd, hL, hM⟩ := drawPat (bytesP.of hw0)
 refine Ev.bind hd (Ev.bind (iFind n L m M (by omega) (by omega)) (Ev.bind (sFind n L m M (by omega) (by omega)) (Ev.neg (by simp) ?_)))
 have hlen : (findRes n L m M).1.length ≤ 1048576 := by
  unfold findRes
  split
  ·rename_i h
   cases hf : findP (fitP L M) L.length M.length [] with
   | none => simp
   | some r => have := (found_ok hf).1; simp; omega
  ·simp
 refine Ev.bind (pSame_ev _ _ hlen) (Ev.pos (by simp) ?_)
 by_cases ht : (findRes n L m M).2 = true
 ·refine Ev.pos ht ?_
  have hc : relP n L ∧ relP m M ∧ m ≤ 6 := by
   unfold findRes at ht
   split at ht
   ·assumption
   ·cases ht
  unfold findRes at ht ⊢
  rw [if_pos hc] at ht ⊢
  obtain ⟨r, hr⟩ := Option.isSome_iff_exists.1 ht
  obtain ⟨g1, g2, g3⟩ := found_ok hr
  rw [hr]
  exact patL0 hc.1 hc.2.1 g1 g2 g3 l1 hj r.length 0 (by omega)
 ·exact Ev.neg ht hj
end Go.Proofs.YtdpmoehmbjmkpaaDoor.Pure
