import Derived.Test.YtgdnljpallpjiaaDoorBFnExtensions22
import Derived.Test.YtgdnljpallpjiaaDoorBFnExtensions28
/- The first extension is accepted, and extensions of two orders that are stacked or beside each other are counted from theirs, for every two strings of bytes. Condition: the listed variables, tied to the program's text by the card. -/
namespace Go.Proofs.YtgdnljpallpjiaaDoor.Pure
open Go.RowKit Go.Proofs.YtgdnljpallpjiaaDoor.Q Go.Proofs.YtgdnljpallpjiaaDoorW.PrintWords Go.Proofs.YtgdnljpallpjiaaDoorW.PrintLast
set_option linter.unusedVariables false
set_option linter.unusedSimpArgs false
theorem ch_all : ∀ a : Fin 11, ∀ b : Fin 10, Int.tdiv ((ch a.val b.val : Int) * ((a.val : Int) + ((b.val + 1 : Nat) : Int))) ((b.val + 1 : Nat) : Int) = (ch a.val (b.val + 1) : Int) := by decide +kernel
theorem ch_small : ∀ a : Fin 11, ∀ b : Fin 11, 1 ≤ ch a.val b.val ∧ ch a.val b.val ≤ 1000000 := by decide +kernel
theorem drawBeside {c : List Int} (hc : bytesP c) : ∃ n L m M, Ev (fun k => spec_DrawBesideOrders.f k c) (n, L, m, M) ∧ nearW (n, L) ∧ nearW (m, M) := by
 obtain ⟨n, L, a1, s1, e1, hn, h2, h3⟩ := anyOrder_d hc (a := 0) 0 5 (by omega) (by omega) ⟨by omega, by omega⟩
 obtain ⟨m, M, a2, s2, e2, hm, h4, h5⟩ := anyOrder_d hc (a := a1) s1 6 (by omega) (by omega) ⟨by omega, by omega⟩
 refine ⟨n, L, m, M, ?_, hn, hm⟩
 unfold spec_DrawBesideOrders.f
 exact Ev.bind e1 (Ev.bind e2 (Ev.ret rfl))
theorem ways_l {n m : Int} {L M : List Int} (h1 : orderP n L) (h2 : orderP m M) (h10 : L.length + M.length ≤ 10) (d : Nat) : ∀ i : Nat, i + d = M.length →
  Ev (fun k => laws_FnExtensions.l0 k (extN L : Int) true (extN M : Int) true (ch L.length i : Int) ((i + 1 : Nat) : Int) n L m M ((L.length + M.length : Nat) : Int) (tgR false L M) ((L.length + M.length : Nat) : Int) (tgR true L M)) true := by
 have e1 := h1.1.2.1; have e2 := h2.1.2.1; have p1 := h1.1.1; have p2 := h2.1.1
 induction d with
 | zero =>
  intro i hi
  obtain rfl : i = M.length := by omega
  obtain ⟨G, _, hG⟩ := iFirst_ext h1
  obtain ⟨G2, _, hG2⟩ := iFirst_ext h2
  have pL : 1 ≤ extN L := wS_pos h1 hG
  have pM : 1 ≤ extN M := wS_pos h2 hG2
  have hb := iCount_ev (tgR_order (b := false) h1 h2 h10)
  have hs := iCount_ev (tgR_order (b := true) h1 h2 h10)
  rw [show wS (tgR false L M).length (cO (tgR false L M)) (2 ^ (tgR false L M).length - 1) = extN (tgR false L M) from rfl] at hb
  rw [show wS (tgR true L M).length (cO (tgR true L M)) (2 ^ (tgR true L M).length - 1) = extN (tgR true L M) from rfl] at hs
  have eb := extN_beside h1.1 h2.1 h10
  have es := extN_stack h1.1 h2.1 h10
  have lb := extN_le (tgR_relP (b := false) (L := L) (M := M) h10)
  have ls := extN_le (tgR_relP (b := true) (L := L) (M := M) h10)
  have w1 : ch L.length M.length * extN L ≤ 10000000000 := by
   rw [eb, ← Nat.mul_assoc] at lb
   exact Nat.le_trans (Nat.le_mul_of_pos_right _ pM) lb
  have c1 : (ch L.length M.length : Int) * (extN L : Int) = ((ch L.length M.length * extN L : Nat) : Int) := by simp
  have c2 : ((ch L.length M.length * extN L : Nat) : Int) * (extN M : Int) = (extN (tgR false L M) : Int) := by rw [eb, ← Nat.mul_assoc]; simp
  have c3 : (extN L : Int) * (extN M : Int) = (extN (tgR true L M) : Int) := by rw [es]; simp
  refine Ev.shift ?_
  simp only [laws_FnExtensions.l0]
  refine Ev.neg (by omega) (Ev.bind hb (Ev.bind hs (Ev.pos (by simp) (Ev.pos (by simp) (Ev.pos (by simp) (Ev.pos (by simp) ?_))))))
  rw [c1, wrap64_id (x := ((ch L.length M.length * extN L : Nat) : Int)) (by omega) (by omega), c2, wrap64_id (x := (extN (tgR false L M) : Int)) (by omega) (by omega), c3, wrap64_id (x := (extN (tgR true L M) : Int)) (by omega) (by omega)]
  exact Ev.pos rfl (Ev.ret (by simp))
 | succ d ih =>
  intro i hi
  have e := ih (i + 1) (by omega)
  have hs := ch_small ⟨L.length, by omega⟩ ⟨i, by omega⟩
  have hs2 := ch_small ⟨L.length, by omega⟩ ⟨i + 1, by omega⟩
  have ht := ch_all ⟨L.length, by omega⟩ ⟨i, by omega⟩
  dsimp only at hs hs2 ht
  have ea : wrap64 (n + ((i + 1 : Nat) : Int)) = (L.length : Int) + ((i + 1 : Nat) : Int) := by rw [wrap64_id (by omega) (by omega), e1]
  have em : wrap64 ((ch L.length i : Int) * ((L.length : Int) + ((i + 1 : Nat) : Int))) = (ch L.length i : Int) * ((L.length : Int) + ((i + 1 : Nat) : Int)) := by
   have hx : (ch L.length i : Int) * ((L.length : Int) + ((i + 1 : Nat) : Int)) ≤ 1000000 * 10 := Int.mul_le_mul (by omega) (by omega) (by omega) (by omega)
   have hy : 0 ≤ (ch L.length i : Int) * ((L.length : Int) + ((i + 1 : Nat) : Int)) := Int.mul_nonneg (by omega) (by omega)
   exact wrap64_id (by omega) (by omega)
  have ei : wrap64 (((i + 1 : Nat) : Int) + 1) = ((i + 1 + 1 : Nat) : Int) := by rw [wrap64_id (by omega) (by omega)]; omega
  have ew : wrap64 ((ch L.length (i + 1) : Int)) = (ch L.length (i + 1) : Int) := wrap64_id (by omega) (by omega)
  refine Ev.shift ?_
  simp only [laws_FnExtensions.l0]
  rw [ea, em, ht, ew, ei]
  clear ea em ei ew
  exact Ev.pos (by omega) (Ev.neg (by omega) e)
theorem FnExtensions (l0 : List Int) (hm0 : l0.length ≤ maxLen) (hw0 : ∀ x ∈ l0, (Lit.int .u8 x).wf = true) (l1 : List Int) (hm1 : l1.length ≤ maxLen) (hw1 : ∀ x ∈ l1, (Lit.int .u8 x).wf = true) : ∃ k, laws_FnExtensions.f k l0 l1 = some true := by
 refine Ev.at1 ?_
 unfold laws_FnExtensions.f
 obtain ⟨b, hb⟩ := big_f l0 l1 hm0
 refine Ev.bindc hb ?_
 by_cases hbt : b = true
 ·exact Ev.pos hbt (Ev.ret rfl)
 refine Ev.neg hbt ?_
 obtain ⟨n, L, m, M, hd, hn, hm⟩ := drawBeside (bytesP.of hw0)
 have hL : L.length ≤ 10 := hn.2.1
 have hM : M.length ≤ 10 := hm.2.1
 refine Ev.bind hd ?_
 -- what is shown of the first order alone
 have tail : ∀ (ok : Bool) (q1 : Int) (Q1 : List Int) (q2 : Int) (Q2 : List Int), (ok = true → orderP n L ∧ orderP m M ∧ L.length + M.length ≤ 10 ∧ q1 = ((L.length + M.length : Nat) : Int) ∧ Q1 = tgR false L M ∧ q2 = ((L.length + M.length : Nat) : Int) ∧ Q2 = tgR true L M) →
   Ev (fun k => laws_FnExtensions.j0 k ok false n L m M q1 Q1 q2 Q2) true := by
  intro ok q1 Q1 q2 Q2 hok
  obtain ⟨cm, hcm, hcm2⟩ : ∃ cm, Ev (fun k => impl_CountExtensions.f k m M) cm ∧ (orderP m M → cm = ((extN M : Int), true)) := by
   by_cases h2 : orderP m M
   ·exact ⟨_, iCount_ev h2, fun _ => rfl⟩
   ·exact ⟨_, iCount_no (by omega) h2, fun h => absurd h h2⟩
  refine Ev.shift ?_
  simp only [laws_FnExtensions.j0]
  refine Ev.neg (by simp) ?_
  by_cases h1 : orderP n L
  ·obtain ⟨G, hG, hGe⟩ := iFirst_ext h1
   have pL : 1 ≤ extN L := wS_pos h1 hGe
   have hIs : Ev (fun k => impl_IsExtension.f k n L G) (true, true) := by
    unfold impl_IsExtension.f
    refine Ev.bind (isOrder_ev n L (by omega)) (Ev.pos (by simpa using h1) (Ev.bind (isExt_ev h1.1 G (by have := hGe.1.1; have := h1.1.1; omega)) (Ev.ret (by simp [hGe]))))
   refine Ev.bind (iCount_ev h1) (Ev.bind hcm (Ev.bind (sCount_ev h1) (Ev.neg (by simp) (Ev.shift ?_))))
   simp only [laws_FnExtensions.j1]
   refine Ev.neg (by simp) (Ev.pos (by simp) (Ev.bind hG (Ev.bind hIs (Ev.pos rfl (Ev.pos rfl (Ev.pos rfl (Ev.neg ?_ (Ev.shift ?_))))))))
   ·show ¬ (extN L : Int) < 1
    omega
   simp only [laws_FnExtensions.j2]
   cases ok with
   | false => exact Ev.neg (by simp) (Ev.ret rfl)
   | true =>
    obtain ⟨_, h2, h10, rfl, rfl, rfl, rfl⟩ := hok rfl
    rw [hcm2 h2]
    refine Ev.pos (by simp) ?_
    have := ways_l h1 h2 h10 M.length 0 (by omega)
    rw [ch_zero] at this
    exact this
  ·have hok2 : ok = false := by
    cases ok
    ·rfl
    ·exact absurd (hok rfl).1 h1
   subst hok2
   refine Ev.bind (iCount_no (by omega) h1) (Ev.bind hcm (Ev.bind (sCount_no (by omega) h1) (Ev.neg (by simp) (Ev.shift ?_))))
   simp only [laws_FnExtensions.j1]
   refine Ev.neg (by simp) (Ev.neg (by simp) (Ev.shift ?_))
   simp only [laws_FnExtensions.j2]
   exact Ev.neg (by simp) (Ev.ret rfl)
 by_cases h : orderP n L ∧ orderP m M ∧ L.length + M.length ≤ 10
 ·obtain ⟨h1, h2, h10⟩ := h
  have hbe : Ev (fun k => impl_BesideOrders.f k n L m M) (((L.length + M.length : Nat) : Int), tgR false L M, true) := by
   unfold impl_BesideOrders.f
   exact Ev.bind (together_ev false h1 h2 h10) (Ev.ret rfl)
  have hst : Ev (fun k => impl_StackOrders.f k n L m M) (((L.length + M.length : Nat) : Int), tgR true L M, true) := by
   unfold impl_StackOrders.f
   exact Ev.bind (together_ev true h1 h2 h10) (Ev.ret rfl)
  refine Ev.bind hbe (Ev.bind (sBeside_ev h1 h2 h10) (Ev.bind hst (Ev.bind (sStack_ev h1 h2 h10) (Ev.neg (by simp) (Ev.bind (pSameOrder_self _ _ (by rw [tgR_length]; omega)) (Ev.pos rfl (Ev.neg (by simp) (Ev.bind (pSameOrder_self _ _ (by rw [tgR_length]; omega)) (Ev.pos rfl ?_)))))))))
  exact tail true _ _ _ _ (fun _ => ⟨h1, h2, h10, rfl, rfl, rfl, rfl⟩)
 ·have hbe : Ev (fun k => impl_BesideOrders.f k n L m M) (0, [], false) := by
   unfold impl_BesideOrders.f
   exact Ev.bind (together_no false (by omega) (by omega) h) (Ev.ret rfl)
  have hst : Ev (fun k => impl_StackOrders.f k n L m M) (0, [], false) := by
   unfold impl_StackOrders.f
   exact Ev.bind (together_no true (by omega) (by omega) h) (Ev.ret rfl)
  have hno := sTog_no (n := n) (m := m) (L := L) (M := M) (by omega) (by omega) h
  refine Ev.bind hbe (Ev.bind hno.1 (Ev.bind hst (Ev.bind hno.2 (Ev.neg (by simp) (Ev.bind (pSameOrder_self 0 [] (by simp)) (Ev.pos rfl (Ev.neg (by simp) (Ev.bind (pSameOrder_self 0 [] (by simp)) (Ev.pos rfl ?_)))))))))
  exact tail false _ _ _ _ (fun hx => by cases hx)
end Go.Proofs.YtgdnljpallpjiaaDoor.Pure
