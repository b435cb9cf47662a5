import Derived.Test.YtgdnljpallpjiaaDoorBFnExtensions16
import Derived.Test.YtgdnljpallpjiaaDoorBFnExtensions19
import Derived.Test.YtgdnljpallpjiaaDoorBFnExtensions27
namespace Go.Proofs.YtgdnljpallpjiaaDoor.Pure
open Go.RowKit Go.Proofs.YtgdnljpallpjiaaDoor.Q Go.Proofs.YtgdnljpallpjiaaDoorW.PrintWords Go.Proofs.YtgdnljpallpjiaaDoorW.PrintLast
set_option linter.unusedVariables false
set_option linter.unusedSimpArgs false
-- the program's count of extensions
/-- i may come behind T: all below it is in T -/
def cO (L : List Int) (T i : Nat) : Bool := decide (andN (rd (mir L) (i : Int)) (T : Int) = 0)
theorem setP_nat {N s : Nat} (hN : N ≤ 10) (hs : s < 2 ^ N) : setP (s : Int) := by
 have : 2 ^ N ≤ 2 ^ 10 := Nat.pow_le_pow_right (by omega) hN
 exact ⟨by omega, by omega⟩
theorem or_shl {N s i : Nat} (hN : N ≤ 10) (hs : s < 2 ^ N) (hi : i < N) : Go.bits .or .i64 (s : Int) (shl .i64 1 (i : Int)) = ((s ||| 2 ^ i : Nat) : Int) := by
 have h1 : 2 ^ N ≤ 2 ^ 10 := Nat.pow_le_pow_right (by omega) hN
 have h2 : 2 ^ i < 2 ^ N := Nat.pow_lt_pow_right (by omega) hi
 have e : shl .i64 1 (i : Int) = ((2 ^ i : Nat) : Int) := shl_all ⟨i, by omega⟩
 rw [e]
 exact or_nat s (2 ^ i) (by omega) (by omega)
theorem shl_pow {N : Nat} (hN : N ≤ 10) : shl .i64 1 (N : Int) = ((2 ^ N : Nat) : Int) := by
 have : ∀ n : Fin 11, shl .i64 1 (n.val : Int) = ((2 ^ n.val : Nat) : Int) := by decide +kernel
 exact this ⟨N, by omega⟩
theorem full_nat {N : Nat} (hN : N ≤ 10) : full (N : Int) = ((2 ^ N - 1 : Nat) : Int) := by
 have := Nat.one_le_two_pow (n := N)
 rw [full_pow hN, Int.natCast_sub this]; simp
theorem icount_l1 {n : Int} {L : List Int} (h : orderP n L) (s : Nat) (hs : s < 2 ^ L.length) (R : Int × Bool) (hk : ∀ y, arrOk L.length (cO L) (s + 1) 0 y → Ev (fun k => impl_CountExtensions.l0 k y ((2 ^ L.length : Nat) : Int) ((s + 1 : Nat) : Int) n L n (mir L)) R) (d : Nat) :
  ∀ (i : Nat) (y : List Int), i + d = L.length → arrOk L.length (cO L) s i y → Ev (fun k => impl_CountExtensions.l1 k y (s : Int) ((2 ^ L.length : Nat) : Int) (s : Int) n (i : Int) n L n (mir L)) R := by
 have h1 := h.1.1; have h2 := h.1.2.1
 have h10 : 2 ^ L.length ≤ 2 ^ 10 := Nat.pow_le_pow_right (by omega) (by omega)
 induction d with
 | zero =>
  intro i y hi hy
  obtain rfl : i = L.length := by omega
  refine Ev.shift ?_
  simp only [impl_CountExtensions.l1]
  refine Ev.neg (by omega) ?_
  rw [wrap64_id (by omega) (by omega), cast1]
  exact hk y (arr_next hy)
 | succ d ih =>
  intro i y hi hy
  have hil : i < L.length := by omega
  have hsp := setP_nat (N := L.length) (by omega) hs
  have hb0 := shr0 hsp (j := i) (by omega)
  rw [bit_nat] at hb0
  have f1 : (i : Int) < ((mir L).length : Int) := by rw [mir_length]; omega
  have fs : (s : Int) < (y.length : Int) := by rw [hy.1]; omega
  refine Ev.shift ?_
  simp only [impl_CountExtensions.l1]
  refine Ev.pos (by omega) (Ev.pos (by omega) ?_)
  rw [wrap64_id (x := (i : Int) + 1) (by omega) (by omega), cast1]
  by_cases hb : s.testBit i = false
  ·refine Ev.pos (hb0.2 hb) (Ev.pos f1 ?_)
   by_cases hc : Go.bits .andNot .i64 (rd (mir L) (i : Int)) (s : Int) = 0
   ·have hp := arr_put (by omega) hy hs hil hb (show cO L s i = true from decide_eq_true hc)
    have ft : ((s ||| 2 ^ i : Nat) : Int) < (y.length : Int) := by rw [hy.1]; exact Int.ofNat_lt.2 hp.1
    refine Ev.pos hc ?_
    rw [or_shl (by omega) hs hil]
    refine Ev.pos (by omega) (Ev.pos ft (Ev.pos (by omega) (Ev.pos fs ?_)))
    rw [Int.toNat_natCast]
    exact ih (i + 1) _ (by omega) hp.2
   ·exact Ev.neg hc (ih (i + 1) y (by omega) (arr_keep hy (.inr (decide_eq_false hc))))
  ·refine Ev.neg (fun hx => hb (hb0.1 hx)) (ih (i + 1) y (by omega) (arr_keep hy (.inl ?_)))
   simpa using hb
theorem icount_l0 {n : Int} {L : List Int} (h : orderP n L) (d : Nat) : ∀ (s : Nat) (y : List Int), s + d = 2 ^ L.length → arrOk L.length (cO L) s 0 y → Ev (fun k => impl_CountExtensions.l0 k y ((2 ^ L.length : Nat) : Int) (s : Int) n L n (mir L)) ((wS L.length (cO L) (2 ^ L.length - 1) : Int), true) := by
 have h1 := h.1.1; have h2 := h.1.2.1
 have hp : 0 < 2 ^ L.length := Nat.two_pow_pos _
 have e : n = (L.length : Int) := h2.symm
 induction d with
 | zero =>
  intro s y hs hy
  obtain rfl : s = 2 ^ L.length := by omega
  refine Ev.shift ?_
  simp only [impl_CountExtensions.l0]
  have hf : full n = ((2 ^ L.length - 1 : Nat) : Int) := by rw [e]; exact full_nat (by omega)
  refine Ev.neg (by omega) (Ev.bindc (all_f h.1) ?_)
  rw [hf]
  refine Ev.pos (by omega) (Ev.pos (by rw [hy.1]; omega) (Ev.ret ?_))
  rw [arr_end (by omega) hy (by omega)]
 | succ d ih =>
  intro s y hs hy
  refine Ev.shift ?_
  simp only [impl_CountExtensions.l0]
  refine Ev.pos (by omega) ?_
  exact icount_l1 h s (by omega) _ (fun y hy => ih (s + 1) y (by omega) hy) L.length 0 y (by omega) hy
theorem iCount_ev {n : Int} {L : List Int} (h : orderP n L) : Ev (fun k => impl_CountExtensions.f k n L) ((wS L.length (cO L) (2 ^ L.length - 1) : Int), true) := by
 have h1 := h.1.1; have h2 := h.1.2.1
 have h10 : 2 ^ L.length ≤ 2 ^ 10 := Nat.pow_le_pow_right (by omega) (by omega)
 have hp : 0 < 2 ^ L.length := Nat.two_pow_pos _
 have e : n = (L.length : Int) := h2.symm
 unfold impl_CountExtensions.f
 refine Ev.bind (isOrder_ev n L (by omega)) (Ev.pos (by simpa using h) (Ev.bind (mirror_ev h.1) (Ev.pos (by omega) ?_)))
 rw [show shl .i64 1 n = ((2 ^ L.length : Nat) : Int) by rw [e]; exact shl_pow (by omega)]
 refine Ev.pos (by omega) (Ev.pos (by rw [Int.toNat_natCast]; omega) (Ev.bindc rfl (Ev.pos (by rw [List.length_replicate, Int.toNat_natCast]; omega) ?_)))
 rw [Int.toNat_natCast, List.length_replicate]
 exact icount_l0 h (2 ^ L.length) 0 _ (by omega) (arr_start _ _)
theorem iCount_no {n : Int} {L : List Int} (hl : L.length ≤ 1048576) (h : ¬ orderP n L) : Ev (fun k => impl_CountExtensions.f k n L) (0, false) := by
 unfold impl_CountExtensions.f
 exact Ev.bind (isOrder_ev n L hl) (Ev.neg (by simpa using h) (Ev.ret rfl))
-- how many extensions two orders beside or above each other have
def cB (L : List Int) (T i : Nat) : Bool := decide (∀ j, j < L.length → lt L j i = true → T.testBit j = true)
theorem cO_cB {n : Int} {L : List Int} (h : relP n L) {T i : Nat} (hT : T < 2 ^ L.length) (hi : i < L.length) : cO L T i = cB L T i := by
 have h1 := h.1; have h2 := h.2.1
 unfold cO cB
 rw [decide_eq_decide, andNot_zero ((mir_relP h).set (by rw [mir_length]; exact hi)) (setP_nat (by omega) hT)]
 constructor
 ·intro h3 j hj hb
  have := h3 j (by omega) (show lt (mir L) i j = true by rw [mir_lt h hi hj]; exact hb)
  rwa [bit_nat] at this
 ·intro h3 j hj hb
  have hjl : j < L.length := by have := (mir_relP h).lt_len (i := i) (by rw [mir_length]; exact hi) hb; rwa [mir_length] at this
  rw [bit_nat]
  exact h3 j hjl (by rw [← mir_lt h hi hjl]; exact hb)
theorem wS_congr {N : Nat} {c c' : Nat → Nat → Bool} (hN : N ≤ 10) (h : ∀ T i, T < 2 ^ N → i < N → c T i = c' T i) : ∀ f s, pc N s = f → s < 2 ^ N → wS N c s = wS N c' s := by
 intro f
 induction f with
 | zero => intro s hs _; rw [wS_zero hs, wS_zero hs]
 | succ f ih =>
  intro s hs hl
  rw [wS_step (by omega), wS_step (by omega)]
  refine sumR_congr fun i hi => ?_
  by_cases hb : s.testBit i = true
  ·have hf := flip_lt hN hl hi hb
   have hp := pc_flip hi hb
   rw [h _ i (by omega) hi, ih (flip s i) (by omega) (by omega)]
  ·simp [hb]
theorem pc_full (N : Nat) : pc N (2 ^ N - 1) = N := by
 have : ∀ n, sumR n (fun _ => 1) = n := by
  intro n
  induction n with
  | zero => rfl
  | succ n ih => rw [sumR, ih]
 unfold pc
 rw [sumR_congr (g := fun _ => 1) (fun i hi => by rw [Nat.testBit_two_pow_sub_one]; simp [hi]), this]
theorem full_low (n m : Nat) : (2 ^ (n + m) - 1) % 2 ^ n = 2 ^ n - 1 := by
 apply Nat.eq_of_testBit_eq
 intro k
 rw [Nat.testBit_mod_two_pow, Nat.testBit_two_pow_sub_one, Nat.testBit_two_pow_sub_one]
 by_cases h : k < n
 ·simp [h]; omega
 ·simp [h]
theorem full_high (n m : Nat) : (2 ^ (n + m) - 1) / 2 ^ n = 2 ^ m - 1 := by
 apply Nat.eq_of_testBit_eq
 intro k
 rw [bit_high, Nat.testBit_two_pow_sub_one, Nat.testBit_two_pow_sub_one]
 by_cases h : k < m
 ·simp [h]
 ·simp [h]
theorem tg_low {b : Bool} {L M : List Int} (h10 : L.length + M.length ≤ 10) (T i : Nat) (hi : i < L.length) : cB (tgR b L M) T i = cB L (T % 2 ^ L.length) i := by
 unfold cB
 rw [decide_eq_decide, tgR_length]
 constructor
 ·intro h j hj hb
  rw [bit_low _ _ _ hj]
  refine h j (by omega) ?_
  rw [tgR_lt h10 (by omega) (by omega)]
  unfold tg; rw [if_pos ⟨hj, hi⟩]; exact hb
 ·intro h j hj hb
  rw [tgR_lt h10 hj (by omega)] at hb
  unfold tg at hb
  by_cases hjl : j < L.length
  ·rw [if_pos ⟨hjl, hi⟩] at hb
   have := h j hjl hb
   rwa [bit_low _ _ _ hjl] at this
  ·rw [if_neg (by omega), if_neg (by omega)] at hb
   simp [hjl] at hb
theorem tg_beside {L M : List Int} (h10 : L.length + M.length ≤ 10) (T j : Nat) (hj : j < M.length) : cB (tgR false L M) T (L.length + j) = cB M (T / 2 ^ L.length) j := by
 unfold cB
 rw [decide_eq_decide, tgR_length]
 constructor
 ·intro h q hq hb
  rw [bit_high]
  refine h (L.length + q) (by omega) ?_
  rw [tgR_lt h10 (by omega) (by omega)]
  unfold tg
  rw [if_neg (by omega), if_pos (by omega), Nat.add_sub_cancel_left, Nat.add_sub_cancel_left]; exact hb
 ·intro h q hq hb
  rw [tgR_lt h10 hq (by omega)] at hb
  unfold tg at hb
  by_cases hql : q < L.length
  ·rw [if_neg (by omega), if_neg (by omega)] at hb
   simp at hb
  ·rw [if_neg (by omega), if_pos (by omega), Nat.add_sub_cancel_left] at hb
   have := h (q - L.length) (by omega) hb
   rw [bit_high, show L.length + (q - L.length) = q by omega] at this
   exact this
theorem tg_stack {L M : List Int} (h10 : L.length + M.length ≤ 10) (T j : Nat) (hj : j < M.length) : cB (tgR true L M) T (L.length + j) = (decide (T % 2 ^ L.length = 2 ^ L.length - 1) && cB M (T / 2 ^ L.length) j) := by
 rw [Bool.eq_iff_iff, Bool.and_eq_true, decide_eq_true_iff]
 unfold cB
 rw [decide_eq_true_iff, decide_eq_true_iff, tgR_length]
 constructor
 ·intro h
  refine ⟨Nat.eq_of_testBit_eq fun k => ?_, fun q hq hb => ?_⟩
  ·rw [Nat.testBit_mod_two_pow, Nat.testBit_two_pow_sub_one]
   by_cases hk : k < L.length
   ·have := h k (by omega) (by rw [tgR_lt h10 (by omega) (by omega)]; unfold tg; rw [if_neg (by omega), if_neg (by omega)]; simp [hk])
    simp [hk, this]
   ·simp [hk]
  ·rw [bit_high]
   refine h (L.length + q) (by omega) ?_
   rw [tgR_lt h10 (by omega) (by omega)]
   unfold tg
   rw [if_neg (by omega), if_pos (by omega), Nat.add_sub_cancel_left, Nat.add_sub_cancel_left]; exact hb
 ·rintro ⟨h1, h2⟩ q hq hb
  by_cases hql : q < L.length
  ·have := congrArg (fun x => x.testBit q) h1
   simp only [Nat.testBit_mod_two_pow, Nat.testBit_two_pow_sub_one] at this
   simpa [hql] using this
  ·rw [tgR_lt h10 hq (by omega)] at hb
   unfold tg at hb
   rw [if_neg (by omega), if_pos (by omega), Nat.add_sub_cancel_left] at hb
   have := h2 (q - L.length) (by omega) hb
   rw [bit_high, show L.length + (q - L.length) = q by omega] at this
   exact this
/-- all extensions -/
def extN (L : List Int) : Nat := wS L.length (cO L) (2 ^ L.length - 1)
theorem extN_cB {n : Int} {L : List Int} (h : relP n L) : extN L = wS L.length (cB L) (2 ^ L.length - 1) := by
 have h1 := h.1; have h2 := h.2.1
 have := Nat.two_pow_pos L.length
 exact wS_congr (by omega) (fun T i hT hi => cO_cB h hT hi) _ _ rfl (by omega)
theorem extN_le {n : Int} {L : List Int} (h : relP n L) : extN L ≤ 10000000000 := by
 have h1 := h.1; have h2 := h.2.1
 have e1 := wS_le (N := L.length) (c := cO L) (by omega) _ (2 ^ L.length - 1) rfl
 have e2 := pc_le L.length (2 ^ L.length - 1)
 have e3 : 10 ^ pc L.length (2 ^ L.length - 1) ≤ 10 ^ 10 := Nat.pow_le_pow_right (by omega) (by omega)
 unfold extN; omega
theorem extN_beside {n m : Int} {L M : List Int} (h1 : relP n L) (h2 : relP m M) (h10 : L.length + M.length ≤ 10) : extN (tgR false L M) = ch L.length M.length * (extN L * extN M) := by
 rw [extN_cB (tgR_relP h10), extN_cB h1, extN_cB h2, tgR_length]
 have := wS_beside (n := L.length) (m := M.length) (c := cB (tgR false L M)) (c1 := cB L) (c2 := cB M) (fun T i hi => tg_low h10 T i hi) (fun T j hj => tg_beside h10 T j hj) _ (2 ^ (L.length + M.length) - 1) rfl
 rwa [full_low, full_high, pc_full, pc_full] at this
theorem extN_stack {n m : Int} {L M : List Int} (h1 : relP n L) (h2 : relP m M) (h10 : L.length + M.length ≤ 10) : extN (tgR true L M) = extN L * extN M := by
 rw [extN_cB (tgR_relP h10), extN_cB h1, extN_cB h2, tgR_length]
 have := wS_stack (n := L.length) (m := M.length) (c := cB (tgR true L M)) (c1 := cB L) (c2 := cB M) (fun T i hi => tg_low h10 T i hi) (fun T j hj => tg_stack h10 T j hj) _ (2 ^ (L.length + M.length) - 1) rfl
 rw [full_low, full_high, pc_full] at this
 rw [this]
 split
 ·rename_i h0
  rw [wS_zero (N := M.length) (by rw [pc_full]; exact h0), Nat.mul_one]
 ·rw [if_pos rfl]
-- the first extension is one; whoever has an extension is counted
def fits (L F : List Int) : Prop := ∀ q : Nat, q < F.length → ∃ c : Nat, rd F (q : Int) = c ∧ c < L.length ∧ cand L (F.take q) c
theorem fits_snoc {L F : List Int} (h : fits L F) {c : Nat} (hc : c < L.length) (hcand : cand L F c) : fits L (F ++ [(c : Int)]) := by
 intro q hq
 rw [List.length_append, List.length_singleton] at hq
 by_cases e : q = F.length
 ·subst e
  refine ⟨c, ?_, hc, by rw [List.take_left' rfl]; exact hcand⟩
  rw [rd_lt _ _ (by simp)]; simp
 ·obtain ⟨c2, h1, h2, h3⟩ := h q (by omega)
  refine ⟨c2, ?_, h2, by rw [List.take_append_of_le_length (by omega)]; exact h3⟩
  rw [rd_lt _ q (by simp; omega), List.getElem_append_left (by omega), ← rd_lt F q (by omega)]; exact h1
theorem ifits_l0 {n : Int} {L : List Int} (h : orderP n L) (d : Nat) : ∀ F : List Int, F.length + d = L.length → early L F → fits L F → ∃ G, Ev (fun k => impl_FirstExtension.l0 k F (setL F) n L n (mir L)) (G, true) ∧ G.length = L.length ∧ fits L G := by
 have h1 := h.1.1; have h2 := h.1.2.1
 induction d with
 | zero =>
  intro F hF he hf
  refine ⟨F, Ev.shift ?_, by omega, hf⟩
  simp only [impl_FirstExtension.l0]
  exact Ev.neg (by omega) (Ev.ret rfl)
 | succ d ih =>
  intro F hF he hf
  obtain ⟨c0, hc0, hcand0⟩ := exists_cand h (by omega) he.1
  obtain ⟨c, hcle, hcand, hmin⟩ := least_nat (cand L F) c0 hcand0
  obtain ⟨G, hG, hGl, hGe⟩ := ih (F ++ [(c : Int)]) (by simp; omega) (early_snoc he (by omega) hmin) (fits_snoc hf (by omega) hcand)
  refine ⟨G, Ev.shift ?_, hGl, hGe⟩
  simp only [impl_FirstExtension.l0]
  exact Ev.pos (by omega) (ifirst_l1 h F he (by omega) _ c (by omega) hcand hmin hG c 0 (by omega))
theorem fits_ext {n : Int} {L F : List Int} (h : orderP n L) (hl : F.length = L.length) (hf : fits L F) : extP n L F := by
 have h1 := h.1.1; have h2 := h.1.2.1
 have hin : ∀ x ∈ F, 0 ≤ x ∧ x < (L.length : Int) := fun x hx => by
  obtain ⟨q, hq, rfl⟩ := List.mem_iff_getElem.1 hx
  obtain ⟨c, hc, hc2, _⟩ := hf q hq
  rw [rd_lt F q hq] at hc
  omega
 have hnod : F.Nodup := by
  refine List.pairwise_iff_getElem.2 fun i j hi hj hij e => ?_
  obtain ⟨c, hc, hc2, hcand⟩ := hf j hj
  refine hcand.1 ((mem_take_rd (by omega)).2 ⟨i, hij, ?_⟩)
  rw [← hc, rd_lt F i hi, rd_lt F j hj]; exact e
 have hall : ∀ m : Nat, m < L.length → (m : Int) ∈ F := by
  intro m hm
  refine Classical.byContradiction fun hno => ?_
  have hnn : (F.map Int.toNat).Nodup := by
   refine List.pairwise_map.2 (List.Pairwise.imp_of_mem (fun {a b} ha hb hne e => hne ?_) hnod)
   have := hin a ha; have := hin b hb; omega
  have := List.Nodup.length_le_of_subset (l₂ := (List.range L.length).erase m) hnn (fun x hx => by
   obtain ⟨y, hy, rfl⟩ := List.mem_map.1 hx
   have hy2 := hin y hy
   refine (List.mem_erase_of_ne (fun e => hno ?_)).2 (List.mem_range.2 (by omega))
   have : y = (m : Int) := by omega
   rw [← this]; exact hy)
  rw [List.length_erase_of_mem (List.mem_range.2 hm)] at this
  simp at this; omega
 have hb := setL_bits (l := F) (fun y hy => by have := hin y hy; omega)
 refine ⟨⟨by omega, fun x hx => by have := hin x hx; omega, ?_⟩, fun k hk => ?_⟩
 ·have hs := set_full (n := L.length) (by omega)
  rw [h2] at hs
  refine set_ext hb.1 hs.1 fun j hj => ?_
  rw [hb.2, hs.2]
  by_cases hjl : j < L.length
  ·simp [hjl, hall j hjl]
  ·have : ¬ (j : Int) ∈ F := fun hx => by have := hin _ hx; omega
   simp [hjl, this]
 ·obtain ⟨c, hc, hc2, hcand⟩ := hf k hk
  exact (okAt_iff h.1 (fun x hx => by have := hin x hx; omega) hc hc2).2 hcand.2
theorem iFirst_ext {n : Int} {L : List Int} (h : orderP n L) : ∃ G, Ev (fun k => impl_FirstExtension.f k n L) (G, true) ∧ extP n L G := by
 have h1 := h.1.1; have h2 := h.1.2.1
 obtain ⟨G, hG, hl, hf⟩ := ifits_l0 h L.length [] (by simp) ⟨fun x hx => (by cases hx), fun q hq => (by simp at hq)⟩ (fun q hq => (by simp at hq))
 refine ⟨G, ?_, fits_ext h hl hf⟩
 unfold impl_FirstExtension.f
 exact Ev.bind (isOrder_ev n L (by omega)) (Ev.pos (by simpa using h) (Ev.bind (mirror_ev h.1) hG))
theorem wS_pos {n : Int} {L F : List Int} (h : orderP n L) (hF : extP n L F) : 1 ≤ wS L.length (cO L) (2 ^ L.length - 1) := by
 have h1 := h.1.1; have h2 := h.1.2.1
 have hl : F.length = L.length := by have := hF.1.1; omega
 have e : n = (L.length : Int) := h2.symm
 have hnod := namP.nodup (N := L.length) (by omega) (e ▸ hF.1)
 have h10 : 2 ^ L.length ≤ 2 ^ 10 := Nat.pow_le_pow_right (by omega) (by omega)
 have hin : ∀ x ∈ F, 0 ≤ x ∧ x < 10 := fun x hx => by have := hF.1.2.1 x hx; omega
 have key : ∀ k, k ≤ F.length → ∃ S : Nat, setL (F.take k) = (S : Int) ∧ 1 ≤ wS L.length (cO L) S := by
  intro k
  induction k with
  | zero =>
   intro _
   refine ⟨0, by simp [setL], ?_⟩
   rw [wS_zero (by unfold pc; exact sumR_zero fun j _ => by simp)]; omega
  | succ k ih =>
   intro hk
   obtain ⟨S, hS, hw⟩ := ih (by omega)
   obtain ⟨i, hi, hi2⟩ := rd_in hF.1.2.1 (k := k) (by omega)
   have hb := setL_bits (l := F.take k) (fun y hy => hin y (List.mem_of_mem_take hy))
   have hS10 : S < 1024 := by have := hb.1.2; rw [hS] at this; omega
   have hbit : S.testBit i = false := by
    have := hb.2 i
    rw [hS, bit_nat] at this
    rw [this, decide_eq_false_iff_not]
    intro hx
    obtain ⟨q, hq, hq2⟩ := (mem_take_rd (by omega)).1 hx
    have := nodup_at hnod (i := q) (j := k) (by omega) (by omega) (by rw [hq2, hi])
    omega
   have hor : setL (F.take (k + 1)) = ((S ||| 2 ^ i : Nat) : Int) := by
    rw [take_snoc F k (by omega), setL_snoc, hS, hi]
    exact or_shl (N := 10) (by omega) hS10 (by omega)
   refine ⟨S ||| 2 ^ i, hor, ?_⟩
   obtain ⟨f1, f2⟩ := flip_or.2 ⟨hbit, rfl⟩
   have hp : 0 < pc L.length (S ||| 2 ^ i) := by have := pc_flip (N := L.length) (by omega) f1; omega
   rw [wS_step hp]
   refine Nat.le_trans ?_ (le_sumR (f := fun j => if (S ||| 2 ^ i).testBit j && cO L (flip (S ||| 2 ^ i) j) j then wS L.length (cO L) (flip (S ||| 2 ^ i) j) else 0) (show i < L.length by omega))
   have hc : cO L S i = true := by
    have := hF.2 k (by omega)
    unfold okAt at this
    rw [hi, hS] at this
    exact decide_eq_true this
   rw [f1, f2, hc]; simpa using hw
 obtain ⟨S, hS, hw⟩ := key F.length (Nat.le_refl _)
 rw [List.take_length, hF.1.2.2, e, full_nat (by omega)] at hS
 have : S = 2 ^ L.length - 1 := by omega
 rw [← this]; exact hw
theorem below_l {n : Int} {L : List Int} (h : relP n L) (i : Nat) (hi : i < L.length) (d : Nat) : ∀ (j : Nat), j + d = L.length → Ev (fun k => spec_orBelow.l0 k (i : Int) (rowf (fun j => lt L j i) j) L (L.length : Int) (j : Int)) (rowf (fun j => lt L j i) L.length) := by
 have e1 := h.2.1
 have e3 := h.1
 induction d with
 | zero =>
  intro j hj
  refine Ev.shift ?_
  simp only [spec_orBelow.l0]
  exact Ev.neg (by omega) (Ev.ret (by rw [show j = L.length by omega]))
 | succ d ih =>
  intro j hj
  have := ih (j + 1) (by omega)
  rw [rowf_succ] at this
  refine Ev.shift ?_
  simp only [spec_orBelow.l0]
  refine Ev.pos (by omega) (Ev.pos (by omega) (Ev.pos (by omega) (Ev.bindc (orHas_f (h.set (i := j) (by omega)).1 (h.set (i := j) (by omega)).2 (by omega)) ?_)))
  rw [wrap64_id (by omega) (by omega), cast1]
  by_cases hb : bit (rd L (j : Int)) i = true
  ·rw [if_pos (show lt L j i = true from hb)] at this
   exact Ev.pos hb this
  ·rw [if_neg (show ¬ lt L j i = true from hb)] at this
   exact Ev.neg hb this
theorem below_ev {n : Int} {L : List Int} (h : relP n L) {i : Nat} (hi : i < L.length) : Ev (fun k => spec_orBelow.f k n L (i : Int)) (rowf (fun j => lt L j i) L.length) := by
 unfold spec_orBelow.f
 exact below_l h i hi L.length 0 (by omega)
-- the reference's count of extensions
theorem scount_l1 {n : Int} {L : List Int} (h : orderP n L) (s : Nat) (hs : s < 2 ^ L.length) (R : List Int) (hk : ∀ y, arrOk L.length (cO L) (s + 1) 0 y → Ev (fun k => spec_orCount.l0 k y ((2 ^ L.length : Nat) : Int) ((s + 1 : Nat) : Int) n L) R) (d : Nat) :
  ∀ (i : Nat) (y : List Int), i + d = L.length → arrOk L.length (cO L) s i y → Ev (fun k => spec_orCount.l1 k y (s : Int) (i : Int) ((2 ^ L.length : Nat) : Int) (s : Int) n L) R := by
 have h1 := h.1.1; have h2 := h.1.2.1
 have h10 : 2 ^ L.length ≤ 2 ^ 10 := Nat.pow_le_pow_right (by omega) (by omega)
 induction d with
 | zero =>
  intro i y hi hy
  obtain rfl : i = L.length := by omega
  refine Ev.shift ?_
  simp only [spec_orCount.l1]
  refine Ev.neg (by omega) ?_
  rw [wrap64_id (by omega) (by omega), cast1]
  exact hk y (arr_next hy)
 | succ d ih =>
  intro i y hi hy
  have hil : i < L.length := by omega
  have hsp := setP_nat (N := L.length) (by omega) hs
  have fs : (s : Int) < (y.length : Int) := by rw [hy.1]; omega
  have er : rd (mir L) (i : Int) = rowf (fun j => lt L j i) L.length := rel_get _ _ i hil
  refine Ev.shift ?_
  simp only [spec_orCount.l1]
  refine Ev.pos (by omega) (Ev.bindc (orHas_f hsp.1 hsp.2 (by omega)) ?_)
  rw [wrap64_id (x := (i : Int) + 1) (by omega) (by omega), cast1, bit_nat]
  by_cases hb : s.testBit i = true
  ·exact Ev.pos hb (ih (i + 1) y (by omega) (arr_keep hy (.inl hb)))
  ·refine Ev.neg hb (Ev.bind (below_ev h.1 hil) ?_)
   by_cases hc : Go.bits .andNot .i64 (rowf (fun j => lt L j i) L.length) (s : Int) = 0
   ·have hp := arr_put (by omega) hy hs hil (by simpa using hb) (show cO L s i = true from decide_eq_true (by unfold andN; rw [er]; exact hc))
    have ft : ((s ||| 2 ^ i : Nat) : Int) < (y.length : Int) := by rw [hy.1]; exact Int.ofNat_lt.2 hp.1
    refine Ev.pos hc ?_
    rw [or_shl (by omega) hs hil]
    refine Ev.pos (by omega) (Ev.pos (by omega) (Ev.pos ft (Ev.pos (by omega) (Ev.pos fs ?_))))
    rw [Int.toNat_natCast]
    exact ih (i + 1) _ (by omega) hp.2
   ·exact Ev.neg hc (ih (i + 1) y (by omega) (arr_keep hy (.inr (decide_eq_false (by unfold andN; rw [er]; exact hc)))))
theorem scount_l0 {n : Int} {L : List Int} (h : orderP n L) (d : Nat) : ∀ (s : Nat) (y : List Int), s + d = 2 ^ L.length → arrOk L.length (cO L) s 0 y → ∃ z, Ev (fun k => spec_orCount.l0 k y ((2 ^ L.length : Nat) : Int) (s : Int) n L) z ∧ arrOk L.length (cO L) (2 ^ L.length) 0 z := by
 have h1 := h.1.1; have h2 := h.1.2.1
 have h10 : 2 ^ L.length ≤ 2 ^ 10 := Nat.pow_le_pow_right (by omega) (by omega)
 induction d with
 | zero =>
  intro s y hs hy
  obtain rfl : s = 2 ^ L.length := by omega
  refine ⟨y, Ev.shift ?_, hy⟩
  simp only [spec_orCount.l0]
  exact Ev.neg (by omega) (Ev.ret rfl)
 | succ d ih =>
  intro s y hs hy
  -- the array behind this set is one of those that fit; which one does not matter
  have key : ∀ (e : Nat) (i : Nat) (y : List Int), i + e = L.length → arrOk L.length (cO L) s i y → ∃ z, arrOk L.length (cO L) (s + 1) 0 z ∧ ∀ R, Ev (fun k => spec_orCount.l0 k z ((2 ^ L.length : Nat) : Int) ((s + 1 : Nat) : Int) n L) R → Ev (fun k => spec_orCount.l1 k y (s : Int) (i : Int) ((2 ^ L.length : Nat) : Int) (s : Int) n L) R := by
   have uniq : ∀ y z, arrOk L.length (cO L) (s + 1) 0 y → arrOk L.length (cO L) (s + 1) 0 z → y = z := by
    intro y z hy hz
    refine List.ext_getElem (by rw [hy.1, hz.1]) (fun T h3 h4 => ?_)
    have e1 := hy.2 T (by rw [← hy.1]; exact h3)
    have e2 := hz.2 T (by rw [← hz.1]; exact h4)
    rw [rd_lt y T h3] at e1
    rw [rd_lt z T h4] at e2
    rw [e1, e2]
   intro e i y hi hy
   refine ⟨(List.range (2 ^ L.length)).map fun T => (pw L.length (cO L) (s + 1) 0 T : Int), ?_, fun R hR => ?_⟩
   ·refine ⟨by simp, fun T hT => ?_⟩
    rw [rd_lt _ T (by simpa using hT)]; simp
   ·refine scount_l1 h s (by omega) R (fun z hz => ?_) e i y hi hy
    have hz2 : arrOk L.length (cO L) (s + 1) 0 ((List.range (2 ^ L.length)).map fun T => (pw L.length (cO L) (s + 1) 0 T : Int)) := ⟨by simp, fun T hT => by rw [rd_lt _ T (by simpa using hT)]; simp⟩
    rw [uniq z _ hz hz2]; exact hR
  obtain ⟨z, hz, hzR⟩ := key L.length 0 y (by omega) hy
  obtain ⟨w, hw, hwa⟩ := ih (s + 1) z (by omega) hz
  refine ⟨w, Ev.shift ?_, hwa⟩
  simp only [spec_orCount.l0]
  exact Ev.pos (by omega) (hzR w hw)
theorem sCount_ev {n : Int} {L : List Int} (h : orderP n L) : Ev (fun k => spec_CountExtensions.f k n L) ((wS L.length (cO L) (2 ^ L.length - 1) : Int), true) := by
 have h1 := h.1.1; have h2 := h.1.2.1
 have h10 : 2 ^ L.length ≤ 2 ^ 10 := Nat.pow_le_pow_right (by omega) (by omega)
 have hp : 0 < 2 ^ L.length := Nat.two_pow_pos _
 have e : n = (L.length : Int) := h2.symm
 obtain ⟨z, hz, hza⟩ := scount_l0 h (2 ^ L.length) 0 _ (by omega) (arr_start _ _)
 have es : shl .i64 1 n = ((2 ^ L.length : Nat) : Int) := by rw [e]; exact shl_pow (by omega)
 have hc : Ev (fun k => spec_orCount.f k n L) z := by
  unfold spec_orCount.f
  rw [es]
  refine Ev.pos (by omega) (Ev.pos (by omega) (Ev.pos (by rw [Int.toNat_natCast]; omega) (Ev.bindc rfl (Ev.pos (by rw [List.length_replicate, Int.toNat_natCast]; omega) ?_))))
  rw [Int.toNat_natCast, List.length_replicate]
  exact hz
 have ef : wrap64 (shl .i64 1 n - 1) = ((2 ^ L.length - 1 : Nat) : Int) := by rw [e]; exact full_nat (by omega)
 unfold spec_CountExtensions.f
 rw [ef]
 refine Ev.bind (orGood_ev n L (by omega)) (Ev.pos (by simpa using h) (Ev.bind hc (Ev.pos (by omega) (Ev.pos (by omega) (Ev.pos (by rw [hza.1]; omega) (Ev.ret ?_))))))
 rw [arr_end (by omega) hza (by omega)]
theorem sCount_no {n : Int} {L : List Int} (hl : L.length ≤ 1048576) (h : ¬ orderP n L) : Ev (fun k => spec_CountExtensions.f k n L) (0, false) := by
 unfold spec_CountExtensions.f
 exact Ev.bind (orGood_ev n L hl) (Ev.neg (by simpa using h) (Ev.ret rfl))
end Go.Proofs.YtgdnljpallpjiaaDoor.Pure
