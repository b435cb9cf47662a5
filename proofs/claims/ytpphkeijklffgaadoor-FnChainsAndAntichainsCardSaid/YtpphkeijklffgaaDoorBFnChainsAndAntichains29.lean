import Derived.Test.YtpphkeijklffgaaDoorBFnChainsAndAntichains23
import Derived.Test.YtpphkeijklffgaaDoorBFnChainsAndAntichains28
namespace Go.Proofs.YtpphkeijklffgaaDoor.Pure
open Go.RowKit Go.Proofs.YtpphkeijklffgaaDoor.Q Go.Proofs.YtpphkeijklffgaaDoorW.PrintWords Go.Proofs.YtpphkeijklffgaaDoorW.PrintLast
set_option linter.unusedVariables false
set_option linter.unusedSimpArgs false
-- the longest chain
theorem bits_less {a b : Int} {j : Nat} (hj : j < 10) (hb : bit b j = true) (ha : bit a j = false) (hs : ∀ m, bit a m = true → bit b m = true) : (bitsOf a).length < (bitsOf b).length := by
 unfold bitsOf
 rw [List.length_map, List.length_map]
 have hm : j ∈ (List.range 10).filter (bit b) := List.mem_filter.2 ⟨List.mem_range.2 hj, hb⟩
 have h1 := nodup_le ((List.range 10).filter (bit a)) (((List.range 10).filter (bit b)).erase j) (List.Pairwise.filter _ List.nodup_range) (fun m hma => by
  have h2 := List.mem_filter.1 hma
  refine (List.mem_erase_of_ne (fun e => ?_)).2 (List.mem_filter.2 ⟨h2.1, hs m h2.2⟩)
  rw [e, ha] at h2; cases h2.2)
 rw [List.length_erase_of_mem hm] at h1
 have := List.length_pos_of_mem hm
 omega
def pickC (c : Int → List Int) (b : List Int) (i : Int) : List Int := if (c i).length > b.length then c i else b
def upS (L : List Int) (S : Int) : Prop := setP S ∧ (∀ j, bit S j = true → j < L.length) ∧ ∀ j m, bit S j = true → lt L j m = true → bit S m = true
def chQ (L : List Int) (S : Int) (y : List Int) : Prop := (∀ x ∈ y, x ∈ bitsOf S) ∧ y.Pairwise (fun a b => lt L a.toNat b.toNat = true) ∧ y.length ≤ (bitsOf S).length
section
variable {n : Int} {L : List Int}
theorem lt_in (h : relP n L) {i j : Nat} (hi : i < L.length) (hj : lt L i j = true) : j < L.length := by
 have hr := h.row hi
 exact bit_lt hr.1 hr.2.2 hj
theorem up_row (h : orderP n L) {i : Nat} (hi : i < L.length) : upS L (rd L (i : Int)) := ⟨h.1.set hi, fun _ hj => lt_in h.1 hi hj, fun _ _ hj hm => h.trans hi hj hm⟩
theorem up_full (h : orderP n L) : upS L (full n) := by
 have h10 : L.length ≤ 10 := by have := h.1.1; have := h.1.2.1; omega
 have hf := set_full (n := L.length) h10
 rw [h.1.2.1] at hf
 refine ⟨hf.1, fun j hj => ?_, fun j m hj hm => ?_⟩
 ·rw [hf.2] at hj; simpa using hj
 ·rw [hf.2] at hj ⊢
  simpa using lt_in h.1 (by simpa using hj) hm
theorem and_row (h : orderP n L) {S : Int} (hS : upS L S) {j : Nat} (hj : bit S j = true) : Go.bits .and .i64 (rd L (j : Int)) S = rd L (j : Int) := by
 have hr := h.1.set (hS.2.1 j hj)
 have ha := set_and hr hS.1
 refine set_ext ha.1 hr (fun m _ => ?_)
 rw [ha.2]
 cases hm : bit (rd L (j : Int)) m
 ·rfl
 ·rw [hS.2.2 j m hj hm]; rfl
theorem ch_cons (h : orderP n L) {S : Int} (hS : upS L S) {j : Nat} (hj : bit S j = true) {t : List Int} (ht : chQ L (rd L (j : Int)) t) : chQ L S ((j : Int) :: t) := by
 have h10 : L.length ≤ 10 := by have := h.1.1; have := h.1.2.1; omega
 have hjl := hS.2.1 j hj
 have hel : ∀ x ∈ t, ∃ m : Nat, x = m ∧ lt L j m = true ∧ m < 10 := fun x hx => by
  obtain ⟨m, hm10, hm, rfl⟩ := mem_bitsOf.1 (ht.1 x hx)
  exact ⟨m, rfl, hm, hm10⟩
 refine ⟨fun x hx => ?_, List.pairwise_cons.2 ⟨fun x hx => ?_, ht.2.1⟩, ?_⟩
 ·rcases List.mem_cons.1 hx with rfl | hx
  ·exact mem_bitsOf.2 ⟨j, by omega, hj, rfl⟩
  ·obtain ⟨m, rfl, hm, h2⟩ := hel x hx
   exact mem_bitsOf.2 ⟨m, h2, hS.2.2 j m hj hm, rfl⟩
 ·obtain ⟨m, rfl, hm, _⟩ := hel x hx
  simpa using hm
 ·have := bits_less (a := rd L (j : Int)) (b := S) (j := j) (by omega) hj (h.irr hjl) (fun m hm => hS.2.2 j m hj hm)
  have := ht.2.2
  simp only [List.length_cons]
  omega
def cho (n : Int) (L : List Int) (S : Int) (c : Int → List Int) : Prop := ∀ j : Nat, bit S j = true → ∃ t, c (j : Int) = (j : Int) :: t ∧ Ev (fun k => spec_orLonger.f k n L (rd L (j : Int))) t ∧ Ev (fun k => impl_LongestChain_1.f k (j : Int) n L) ((j : Int) :: t) ∧ chQ L (rd L (j : Int)) t
theorem pick_Q (h : orderP n L) {S : Int} (hS : upS L S) {c : Int → List Int} (hc : cho n L S c) {b : List Int} (hb : chQ L S b) {j : Nat} (hj : bit S j = true) : chQ L S (pickC c b (j : Int)) := by
 obtain ⟨t, t1, _, _, t4⟩ := hc j hj
 unfold pickC
 split
 ·rw [t1]; exact ch_cons h hS hj t4
 ·exact hb
theorem fold_Q (h : orderP n L) {S : Int} (hS : upS L S) {c : Int → List Int} (hc : cho n L S c) : ∀ (l b : List Int), (∀ x ∈ l, x ∈ bitsOf S) → chQ L S b → chQ L S (l.foldl (pickC c) b)
 | [], _, _, hb => hb
 | x :: l, b, hl, hb => by
  obtain ⟨j, _, hj, rfl⟩ := mem_bitsOf.1 (hl x List.mem_cons_self)
  exact fold_Q h hS hc l _ (fun y hy => hl y (List.mem_cons_of_mem _ hy)) (pick_Q h hS hc hb hj)
theorem longer_l (h : orderP n L) {S : Int} (hS : upS L S) {c : Int → List Int} (hc : cho n L S c) (d : Nat) : ∀ (q : Nat) (b : List Int), q + d = (bitsOf S).length → Ev (fun k => spec_orLonger.l0 k S b (bitsOf S) ((bitsOf S).length : Int) (q : Int) n L) (((bitsOf S).drop q).foldl (pickC c) b) := by
 have h10 : L.length ≤ 10 := by have := h.1.1; have := h.1.2.1; omega
 have hb10 := bitsOf_len S
 induction d with
 | zero =>
  intro q b hq
  refine Ev.shift ?_
  simp only [spec_orLonger.l0]
  refine Ev.neg (by omega) (Ev.ret ?_)
  rw [List.drop_of_length_le (by omega)]; rfl
 | succ d ih =>
  intro q b hq
  obtain ⟨j, _, hj, hjq⟩ := mem_bitsOf.1 (show rd (bitsOf S) (q : Int) ∈ bitsOf S by rw [rd_lt _ q (by omega)]; exact List.getElem_mem _)
  have hjl := hS.2.1 j hj
  obtain ⟨t, t1, t2, t3, t4⟩ := hc j hj
  have ht10 := bitsOf_len (rd L (j : Int))
  have ht := t4.2.2
  rw [drop_rd _ q (by omega), List.foldl_cons, hjq]
  have hn1 := ih (q + 1) (pickC c b (j : Int)) (by omega)
  refine Ev.shift ?_
  simp only [spec_orLonger.l0]
  rw [wrap64_id (x := (q : Int) + 1) (by omega) (by omega), cast1, hjq, and_row h hS hj]
  refine Ev.pos (by omega) (Ev.pos (by omega) (Ev.pos (by omega) (Ev.bindc rfl (Ev.pos (by omega) (Ev.pos (by omega) (Ev.bind t2 (Ev.pos (by simp; omega) (Ev.bindc rfl ?_))))))))
  unfold pickC at hn1
  rw [t1] at hn1
  simp only [List.singleton_append]
  by_cases hc2 : ((j : Int) :: t).length > b.length
  ·rw [if_pos hc2] at hn1
   exact Ev.pos (by omega) (by unfold pickC; rw [t1, if_pos hc2]; exact hn1)
  ·rw [if_neg hc2] at hn1
   exact Ev.neg (by omega) (by unfold pickC; rw [t1, if_neg hc2]; exact hn1)
theorem longest_l (h : orderP n L) {S : Int} (hS : upS L S) {c : Int → List Int} (hc : cho n L S c) (i : Int) (d : Nat) : ∀ (q : Nat) (b : List Int), q + d = (bitsOf S).length → chQ L S b → Ev (fun k => impl_LongestChain_1.l0 k i b (bitsOf S) ((bitsOf S).length : Int) (q : Int) n L) (i :: ((bitsOf S).drop q).foldl (pickC c) b) := by
 have h10 : L.length ≤ 10 := by have := h.1.1; have := h.1.2.1; omega
 have hb10 := bitsOf_len S
 induction d with
 | zero =>
  intro q b hq hb
  have := hb.2.2
  refine Ev.shift ?_
  simp only [impl_LongestChain_1.l0]
  rw [List.drop_of_length_le (by omega)]
  exact Ev.neg (by omega) (Ev.bindc rfl (Ev.pos (by simp; omega) (Ev.ret rfl)))
 | succ d ih =>
  intro q b hq hb
  obtain ⟨j, _, hj, hjq⟩ := mem_bitsOf.1 (show rd (bitsOf S) (q : Int) ∈ bitsOf S by rw [rd_lt _ q (by omega)]; exact List.getElem_mem _)
  obtain ⟨t, t1, t2, t3, t4⟩ := hc j hj
  rw [drop_rd _ q (by omega), List.foldl_cons, hjq]
  have hn1 := ih (q + 1) (pickC c b (j : Int)) (by omega) (pick_Q h hS hc hb hj)
  refine Ev.shift ?_
  simp only [impl_LongestChain_1.l0]
  rw [wrap64_id (x := (q : Int) + 1) (by omega) (by omega), cast1, hjq]
  refine Ev.pos (by omega) (Ev.pos (by omega) (Ev.pos (by omega) (Ev.bind t3 ?_)))
  have hp : pickC c b (j : Int) = if ((j : Int) :: t).length > b.length then (j : Int) :: t else b := by unfold pickC; rw [t1]
  rw [hp] at hn1 ⊢
  by_cases hc2 : ((j : Int) :: t).length > b.length
  ·rw [if_pos hc2] at hn1 ⊢
   exact Ev.pos (by omega) hn1
  ·rw [if_neg hc2] at hn1 ⊢
   exact Ev.neg (by omega) hn1
theorem ch_nil (L : List Int) (S : Int) : chQ L S [] := ⟨by simp, List.Pairwise.nil, by simp⟩
theorem chain_ev (h : orderP n L) : ∀ (d i : Nat), i < L.length → (bitsOf (rd L (i : Int))).length < d → ∃ t, Ev (fun k => spec_orLonger.f k n L (rd L (i : Int))) t ∧ Ev (fun k => impl_LongestChain_1.f k (i : Int) n L) ((i : Int) :: t) ∧ chQ L (rd L (i : Int)) t := by
 have h10 : L.length ≤ 10 := by have := h.1.1; have := h.1.2.1; omega
 intro d
 induction d with
 | zero => intro i _ h0; omega
 | succ d ih =>
  intro i hi hd
  have hS := up_row h hi
  have hch : ∀ j : Nat, ∃ t, bit (rd L (i : Int)) j = true → (Ev (fun k => spec_orLonger.f k n L (rd L (j : Int))) t ∧ Ev (fun k => impl_LongestChain_1.f k (j : Int) n L) ((j : Int) :: t) ∧ chQ L (rd L (j : Int)) t) := fun j => by
   by_cases hj : bit (rd L (i : Int)) j = true
   ·have hjl := hS.2.1 j hj
    have := bits_less (a := rd L (j : Int)) (b := rd L (i : Int)) (j := j) (by omega) hj (h.irr hjl) (fun m hm => hS.2.2 j m hj hm)
    obtain ⟨t, ht⟩ := ih j hjl (by omega)
    exact ⟨t, fun _ => ht⟩
   ·exact ⟨[], fun e => absurd e hj⟩
  obtain ⟨c, hc⟩ := Classical.axiomOfChoice hch
  have hcho : cho n L (rd L (i : Int)) (fun x => x :: c x.toNat) := fun j hj => ⟨c j, rfl, (hc j hj).1, (hc j hj).2.1, (hc j hj).2.2⟩
  have e1 := longer_l h hS hcho (bitsOf (rd L (i : Int))).length 0 [] (by omega)
  have e2 := longest_l h hS hcho (i : Int) (bitsOf (rd L (i : Int))).length 0 [] (by omega) (ch_nil _ _)
  rw [List.drop_zero] at e1 e2
  refine ⟨_, Ev.shift ?_, Ev.shift ?_, fold_Q h hS hcho (bitsOf (rd L (i : Int))) [] (fun x hx => hx) (ch_nil _ _)⟩
  ·simp only [spec_orLonger.f]
   exact Ev.bind (orList_ev hS.1.1 hS.1.2) e1
  ·simp only [impl_LongestChain_1.f]
   exact Ev.pos (by omega) (Ev.pos (by omega) (Ev.bind (members_ev hS.1.1 hS.1.2) e2))
theorem bits_full (h : relP n L) : bitsOf (full n) = (List.range L.length).map fun (m : Nat) => (m : Int) := by
 have h10 : L.length ≤ 10 := by have := h.1; have := h.2.1; omega
 have hf := set_full (n := L.length) h10
 rw [h.2.1] at hf
 refine rising_ext (bitsOf_lt _) (List.pairwise_map.2 (List.Pairwise.imp (fun hab => by omega) List.pairwise_lt_range)) (fun x => ?_)
 rw [mem_bitsOf, List.mem_map]
 constructor
 ·rintro ⟨m, _, hb, rfl⟩
  rw [hf.2] at hb
  exact ⟨m, List.mem_range.2 (by simpa using hb), rfl⟩
 ·rintro ⟨m, hm, rfl⟩
  have := List.mem_range.1 hm
  exact ⟨m, by omega, by rw [hf.2]; simpa using this, rfl⟩
theorem ltop_l (h : orderP n L) {c : Int → List Int} (hc : cho n L (full n) c) (d : Nat) : ∀ (q : Nat) (b : List Int), q + d = L.length → Ev (fun k => impl_LongestChain.l0 k b n (q : Int) n L) (((bitsOf (full n)).drop q).foldl (pickC c) b, true) := by
 have h10 : L.length ≤ 10 := by have := h.1.1; have := h.1.2.1; omega
 have hn := h.1.2.1
 have hbl : (bitsOf (full n)).length = L.length := by rw [bits_full h.1]; simp
 have hrd : ∀ q : Nat, q < L.length → rd (bitsOf (full n)) (q : Int) = q := fun q hq => by
  rw [bits_full h.1, rd_lt _ q (by simpa using hq)]; simp
 induction d with
 | zero =>
  intro q b hq
  refine Ev.shift ?_
  simp only [impl_LongestChain.l0]
  refine Ev.neg (by omega) (Ev.ret ?_)
  rw [List.drop_of_length_le (by omega)]; rfl
 | succ d ih =>
  intro q b hq
  have hf := set_full (n := L.length) h10
  rw [hn] at hf
  obtain ⟨t, t1, t2, t3, t4⟩ := hc q (by rw [hf.2]; simp; omega)
  rw [drop_rd _ q (by omega), List.foldl_cons, hrd q (by omega)]
  have hn1 := ih (q + 1) (pickC c b (q : Int)) (by omega)
  refine Ev.shift ?_
  simp only [impl_LongestChain.l0]
  rw [wrap64_id (x := (q : Int) + 1) (by omega) (by omega), cast1]
  refine Ev.pos (by omega) (Ev.bind t3 ?_)
  have hp : pickC c b (q : Int) = if ((q : Int) :: t).length > b.length then (q : Int) :: t else b := by unfold pickC; rw [t1]
  rw [hp] at hn1 ⊢
  by_cases hc2 : ((q : Int) :: t).length > b.length
  ·rw [if_pos hc2] at hn1 ⊢
   exact Ev.pos (by omega) hn1
  ·rw [if_neg hc2] at hn1 ⊢
   exact Ev.neg (by omega) hn1
theorem chain_both (h : orderP n L) : ∃ y, Ev (fun k => impl_LongestChain.l0 k [] n 0 n L) (y, true) ∧ Ev (fun k => spec_orLonger.f k n L (full n)) y ∧ chQ L (full n) y := by
 have h10 : L.length ≤ 10 := by have := h.1.1; have := h.1.2.1; omega
 have hS := up_full h
 have hch : ∀ j : Nat, ∃ t, bit (full n) j = true → (Ev (fun k => spec_orLonger.f k n L (rd L (j : Int))) t ∧ Ev (fun k => impl_LongestChain_1.f k (j : Int) n L) ((j : Int) :: t) ∧ chQ L (rd L (j : Int)) t) := fun j => by
  by_cases hj : bit (full n) j = true
  ·obtain ⟨t, ht⟩ := chain_ev h 11 j (hS.2.1 j hj) (by have := bitsOf_len (rd L (j : Int)); omega)
   exact ⟨t, fun _ => ht⟩
  ·exact ⟨[], fun e => absurd e hj⟩
 obtain ⟨c, hc⟩ := Classical.axiomOfChoice hch
 have hcho : cho n L (full n) (fun x => x :: c x.toNat) := fun j hj => ⟨c j, rfl, (hc j hj).1, (hc j hj).2.1, (hc j hj).2.2⟩
 have e1 := longer_l h hS hcho (bitsOf (full n)).length 0 [] (by omega)
 have e2 := ltop_l h hcho L.length 0 [] (by omega)
 rw [List.drop_zero] at e1 e2
 refine ⟨_, e2, Ev.shift ?_, fold_Q h hS hcho (bitsOf (full n)) [] (fun x hx => hx) (ch_nil _ _)⟩
 simp only [spec_orLonger.f]
 exact Ev.bind (orList_ev hS.1.1 hS.1.2) e1
end
end Go.Proofs.YtpphkeijklffgaaDoor.Pure
/- The chain numbers, the longest chain and the largest antichain of an order are the same by both roads, they fit one another, for every two strings of bytes. Condition: the listed variables, tied to the program's text by the card. -/
namespace Go.Proofs.YtpphkeijklffgaaDoor.Pure
open Go.RowKit Go.Proofs.YtpphkeijklffgaaDoor.Q Go.Proofs.YtpphkeijklffgaaDoorW.PrintWords Go.Proofs.YtpphkeijklffgaaDoorW.PrintLast
set_option linter.unusedVariables false
set_option linter.unusedSimpArgs false
theorem drawCh {c : List Int} (hc : bytesP c) : ∃ n L, Ev (fun k => spec_DrawChainNumbers.f k c) (n, L) ∧ L.length ≤ 12 := by
 obtain ⟨n, L, a', s', he, hn, h2, h3⟩ := anyOrder_d hc (a := 0) 0 7 (by omega) (by omega) ⟨by omega, by omega⟩
 have hl : L.length ≤ 10 := hn.2.1
 unfold spec_DrawChainNumbers.f
 have hg := orGood_ev n L (show L.length ≤ 1048576 by omega)
 by_cases h : orderP n L
 ·have h1 := h.1.1
  have h4 := h.1.2.1
  obtain ⟨N, a2, s2, e2, hN, h7, h8⟩ := names_d hc (a := a') s' n (by omega) (by omega) (by omega)
  have hnm := orNames_ev (N := L.length) (by omega) N (by omega)
  rw [h4] at hnm
  by_cases hgn : namP n N
  ·have hNl := hgn.1
   have hE := orPart_ev h.1 N (fun x hx => by have := hgn.2.1 x hx; omega) (by omega)
   refine ⟨(N.length : Int), partR L N, Ev.bind he (Ev.bind hg (Ev.pos (by simpa using h) (Ev.bind e2 (Ev.bind hnm (Ev.pos (by simpa using hgn) (Ev.bind hE (Ev.ret rfl))))))), ?_⟩
   unfold partR
   rw [rel_length]; omega
  ·exact ⟨n, L, Ev.bind he (Ev.bind hg (Ev.pos (by simpa using h) (Ev.bind e2 (Ev.bind hnm (Ev.neg (by simpa using hgn) (Ev.ret rfl)))))), by omega⟩
 ·exact ⟨n, L, Ev.bind he (Ev.bind hg (Ev.neg (by simpa using h) (Ev.ret rfl))), by omega⟩
theorem pHas_l (l : List Int) (hl : l.length ≤ 1000) (x : Int) (d : Nat) : ∀ i : Nat, i + d = l.length → Ev (fun k => laws_pHas.l0 k x l (l.length : Int) (i : Int)) (decide (x ∈ l.drop i)) := by
 induction d with
 | zero =>
  intro i hi
  refine Ev.shift ?_
  simp only [laws_pHas.l0]
  refine Ev.neg (by omega) (Ev.ret ?_)
  rw [List.drop_of_length_le (by omega)]; simp
 | succ d ih =>
  intro i hi
  rw [drop_rd l i (by omega)]
  have hnext := ih (i + 1) (by omega)
  refine Ev.shift ?_
  simp only [laws_pHas.l0]
  rw [wrap64_id (x := (i : Int) + 1) (by omega) (by omega), cast1]
  refine Ev.pos (by omega) (Ev.pos (by omega) (Ev.pos (by omega) ?_))
  by_cases hc : rd l (i : Int) = x
  ·exact Ev.pos hc (Ev.ret (by rw [hc]; simp))
  ·refine Ev.neg hc (Ev.eq hnext ?_)
   simp [Ne.symm hc]
theorem pHas_ev (l : List Int) (hl : l.length ≤ 1000) (x : Int) : Ev (fun k => laws_pHas.f k l x) (decide (x ∈ l)) := by
 unfold laws_pHas.f
 exact pHas_l l hl x l.length 0 (by omega)
section
variable {n : Int} {L A r y : List Int}
def threeP (n : Int) (L A r y : List Int) : Prop := orderP n L ∧ AL L (full n) A ∧ (r.length = L.length ∧ (∀ x ∈ r, 0 ≤ x ∧ x < (A.length : Int)) ∧ okC L r) ∧ chQ L (full n) y
theorem elAt_of (h : orderP n L) {l : List Int} (hl : ∀ x ∈ l, x ∈ bitsOf (full n)) {q : Nat} (hq : q < l.length) : ∃ m : Nat, rd l (q : Int) = m ∧ m < L.length := by
 have hS := up_full h
 obtain ⟨m, _, hm, e⟩ := mem_bitsOf.1 (hl (rd l (q : Int)) (by rw [rd_lt l q hq]; exact List.getElem_mem _))
 exact ⟨m, e, hS.2.1 m hm⟩
theorem free_no {i j : Nat} (h : freeP L i j = true) : lt L i j = false ∧ lt L j i = false := by
 unfold freeP at h
 simp only [Bool.and_eq_true, Bool.not_eq_true', decide_eq_false_iff_not] at h
 exact h.1
theorem free_of {i j : Nat} (hij : i ≠ j) (h : freeP L i j = false) : lt L i j = true ∨ lt L j i = true := by
 unfold freeP at h
 cases h1 : lt L i j
 ·cases h2 : lt L j i
  ·rw [h1, h2] at h
   simp at h
   exact absurd h.symm hij
  ·exact .inr rfl
 ·exact .inl rfl
theorem chL4 (hp : threeP n L A r y) (i : Nat) (hi : i < L.length) (hk : Ev (fun k => laws_FnChainsAndAntichains.l3 k r A r (r.length : Int) (wrap64 ((i : Int) + 1)) n L) true) (d : Nat) :
  ∀ j : Nat, j + d = L.length → Ev (fun k => laws_FnChainsAndAntichains.l4 k r A (i : Int) (rd r (i : Int)) r (r.length : Int) (i : Int) r (r.length : Int) (j : Int) n L) true := by
 obtain ⟨h, _, ⟨r1, r2, r3⟩, _⟩ := hp
 have h10 : L.length ≤ 10 := by have := h.1.1; have := h.1.2.1; omega
 have hri := h.1.row hi
 induction d with
 | zero =>
  intro j hj
  refine Ev.shift ?_
  simp only [laws_FnChainsAndAntichains.l4]
  exact Ev.neg (by omega) hk
 | succ d ih =>
  intro j hj
  have hjl : j < L.length := by omega
  have hrj := h.1.row hjl
  have e1 := pIn_f hri.1 hri.2.1 (show j < 10 by omega)
  have e2 := pIn_f hrj.1 hrj.2.1 (show i < 10 by omega)
  have hnext := ih (j + 1) (by omega)
  refine Ev.shift ?_
  simp only [laws_FnChainsAndAntichains.l4]
  rw [wrap64_id (x := (j : Int) + 1) (by omega) (by omega), cast1]
  refine Ev.pos (by omega) (Ev.pos (by omega) (Ev.pos (by omega) ?_))
  by_cases hij : (i : Int) = j
  ·exact Ev.pos hij hnext
  refine Ev.neg hij ?_
  by_cases he : rd r (i : Int) = rd r (j : Int)
  ·refine Ev.pos he (Ev.pos (by omega) (Ev.pos (by omega) (Ev.bindc e1 ?_)))
   have hfr : freeP L i j = false := by
    rcases Nat.lt_or_gt_of_ne (show i ≠ j by omega) with hlt | hlt
    ·have := r3 j i hlt (by omega) he
     cases hc : freeP L i j
     ·rfl
     ·rw [freeP_sym hc] at this; cases this
    ·exact r3 i j hlt (by omega) he.symm
   rcases free_of (show i ≠ j by omega) hfr with g | g
   ·exact Ev.pos g hnext
   ·by_cases g1 : bit (rd L (i : Int)) j = true
    ·exact Ev.pos g1 hnext
    ·exact Ev.neg g1 (Ev.pos (by omega) (Ev.bindc e2 (Ev.pos g hnext)))
  ·exact Ev.neg he hnext
theorem chL3 (hp : threeP n L A r y) (d : Nat) : ∀ i : Nat, i + d = L.length → Ev (fun k => laws_FnChainsAndAntichains.l3 k r A r (r.length : Int) (i : Int) n L) true := by
 have hp' := hp
 obtain ⟨h, _, ⟨r1, r2, r3⟩, _⟩ := hp'
 have h10 : L.length ≤ 10 := by have := h.1.1; have := h.1.2.1; omega
 induction d with
 | zero =>
  intro i hi
  refine Ev.shift ?_
  simp only [laws_FnChainsAndAntichains.l3]
  exact Ev.neg (by omega) (Ev.ret rfl)
 | succ d ih =>
  intro i hi
  have hr := r2 (rd r (i : Int)) (by rw [rd_lt r i (by omega)]; exact List.getElem_mem _)
  have hnext := ih (i + 1) (by omega)
  refine Ev.shift ?_
  simp only [laws_FnChainsAndAntichains.l3]
  refine Ev.pos (by omega) (Ev.pos (by omega) (Ev.pos (by omega) (Ev.neg (by omega) (Ev.neg (by omega) ?_))))
  exact chL4 hp i (by omega) (by rw [wrap64_id (x := (i : Int) + 1) (by omega) (by omega), cast1]; exact hnext) L.length 0 (by omega)
theorem chL2 (hp : threeP n L A r y) (cnt : Int) (p : Nat) (hpl : p < A.length) (hk : Ev (fun k => laws_FnChainsAndAntichains.l1 k r y A cnt A (A.length : Int) (wrap64 ((p : Int) + 1)) n L) true) (d : Nat) :
  ∀ q : Nat, q + d = p → Ev (fun k => laws_FnChainsAndAntichains.l2 k r y A cnt (rd A (p : Int)) A (A.length : Int) (p : Int) (A.take p) ((A.take p).length : Int) (q : Int) n L) true := by
 obtain ⟨h, hA, ⟨r1, r2, r3⟩, _⟩ := hp
 have h10 : L.length ≤ 10 := by have := h.1.1; have := h.1.2.1; omega
 have htl : (A.take p).length = p := by rw [List.length_take]; omega
 have hAl : A.length ≤ 10 := by
  obtain ⟨T, _, _, e⟩ := al_set h.1 (fun j hj => (up_full h).2.1 j hj) hA
  rw [← e]; exact bitsOf_len _
 obtain ⟨b, eb, hb⟩ := elAt_of h hA.2.1 hpl
 have hrb := h.1.row hb
 induction d with
 | zero =>
  intro q hq
  refine Ev.shift ?_
  simp only [laws_FnChainsAndAntichains.l2]
  exact Ev.neg (by omega) hk
 | succ d ih =>
  intro q hq
  obtain ⟨a, ea, ha⟩ := elAt_of h hA.2.1 (show q < A.length by omega)
  have hra := h.1.row ha
  have etk : rd (A.take p) (q : Int) = a := by rw [← ea, rd_lt _ q (by omega), rd_lt A q (by omega)]; simp
  have hlt : a < b := by
   have := List.pairwise_iff_getElem.1 hA.1 q p (by omega) hpl (by omega)
   rw [← rd_lt A q (by omega), ← rd_lt A p hpl, ea, eb] at this
   omega
  have hfr : freeP L a b = true := by
   have := List.pairwise_iff_getElem.1 hA.2.2 q p (by omega) hpl (by omega)
   rw [← rd_lt A q (by omega), ← rd_lt A p hpl, ea, eb] at this
   simpa using this
  have hno := free_no hfr
  have e1 := pIn_f hrb.1 hrb.2.1 (show a < 10 by omega)
  have e2 := pIn_f hra.1 hra.2.1 (show b < 10 by omega)
  have hnext := ih (q + 1) (by omega)
  rw [eb] at hnext ⊢
  refine Ev.shift ?_
  simp only [laws_FnChainsAndAntichains.l2]
  rw [wrap64_id (x := (q : Int) + 1) (by omega) (by omega), cast1, etk]
  refine Ev.pos (by omega) (Ev.pos (by omega) (Ev.pos (by omega) (Ev.neg (by omega) (Ev.pos (by omega) (Ev.pos (by omega) (Ev.bindc e1 (Ev.neg ?_ (Ev.pos (by omega) (Ev.pos (by omega) (Ev.bindc e2 (Ev.neg ?_ (Ev.pos (by omega) (Ev.pos (by omega) (Ev.neg ?_ hnext))))))))))))))
  ·have : bit (rd L (b : Int)) a = false := hno.2
   rw [this]; simp
  ·have : bit (rd L (a : Int)) b = false := hno.1
   rw [this]; simp
  ·intro e
   have := r3 b a hlt (by omega) e.symm
   rw [freeP_sym hfr] at this; cases this
theorem chL1 (hp : threeP n L A r y) (hyl : y.length ≤ 10) (d : Nat) : ∀ (p : Nat) (cnt : Int), p + d = A.length → (cnt = 0 ∨ cnt = 1 ∧ ∃ q, q < p ∧ rd A (q : Int) ∈ y) → Ev (fun k => laws_FnChainsAndAntichains.l1 k r y A cnt A (A.length : Int) (p : Int) n L) true := by
 have hp' := hp
 obtain ⟨h, hA, ⟨r1, r2, r3⟩, hy⟩ := hp'
 have h10 : L.length ≤ 10 := by have := h.1.1; have := h.1.2.1; omega
 have hn := h.1.2.1
 have hAl : A.length ≤ 10 := by
  obtain ⟨T, _, _, e⟩ := al_set h.1 (fun j hj => (up_full h).2.1 j hj) hA
  rw [← e]; exact bitsOf_len _
 induction d with
 | zero =>
  intro p cnt hpd hcnt
  have hc : cnt ≤ 1 := by rcases hcnt with e | e <;> omega
  have := chL3 hp L.length 0 (by omega)
  refine Ev.shift ?_
  simp only [laws_FnChainsAndAntichains.l1]
  exact Ev.neg (by omega) (Ev.neg (by omega) (Ev.pos (by omega) this))
 | succ d ih =>
  intro p cnt hpd hcnt
  have hpl : p < A.length := by omega
  have htl : (A.take p).length = p := by rw [List.length_take]; omega
  have hgo : ∀ cnt' : Int, (cnt' = 0 ∨ cnt' = 1 ∧ ∃ q, q < p + 1 ∧ rd A (q : Int) ∈ y) → Ev (fun k => laws_FnChainsAndAntichains.j2 k r y A cnt' (p : Int) (rd A (p : Int)) A (A.length : Int) (p : Int) n L) true := fun cnt' hc => by
   have h2 := chL2 hp cnt' p hpl (by rw [wrap64_id (x := (p : Int) + 1) (by omega) (by omega), cast1]; exact ih (p + 1) cnt' (by omega) hc) p 0 (by omega)
   refine Ev.shift ?_
   simp only [laws_FnChainsAndAntichains.j2]
   exact Ev.pos (by omega) (Ev.pos (by omega) (Ev.bindc rfl h2))
  refine Ev.shift ?_
  simp only [laws_FnChainsAndAntichains.l1]
  refine Ev.pos (by omega) (Ev.pos (by omega) (Ev.pos (by omega) (Ev.bind (pHas_ev y (by omega) (rd A (p : Int))) ?_)))
  by_cases hc : rd A (p : Int) ∈ y
  ·refine Ev.pos (by simpa using hc) ?_
   rcases hcnt with rfl | ⟨rfl, q, hq, hqy⟩
   ·exact hgo _ (.inr ⟨by rw [wrap64_id (by omega) (by omega)]; omega, p, by omega, hc⟩)
   ·exfalso
    obtain ⟨a, ea, ha⟩ := elAt_of h hA.2.1 (show q < A.length by omega)
    obtain ⟨b, eb, hb⟩ := elAt_of h hA.2.1 hpl
    have hfr : freeP L a b = true := by
     have := List.pairwise_iff_getElem.1 hA.2.2 q p (by omega) hpl (by omega)
     rw [← rd_lt A q (by omega), ← rd_lt A p hpl, ea, eb] at this
     simpa using this
    have hlt : a < b := by
     have := List.pairwise_iff_getElem.1 hA.1 q p (by omega) hpl (by omega)
     rw [← rd_lt A q (by omega), ← rd_lt A p hpl, ea, eb] at this
     omega
    have hno := free_no hfr
    rw [ea] at hqy
    rw [eb] at hc
    obtain ⟨s, hs, es⟩ := List.mem_iff_getElem.1 hqy
    obtain ⟨t, ht, et⟩ := List.mem_iff_getElem.1 hc
    have hst : s ≠ t := fun e => by subst e; rw [es] at et; omega
    rcases Nat.lt_or_gt_of_ne hst with g | g
    ·have := List.pairwise_iff_getElem.1 hy.2.1 s t hs ht g
     rw [es, et] at this
     simp only [Int.toNat_natCast] at this
     rw [hno.1] at this; cases this
    ·have := List.pairwise_iff_getElem.1 hy.2.1 t s ht hs g
     rw [es, et] at this
     simp only [Int.toNat_natCast] at this
     rw [hno.2] at this; cases this
  ·refine Ev.neg (by simpa using hc) (hgo _ ?_)
   rcases hcnt with e | ⟨e, q, hq, hqy⟩
   ·exact .inl e
   ·exact .inr ⟨e, q, by omega, hqy⟩
theorem chL0 (hp : threeP n L A r y) (hyl : y.length ≤ 10) (d : Nat) : ∀ q : Nat, 1 ≤ q → q ≤ 20 → y.length ≤ q + d → Ev (fun k => laws_FnChainsAndAntichains.l0 k r y A (q : Int) n L) true := by
 have hp' := hp
 obtain ⟨h, hA, _, hy⟩ := hp'
 have h10 : L.length ≤ 10 := by have := h.1.1; have := h.1.2.1; omega
 have hend : ∀ q : Nat, y.length ≤ q → Ev (fun k => laws_FnChainsAndAntichains.l0 k r y A (q : Int) n L) true := fun q hq => by
  have := chL1 hp hyl A.length 0 0 (by omega) (.inl rfl)
  refine Ev.shift ?_
  simp only [laws_FnChainsAndAntichains.l0]
  exact Ev.neg (by omega) this
 induction d with
 | zero => intro q _ _ hq; exact hend q (by omega)
 | succ d ih =>
  intro q hq1 hq20 hqd
  by_cases hq : y.length ≤ q
  ·exact hend q hq
  obtain ⟨a, ea, ha⟩ := elAt_of h hy.1 (show q - 1 < y.length by omega)
  obtain ⟨b, eb, hb⟩ := elAt_of h hy.1 (show q < y.length by omega)
  have hra := h.1.row ha
  have e1 := pIn_f hra.1 hra.2.1 (show b < 10 by omega)
  have hlt : lt L a b = true := by
   have := List.pairwise_iff_getElem.1 hy.2.1 (q - 1) q (by omega) (by omega) (by omega)
   rw [← rd_lt y (q - 1) (by omega), ← rd_lt y q (by omega), ea, eb] at this
   simpa using this
  have hnext := ih (q + 1) (by omega) (by omega) (by omega)
  refine Ev.shift ?_
  simp only [laws_FnChainsAndAntichains.l0]
  rw [wrap64_id (x := (q : Int) + 1) (by omega) (by omega), cast1, wrap64_id (x := (q : Int) - 1) (by omega) (by omega), show (q : Int) - 1 = ((q - 1 : Nat) : Int) by omega, ea, eb]
  exact Ev.pos (by omega) (Ev.pos (by omega) (Ev.pos (by omega) (Ev.pos (by omega) (Ev.pos (by omega) (Ev.pos (by omega) (Ev.bindc e1 (Ev.pos hlt hnext)))))))
end
theorem FnChainsAndAntichains (l0 : List Int) (hm0 : l0.length ≤ maxLen) (hw0 : ∀ x ∈ l0, (Lit.int .u8 x).wf = true) (l1 : List Int) (hm1 : l1.length ≤ maxLen) (hw1 : ∀ x ∈ l1, (Lit.int .u8 x).wf = true) : ∃ k, laws_FnChainsAndAntichains.f k l0 l1 = some true := by
 refine Ev.at1 ?_
 unfold laws_FnChainsAndAntichains.f
 obtain ⟨b, hb⟩ := big_f l0 l1 hm0
 refine Ev.bindc hb ?_
 by_cases hbt : b = true
 ·exact Ev.pos hbt (Ev.ret rfl)
 refine Ev.neg hbt ?_
 obtain ⟨n, L, hd, hL⟩ := drawCh (bytesP.of hw0)
 refine Ev.bind hd ?_
 have hi := isOrder_ev n L (show L.length ≤ 1048576 by omega)
 have hg := orGood_ev n L (show L.length ≤ 1048576 by omega)
 by_cases h : orderP n L
 ·have hn := h.1.1
  have hn1 := h.1.2.1
  obtain ⟨A, a1, a2, a3, a4, a5⟩ := anti_both h (by omega)
  obtain ⟨r, r1, r2, r3, r4, r5⟩ := num_both h a4 a5
  obtain ⟨y, y1, y2, y3⟩ := chain_both h
  have hyl : y.length ≤ 10 := Nat.le_trans y3.2.2 (bitsOf_len _)
  have c1 : Ev (fun k => impl_ChainNumbers.f k n L) (r, true) := by
   unfold impl_ChainNumbers.f
   exact Ev.bind hi (Ev.pos (by simpa using h) (Ev.bind a1 (Ev.bind (near_ev h.1) (Ev.bind r1 (Ev.ret rfl)))))
  have c2 : Ev (fun k => spec_ChainNumbers.f k n L) (r, true) := by
   unfold spec_ChainNumbers.f
   exact Ev.bind hg (Ev.pos (by simpa using h) (Ev.pos (by omega) (Ev.bind a2 (Ev.bind r2 (Ev.ret rfl)))))
  have c3 : Ev (fun k => impl_LongestChain.f k n L) (y, true) := by
   unfold impl_LongestChain.f
   exact Ev.bind hi (Ev.pos (by simpa using h) y1)
  have c4 : Ev (fun k => impl_LargestAntichain.f k n L) (A, true) := by
   unfold impl_LargestAntichain.f
   exact Ev.bind hi (Ev.pos (by simpa using h) (Ev.bind a1 (Ev.ret rfl)))
  have c5 : Ev (fun k => spec_LongestChain.f k n L) (y, true) := by
   unfold spec_LongestChain.f
   exact Ev.bind hg (Ev.pos (by simpa using h) (Ev.pos (by omega) (Ev.bind y2 (Ev.ret rfl))))
  have c6 : Ev (fun k => spec_LargestAntichain.f k n L) (A, true) := by
   unfold spec_LargestAntichain.f
   exact Ev.bind hg (Ev.pos (by simpa using h) (Ev.pos (by omega) (Ev.bind a2 (Ev.ret rfl))))
  have c7 := chL0 (y := y) ⟨h, a3, ⟨r3, r4, r5⟩, y3⟩ hyl 20 1 (by omega) (by omega) (by omega)
  refine Ev.bind c1 (Ev.bind c2 (Ev.neg (by simp) (Ev.bind (pSame_ev r r (by omega)) (Ev.pos (by simp) (Ev.bind c3 (Ev.bind c4 (Ev.bind c5 (Ev.bind c6 (Ev.neg (by simp) (Ev.neg (by simp) (Ev.bind (pSame_ev y y (by omega)) (Ev.pos (by simp) (Ev.bind (pSame_ev A A (by omega)) (Ev.pos (by simp) (Ev.neg (by simp) (Ev.neg (by simp) (Ev.pos rfl c7)))))))))))))))))
 ·have c1 : Ev (fun k => impl_ChainNumbers.f k n L) ([], false) := by
   unfold impl_ChainNumbers.f
   exact Ev.bind hi (Ev.neg (by simpa using h) (Ev.ret rfl))
  have c2 : Ev (fun k => spec_ChainNumbers.f k n L) ([], false) := by
   unfold spec_ChainNumbers.f
   exact Ev.bind hg (Ev.neg (by simpa using h) (Ev.ret rfl))
  have c3 : Ev (fun k => impl_LongestChain.f k n L) ([], false) := by
   unfold impl_LongestChain.f
   exact Ev.bind hi (Ev.neg (by simpa using h) (Ev.ret rfl))
  have c4 : Ev (fun k => impl_LargestAntichain.f k n L) ([], false) := by
   unfold impl_LargestAntichain.f
   exact Ev.bind hi (Ev.neg (by simpa using h) (Ev.ret rfl))
  have c5 : Ev (fun k => spec_LongestChain.f k n L) ([], false) := by
   unfold spec_LongestChain.f
   exact Ev.bind hg (Ev.neg (by simpa using h) (Ev.ret rfl))
  have c6 : Ev (fun k => spec_LargestAntichain.f k n L) ([], false) := by
   unfold spec_LargestAntichain.f
   exact Ev.bind hg (Ev.neg (by simpa using h) (Ev.ret rfl))
  have hs := pSame_ev [] [] (show ([] : List Int).length ≤ 1048576 by simp)
  exact Ev.bind c1 (Ev.bind c2 (Ev.neg (by simp) (Ev.bind hs (Ev.pos (by simp) (Ev.bind c3 (Ev.bind c4 (Ev.bind c5 (Ev.bind c6 (Ev.neg (by simp) (Ev.neg (by simp) (Ev.bind hs (Ev.pos (by simp) (Ev.bind hs (Ev.pos (by simp) (Ev.neg (by simp) (Ev.neg (by simp) (Ev.neg (by simp) (Ev.ret rfl))))))))))))))))))
end Go.Proofs.YtpphkeijklffgaaDoor.Pure
