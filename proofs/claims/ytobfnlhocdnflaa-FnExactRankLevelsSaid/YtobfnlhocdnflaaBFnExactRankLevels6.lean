import Derived.Lib.SlicesCompact
import Derived.Test.YtobfnlhocdnflaaBFnExactRankLevels5
namespace Go.Proofs.Ytobfnlhocdnflaa.Q
open Go.RowKit Go.Proofs.YtobfnlhocdnflaaW.PrintWords Go.Proofs.YtobfnlhocdnflaaW.PrintLast Go.Proofs.YtobfnlhocdnflaaW.PrintMore
attribute [local go_sem] max2_int min2_int max_two min_two max_three min_three max_four min_four
set_option linter.unusedVariables false
set_option maxHeartbeats 8000000
set_option maxRecDepth 100000
set_option linter.unusedSimpArgs false
def laws_FnExactRankLevels.j0 : Nat → List Int → List Int → Bool → Option (Bool)
 | 0, _, _, _ => none
 | k + 1, x0, x5, x31 => if x31 = true then (some false) else ((laws_toIntS.f k x0).bind fun t347 => ((laws_eqIntS.f k x5 t347).bind fun t350 => (if t350 = true then (some true) else (some false))))
def laws_FnExactRankLevels.f (k : Nat) (l0 : List Int) : Option (Bool) := if (l0.length : Int) > 1048576 then (some true) else ((laws_toIntS.f k l0).bind fun t337 => ((spec_RankLevels.f k t337).bind fun bt340 => ((laws_toIntS.f k l0).bind fun t342 => ((impl_RankLevels.f k t342).bind fun bt345 => (if bt345.1 = bt340.1 then (laws_FnExactRankLevels.j0 k l0 t342 (bt345.2 != bt340.2)) else (laws_FnExactRankLevels.j0 k l0 t342 true))))))
theorem laws_FnExactRankLevels.mono_l : ∀ k, (∀ y0 y1 y2, LeO (laws_FnExactRankLevels.j0 k y0 y1 y2) (laws_FnExactRankLevels.j0 (k + 1) y0 y1 y2))
 | 0 => fun _ _ _ r h => by simp [laws_FnExactRankLevels.j0] at h
 | k + 1 => by
  have ih0 := laws_FnExactRankLevels.mono_l k
  ·intro y0 y1 y2
   unfold laws_FnExactRankLevels.j0
   repeat' (with_reducible first|apply ih0|apply impl_RankLevels.mono|apply laws_eqIntS.mono|apply laws_toIntS.mono|apply spec_RankLevels.mono|apply LeO.refl|apply LeO.none|apply LeO.ite|apply LeO.bind|intro)
theorem laws_FnExactRankLevels.mono : ∀ a0 k, LeO (laws_FnExactRankLevels.f k a0) (laws_FnExactRankLevels.f (k + 1) a0) := by
 intro a0 k
 have ih0 := laws_FnExactRankLevels.mono_l k
 unfold laws_FnExactRankLevels.f
 repeat' (with_reducible first|apply ih0|apply impl_RankLevels.mono|apply laws_eqIntS.mono|apply laws_toIntS.mono|apply spec_RankLevels.mono|apply LeO.refl|apply LeO.none|apply LeO.ite|apply LeO.bind|intro)
theorem laws_FnExactRankLevels.calls (k : Nat) (A0 : Option Addr) (c0 : Nat) (l0 : List Int) (r : Bool) (w : World) (hr0 : Kd.C (Kd.int .i64) w A0 l0.length l0) (hc0 : l0.length ≤ c0) (h : laws_FnExactRankLevels.f k l0 = some r) :
  Calls Try.prog 4 #[.slice A0 l0.length c0] w fun e w' => e = .returned (.bool r) ∧ Below w.heap.size w w' := by
 have HR0 := mkA hr0
 have HC0 := mkA hc0
 clear hr0 hc0
 have HB := mkA (Below.refl w.heap.size w)
 have H := h
 clear h
 unfold laws_FnExactRankLevels.f at H
 rcases iteP H with ⟨c2, H⟩ | ⟨c2, H⟩
 ·have c2b0 := decide_eq_true c2
  have c2b1 : decide (1048576 < l0.length) = true := decide_eq_true (by omega)
  clear c2
  obtain rfl := Option.some.inj H
  go_enter Try.func4, Try.ntmps4
  go_wp2
  go_ret
  exact ⟨eqE, bel_g HB.out⟩
 ·have c2b0 := decide_eq_false c2
  have c2b1 : decide (1048576 < l0.length) = false := decide_eq_false (by omega)
  clear c2
  obtain ⟨t337, A3, H⟩ := obE H
  obtain ⟨⟨t340, t341⟩, A4, H⟩ := obE H
  dsimp only at H
  obtain ⟨t342, A5, H⟩ := obE H
  obtain ⟨⟨t345, t346⟩, A6, H⟩ := obE H
  dsimp only at H
  have HC7 := mkA H
  clear H
  go_enter Try.func4, Try.ntmps4
  go_upto_region 6 with (first | ((with_reducible refine gate_callee (f := 11) rfl ?_); refine goesQ (some 13) Try.func11 #[.slice A0 l0.length c0] ?_; (with_reducible refine (laws_toIntS.calls k _ _ l0 t337 _ ?s1 ?s2 A3.out).mono ?_); (case s1 => repeat (first | exact HR0.out | (with_reducible refine Kd.C_alloc ?_ _) | (with_reducible refine Kd.C_drewN ?_ _) | (with_reducible refine Kd.C_drew ?_))); (case s2 => exact HC0.out); rintro e w8 ⟨v338, rfl, ho0, hb⟩; refine ⟨_, rfl, ?_⟩; have HO339 := rLo ho0 HB; replace HB := bst HB hb; clear hb ho0; obtain ⟨Ao9, co9, rfl⟩ := Kd.R_slice HO339.out) | ((with_reducible refine gate_callee (f := 10) rfl ?_); refine goesQ (some 14) Try.func10 #[.slice Ao9 t337.length co9] ?_; (with_reducible refine (spec_RankLevels.calls k _ _ t337 t340 t341 _ ?_ ?_ A4.out).mono ?_); exact rC HO339; exact rL HO339; rintro e w10 ⟨rfl, hb⟩; refine ⟨_, rfl, ?_⟩; replace HO339 := rB HO339 hb; replace HB := bst HB hb; clear hb) | ((with_reducible refine gate_callee (f := 11) rfl ?_); refine goesQ (some 18) Try.func11 #[.slice A0 l0.length c0] ?_; (with_reducible refine (laws_toIntS.calls k _ _ l0 t342 _ ?_ ?_ A5.out).mono ?_); exact C_g HR0 HB; exact HC0.out; rintro e w11 ⟨v343, rfl, ho0, hb⟩; refine ⟨_, rfl, ?_⟩; have HO344 := rLo (rN ho0 HO339) HB; replace HO339 := rE HO339 ho0 hb; replace HB := bst HB hb; clear hb ho0; obtain ⟨Ao12, co12, rfl⟩ := Kd.R_slice HO344.out) | ((with_reducible refine gate_callee (f := 12) rfl ?_); refine goesQ (some 21) Try.func12 #[.slice Ao12 t342.length co12] ?_; (with_reducible refine (impl_RankLevels.calls k _ _ t342 t345 t346 _ ?_ ?_ A6.out).mono ?_); exact rC HO344; exact rL HO344; rintro e w13 ⟨rfl, hb⟩; refine ⟨_, rfl, ?_⟩; replace HO339 := rB HO339 hb; replace HO344 := rB HO344 hb; replace HB := bst HB hb; clear hb))
  (try simp only [Act.put, List.setIfInBounds_toArray, List.set_cons_zero, List.set_cons_succ])
  go_cut [31] (fun v31 wc => ∃ (kq : Nat) (x31_6 : Bool), v31 = .bool x31_6 ∧ Fc (laws_FnExactRankLevels.j0 kq l0 t342 x31_6 = some r) ∧ Fc (kq ≤ k) ∧ Fc (Kd.R (Kd.int .i64) 3 wc w.heap.size (fun _ => True) (.slice Ao12 t342.length co12) t342) ∧ Fc (Below w.heap.size w wc))
  case first =>
   have H := HC7.out
   clear HC7
   rcases iteP H with ⟨c14, H⟩ | ⟨c14, H⟩
   ·have c14b0 := beq_iff_eq.mpr c14
    have c14b1 := bne_eq_false_iff_eq.mpr c14
    clear c14
    (first | rw [c14b0] | (simp only [i64_w, i32_w]; rw [c14b0]) | skip)
    have H' := mkA H
    clear H
    go_wp2
    go_meet
    case rel => exact ⟨_, ((t346 != t341)), eqS, H', ⟨by first | omega | exact Nat.le_refl _⟩, ⟨Kd.R_g (Kd.R_mono HO344.out (fun _ hk => trivial))⟩, hbg HB⟩
   ·have c14b0 := beq_eq_false_iff_ne.mpr c14
    have c14b1 := bne_iff_ne.mpr c14
    (first | rw [c14b0] | (simp only [i64_w, i32_w]; rw [c14b0]) | skip)
    have H' := mkA H
    clear H
    go_wp2
    go_meet
    case rel => exact ⟨_, (true), eqS, H', ⟨by first | omega | exact Nat.le_refl _⟩, ⟨Kd.R_g (Kd.R_mono HO344.out (fun _ hk => trivial))⟩, hbg HB⟩
  case rest =>
   clear HC7
   try clear c2
   try clear c2b0
   try clear c2b1
   try clear c14
   try clear c14b0
   try clear c14b1
   obtain ⟨kq, x31_6, rfl, HA, HJ6, HO_5, HB⟩ := hcut
   cases kq with
   | zero => exact absurd HA.out (by simp [laws_FnExactRankLevels.j0])
   | succ kj6 =>
    have H := HA.out
    clear HA
    simp only [laws_FnExactRankLevels.j0] at H
    by_cases c15 : x31_6 = true
    ·subst c15
     replace H := ifT H
     obtain rfl := Option.some.inj H
     go_wp2
     go_ret
     exact ⟨eqE, bel_g HB.out⟩
    ·replace c15 := Bool.eq_false_iff.mpr c15
     subst c15
     replace H := ifF H
     obtain ⟨t347, A16, H⟩ := obE H
     obtain ⟨t350, A17, H⟩ := obE H
     by_cases c18 : t350 = true
     ·subst c18
      replace H := ifT H
      obtain rfl := Option.some.inj H
      go_wp2_with (first | ((with_reducible refine gate_callee (f := 11) rfl ?_); refine goesQ (some 34) Try.func11 #[.slice A0 l0.length c0] ?_; (with_reducible refine (laws_toIntS.calls kj6 _ _ l0 t347 _ ?_ ?_ A16.out).mono ?_); exact C_g HR0 HB; exact HC0.out; rintro e w19 ⟨v348, rfl, ho0, hb⟩; refine ⟨_, rfl, ?_⟩; have HO349 := rLo (rN ho0 HO_5) HB; replace HO_5 := rE HO_5 ho0 hb; replace HB := bst HB hb; clear hb ho0; obtain ⟨Ao20, co20, rfl⟩ := Kd.R_slice HO349.out) | ((with_reducible refine gate_callee (f := 7) rfl ?_); refine goesQ (some 35) Try.func7 #[.slice Ao12 t342.length co12, .slice Ao20 t347.length co20] ?_; (with_reducible refine (laws_eqIntS.calls kj6 _ _ t342 _ _ t347 true _ ?_ ?_ ?_ ?_ A17.out).mono ?_); exact rC HO_5; exact rL HO_5; exact rC HO349; exact rL HO349; rintro e w' ⟨rfl, ⟨nd, rfl⟩⟩; refine ⟨_, rfl, ?_⟩))
      go_ret
      exact ⟨eqE, bel_g HB.out⟩
     ·replace c18 := Bool.eq_false_iff.mpr c18
      subst c18
      replace H := ifF H
      obtain rfl := Option.some.inj H
      go_wp2_with (first | ((with_reducible refine gate_callee (f := 11) rfl ?_); refine goesQ (some 34) Try.func11 #[.slice A0 l0.length c0] ?_; (with_reducible refine (laws_toIntS.calls kj6 _ _ l0 t347 _ ?_ ?_ A16.out).mono ?_); exact C_g HR0 HB; exact HC0.out; rintro e w21 ⟨v348, rfl, ho0, hb⟩; refine ⟨_, rfl, ?_⟩; have HO349 := rLo (rN ho0 HO_5) HB; replace HO_5 := rE HO_5 ho0 hb; replace HB := bst HB hb; clear hb ho0; obtain ⟨Ao22, co22, rfl⟩ := Kd.R_slice HO349.out) | ((with_reducible refine gate_callee (f := 7) rfl ?_); refine goesQ (some 35) Try.func7 #[.slice Ao12 t342.length co12, .slice Ao22 t347.length co22] ?_; (with_reducible refine (laws_eqIntS.calls kj6 _ _ t342 _ _ t347 false _ ?_ ?_ ?_ ?_ A17.out).mono ?_); exact rC HO_5; exact rL HO_5; exact rC HO349; exact rL HO349; rintro e w' ⟨rfl, ⟨nd, rfl⟩⟩; refine ⟨_, rfl, ?_⟩))
      go_ret
      exact ⟨eqE, bel_g HB.out⟩
def laws_FnExactRankLevels.Pure : Prop := ∀ (l0 : List Int), l0.length ≤ maxLen → l0.length * 8 ≤ 140737488351232 → (∀ x ∈ l0, (Lit.int .i64 x).wf = true) → ∃ k, laws_FnExactRankLevels.f k l0 = some true
theorem laws_FnExactRankLevels.walk (P : laws_FnExactRankLevels.Pure) (a0 : Option Addr) (len0 cap0 : Nat) (z0 : List Int) (w : World) (w0 : (a0 = none ∧ len0 = 0 ∧ cap0 = 0 ∧ z0 = []) ∨ ∃ x, a0 = some x ∧ len0 ≤ cap0 ∧ cap0 ≤ maxLen ∧ z0.length = cap0 ∧ (∀ i, i < z0.length → w.cell? (x.add i) = some (.int .i64 (z0.getD i 0))) ∧ ∀ n ∈ z0, (Lit.int .i64 n).wf = true) (y0 : len0 * 8 ≤ 140737488351232) :
  Calls Try.prog 4 #[.slice a0 len0 cap0] w fun e w' => e = .returned (.bool true) ∧ Below w.heap.size w w' := by
 obtain ⟨l0, rfl, hr0, hm0, hw0, hc0⟩ := ReadsInt.ofRowC w0
 obtain ⟨k, h⟩ := P l0 hm0 y0 hw0
 refine (laws_FnExactRankLevels.calls k _ _ l0 true w (Kd.C_of_reads (d := (0 : Int)) (h1 := fun _ => rfl) hr0) hc0 h).mono ?_
 rintro e w' ⟨rfl, hd⟩
 exact ⟨rfl, hd⟩
end Go.Proofs.Ytobfnlhocdnflaa.Q
namespace Go.Proofs.Ytobfnlhocdnflaa.Pure
open Go.RowKit Go.Proofs.Ytobfnlhocdnflaa.Q Go.Proofs.YtobfnlhocdnflaaW.PrintWords Go.Proofs.YtobfnlhocdnflaaW.PrintLast
set_option linter.unusedVariables false
set_option linter.unusedSimpArgs false
-- small laws over rounds, numbers and lists; no program in sight
theorem Ev.shift {α : Type} {g : Nat → Option α} {r : α} (h : Ev (fun k => g (k + 1)) r) : Ev g r := by
 obtain ⟨K, hK⟩ := h
 refine ⟨K + 1, fun k hk => ?_⟩
 obtain ⟨m, rfl⟩ : ∃ m, k = m + 1 := ⟨k - 1, by omega⟩
 exact hK m (by omega)
theorem Ev.pos {α : Type} {c : Prop} [Decidable c] {f g : Nat → Option α} {r : α} (h : c) (k : Ev f r) : Ev (fun n => if c then f n else g n) r := by
 simp only [if_pos h]; exact k
theorem Ev.neg {α : Type} {c : Prop} [Decidable c] {f g : Nat → Option α} {r : α} (h : ¬ c) (k : Ev g r) : Ev (fun n => if c then f n else g n) r := by
 simp only [if_neg h]; exact k
theorem Ev.bindc {α β : Type} {a : Option α} {x : α} {f : Nat → α → Option β} {r : β} (h : a = some x) (k : Ev (fun n => f n x) r) : Ev (fun n => a.bind (f n)) r := by
 subst h; exact k
theorem Ev.ret {α : Type} {r s : α} (h : r = s) : Ev (fun _ => some r) s := by subst h; exact Ev.now _
theorem Ev.eq {α : Type} {g : Nat → Option α} {r s : α} (h : Ev g r) (e : r = s) : Ev g s := e ▸ h
theorem Ev.at1 {α : Type} {g : Nat → Option α} {r : α} (h : Ev g r) : ∃ k, g k = some r := h.rounds
theorem wrap64_id {x : Int} (h1 : -9223372036854775808 ≤ x) (h2 : x ≤ 9223372036854775807) : wrap64 x = x := by unfold wrap64; omega
theorem rd_lt (l : List Int) (i : Nat) (h : i < l.length) : rd l (i : Int) = l[i] := by simp [rd, h]
theorem cast1 (i : Nat) : (i : Int) + 1 = ((i + 1 : Nat) : Int) := by omega
theorem set_prefix {l m : List Int} {i : Nat} (hm : m.length = l.length) (hi : i < l.length) (h : m.take i = l.take i) : (m.set i (rd l (i : Int))).take (i + 1) = l.take (i + 1) := by
 apply List.ext_getElem?
 intro j
 by_cases hj : j < i + 1
 ·rw [List.getElem?_take_of_lt hj, List.getElem?_take_of_lt hj]
  by_cases e : j = i
  ·subst e; rw [List.getElem?_set_self (by omega), rd_lt l j hi]; simp [hi]
  ·rw [List.getElem?_set_ne (by omega)]
   have := congrArg (fun t => t[j]?) h
   rwa [List.getElem?_take_of_lt (by omega), List.getElem?_take_of_lt (by omega)] at this
 ·rw [List.getElem?_eq_none (by simp; omega), List.getElem?_eq_none (by simp; omega)]
theorem eqIntS_l (l : List Int) (hl : l.length ≤ 1048576) (d : Nat) : ∀ (i : Nat), i + d = l.length → Ev (fun k => laws_eqIntS.l0 k l l i) true := by
 induction d with
 | zero =>
  intro i hi
  refine Ev.shift ?_
  simp only [laws_eqIntS.l0]
  exact Ev.neg (by omega) (Ev.ret rfl)
 | succ d ih =>
  intro i hi
  refine Ev.shift ?_
  simp only [laws_eqIntS.l0]
  refine Ev.pos (by omega) (Ev.pos (by omega) (Ev.pos (by omega) ?_))
  rw [wrap64_id (by omega) (by omega), cast1]
  exact Ev.pos trivial (ih (i + 1) (by omega))
theorem eqIntS_same (l : List Int) (hl : l.length ≤ 1048576) : Ev (fun k => laws_eqIntS.f k l l) true := by
 unfold laws_eqIntS.f
 refine Ev.pos rfl ?_
 exact eqIntS_l l hl l.length 0 (by omega)
-- copying, comparing, marking, looking again: what the statements' own helpers answer
theorem toIntS_l (l : List Int) (hl : l.length ≤ 1048576) (d : Nat) : ∀ (i : Nat) (m : List Int), i + d = l.length → m.length = l.length → m.take i = l.take i → Ev (fun k => laws_toIntS.l0 k l m i) l := by
 induction d with
 | zero =>
  intro i m hi hm ht
  refine Ev.shift ?_
  simp only [laws_toIntS.l0]
  refine Ev.neg (by omega) ?_
  refine Ev.ret ?_
  rw [List.take_of_length_le (by omega), List.take_of_length_le (by omega)] at ht
  exact ht
 | succ d ih =>
  intro i m hi hm ht
  refine Ev.shift ?_
  simp only [laws_toIntS.l0]
  refine Ev.pos (by omega) (Ev.pos (by omega) (Ev.pos (by omega) ?_))
  rw [wrap64_id (by omega) (by omega), cast1]
  refine ih (i + 1) _ (by omega) (by rw [List.length_set]; exact hm) ?_
  exact set_prefix hm (by omega) ht
theorem toIntS (l : List Int) (hl : l.length ≤ 1048576) : Ev (fun k => laws_toIntS.f k l) l := by
 unfold laws_toIntS.f
 refine Ev.pos (by omega) (Ev.pos (by omega) ?_)
 exact toIntS_l l hl l.length 0 _ (by omega) (by simp) (by simp)
theorem same_equal (k : Nat) : ∀ a b c d, spec_l1Same.l0 k a b c d = slices_Equal_int_int.l0 k a b c d := by
 induction k with
 | zero => intros; rfl
 | succ k ih => intros; simp only [spec_l1Same.l0, slices_Equal_int_int.l0, ih]
theorem equal_l (a b : List Int) (hl : a.length = b.length) (hb : a.length ≤ 1048576) (d : Nat) : ∀ i : Nat, i + d = a.length → a.take i = b.take i → Ev (fun k => slices_Equal_int_int.l0 k a b (a.length : Int) i) (decide (a = b)) := by
 induction d with
 | zero =>
  intro i hi ht
  refine Ev.shift ?_
  simp only [slices_Equal_int_int.l0]
  refine Ev.neg (by omega) (Ev.ret ?_)
  rw [List.take_of_length_le (by omega), List.take_of_length_le (by omega)] at ht
  simp [ht]
 | succ d ih =>
  intro i hi ht
  refine Ev.shift ?_
  simp only [slices_Equal_int_int.l0]
  refine Ev.pos (by omega) (Ev.pos (by omega) (Ev.pos (by omega) (Ev.pos (by omega) ?_)))
  rw [wrap64_id (by omega) (by omega), cast1]
  by_cases hc : rd a (i : Int) = rd b (i : Int)
  ·refine Ev.pos hc (ih (i + 1) (by omega) ?_)
   rw [rd_lt a i (by omega), rd_lt b i (by omega)] at hc
   rw [List.take_succ_eq_append_getElem (by omega), List.take_succ_eq_append_getElem (by omega), ht, hc]
  ·refine Ev.neg hc (Ev.ret ?_)
   have : a ≠ b := fun e => hc (by rw [e])
   simp [this]
theorem equal_impl (a b : List Int) (hb : a.length ≤ 1048576) : Ev (fun k => slices_Equal_int_int.f k a b) (decide (a = b)) := by
 unfold slices_Equal_int_int.f
 by_cases hl : a.length = b.length
 ·exact Ev.pos (by omega) (equal_l a b hl hb a.length 0 (by omega) (by simp))
 ·refine Ev.neg (by omega) (Ev.ret ?_)
  have : a ≠ b := fun e => hl (by rw [e])
  simp [this]
theorem equal_spec (a b : List Int) (hb : a.length ≤ 1048576) : Ev (fun k => spec_l1Same.f k a b) (decide (a = b)) := by
 have h := equal_impl a b hb
 unfold slices_Equal_int_int.f at h
 unfold spec_l1Same.f
 simpa [same_equal] using h
theorem rdL_lt (L : List (List Int)) (i : Nat) (h : i < L.length) : rd_L1 L (i : Int) = L[i] := by simp [rd_L1, h]
def rowsP (L : List (List Int)) : Prop := L.length ≤ 1048576 ∧ ∀ r ∈ L, r.length ≤ 1048576
theorem rowsP.at {L : List (List Int)} (h : rowsP L) {i : Nat} (hi : i < L.length) : (rd_L1 L (i : Int)).length ≤ 1048576 := by
 rw [rdL_lt L i hi]; exact h.2 _ (List.getElem_mem _)
theorem bang (zs : List Int) (i : Nat) (h : i < zs.length) : zs.toArray[i]! = zs[i] := by
 rw [getElem!_pos zs.toArray i (by simpa using h)]; simp
def dif (l : List Int) : List Int := Lib.compact (l.mergeSort fun x y => decide (x ≤ y))
theorem compactUpTo_facts (d : Array Int) (hs : ∀ i j : Nat, i < j → j < d.size → d[i]! ≤ d[j]!) : ∀ m, m ≤ d.size →
  (Lib.compactUpTo d m).Pairwise (· < ·) ∧ (∀ x, x ∈ Lib.compactUpTo d m ↔ ∃ j, j < m ∧ d[j]! = x) ∧ (∀ x ∈ Lib.compactUpTo d m, ∀ j, m = j + 1 → x ≤ d[j]!) := by
 intro m
 induction m with
 | zero => intro _; simp [Lib.compactUpTo]
 | succ m ih =>
  intro hm
  obtain ⟨h1, h2, h3⟩ := ih (by omega)
  rw [Lib.compactUpTo_succ]
  by_cases h0 : m = 0
  ·subst h0
   rw [Lib.keeps_lt_one d 0 (by omega)]
   simp [Lib.compactUpTo]
   intro x; exact eq_comm
  ·obtain ⟨q, rfl⟩ : ∃ q, m = q + 1 := ⟨m - 1, by omega⟩
   have hle : d[q]! ≤ d[q + 1]! := hs q (q + 1) (by omega) (by omega)
   by_cases he : d[q + 1]! = d[q]!
   ·rw [Lib.keeps_neg (by omega) (by simpa using he)]
    simp only [Bool.false_eq_true, if_false, List.append_nil]
    refine ⟨h1, fun x => ?_, fun x hx j hj => ?_⟩
    ·rw [h2]
     constructor
     ·rintro ⟨j, hj, e⟩; exact ⟨j, by omega, e⟩
     ·rintro ⟨j, hj, e⟩
      by_cases hjq : j = q + 1
      ·subst hjq; exact ⟨q, by omega, by rw [← he]; exact e⟩
      ·exact ⟨j, by omega, e⟩
    ·obtain rfl : j = q + 1 := by omega
     have := h3 x hx q rfl
     omega
   ·rw [Lib.keeps_pos (by simpa using he)]
    simp only [if_true]
    refine ⟨?_, fun x => ?_, fun x hx j hj => ?_⟩
    ·rw [List.pairwise_append]
     refine ⟨h1, by simp, fun x hx y hy => ?_⟩
     have := h3 x hx q rfl
     rw [List.mem_singleton] at hy
     subst hy
     omega
    ·rw [List.mem_append, h2, List.mem_singleton]
     constructor
     ·rintro (⟨j, hj, e⟩ | e)
      ·exact ⟨j, by omega, e⟩
      ·exact ⟨q + 1, by omega, e.symm⟩
     ·rintro ⟨j, hj, e⟩
      by_cases hjq : j = q + 1
      ·subst hjq; exact .inr e.symm
      ·exact .inl ⟨j, by omega, e⟩
    ·obtain rfl : j = q + 1 := by omega
     rw [List.mem_append, List.mem_singleton] at hx
     rcases hx with hx | rfl
     ·have := h3 x hx q rfl; omega
     ·omega
theorem sort_pairwise (l : List Int) : (l.mergeSort fun x y => decide (x ≤ y)).Pairwise (· ≤ ·) := by
 have := List.pairwise_mergeSort (le := fun x y : Int => decide (x ≤ y)) (by intro a b c h1 h2; simp at h1 h2 ⊢; omega) (by intro a b; simp; omega) l
 simpa using this
theorem dif_facts (l : List Int) : (dif l).Pairwise (· < ·) ∧ ∀ x, x ∈ dif l ↔ x ∈ l := by
 have hp := sort_pairwise l
 have h := compactUpTo_facts (l.mergeSort fun x y => decide (x ≤ y)).toArray (fun i j hij hj => by
  have hj' : j < (l.mergeSort fun x y => decide (x ≤ y)).length := by simpa using hj
  have := List.pairwise_iff_getElem.1 hp i j (by omega) hj' hij
  rw [bang _ i (by omega), bang _ j hj']
  exact this) (l.mergeSort fun x y => decide (x ≤ y)).length (by simp)
 refine ⟨h.1, fun x => ?_⟩
 show x ∈ Lib.compactUpTo _ _ ↔ _
 rw [h.2.1, ← List.mem_mergeSort (le := fun x y : Int => decide (x ≤ y)), List.mem_iff_getElem]
 constructor
 ·rintro ⟨j, hj, e⟩; exact ⟨j, hj, by rw [bang _ j hj] at e; exact e⟩
 ·rintro ⟨j, hj, e⟩; exact ⟨j, hj, by rw [bang _ j hj]; exact e⟩
theorem dif_sorted (l : List Int) : (dif l).Pairwise (· < ·) := (dif_facts l).1
theorem mem_dif {l : List Int} {x : Int} : x ∈ dif l ↔ x ∈ l := (dif_facts l).2 x
theorem dif_length (l : List Int) : (dif l).length ≤ l.length := by
 have := Lib.compact_length_le (l.mergeSort fun x y => decide (x ≤ y))
 rwa [List.length_mergeSort] at this
theorem rising_ext : ∀ {a b : List Int}, a.Pairwise (· < ·) → b.Pairwise (· < ·) → (∀ x, x ∈ a ↔ x ∈ b) → a = b
 | [], [], _, _, _ => rfl
 | [], y :: b, _, _, h => by have := (h y).2 (by simp); simp at this
 | x :: a, [], _, _, h => by have := (h x).1 (by simp); simp at this
 | x :: a, y :: b, ha, hb, h => by
  rw [List.pairwise_cons] at ha hb
  have e : x = y := by
   rcases List.mem_cons.1 ((h x).1 (by simp)) with e | hx
   ·exact e
   ·rcases List.mem_cons.1 ((h y).2 (by simp)) with e | hy
    ·exact e.symm
    ·have := ha.1 y hy; have := hb.1 x hx; omega
  subst e
  congr 1
  refine rising_ext ha.2 hb.2 fun z => ?_
  constructor
  ·intro hz
   rcases List.mem_cons.1 ((h z).1 (List.mem_cons_of_mem _ hz)) with e | hz'
   ·have := ha.1 z hz; omega
   ·exact hz'
  ·intro hz
   rcases List.mem_cons.1 ((h z).2 (List.mem_cons_of_mem _ hz)) with e | hz'
   ·have := hb.1 z hz; omega
   ·exact hz'
theorem different_f (l : List Int) (h : l.length ≤ 1048576) : impl_different.f l = some (dif l) := by
 unfold impl_different.f dif
 rw [if_pos (by omega)]
end Go.Proofs.Ytobfnlhocdnflaa.Pure
namespace Go.Proofs.Ytobfnlhocdnflaa.Q
open Go.RowKit Go.Proofs.YtobfnlhocdnflaaW.PrintWords Go.Proofs.YtobfnlhocdnflaaW.PrintLast Go.Proofs.YtobfnlhocdnflaaW.PrintMore
attribute [local go_sem] max2_int min2_int max_two min_two max_three min_three max_four min_four
set_option linter.unusedVariables false
set_option maxHeartbeats 8000000
set_option maxRecDepth 100000
set_option linter.unusedSimpArgs false
def impl_within.f (a0 : Int) (a1 : Int) (a2 : Int) : Option (Bool) := if a0 ≥ a1 then (some (decide (a0 ≤ a2))) else (some false)
theorem impl_within.calls (a0 : Int) (a1 : Int) (a2 : Int) (r : Bool) (w : World) (h : impl_within.f a0 a1 a2 = some r) :
  Calls Try.prog 15 #[.int .i64 a0, .int .i64 a1, .int .i64 a2] w fun e w' => e = .returned (.bool r) ∧ Drawn0 w w' := by
 have H := h
 clear h
 unfold impl_within.f at H
 rcases iteP H with ⟨c4, H⟩ | ⟨c4, H⟩
 ·have c4b0 := decide_eq_true c4
  clear c4
  obtain rfl := Option.some.inj H
  go_enter Try.func15, Try.ntmps15
  go_wp2
  go_ret
  exact ⟨eqS, drE⟩
 ·have c4b0 := decide_eq_false c4
  clear c4
  obtain rfl := Option.some.inj H
  go_enter Try.func15, Try.ntmps15
  go_wp2
  go_ret
  exact ⟨eqS, drE⟩
end Go.Proofs.Ytobfnlhocdnflaa.Q
namespace Go.Proofs.Ytobfnlhocdnflaa.Pure
open Go.RowKit Go.Proofs.Ytobfnlhocdnflaa.Q Go.Proofs.YtobfnlhocdnflaaW.PrintWords Go.Proofs.YtobfnlhocdnflaaW.PrintLast
set_option linter.unusedVariables false
set_option linter.unusedSimpArgs false
theorem spec_in (a b c : Int) : spec_l1In.f a b c = some (decide (b ≤ a ∧ a ≤ c)) := by
 unfold spec_l1In.f
 by_cases h : a ≥ b
 ·rw [if_pos h]; by_cases h2 : a ≤ c <;> simp [h2] <;> omega
 ·rw [if_neg h]; simp; omega
theorem drop_rd (l : List Int) (i : Nat) (h : i < l.length) : l.drop i = rd l (i : Int) :: l.drop (i + 1) := by
 rw [rd_lt l i h]; exact List.drop_eq_getElem_cons h
def iota (n : Nat) : List Int := (List.range n).map fun (i : Nat) => (i : Int)
theorem mem_iota {n : Nat} {x : Int} : x ∈ iota n ↔ 0 ≤ x ∧ x < n := by
 simp only [iota, List.mem_map, List.mem_range]
 constructor
 ·rintro ⟨i, h, rfl⟩; omega
 ·intro h; exact ⟨x.toNat, by omega, by omega⟩
theorem iota_length (n : Nat) : (iota n).length = n := by simp [iota]
theorem iota_rising (n : Nat) : (iota n).Pairwise (· < ·) := by
 unfold iota
 rw [List.pairwise_map]
 exact List.pairwise_lt_range.imp (by intro a b h; omega)
theorem dif_iota {l : List Int} {n : Nat} (h : ∀ x, x ∈ l ↔ 0 ≤ x ∧ x < n) : dif l = iota n :=
 rising_ext (dif_sorted l) (iota_rising n) fun x => by rw [mem_dif, mem_iota]; exact h x
end Go.Proofs.Ytobfnlhocdnflaa.Pure
