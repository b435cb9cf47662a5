import Derived.Test.YtjahodklmegglaaDoorBFnExactStairOf4
import Derived.Test.YtjahodklmegglaaDoorBFnExactStairOf8
import Derived.Test.YtjahodklmegglaaDoorBFnExactStairOf9
import Derived.Test.YtjahodklmegglaaDoorBFnExactStairOf10
import Derived.Test.YtjahodklmegglaaDoorBFnExactStairOf11
import Derived.Test.YtjahodklmegglaaDoorBFnExactStairOf12
import Derived.Test.YtjahodklmegglaaDoorBFnExactStairOf20
import Derived.Test.YtjahodklmegglaaDoorBFnExactStairOf21
import Derived.Test.YtjahodklmegglaaDoorBFnExactStairOf22
import Derived.Test.YtjahodklmegglaaDoorBFnExactStairOf23
import Derived.Test.YtjahodklmegglaaDoorBFnExactStairOf24
import Derived.Test.YtjahodklmegglaaDoorBFnExactStairOf25
import Derived.Test.YtjahodklmegglaaDoorBFnExactStairOf26
import Derived.Test.YtjahodklmegglaaDoorBFnExactStairOf27
namespace Go.Proofs.YtjahodklmegglaaDoor.Pure
open Go.RowKit Go.Proofs.YtjahodklmegglaaDoor.Q Go.Proofs.YtjahodklmegglaaDoorW.PrintWords Go.Proofs.YtjahodklmegglaaDoorW.PrintLast
set_option linter.unusedVariables false
set_option linter.unusedSimpArgs false

theorem ord_lt {n : Int} {L : List Int} (h : orderP n L) : Ord L.length (lt L) := ⟨fun i hi => h.irr hi, fun i j m hi hj hm h1 h2 => h.trans hi h1 h2⟩
/-- the rows of what is below -/
def dn (L : List Int) (i : Nat) : Int := rowf (fun j => lt L j i) L.length
def dns (L : List Int) : List Int := rel (fun i j => lt L j i) L.length
theorem dns_length (L : List Int) : (dns L).length = L.length := rel_length _ _
theorem dns_get (L : List Int) {i : Nat} (hi : i < L.length) : rd (dns L) (i : Int) = dn L i := rel_get _ _ i hi
theorem mem_dns {L : List Int} {x : Int} : x ∈ dns L ↔ ∃ i, i < L.length ∧ dn L i = x := by
  unfold dns rel dn
  simp only [List.mem_map, List.mem_range]
theorem dn_set {n : Int} {L : List Int} (h : relP n L) (i : Nat) : setP (dn L i) ∧ ∀ m, bit (dn L i) m = (decide (m < L.length) && lt L m i) := rowf_bits _ _ (by have := h.1; have := h.2.1; omega)
theorem dn_sub {n : Int} {L : List Int} (h : relP n L) (i j : Nat) : andN (dn L j) (dn L i) = 0 ↔ ∀ x, x < L.length → lt L x j = true → lt L x i = true := by
  have h10 : L.length ≤ 10 := by have := h.1; have := h.2.1; omega
  rw [andNot_zero (dn_set h j).1 (dn_set h i).1]
  constructor
  · intro h2 x hx hb
    have := h2 x (by omega) (by rw [(dn_set h j).2]; simp [hx, hb])
    rw [(dn_set h i).2] at this
    simp at this; exact this.2
  · intro h2 x hx hb
    rw [(dn_set h j).2] at hb
    simp at hb
    rw [(dn_set h i).2]; simp [hb.1, h2 x hb.1 hb.2]
theorem dn_eq {n : Int} {L : List Int} (h : relP n L) (i j : Nat) : dn L j = dn L i ↔ (∀ x, x < L.length → lt L x j = true → lt L x i = true) ∧ (∀ x, x < L.length → lt L x i = true → lt L x j = true) := by
  constructor
  · intro e
    have e0 : andN (dn L i) (dn L i) = 0 := (dn_sub h i i).2 fun x _ hx => hx
    exact ⟨(dn_sub h i j).1 (by rw [e]; exact e0), (dn_sub h j i).1 (by rw [e]; exact e0)⟩
  · rintro ⟨h1, h2⟩
    refine set_ext (dn_set h j).1 (dn_set h i).1 fun x hx => ?_
    rw [(dn_set h j).2, (dn_set h i).2]
    by_cases hxl : x < L.length
    · have a := h1 x hxl; have b := h2 x hxl
      cases e1 : lt L x j <;> cases e2 : lt L x i <;> simp_all
    · simp [hxl]

end Go.Proofs.YtjahodklmegglaaDoor.Pure

namespace Go.Proofs.YtjahodklmegglaaDoor.Pure
open Go.RowKit Go.Proofs.YtjahodklmegglaaDoor.Q Go.Proofs.YtjahodklmegglaaDoorW.PrintWords Go.Proofs.YtjahodklmegglaaDoorW.PrintLast
set_option linter.unusedVariables false
set_option linter.unusedSimpArgs false

theorem bits_count {x : Int} {N : Nat} {p : Nat → Bool} (hN : N ≤ 10) (hb : ∀ m, bit x m = (decide (m < N) && p m)) : (bitsOf x).length = (List.range N).countP p := by
  have e : List.range 10 = List.range N ++ (List.range (10 - N)).map (N + ·) := by rw [← List.range_add]; congr 1; omega
  unfold bitsOf
  rw [List.length_map, ← List.countP_eq_length_filter, e, List.countP_append, List.countP_map]
  have h1 : (List.range N).countP (bit x) = (List.range N).countP p := List.countP_congr fun m hm => by
    rw [List.mem_range] at hm
    rw [hb]; simp [hm]
  have h2 : (List.range (10 - N)).countP (bit x ∘ (N + ·)) = 0 := by
    rw [List.countP_eq_zero]
    intro m _
    simp [hb]
    intro hh; omega
  omega
theorem row_bits {n : Int} {L : List Int} (h : relP n L) {i : Nat} (hi : i < L.length) (m : Nat) : bit (rd L (i : Int)) m = (decide (m < L.length) && lt L i m) := by
  cases e : lt L i m
  · have : bit (rd L (i : Int)) m = false := e
    rw [this]; simp
  · have h1 : bit (rd L (i : Int)) m = true := e
    have := h.lt_len hi e
    rw [h1]; simp [this]
theorem many_ev {x : Int} (hx : setP x) : Ev (fun k => spec_seMany.f k x) ((bitsOf x).length : Int) := by
  unfold spec_seMany.f
  exact Ev.bind (orList_ev hx.1 hx.2) (Ev.ret rfl)

end Go.Proofs.YtjahodklmegglaaDoor.Pure

namespace Go.Proofs.YtjahodklmegglaaDoor.Pure
open Go.RowKit Go.Proofs.YtjahodklmegglaaDoor.Q Go.Proofs.YtjahodklmegglaaDoorW.PrintWords Go.Proofs.YtjahodklmegglaaDoorW.PrintLast
set_option linter.unusedVariables false
set_option linter.unusedSimpArgs false

theorem sort_rises (l : List Int) : (l.mergeSort fun x y => decide (x ≤ y)).Pairwise (· ≤ ·) := by
  have := List.pairwise_mergeSort (le := fun x y : Int => decide (x ≤ y)) (by intro a b c h1 h2; simp at h1 h2 ⊢; omega) (by intro a b; simp; omega) l
  simpa using this
theorem below_dn {n : Int} {L : List Int} (h : relP n L) {i : Nat} (hi : i < L.length) : Ev (fun k => spec_orBelow.f k n L (i : Int)) (dn L i) := below_ev h hi
theorem count_all : ∀ x : Fin 1024, impl_count.f (x.val : Int) = some ((bitsOf (x.val : Int)).length : Int) := by decide +kernel
theorem count_f {x : Int} (hx : setP x) : impl_count.f x = some ((bitsOf x).length : Int) := by
  obtain ⟨m, rfl, hm⟩ := hx.nat
  exact count_all ⟨m, hm⟩
def cb (L : List Int) (i : Nat) : Int := ((bitsOf (dn L i)).length : Int)
theorem own_f (l : List Int) (h : l.length ≤ 1048576) : spec_l1Own.f l = some l := by
  unfold spec_l1Own.f
  simp only [Option.bind_some, List.nil_append, List.length_nil]
  rw [if_pos (by omega)]
theorem before_ev {n : Int} {L : List Int} (h : relP n L) {i j : Nat} (hi : i < L.length) (hj : j < L.length) : ∃ b, Ev (fun k => spec_seBefore.f k n L (i : Int) (j : Int)) b ∧ (b = true → cb L i ≤ cb L j) ∧ (b = false → cb L j ≤ cb L i) := by
  have d1 := dn_set h i
  have d2 := dn_set h j
  have s1 := h.set hi
  have s2 := h.set hj
  have go : ∀ b, Ev (fun _ : Nat => if ((bitsOf (dn L i)).length : Int) = ((bitsOf (dn L j)).length : Int) then (if ((bitsOf (rd L (i : Int))).length : Int) = ((bitsOf (rd L (j : Int))).length : Int) then (some (decide ((i : Int) < (j : Int)))) else (some (decide (((bitsOf (rd L (i : Int))).length : Int) > ((bitsOf (rd L (j : Int))).length : Int))))) else (some (decide (((bitsOf (dn L i)).length : Int) < ((bitsOf (dn L j)).length : Int))))) b → Ev (fun k => spec_seBefore.f k n L (i : Int) (j : Int)) b := fun b hb => by
    unfold spec_seBefore.f
    exact Ev.bind (below_dn h hi) (Ev.bind (many_ev d1.1) (Ev.bind (below_dn h hj) (Ev.bind (many_ev d2.1) (Ev.pos (by omega) (Ev.pos (by omega) (Ev.bind (many_ev s1) (Ev.pos (by omega) (Ev.pos (by omega) (Ev.bind (many_ev s2) hb)))))))))
  unfold cb
  by_cases c1 : ((bitsOf (dn L i)).length : Int) = ((bitsOf (dn L j)).length : Int)
  · by_cases c2 : ((bitsOf (rd L (i : Int))).length : Int) = ((bitsOf (rd L (j : Int))).length : Int)
    · exact ⟨_, go _ (Ev.pos c1 (Ev.pos c2 (Ev.ret rfl))), fun _ => by omega, fun _ => by omega⟩
    · exact ⟨_, go _ (Ev.pos c1 (Ev.neg c2 (Ev.ret rfl))), fun _ => by omega, fun _ => by omega⟩
  · refine ⟨_, go _ (Ev.neg c1 (Ev.ret rfl)), fun e => ?_, fun e => ?_⟩
    · rw [decide_eq_true_iff] at e; omega
    · rw [decide_eq_false_iff_not] at e; omega
/-- a list of the elements before i, in a rising order -/
def stairP (L : List Int) (i : Nat) (X : List Nat) : Prop := X.Perm (List.range i) ∧ X.Pairwise fun a b => cb L a ≤ cb L b
def ints (X : List Nat) : List Int := X.map fun (i : Nat) => (i : Int)
theorem ints_rd {X : List Nat} {q : Nat} (h : q < X.length) : rd (ints X) (q : Int) = (X[q] : Int) := by
  rw [rd_lt _ q (by simp [ints]; exact h)]; simp [ints]
theorem insert_ok {L : List Int} {i q : Nat} {X : List Nat} (h : stairP L i X) (hq : q ≤ X.length) (h1 : ∀ m, (hm : m < X.length) → m < q → cb L X[m] ≤ cb L i) (h2 : (hm : q < X.length) → cb L i ≤ cb L X[q]) : stairP L (i + 1) (X.take q ++ [i] ++ X.drop q) := by
  have e : X.take q ++ [i] ++ X.drop q = X.take q ++ i :: X.drop q := by simp
  rw [e]
  constructor
  · rw [List.range_succ]
    refine List.perm_middle.trans ?_
    rw [List.take_append_drop]
    exact ((List.perm_cons i).2 h.1).trans (List.perm_append_singleton i (List.range i)).symm
  · have hs : (X.take q ++ X.drop q).Pairwise fun a b => cb L a ≤ cb L b := by rw [List.take_append_drop]; exact h.2
    rw [List.pairwise_append] at hs ⊢
    refine ⟨hs.1, List.pairwise_cons.2 ⟨fun x hx => ?_, hs.2.1⟩, fun a ha b hb => ?_⟩
    · obtain ⟨m, hm, rfl⟩ := List.mem_iff_getElem.1 hx
      rw [List.getElem_drop]
      have hlen : m < X.length - q := by simpa using hm
      have hx0 := h2 (by omega)
      by_cases hm0 : m = 0
      · subst hm0; exact hx0
      · have := List.pairwise_iff_getElem.1 h.2 q (q + m) (by omega) (by omega) (by omega)
        omega
    · rcases List.mem_cons.1 hb with rfl | hb
      · obtain ⟨m, hm, rfl⟩ := List.mem_iff_getElem.1 ha
        rw [List.getElem_take]
        have : m < q ∧ m < X.length := by simp at hm; omega
        exact h1 m this.2 this.1
      · exact hs.2.2 a ha b hb
theorem trace_in {n : Int} {L : List Int} (h : relP n L) {i : Nat} (hi : i < L.length) {X : List Nat} (hX : stairP L i X) (d : Nat) :
    ∀ q : Nat, q + d = X.length → (∀ m, (hm : m < X.length) → m < q → cb L X[m] ≤ cb L i) → ∃ Y, stairP L (i + 1) Y ∧ ∀ R, Ev (fun k => spec_seTrace.l0 k (ints Y) ((i + 1 : Nat) : Int) n L) R → Ev (fun k => spec_seTrace.l1 k (ints X) (i : Int) (q : Int) n L) R := by
  have h10 : L.length ≤ 10 := by have := h.1; have := h.2.1; omega
  have lX : X.length = i := by rw [hX.1.length_eq]; simp
  have li : (ints X).length = X.length := by simp [ints]
  have fin : ∀ q : Nat, q ≤ X.length → (∀ m, (hm : m < X.length) → m < q → cb L X[m] ≤ cb L i) → ((hm : q < X.length) → cb L i ≤ cb L X[q]) → ∃ Y, stairP L (i + 1) Y ∧ ints Y = ((ints X).take q ++ [(i : Int)]) ++ (ints X).drop q := fun q hq h1 h2 => by
    refine ⟨_, insert_ok hX hq h1 h2, ?_⟩
    unfold ints
    rw [List.map_append, List.map_append, List.map_take, List.map_drop]
    rfl
  have w1 := wrap64_id (x := (i : Int) + 1) (by omega) (by omega)
  induction d with
  | zero =>
    intro q hq h1
    obtain ⟨Y, hY, eY⟩ := fin q (by omega) h1 (fun hm => by omega)
    refine ⟨Y, hY, fun R hR => ?_⟩
    rw [eY] at hR
    have lt : ((ints X).take q).length ≤ 1048576 := by simp; omega
    have ld : ((ints X).drop q).length ≤ 1048576 := by simp; omega
    refine Ev.shift ?_
    simp only [spec_seTrace.l1]
    rw [Int.toNat_natCast, w1, cast1]
    refine Ev.neg (by omega) (Ev.pos (by omega) (Ev.pos (by omega) (Ev.bindc (own_f _ lt) (Ev.pos (by omega) (Ev.bindc rfl (Ev.bindc rfl (Ev.pos ?_ hR)))))))
    simp; omega
  | succ d ih =>
    intro q hq h1
    have lt : ((ints X).take q).length ≤ 1048576 := by simp; omega
    have ld : ((ints X).drop q).length ≤ 1048576 := by simp; omega
    have hql : q < X.length := by omega
    have hxl : X[q] < L.length := by
      have : X[q] ∈ List.range i := hX.1.mem_iff.1 (List.getElem_mem hql)
      rw [List.mem_range] at this; omega
    obtain ⟨b, hb, b1, b2⟩ := before_ev h hxl hi
    cases hbb : b
    · obtain ⟨Y, hY, eY⟩ := fin q (by omega) h1 (fun _ => b2 hbb)
      refine ⟨Y, hY, fun R hR => ?_⟩
      rw [eY] at hR
      rw [hbb] at hb
      refine Ev.shift ?_
      simp only [spec_seTrace.l1]
      rw [Int.toNat_natCast, w1, cast1, ints_rd hql]
      refine Ev.pos (by omega) (Ev.pos (by omega) (Ev.bind hb (Ev.neg (by simp) (Ev.pos (by omega) (Ev.bindc (own_f _ lt) (Ev.pos (by omega) (Ev.bindc rfl (Ev.bindc rfl (Ev.pos ?_ hR)))))))))
      simp; omega
    · obtain ⟨Y, hY, hs⟩ := ih (q + 1) (by omega) (fun m hm hmq => by
        by_cases e : m = q
        · subst e; exact b1 hbb
        · exact h1 m hm (by omega))
      refine ⟨Y, hY, fun R hR => ?_⟩
      rw [hbb] at hb
      have := hs R hR
      refine Ev.shift ?_
      simp only [spec_seTrace.l1]
      rw [ints_rd hql, wrap64_id (x := (q : Int) + 1) (by omega) (by omega), cast1 q]
      exact Ev.pos (by omega) (Ev.pos (by omega) (Ev.bind hb (Ev.pos rfl this)))
theorem trace_out {n : Int} {L : List Int} (h : relP n L) (d : Nat) : ∀ (i : Nat) (X : List Nat), i + d = L.length → stairP L i X → ∃ Y, stairP L L.length Y ∧ Ev (fun k => spec_seTrace.l0 k (ints X) (i : Int) n L) (ints Y) := by
  have e1 := h.2.1
  have e3 := h.1
  induction d with
  | zero =>
    intro i X hi hX
    obtain rfl : i = L.length := by omega
    refine ⟨X, hX, Ev.shift ?_⟩
    simp only [spec_seTrace.l0]
    exact Ev.neg (by omega) (Ev.ret rfl)
  | succ d ih =>
    intro i X hi hX
    obtain ⟨Y, hY, hs⟩ := trace_in h (by omega) hX X.length 0 (by omega) (fun m _ hm => by omega)
    obtain ⟨Z, hZ, hz⟩ := ih (i + 1) Y (by omega) hY
    refine ⟨Z, hZ, Ev.shift ?_⟩
    simp only [spec_seTrace.l0]
    exact Ev.pos (by omega) (hs _ hz)
theorem stair_l {n : Int} {L : List Int} (h : relP n L) {Y : List Nat} (hY : ∀ y ∈ Y, y < L.length) (hl : Y.length ≤ 1000) (d : Nat) : ∀ q : Nat, q + d = Y.length → Ev (fun k => spec_seStair.l0 k ((Y.take q).map (cb L)) (ints Y) ((ints Y).length : Int) (q : Int) n L) (Y.map (cb L)) := by
  have li : (ints Y).length = Y.length := by simp [ints]
  induction d with
  | zero =>
    intro q hq
    refine Ev.shift ?_
    simp only [spec_seStair.l0]
    exact Ev.neg (by omega) (Ev.ret (by rw [List.take_of_length_le (by omega)]))
  | succ d ih =>
    intro q hq
    have hql : q < Y.length := by omega
    have hy := hY _ (List.getElem_mem hql)
    refine Ev.shift ?_
    simp only [spec_seStair.l0]
    rw [ints_rd hql, wrap64_id (x := (q : Int) + 1) (by omega) (by omega), cast1]
    have := ih (q + 1) (by omega)
    rw [List.take_succ_eq_append_getElem hql, List.map_append, List.map_singleton] at this
    exact Ev.pos (by omega) (Ev.pos (by omega) (Ev.pos (by omega) (Ev.bind (below_dn h hy) (Ev.bind (many_ev (dn_set h _).1) (Ev.pos (by simp; omega) this)))))
theorem ostair_l {n : Int} {L : List Int} (h : relP n L) (d : Nat) : ∀ i : Nat, i + d = L.length → Ev (fun k => impl_Order_stair.l0 k ((List.range i).map (cb L)) (dns L) ((dns L).length : Int) (i : Int)) (((List.range L.length).map (cb L)).mergeSort fun x y => decide (x ≤ y)) := by
  have h10 : L.length ≤ 10 := by have := h.1; have := h.2.1; omega
  have el := dns_length L
  induction d with
  | zero =>
    intro i hi
    obtain rfl : i = L.length := by omega
    refine Ev.shift ?_
    simp only [impl_Order_stair.l0]
    refine Ev.neg (by omega) (Ev.bindc (x := ((List.range L.length).map (cb L)).mergeSort fun x y => decide (x ≤ y)) ?_ (Ev.ret rfl))
    unfold slices_Sort_int_int.f
    rw [if_pos (by simp; omega)]
  | succ d ih =>
    intro i hi
    have hil : i < L.length := by omega
    refine Ev.shift ?_
    simp only [impl_Order_stair.l0]
    rw [dns_get L hil, wrap64_id (by omega) (by omega), cast1]
    have := ih (i + 1) (by omega)
    rw [List.range_succ, List.map_append, List.map_singleton] at this
    exact Ev.pos (by omega) (Ev.pos (by omega) (Ev.pos (by omega) (Ev.bindc (count_f (dn_set h i).1) (Ev.pos (by simp; omega) this))))
theorem StairOf_both (n : Int) (L : List Int) (hL : L.length ≤ 1048576) : ∃ r, Ev (fun k => impl_StairOf.f k n L) r ∧ Ev (fun k => spec_StairOf.f k n L) r ∧ r.1.length ≤ 1000 := by
  obtain ⟨b, h1, h2, h3⟩ := semi_both n L hL
  unfold impl_StairOf.f spec_StairOf.f
  cases hb : b
  · rw [hb] at h1 h2
    exact ⟨([], false), Ev.bind h1 (Ev.neg (by simp) (Ev.ret rfl)), Ev.bind h2 (Ev.neg (by simp) (Ev.ret rfl)), by simp⟩
  · obtain ⟨h, -, -⟩ := h3 hb
    rw [hb] at h1 h2
    have h10 : L.length ≤ 10 := by have := h.1.1; have := h.1.2.1; omega
    have e1 := h.1.2.1
    have e3 := h.1.1
    obtain ⟨Y, hY, ht⟩ := trace_out h.1 L.length 0 [] (by omega) ⟨by simp, List.Pairwise.nil⟩
    have lY : Y.length = L.length := by rw [hY.1.length_eq]; simp
    have eq : ((List.range L.length).map (cb L)).mergeSort (fun x y => decide (x ≤ y)) = Y.map (cb L) := by
      refine List.Perm.eq_of_pairwise (le := (· ≤ ·)) (fun a b _ _ h1 h2 => by omega) (sort_rises _) (by rw [List.pairwise_map]; exact hY.2) ((List.mergeSort_perm _ _).trans (hY.1.symm.map (cb L)))
    have s1 := ostair_l h.1 L.length 0 (by omega)
    have s2 := stair_l h.1 (Y := Y) (fun y hy => by have := hY.1.mem_iff.1 hy; rwa [List.mem_range] at this) (by omega) Y.length 0 (by omega)
    refine ⟨(Y.map (cb L), true), ?_, ?_, by show (Y.map (cb L)).length ≤ 1000; rw [List.length_map]; omega⟩
    · refine Ev.bind h1 (Ev.pos rfl (Ev.bind (a := Y.map (cb L)) ?_ (Ev.ret rfl)))
      unfold impl_Order_stair.f
      refine Ev.bind (mirror_ev h.1 : Ev _ (n, dns L)) ?_
      rw [← eq]
      have s3 : Ev (fun k => impl_Order_stair.l0 k [] (dns L) ((dns L).length : Int) 0) (((List.range L.length).map (cb L)).mergeSort fun x y => decide (x ≤ y)) := by simpa using s1
      exact s3
    · refine Ev.bind h2 (Ev.pos rfl (Ev.bind (a := Y.map (cb L)) ?_ (Ev.ret rfl)))
      unfold spec_seStair.f spec_seTrace.f
      refine Ev.bind (a := ints Y) (by simpa [ints] using ht) ?_
      simpa using s2

end Go.Proofs.YtjahodklmegglaaDoor.Pure

/- StairOf answers what the reference answers, for every order whose list has at most 2^20 numbers (longer ones the statement lets pass). Condition: the listed variables, tied to the program's text by the card. -/
namespace Go.Proofs.YtjahodklmegglaaDoor.Pure
open Go.RowKit Go.Proofs.YtjahodklmegglaaDoor.Q Go.Proofs.YtjahodklmegglaaDoorW.PrintWords Go.Proofs.YtjahodklmegglaaDoorW.PrintLast
set_option linter.unusedVariables false
set_option linter.unusedSimpArgs false

theorem FnExactStairOf (n : Int) (L : List Int) (_ : (Lit.int .i64 n).wf = true) (hL : L.length ≤ maxLen) (_ : ∀ x ∈ L, (Lit.int .i64 x).wf = true) : ∃ k, laws_FnExactStairOf.f k n L = some true := by
  refine Ev.at1 ?_
  unfold laws_FnExactStairOf.f
  by_cases h1 : (1048576 : Int) < L.length
  · exact Ev.bindc (szOrder_big n L 1048576 (by omega) hL h1) (Ev.pos (by omega) (Ev.ret rfl))
  refine Ev.bindc (szOrder_fit n L 1048576 (by omega) (by omega)) (Ev.neg (by omega) ?_)
  have hl : L.length ≤ 1048576 := by omega
  obtain ⟨⟨x, b⟩, hi, hs, hx⟩ := StairOf_both n L hl
  replace hx : x.length ≤ 1000 := hx
  have ex := eqIntS_same x (by omega)
  have mx := markIntS x (by omega) 1 (by omega) (by omega)
  have gx := heldIntS x.length (by omega) 1 (by omega) (by omega)
  refine (Ev.bind (toOrder n L hl) (Ev.bind hs (Ev.bind (toOrder n L hl) (Ev.bind hi (Ev.bind ex (Ev.pos rfl (Ev.shift ?_)))))))
  simp only [laws_FnExactStairOf.j0]
  refine Ev.neg (by simp) (Ev.bind (toOrder n L hl) (Ev.bind (eqOrder_same n L hl) (Ev.pos rfl (Ev.bind (markOrder n L hl 1 (by omega) (by omega)) ?_))))
  refine Ev.neg (by simp; omega) (Ev.bind ex (Ev.pos rfl (Ev.shift ?_)))
  simp only [laws_FnExactStairOf.j1]
  refine Ev.neg (by simp) (Ev.bind mx (Ev.bind gx (Ev.neg (by omega) (Ev.pos rfl ?_))))
  refine (Ev.bind (toOrder n L hl) (Ev.bind hi (Ev.bind ex (Ev.pos rfl (Ev.shift ?_)))))
  simp only [laws_FnExactStairOf.j2]
  exact Ev.neg (by simp) (Ev.bind gx (Ev.neg (by omega) (Ev.pos rfl (Ev.ret rfl))))

end Go.Proofs.YtjahodklmegglaaDoor.Pure
