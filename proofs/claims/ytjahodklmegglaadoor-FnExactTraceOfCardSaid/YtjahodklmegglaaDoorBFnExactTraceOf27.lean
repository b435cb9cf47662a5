import Derived.Test.YtjahodklmegglaaDoorBFnExactTraceOf2
import Derived.Test.YtjahodklmegglaaDoorBFnExactTraceOf7
import Derived.Test.YtjahodklmegglaaDoorBFnExactTraceOf10
import Derived.Test.YtjahodklmegglaaDoorBFnExactTraceOf20
import Derived.Test.YtjahodklmegglaaDoorBFnExactTraceOf21
import Derived.Test.YtjahodklmegglaaDoorBFnExactTraceOf22
import Derived.Test.YtjahodklmegglaaDoorBFnExactTraceOf24
import Derived.Test.YtjahodklmegglaaDoorBFnExactTraceOf25
import Derived.Test.YtjahodklmegglaaDoorBFnExactTraceOf26
namespace Go.Proofs.YtjahodklmegglaaDoor.Pure
open Go.RowKit Go.Proofs.YtjahodklmegglaaDoor.Q Go.Proofs.YtjahodklmegglaaDoorW.PrintWords Go.Proofs.YtjahodklmegglaaDoorW.PrintLast
set_option linter.unusedVariables false
set_option linter.unusedSimpArgs false

theorem bits_count {x : Int} {N : Nat} {p : Nat → Bool} (hN : N ≤ 10) (hb : ∀ m, bit x m = (decide (m < N) && p m)) : (bitsOf x).length = (List.range N).countP p := by
  have e : List.range 10 = List.range N ++ (List.range (10 - N)).map (N + ·) := by rw [← List.range_add]; congr 1; omega
  unfold bitsOf
  rw [List.length_map, ← List.countP_eq_length_filter, e, List.countP_append, List.countP_map]
  have h1 : (List.range N).countP (bit x) = (List.range N).countP p := List.countP_congr fun m hm => by
    rw [List.mem_range] at hm
    rw [hb]; simp [hm]
  have h2 : (List.range (10 - N)).countP (bit x ∘ (N + ·)) = 0 := by
    rw [List.countP_eq_zero]
    intro m _
    simp [hb]
    intro hh; omega
  omega
theorem row_bits {n : Int} {L : List Int} (h : relP n L) {i : Nat} (hi : i < L.length) (m : Nat) : bit (rd L (i : Int)) m = (decide (m < L.length) && lt L i m) := by
  cases e : lt L i m
  · have : bit (rd L (i : Int)) m = false := e
    rw [this]; simp
  · have h1 : bit (rd L (i : Int)) m = true := e
    have := h.lt_len hi e
    rw [h1]; simp [this]
theorem many_ev {x : Int} (hx : setP x) : Ev (fun k => spec_seMany.f k x) ((bitsOf x).length : Int) := by
  unfold spec_seMany.f
  exact Ev.bind (orList_ev hx.1 hx.2) (Ev.ret rfl)

end Go.Proofs.YtjahodklmegglaaDoor.Pure

namespace Go.Proofs.YtjahodklmegglaaDoor.Pure
open Go.RowKit Go.Proofs.YtjahodklmegglaaDoor.Q Go.Proofs.YtjahodklmegglaaDoorW.PrintWords Go.Proofs.YtjahodklmegglaaDoorW.PrintLast
set_option linter.unusedVariables false
set_option linter.unusedSimpArgs false

theorem rel_rel {n : Int} {N : Nat} (hn : (N : Int) = n) (h10 : N ≤ 10) (p : Nat → Nat → Bool) : relP n (rel p N) := by
  subst hn
  refine ⟨⟨by omega, by omega⟩, by rw [rel_length], fun x hx => ?_⟩
  obtain ⟨i, hi, rfl⟩ := List.mem_iff_getElem.1 hx
  rw [rel_length] at hi
  rw [← rd_lt _ i (by rw [rel_length]; exact hi)]
  have hs := rel_set (p := p) h10 hi
  refine ⟨hs.1, ?_⟩
  rw [full_pow h10]
  obtain ⟨a, ha, hlt⟩ := hs.nat
  rw [ha]
  have : a < 2 ^ N := by
    refine Nat.lt_pow_two_of_testBit a fun m hm => ?_
    have := rel_lt (p := p) h10 hi m
    unfold lt at this
    rw [ha, bit_nat] at this
    rw [this]; simp; omega
  have h2 : ((2 ^ N : Nat) : Int) = (2 : Int) ^ N := by simp
  omega
def nums (L : List Int) : List Int := (List.range L.length).map (num L.length (lt L))
theorem trace_l {n : Int} {L : List Int} (h : relP n L) (d : Nat) : ∀ i : Nat, i + d = L.length → Ev (fun k => spec_TraceOf.l0 k ((List.range i).map (num L.length (lt L))) (i : Int) n L) (lev (nums L), true) := by
  have e1 := h.2.1
  have e3 := h.1
  induction d with
  | zero =>
    intro i hi
    obtain rfl : i = L.length := by omega
    refine Ev.shift ?_
    simp only [spec_TraceOf.l0]
    exact Ev.neg (by omega) (Ev.bind (ofNumbers_ev (nums L) (by simp [nums]; omega)) (Ev.ret rfl))
  | succ d ih =>
    intro i hi
    have hil : i < L.length := by omega
    have hd := dn_set h i
    have hs := h.set hil
    have hbel : Ev (fun k => spec_orBelow.f k n L (i : Int)) (dn L i) := below_ev h hil
    have b1 := bitsOf_len (dn L i)
    have b2 := bitsOf_len (rd L (i : Int))
    have c1 := bits_count (N := L.length) (by omega) hd.2
    have c2 := bits_count (N := L.length) (by omega) (row_bits h hil)
    refine Ev.shift ?_
    simp only [spec_TraceOf.l0]
    refine Ev.pos (by omega) (Ev.bind hbel (Ev.bind (many_ev hd.1) (Ev.pos (by omega) (Ev.pos (by omega) (Ev.bind (many_ev hs) (Ev.pos (by simp; omega) ?_))))))
    rw [wrap64_id (x := (i : Int) + 1) (by omega) (by omega), wrap64_id (x := ((bitsOf (dn L i)).length : Int) - ((bitsOf (rd L (i : Int))).length : Int)) (by omega) (by omega), cast1, c1, c2]
    have := ih (i + 1) (by omega)
    rw [List.range_succ, List.map_append, List.map_singleton] at this
    exact this
def trB (L : List Int) (i j : Nat) : Bool := decide (andN (dn L j) (dn L i) ≠ 0) || decide (andN (rd L (i : Int)) (rd L (j : Int)) ≠ 0)
theorem tr_f (n : Int) (L : List Int) {i j : Nat} (hi : i < L.length) (hj : j < L.length) : impl_TraceOf_1.f (i : Int) (j : Int) n (dns L) n L = some (trB L i j) := by
  have el := dns_length L
  unfold impl_TraceOf_1.f trB andN
  rw [if_pos (by omega), if_pos (by omega), if_pos (by omega), if_pos (by omega), dns_get L hi, dns_get L hj]
  by_cases h1 : Go.bits .andNot .i64 (dn L j) (dn L i) = 0
  · rw [if_pos h1, if_pos (by omega), if_pos (by omega)]
    by_cases h2 : Go.bits .andNot .i64 (rd L (i : Int)) (rd L (j : Int)) = 0 <;> simp [h1, h2]
  · rw [if_neg h1]
    simp [h1]
theorem trB_iff {n : Int} {L : List Int} (h : relP n L) {i j : Nat} (hi : i < L.length) (hj : j < L.length) : trB L i j = true ↔ trR L.length (lt L) i j := by
  have h10 : L.length ≤ 10 := by have := h.1; have := h.2.1; omega
  have r1 : andN (rd L (i : Int)) (rd L (j : Int)) = 0 ↔ ∀ y, y < L.length → lt L i y = true → lt L j y = true := by
    rw [andNot_zero (h.set hi) (h.set hj)]
    exact ⟨fun g y hy hb => g y (by omega) hb, fun g y hy hb => g y (h.lt_len hi hb) hb⟩
  unfold trB trR
  rw [Bool.or_eq_true, decide_eq_true_iff, decide_eq_true_iff, Ne, Ne, dn_sub h i j, r1]
  constructor
  · rintro (g | g)
    · have ⟨x, g⟩ := Classical.not_forall.1 g
      have ⟨g1, g⟩ := Classical.not_imp.1 g
      have ⟨g2, g3⟩ := Classical.not_imp.1 g
      exact .inl ⟨x, g1, g2, by simpa using g3⟩
    · have ⟨x, g⟩ := Classical.not_forall.1 g
      have ⟨g1, g⟩ := Classical.not_imp.1 g
      have ⟨g2, g3⟩ := Classical.not_imp.1 g
      exact .inr ⟨x, g1, g2, by simpa using g3⟩
  · rintro (⟨x, g1, g2, g3⟩ | ⟨x, g1, g2, g3⟩)
    · exact .inl fun g => by have := g x g1 g2; rw [g3] at this; cases this
    · exact .inr fun g => by have := g x g1 g2; rw [g3] at this; cases this
theorem trace_levels {n : Int} {L : List Int} (h : orderP n L) (h22 : No22 L.length (lt L)) (h31 : No31 L.length (lt L)) : lvs (rel (trB L) L.length) = lev (nums L) := by
  have h10 : L.length ≤ 10 := by have := h.1.1; have := h.1.2.1; omega
  have hT := rel_rel h.1.2.1 h10 (trB L)
  have eT := rel_length (trB L) L.length
  generalize eqT : rel (trB L) L.length = T at hT eT ⊢
  have ltT : ∀ i j, i < L.length → j < L.length → (lt T i j = true ↔ num L.length (lt L) i < num L.length (lt L) j) := fun i j hi hj => by
    rw [← eqT, rel_lt h10 hi]
    simp only [hj, decide_true, Bool.true_and]
    rw [trB_iff h.1 hi hj, trR_num (ord_lt h) h22 h31 hi hj]
  have sub : ∀ i j, i < L.length → j < L.length → (andN (dn T j) (dn T i) = 0 ↔ num L.length (lt L) j ≤ num L.length (lt L) i) := fun i j hi hj => by
    rw [dn_sub hT i j, eT]
    constructor
    · intro g
      refine Int.not_lt.1 fun hlt => ?_
      have := (ltT i i hi hi).1 (g i hi ((ltT i j hi hj).2 hlt))
      omega
    · intro g x hx hb
      have := (ltT x j hx hj).1 hb
      exact (ltT x i hx hi).2 (by omega)
  have eqs : ∀ i j, i < L.length → j < L.length → (dn T i = dn T j ↔ num L.length (lt L) i = num L.length (lt L) j) := fun i j hi hj => by
    have s1 := sub i j hi hj
    have s2 := sub j i hj hi
    rw [dn_sub hT] at s1 s2
    rw [dn_eq hT j i]
    constructor
    · rintro ⟨g1, g2⟩
      have := s1.1 g2; have := s2.1 g1; omega
    · intro g
      exact ⟨s2.2 (by omega), s1.2 (by omega)⟩
  rw [lvs_eq]
  unfold lev nums
  rw [eT, List.map_map]
  refine List.map_congr_left fun i hi => ?_
  rw [List.mem_range] at hi
  simp only [Function.comp_apply]
  unfold low lvc
  rw [← List.countP_eq_length_filter]
  have hv := count_values (b := dn T) (v := num L.length (lt L)) (n := L.length) (D := dif (dns T)) (E := dif (nums L)) (dif_nodup _) (dif_nodup _) (fun x => by rw [mem_difs, eT]) (fun x => by
    rw [mem_dif]; unfold nums; simp only [List.mem_map, List.mem_range]) eqs (p := below1 (dn T i)) (q := fun y => decide (y < num L.length (lt L) i)) (fun j hj => by
      unfold below1
      rw [Bool.eq_iff_iff, decide_eq_true_iff, decide_eq_true_iff, sub i j hi hj, Ne, eqs j i hj hi]
      omega)
  unfold nums at hv
  rw [hv]
theorem TraceOf_both (n : Int) (L : List Int) (hL : L.length ≤ 1048576) : ∃ r, Ev (fun k => impl_TraceOf.f k n L) r ∧ Ev (fun k => spec_TraceOf.f k n L) r ∧ r.1.length ≤ 1000 := by
  obtain ⟨b, h1, h2, h3⟩ := semi_both n L hL
  unfold impl_TraceOf.f spec_TraceOf.f
  cases hb : b
  · rw [hb] at h1 h2
    exact ⟨([], false), Ev.bind h1 (Ev.neg (by simp) (Ev.ret rfl)), Ev.bind h2 (Ev.neg (by simp) (Ev.ret rfl)), by simp⟩
  · obtain ⟨h, h22, h31⟩ := h3 hb
    rw [hb] at h1 h2
    have h10 : L.length ≤ 10 := by have := h.1.1; have := h.1.2.1; omega
    have e1 := h.1.2.1
    have hrel := relation_ev (trB L) L.length (by omega) (fun _ u0_ u1_ => impl_TraceOf_1.f u0_ u1_ n (dns L) n L) (fun i j hi hj => Ev.const (tr_f n L hi hj))
    rw [e1] at hrel
    refine ⟨(lev (nums L), true), ?_, ?_, by show (lev (nums L)).length ≤ 1000; rw [lev_length]; simp [nums]; omega⟩
    · refine Ev.bind h1 (Ev.pos rfl (Ev.bind (mirror_ev h.1 : Ev _ (n, dns L)) (Ev.bind hrel (Ev.bind (olevels_ev (rel_rel e1 h10 (trB L))) (Ev.ret ?_)))))
      rw [trace_levels h h22 h31]
    · refine Ev.bind h2 (Ev.pos rfl ?_)
      have := trace_l h.1 L.length 0 (by omega)
      simpa using this

end Go.Proofs.YtjahodklmegglaaDoor.Pure

/- TraceOf answers what the reference answers, for every order whose list has at most 2^20 numbers (longer ones the statement lets pass). Condition: the listed variables, tied to the program's text by the card. -/
namespace Go.Proofs.YtjahodklmegglaaDoor.Pure
open Go.RowKit Go.Proofs.YtjahodklmegglaaDoor.Q Go.Proofs.YtjahodklmegglaaDoorW.PrintWords Go.Proofs.YtjahodklmegglaaDoorW.PrintLast
set_option linter.unusedVariables false
set_option linter.unusedSimpArgs false

theorem FnExactTraceOf (n : Int) (L : List Int) (_ : (Lit.int .i64 n).wf = true) (hL : L.length ≤ maxLen) (_ : ∀ x ∈ L, (Lit.int .i64 x).wf = true) : ∃ k, laws_FnExactTraceOf.f k n L = some true := by
  refine Ev.at1 ?_
  unfold laws_FnExactTraceOf.f
  by_cases h1 : (1048576 : Int) < L.length
  · exact Ev.bindc (szOrder_big n L 1048576 (by omega) hL h1) (Ev.pos (by omega) (Ev.ret rfl))
  refine Ev.bindc (szOrder_fit n L 1048576 (by omega) (by omega)) (Ev.neg (by omega) ?_)
  have hl : L.length ≤ 1048576 := by omega
  obtain ⟨⟨x, b⟩, hi, hs, hx⟩ := TraceOf_both n L hl
  replace hx : x.length ≤ 1000 := hx
  have ex := eqIntS_same x (by omega)
  have mx := markIntS x (by omega) 1 (by omega) (by omega)
  have gx := heldIntS x.length (by omega) 1 (by omega) (by omega)
  refine (Ev.bind (toOrder n L hl) (Ev.bind hs (Ev.bind (toOrder n L hl) (Ev.bind hi (Ev.bind ex (Ev.pos rfl (Ev.shift ?_)))))))
  simp only [laws_FnExactTraceOf.j0]
  refine Ev.neg (by simp) (Ev.bind (toOrder n L hl) (Ev.bind (eqOrder_same n L hl) (Ev.pos rfl (Ev.bind (markOrder n L hl 1 (by omega) (by omega)) ?_))))
  refine Ev.neg (by simp; omega) (Ev.bind ex (Ev.pos rfl (Ev.shift ?_)))
  simp only [laws_FnExactTraceOf.j1]
  refine Ev.neg (by simp) (Ev.bind mx (Ev.bind gx (Ev.neg (by omega) (Ev.pos rfl ?_))))
  refine (Ev.bind (toOrder n L hl) (Ev.bind hi (Ev.bind ex (Ev.pos rfl (Ev.shift ?_)))))
  simp only [laws_FnExactTraceOf.j2]
  exact Ev.neg (by simp) (Ev.bind gx (Ev.neg (by omega) (Ev.pos rfl (Ev.ret rfl))))

end Go.Proofs.YtjahodklmegglaaDoor.Pure
