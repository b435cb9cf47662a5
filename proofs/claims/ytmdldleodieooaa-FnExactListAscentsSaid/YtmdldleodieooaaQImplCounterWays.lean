-- printed by this project's own program (wip/mp/mp.py) over the kit's print, for this seat; Lean checks it
import Derived.Test.YtmdldleodieooaaQx0
import Derived.Test.YtmdldleodieooaaQImplCounterMost
import Derived.Test.YtmdldleodieooaaQImplNext
import Derived.Test.YtmdldleodieooaaQImplNext
import Derived.Test.YtmdldleodieooaaQImplCounterMost
import Derived.WideKeyArr
import Derived.WideKeyRuns
import Derived.ChangeMaps5
import Derived.MapKept
import Derived.MapFrom
namespace Go.Proofs.Ytmdldleodieooaa.Q
open Go.RowKit Go.Proofs.YtmdldleodieooaaW.PrintWords Go.Proofs.YtmdldleodieooaaW.PrintLast Go.Proofs.YtmdldleodieooaaW.PrintMore
attribute [local go_sem] max2_int min2_int max_two min_two max_three min_three max_four min_four   -- for this text's walks alone
set_option linter.unusedVariables false
set_option maxHeartbeats 8000000
set_option maxRecDepth 100000
set_option linter.unusedSimpArgs false

/-! ### impl_counter_ways: function 12 -/
def impl_counter_ways.f (a1 a2 a3 : Int) : Option Int := if 0 ≤ a1 ∧ 0 ≤ a3 ∧ a3 + a1 ≤ 13 ∧ -1 ≤ a2 ∧ a2 ≤ 14 then some (wys a1.toNat a2 a3) else none
namespace Counter
open Go.ChangeMaps
theorem cnt_arrKey : Go.WideMaps.ArrKey Try.prog 40 3 3 := ⟨by kernel_rfl, by kernel_rfl, by kernel_rfl, by kernel_rfl⟩
theorem cnt_tmap : Try.prog.underlying 33 = some (.map 40 3) := by kernel_rfl
theorem cnt_tint : Try.prog.underlying 3 = some (.int .i64) := Try.underlying3
theorem cnt_zero (w : World) : (zeroValue 3).run Try.prog w = .ok (.int .i64 0) w := by kernel_rfl
theorem cnt_keyOf {m l a : Int} (wm : (Lit.int .i64 m).wf = true) (wl : (Lit.int .i64 l).wf = true) (wa : (Lit.int .i64 a).wf = true) :
  keyOf Try.prog 40 (keyV m l a) = some (.string (keyBytes [.int .i64 m, .int .i64 l, .int .i64 a])) := by
 have hkt := cnt_arrKey.keyType ⟨_, rfl⟩
 have hm : ∃ m, Try.prog.types.size = m + 1 := ⟨_, rfl⟩
 obtain ⟨n, hn⟩ := hm
 unfold keyOf keyV
 simp only [cnt_arrKey.hu]
 rw [if_pos (by simp [hkt, Value.formed, cnt_arrKey.hu, cnt_arrKey.size]), hn]
 unfold Program.keyLits
 simp only [cnt_arrKey.hu, Value.cells]
 rw [if_pos (by rw [cnt_arrKey.size]; rfl), show List.range 3 = [0, 1, 2] from rfl, List.mapM_cons, List.mapM_cons, List.mapM_cons, List.mapM_nil]
 simp [cnt_arrKey.one, Program.keyLits, cnt_tint, wm, wl, wa]
theorem cnt_wf64 {x : Int} (h1 : -1000 ≤ x) (h2 : x ≤ 1946195068359375) : (Lit.int .i64 x).wf = true := by
 simp [Lit.wf, IntKind.min, IntKind.max, IntKind.signed, IntKind.bits]; omega
theorem cnt_keyOk {m : Nat} {l a : Int} (h : 0 ≤ a ∧ a + m ≤ 13 ∧ -1 ≤ l ∧ l ≤ 14) : keyOf Try.prog 40 (keyV m l a) = some (.string (keyBytes [.int .i64 m, .int .i64 l, .int .i64 a])) :=
 cnt_keyOf (cnt_wf64 (by omega) (by omega)) (cnt_wf64 (by omega) (by omega)) (cnt_wf64 (by omega) (by omega))
theorem cnt_keysOk {es : Array MapEntry} (hm : MapOk es) : ∀ e ∈ es.toList, ∃ l, keyOf Try.prog 40 e.key = some l := by
 intro e he
 obtain ⟨m, l, a, h1, h2, h3, h4, hk, _⟩ := hm e he
 rw [hk]; exact ⟨_, cnt_keyOk ⟨h1, h2, h3, h4⟩⟩
/-- A look-up: what is there is right; or nothing is there. -/
theorem cnt_look {es : Array MapEntry} {clock g : Nat} (hm : MapOk es) {m : Nat} {l a : Int} (h : 0 ≤ a ∧ a + m ≤ 13 ∧ -1 ≤ l ∧ l ≤ 14) :
  (∀ W : World, W.heap[g]? = some (.map es clock) → (Instr.lookup 33 (.map (some g)) (keyV m l a) true).run Try.prog W = .ok (.tuple #[.int .i64 (wys m l a), .bool true]) W) ∨
  (∀ W : World, W.heap[g]? = some (.map es clock) → (Instr.lookup 33 (.map (some g)) (keyV m l a) true).run Try.prog W = .ok (.tuple #[.int .i64 0, .bool false]) W) := by
 have K := cnt_arrKey.law
 by_cases hx : ∃ e ∈ es.toList, e.key = keyV m l a
 ·refine .inl fun W hb => ?_
  rcases K.find W (cnt_keyOk h) es.toList (cnt_keysOk hm) with ⟨_, h2⟩ | ⟨j, e, h1, h2, h3⟩
  ·obtain ⟨e, he, hk⟩ := hx; exact absurd hk (h2 e he)
  ·obtain ⟨m', l', a', _, _, _, _, hk, hv⟩ := hm e (List.mem_of_getElem? h2)
   rw [h3] at hk
   simp only [keyV, Value.agg.injEq, Array.mk.injEq, List.cons.injEq, Value.int.injEq, true_and, and_true] at hk
   obtain ⟨e1, rfl, rfl⟩ := hk
   have e2 : m = m' := by omega
   subst e2
   simp [Instr.lookup, run_underlying cnt_tmap, MapKept.run_getObj_map hb, K.check W _ (cnt_keyOk h), h1, hv, Result.andThen]
 ·refine .inr fun W hb => ?_
  rcases K.find W (cnt_keyOk h) es.toList (cnt_keysOk hm) with ⟨h1, _⟩ | ⟨j, e, h1, h2, h3⟩
  ·simp [Instr.lookup, run_underlying cnt_tmap, MapKept.run_getObj_map hb, K.check W _ (cnt_keyOk h), h1, cnt_zero, Result.andThen]
  ·exact absurd ⟨e, List.mem_of_getElem? h2, h3⟩ hx
/-- A store of what is right. -/
theorem cnt_upd {w0 W : World} {g : Nat} (hI : IsS33 w0 W g) (hB : Below w0.heap.size w0 W) {m : Nat} {l a : Int} (h : 0 ≤ a ∧ a + m ≤ 13 ∧ -1 ≤ l ∧ l ≤ 14) :
  ∃ W', (Instr.mapUpdate 33 (.map (some g)) (keyV m l a) (.int .i64 (wys m l a))).run Try.prog W = .ok () W' ∧ IsS33 w0 W' g ∧ Below w0.heap.size w0 W' ∧ KeepBut W W' g none := by
 have K := cnt_arrKey.law
 obtain ⟨es, clock, hb, hm, hg⟩ := hI
 have hkeep : ∀ o : Obj, KeepBut W (setBlock W g o) g none := fun o => ⟨by simp [setBlock], fun i _ hi _ => heap_setBlock_other hb o hi⟩
 have hbel : ∀ o : Obj, Below w0.heap.size w0 (setBlock W g o) := fun o => ⟨hB.os, hB.tape, hB.output, by simp [setBlock, hB.size], fun i hi => (heap_setBlock_other hb o (by omega)).trans (hB.block i hi)⟩
 rcases K.find W (cnt_keyOk h) es.toList (cnt_keysOk hm) with ⟨h1, h2⟩ | ⟨j, e0, h1, h2, h3⟩
 ·refine ⟨setBlock W g (.map (es.push ⟨keyV m l a, .int .i64 (wys m l a), clock⟩) (clock + 1)), ?_, ⟨_, _, heap_setBlock_same hb _, ?_, hg⟩, hbel _, hkeep _⟩
  ·simp [Instr.mapUpdate, run_underlying cnt_tmap, MapKept.run_getObj_map hb, K.check W false (cnt_keyOk h), h1, MapKept.run_setObj_map _ hb, Result.andThen, setBlock]
  ·intro x hx
   simp only [Array.toList_push, List.mem_append, List.mem_singleton] at hx
   rcases hx with hx | rfl
   ·exact hm x hx
   ·exact ⟨m, l, a, h.1, h.2.1, h.2.2.1, h.2.2.2, rfl, rfl⟩
 ·have hj : es[j]? = some e0 := by simpa using h2
  refine ⟨setBlock W g (.map (es.modify j (fun e' => { e' with key := keyV m l a, val := .int .i64 (wys m l a) })) clock), ?_, ⟨_, _, heap_setBlock_same hb _, ?_, hg⟩, hbel _, hkeep _⟩
  ·simp [Instr.mapUpdate, run_underlying cnt_tmap, MapKept.run_getObj_map hb, K.check W false (cnt_keyOk h), h1, hj, h3, K.stays W (cnt_keyOk h), MapKept.run_setObj_map _ hb, Result.andThen, setBlock]
  ·intro x hx
   rcases MapFrom.mem_modify hx with hx | ⟨e', _, rfl⟩
   ·exact hm x hx
   ·exact ⟨m, l, a, h.1, h.2.1, h.2.2.1, h.2.2.2, rfl, rfl⟩
end Counter
/-- One round of the sum, and the store behind it. -/
theorem Counter.sum_wrap {f : Int → Int} {n : Nat} (hn : n ≤ 15) (hf : ∀ i : Nat, i < n → 0 ≤ f i ∧ f i ≤ 1946195068359375) : 0 ≤ sumTo f n ∧ sumTo f n ≤ 29192926025390625 := by
 have h1 := sumTo_nonneg (f := f) (n := n) (fun i hi => (hf i hi).1)
 have h2 := sumTo_le (f := f) (n := n) (fun i hi => (hf i hi).2)
 omega
theorem Counter.hb_of {w0 W : World} {g : Nat} (hI : IsS33 w0 W g) : ∃ es clock, W.heap[g]? = some (.map es clock) ∧ MapOk es ∧ w0.heap.size ≤ g := hI
theorem Counter.most_f (l a : Int) (h : 0 ≤ a ∧ a ≤ 13) : impl_counter_most.f l a = some (topN l a) := by
 unfold impl_counter_most.f topN
 by_cases hl : l < 0
 ·rw [if_pos hl, if_pos hl]
 ·rw [if_neg hl, if_neg hl]; congr 1; unfold wrap64; omega
theorem Counter.next_f (l a x : Int) (h : 0 ≤ a ∧ a ≤ 13) : impl_next.f l a x = some (nx l a x) := by
 unfold impl_next.f nx
 by_cases hl : l ≥ 0
 ·by_cases hx : x > l
  ·rw [if_pos hl, if_pos hx, if_pos ⟨hl, hx⟩]; congr 1; unfold wrap64; omega
  ·rw [if_pos hl, if_neg hx, if_neg (fun e => hx e.2)]
 ·rw [if_neg hl, if_neg (fun e => hl e.1)]
section
variable {P : Program} {ops : Array Oper} {rest : List Oper} {o : Oper} {a : Act} {Q : Exit → Act → World → Prop}
theorem Counter.look_event {W : World} (hgd : o.guard = none) {N : Tmp} (_hd : o.dst = some N) {v : Value} (hrun : (execOp a.eval o).run P W = .ok (.value v) W) {F : World → Prop} (hF : F W)
  (h : ∀ W1, F W1 → wpList P ops Q rest (a.put o.dst v) W1) : wpList P ops Q (o :: rest) a W := Kd.event_run hgd hrun (h W hF)
end
theorem Counter.step {w0 w W W2 : World} {g b : Nat} {cs : Array Value} {ty : TypeId} (h : IsS33 w0 W g ∧ Below w0.heap.size w0 W ∧ KeepBut w W g none ∧ W.heap[b]? = some (.cells cs ty (0, 0))) (hi : IsS33 w0 W2 g) (hb : Below w0.heap.size w0 W2) (hk : KeepBut W W2 g none) :
  IsS33 w0 W2 g ∧ Below w0.heap.size w0 W2 ∧ KeepBut w W2 g none ∧ W2.heap[b]? = some (.cells cs ty (0, 0)) := by
 obtain ⟨h1, h2, h3, h4⟩ := h
 have hne : b ≠ g := by
  rintro rfl
  obtain ⟨_, _, hb, _⟩ := h1
  rw [hb] at h4; cases h4
 exact ⟨hi, hb, ⟨Nat.le_trans h3.1 hk.1, fun i hi2 hn hr => (hk.2 i (Nat.lt_of_lt_of_le hi2 h3.1) hn (by simp)).trans (h3.2 i hi2 hn hr)⟩, (hk.2 b (blk_lt h4) hne (by simp)).trans h4⟩
theorem Counter.walk (g : Nat) (w0 : World) : ∀ (m : Nat) (l a : Int) (w : World), 0 ≤ a ∧ a + m ≤ 13 ∧ -1 ≤ l ∧ l ≤ 14 → IsS33 w0 w g → Below w0.heap.size w0 w →
  Calls Try.prog 12 #[.map (some g), .int .i64 m, .int .i64 l, .int .i64 a] w fun e w' => e = .returned (.int .i64 (wys m l a)) ∧ IsS33 w0 w' g ∧ Below w0.heap.size w0 w' ∧ KeepBut w w' g none
 | 0, l, a, w, h, hI, hB => by
  go_enter Try.func12, Try.ntmps12
  go_wp2
  go_ret
  exact ⟨rfl, hI, hB, KeepBut.refl _ _ _⟩
 | m + 1, l, a, w, h, hI, hB => by
  obtain ⟨es, clock, hb, hm, hg⟩ := hI
  have hlook := Counter.cnt_look (g := g) (clock := clock) hm (m := m + 1) (l := l) (a := a) h
  have hM0 : ∃ M : Int, M = ((m + 1 : Nat) : Int) := ⟨_, rfl⟩
  obtain ⟨M, hM⟩ := hM0
  unfold keyV at hlook
  rw [← hM] at hlook ⊢
  have c0 : (M == 0) = false := beq_eq_false_iff_ne.mpr (by omega)
  have HM := mkA hM
  clear hM
  have hbk : (w.alloc (.cells #[.int .i64 M, .int .i64 l, .int .i64 a] 40)).heap[g]? = some (.map es clock) := blk_grown hb (World.grownBy_alloc w _ none) (by simp)
  rcases hlook with hl | hl
  ·have hl1 := hl _ hbk
   go_enter Try.func12, Try.ntmps12
   go_wp2
   go_ret
   have hI : IsS33 w0 w g := ⟨es, clock, hb, hm, hg⟩
   exact ⟨rfl, hI.alloc _, below_alloc hB _, keep_alloc (KeepBut.refl _ _ _) _⟩
  ·have hl1 := hl _ hbk
   have HF := mkA (show IsS33 w0 (w.alloc (.cells #[.int .i64 M, .int .i64 l, .int .i64 a] 40)) g ∧ Below w0.heap.size w0 (w.alloc (.cells #[.int .i64 M, .int .i64 l, .int .i64 a] 40)) ∧ KeepBut w (w.alloc (.cells #[.int .i64 M, .int .i64 l, .int .i64 a] 40)) g none ∧ (w.alloc (.cells #[.int .i64 M, .int .i64 l, .int .i64 a] 40)).heap[w.heap.size]? = some (.cells #[.int .i64 M, .int .i64 l, .int .i64 a] 40 (0, 0)) from
    ⟨IsS33.alloc ⟨es, clock, hb, hm, hg⟩ _, below_alloc hB _, keep_alloc (KeepBut.refl _ _ _) _, blk_new w _⟩)
   have HH := mkA h
   have HL1 := mkA hl1
   clear hb hbk hg h hB hm hl hl1
   have hS0 : ∃ N : Nat, (N : Int) = topN l a + 1 := ⟨(topN l a + 1).toNat, by have := topN_range (last := l) HH.out.1; omega⟩
   obtain ⟨N, hN⟩ := hS0
   have HN := mkA hN
   clear hN
   have tM : wrap64 (topN l a + 1) = (N : Int) := by have := HN.out; have := topN_range (last := l) HH.out.1; have := HH.out; rw [← HN.out]; unfold wrap64; omega
   have TM := mkA tM
   clear tM
   go_enter Try.func12, Try.ntmps12
   go_wp2_with (first | ((with_reducible refine gate_dst (N := 23) rfl ?_); refine Counter.look_event rfl (N := 23) rfl (v := .tuple #[.int .i64 0, .bool false]) ?hr (F := fun W1 => IsS33 w0 W1 g ∧ Below w0.heap.size w0 W1 ∧ KeepBut w W1 g none ∧ W1.heap[w.heap.size]? = some (.cells #[.int .i64 M, .int .i64 l, .int .i64 a] 40 (0, 0))) HF.out ?_; (case hr => (go_simp; rw [HL1.out]; rfl)); clear HL1 HF; intro W1 hF1; have HF := mkA hF1; clear hF1) | ((with_reducible refine gate_callee (f := 19) rfl ?_); refine goesL_ (some 31) rfl rfl Try.func19 (by kernel_rfl) rfl #[.map (some g), .int .i64 l, .int .i64 a] rfl (by (try simp only [List.map_toArray, List.map_cons, List.map_nil]); first | done | rfl) ?_; (with_reducible refine (impl_counter_most.calls g l a (topN l a) w0 _ ?_ ?_ ?_).mono ?_); exact HF.out.1; exact HF.out.2.1; exact Counter.most_f l a (by have := HH.out; omega); rintro e w9 ⟨rfl, hi9, hb9, hk9⟩; refine ⟨_, rfl, ?_⟩; have HG := mkA (Counter.step HF.out hi9 hb9 hk9); clear HF hi9 hb9 hk9; have HF := HG; clear HG))
   go_loopg [12, 33] N (fun kq v12 v33 w' => ∃ i : Nat, v12 = .int .i64 (sumTo (fun x => wys m x (nx l a x)) i) ∧ v33 = .int .i64 (i : Int) ∧ Fc (i + kq = N) ∧ Fc (IsS33 w0 w' g ∧ Below w0.heap.size w0 w' ∧ KeepBut w w' g none ∧ w'.heap[w.heap.size]? = some (.cells #[.int .i64 M, .int .i64 l, .int .i64 a] 40 (0, 0))))
   case atStart => exact ⟨0, rfl, rfl, ⟨by omega⟩, HF⟩
   case round =>
    clear HF
    obtain ⟨i, rfl, rfl, HK, HF⟩ := hrel
    cases gk with
    | zero =>
     have c1 : decide ((i : Int) < wrap64 (topN l a + 1)) = false := decide_eq_false (by rw [TM.out]; have := HK.out; omega)
     have he : sumTo (fun x => wys m x (nx l a x)) i = wys (m + 1) l a := by
      simp only [wys]; rw [show (topN l a + 1).toNat = i by have := HK.out; have := HN.out; omega]
     obtain ⟨W', hrun, hI', hB', hK'⟩ := Counter.cnt_upd HF.out.1 HF.out.2.1 (m := m + 1) (l := l) (a := a) HH.out
     have HR := mkA (Counter.step HF.out hI' hB' hK')
     have hrun1 : (Instr.mapUpdate 33 (.map (some g)) (.agg #[.int .i64 M, .int .i64 l, .int .i64 a]) (.int .i64 (sumTo (fun x => wys m x (nx l a x)) i))).run Try.prog wr = .ok () W' := by
      rw [he, HM.out]; exact hrun
     have hc0 : wr.cell? ⟨w.heap.size, 0, none⟩ = some (.int .i64 M) := (blk_cell HF.out.2.2.2 0).trans rfl
     have hc1 : wr.cell? ⟨w.heap.size, 1, none⟩ = some (.int .i64 l) := (blk_cell HF.out.2.2.2 1).trans rfl
     have hc2 : wr.cell? ⟨w.heap.size, 2, none⟩ = some (.int .i64 a) := (blk_cell HF.out.2.2.2 2).trans rfl
     clear hrun
     have HE := mkA he
     clear he
     go_wp2
     go_ret
     exact ⟨by have := HE.out; simp [this], HR.out.1, HR.out.2.1, HR.out.2.2.1⟩
    | succ k1 =>
     have c1 : decide ((i : Int) < wrap64 (topN l a + 1)) = true := decide_eq_true (by rw [TM.out]; have := HK.out; omega)
     have hiN : i < N := by have := HK.out; omega
     have hT := topN_range (last := l) (a := a) HH.out.1
     have hnr := nx_range (last := l) (a := a) (x := (i : Int))
     have hb1 : ∀ x : Nat, x < N → 0 ≤ wys m x (nx l a x) ∧ wys m x (nx l a x) ≤ 1946195068359375 := fun x hx => ⟨wys_nonneg _ _ _, wys_big (by have := nx_range (last := l) (a := a) (x := (x : Int)); have := HH.out; omega) (by have := nx_range (last := l) (a := a) (x := (x : Int)); have := HH.out; omega)⟩
     have hs1 := Counter.sum_wrap (f := fun x => wys m x (nx l a x)) (n := i) (by have := HN.out; have := HH.out; omega) (fun x hx => hb1 x (by omega))
     have tW1_ : wrap64 (sumTo (fun x => wys m x (nx l a x)) i + wys m i (nx l a i)) = sumTo (fun x => wys m x (nx l a x)) (i + 1) := by
      have := hb1 i hiN
      simp only [sumTo]; unfold wrap64; omega
     have tW2_ : wrap64 ((i : Int) + 1) = ((i + 1 : Nat) : Int) := by have := HN.out; have := HH.out; unfold wrap64; omega
     have IH : ∀ W : World, IsS33 w0 W g → Below w0.heap.size w0 W → Calls Try.prog 12 #[.map (some g), .int .i64 (wrap64 (M - 1)), .int .i64 (i : Int), .int .i64 (nx l a i)] W fun e w' => e = .returned (.int .i64 (wys m i (nx l a i))) ∧ IsS33 w0 w' g ∧ Below w0.heap.size w0 w' ∧ KeepBut W w' g none := by
      intro W h1 h2
      rw [show wrap64 (M - 1) = (m : Int) by have := HM.out; have := HH.out; unfold wrap64; omega]
      exact Counter.walk g w0 m i (nx l a i) W (by have := HH.out; have := HN.out; omega) h1 h2
     have HIH := mkA IH
     have HX := mkA (Counter.next_f l a i (by have := HH.out; omega))
     have TW1 := mkA tW1_
     have TW2 := mkA tW2_
     clear tW1_ tW2_ IH hb1 hs1 hT hnr hiN
     go_wp2_with (first | ((with_reducible refine gate_callee (f := 20) rfl ?_); refine goesL_ (some 44) rfl rfl Try.func20 (by kernel_rfl) rfl #[.int .i64 l, .int .i64 a, .int .i64 (i : Int)] rfl (by (try simp only [List.map_toArray, List.map_cons, List.map_nil]); first | done | rfl) ?_; (with_reducible refine (impl_next.calls l a i (nx l a i) _ HX.out).mono ?_); rintro e w' ⟨rfl, ⟨nd, rfl⟩⟩; refine ⟨_, rfl, ?_⟩) | ((with_reducible refine gate_callee (f := 12) rfl ?_); refine goesL_ (some 45) rfl rfl Try.func12 (by kernel_rfl) rfl #[.map (some g), .int .i64 (wrap64 (M - 1)), .int .i64 (i : Int), .int .i64 (nx l a i)] rfl (by (try simp only [List.map_toArray, List.map_cons, List.map_nil]); first | done | rfl) ?_; (with_reducible refine (HIH.out _ ?_ ?_).mono ?_); exact IsS33.drewN HF.out.1 _; exact pw_below_drewN HF.out.2.1 _; rintro e w9 ⟨rfl, hi9, hb9, hk9⟩; refine ⟨_, rfl, ?_⟩; have HG := mkA (Counter.step HF.out hi9 hb9 hk9); clear HF hi9 hb9 hk9; have HF := HG; clear HG))
     go_roundg k1
     case measure => omega
     case rel => exact ⟨i + 1, by rw [TW1.out], by rw [TW2.out], ⟨by have := HK.out; omega⟩, HF⟩
theorem impl_counter_ways.calls (g : Nat) (a1 a2 a3 : Int) (r : Int) (w0 w : World) (hI : IsS33 w0 w g) (hB : Below w0.heap.size w0 w) (h : impl_counter_ways.f a1 a2 a3 = some r) :
  Calls Try.prog 12 #[.map (some g), .int .i64 a1, .int .i64 a2, .int .i64 a3] w fun e w' => e = .returned (.int .i64 r) ∧ IsS33 w0 w' g ∧ Below w0.heap.size w0 w' ∧ KeepBut w w' g none := by
 unfold impl_counter_ways.f at h
 split at h
 ·rename_i hc
  obtain rfl := Option.some.inj h
  have hw := Counter.walk g w0 a1.toNat a2 a3 w (by omega) hI hB
  rwa [show ((a1.toNat : Nat) : Int) = a1 by omega] at hw
 ·cases h


end Go.Proofs.Ytmdldleodieooaa.Q
