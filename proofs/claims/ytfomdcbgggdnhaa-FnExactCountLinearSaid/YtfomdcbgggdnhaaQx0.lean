-- printed by this project's own program (wip/mp/mp.py) over the kit's print, for this seat; Lean checks it
import Derived.Test.YtfomdcbgggdnhaaProg
import Derived.Below
import Derived.Deep.Draws
import Derived.Deep.AppendLies
import Derived.Maps.AppendAt
import Derived.OwnWalk
import Derived.Laws.BytesArg
import Derived.Laws.MakeOwn
import Derived.Laws.OwnMore
import Derived.Deep.OwnRows
import Derived.Tactics
import Derived.Lib.ConvBytes
import Derived.Laws.Slices
import Derived.WalkKit
import Derived.KernelRfl
import Derived.RowKit3
import Derived.Deep.LoopGhost
import Derived.Deep.QuietTactic
import Derived.BigQuiet
import Derived.WideLaws
import Derived.Deep.DeepCutAuto
import Derived.Deep.CutBlock
import Derived.Deep.RegionHeld3
import Derived.Laws.Rows
import Derived.Lib.AppendStr
import Derived.ArgAppend
import Derived.Laws.IdiomCopy
import Derived.OrdersHeld
import Derived.Laws.BitsLemmas
import Derived.RowKit
import Derived.Test.YtfomdcbgggdnhaaWWords
import Derived.Test.YtfomdcbgggdnhaaWLast
import Derived.Test.YtfomdcbgggdnhaaWTab
import Derived.Test.YtfomdcbgggdnhaaWFour
import Derived.Test.YtfomdcbgggdnhaaWQPut
import Derived.Test.YtfomdcbgggdnhaaWApart
import Derived.Test.YtfomdcbgggdnhaaWArr
import Derived.Test.YtfomdcbgggdnhaaWZeros
import Derived.Test.YtfomdcbgggdnhaaWFoot
import Derived.Test.YtfomdcbgggdnhaaWKept
import Derived.Test.YtfomdcbgggdnhaaWShare
import Derived.Test.YtfomdcbgggdnhaaWN
import Derived.Test.YtfomdcbgggdnhaaWFootNe
import Derived.Test.YtfomdcbgggdnhaaWAt
import Derived.Test.YtfomdcbgggdnhaaWEqStruct
import Derived.Test.YtfomdcbgggdnhaaWRepsOne
import Derived.Test.YtfomdcbgggdnhaaWInv
import Derived.Test.YtfomdcbgggdnhaaWInvWords
import Derived.Test.YtfomdcbgggdnhaaWGuard
import Derived.Test.YtfomdcbgggdnhaaWNEv
import Derived.Test.YtfomdcbgggdnhaaWMore
namespace Go.Proofs.Ytfomdcbgggdnhaa.Q
open Go.RowKit Go.Proofs.YtfomdcbgggdnhaaW.PrintWords Go.Proofs.YtfomdcbgggdnhaaW.PrintLast Go.Proofs.YtfomdcbgggdnhaaW.PrintMore
attribute [local go_sem] max2_int min2_int max_two min_two max_three min_three max_four min_four   -- for this text's walks alone
set_option linter.unusedVariables false
set_option linter.unusedSimpArgs false



def errW : Option Int → Value
  | none => .nilIface
  | some c => .iface 0 (.int .i64 c)
theorem errW_none : errW none = .nilIface := rfl
theorem errW_some (c : Int) : errW (some c) = .iface 0 (.int .i64 c) := rfl

theorem info3 : (Try.prog.info? 3).map (fun i => (i.zero, i.size, i.bytes)) = some (some (.int .i64 0), 1, 8) := by kernel_rfl
-- the values' own types


structure Grown (w w1 : World) : Prop where b : Below w.heap.size w w1
theorem Grown.rfl_ (w : World) : Grown w w := ⟨Below.refl _ _⟩
theorem Grown.alloc {w w1 : World} (g : Grown w w1) (o : Obj) : Grown w (w1.alloc o) := ⟨below_alloc g.b o⟩
theorem Grown.drew {w w1 : World} (g : Grown w w1) : Grown w w1.drew := ⟨below_drew1 g.b⟩
theorem Grown.drewN {w w1 : World} (g : Grown w w1) (n : Nat) : Grown w (w1.drewN n) := ⟨pw_below_drewN g.b n⟩
theorem Kd.R_g {α : Type} {d : Kd α} {e : Nat} {w w1 : World} {base : Nat} {ok : Nat → Prop} {v : Value} {xs : List α} (h : d.R e w base ok v xs) (g : Grown w w1 := by (with_reducible repeat (first | apply Grown.alloc | apply Grown.drewN | apply Grown.drew)); exact Grown.rfl_ _) : d.R e w1 base ok v xs := Kd.R_below h g.b
theorem blk_g {w w1 : World} {g : Nat} {o : Obj} (h : w.heap[g]? = some o) (gr : Grown w w1 := by (with_reducible repeat (first | apply Grown.alloc | apply Grown.drewN | apply Grown.drew)); exact Grown.rfl_ _) : w1.heap[g]? = some o := (gr.b.block g (blk_lt h)).trans h
theorem blkB {w w1 w2 : World} {g : Nat} {o : Obj} (h : Aside0 (w.heap[g]? = some o)) (hb : Below w1.heap.size w1 w2) (gr : Grown w w1 := by (with_reducible repeat (first | apply Grown.alloc | apply Grown.drewN | apply Grown.drew)); exact Grown.rfl_ _) : Aside0 (w2.heap[g]? = some o) := ⟨blk_below (blk_g h.out gr) hb⟩
theorem ltG {w w1 : World} {g : Nat} {o : Obj} (h : Aside0 (w.heap[g]? = some o)) (gr : Grown w w1 := by (with_reducible repeat (first | apply Grown.alloc | apply Grown.drewN | apply Grown.drew)); exact Grown.rfl_ _) : g < w1.heap.size := blk_lt (blk_g h.out gr)
class Ge (n g : Nat) : Prop where out : n ≤ g
class GrownS (w0 w w1 : World) : Prop where b : Below w0.heap.size w0 w → Below w0.heap.size w0 w1
instance (w0 w : World) : GrownS w0 w w := ⟨id⟩
instance (w0 w w1 : World) (g j : Nat) (v : Value) [r : GrownS w0 w w1] [ge : Ge w0.heap.size g] : GrownS w0 w (w1.setCell ⟨g, j, none⟩ v) := ⟨fun h => below_set (r.b h) ge.out⟩
instance (w0 w w1 : World) (o : Obj) [r : GrownS w0 w w1] : GrownS w0 w (w1.alloc o) := ⟨fun h => below_alloc (r.b h) o⟩
instance (w0 w w1 : World) [r : GrownS w0 w w1] : GrownS w0 w w1.drew := ⟨fun h => below_drew1 (r.b h)⟩
instance (w0 w w1 : World) (n : Nat) [r : GrownS w0 w w1] : GrownS w0 w (w1.drewN n) := ⟨fun h => pw_below_drewN (r.b h) n⟩
theorem bel_g {w0 w w1 : World} [g : GrownS w0 w w1] (h : Below w0.heap.size w0 w) : Below w0.heap.size w0 w1 := g.b h

theorem obE {α β : Type} {x : Option α} {f : α → Option β} {r : β} (h : x.bind f = some r) : ∃ a, Aside0 (x = some a) ∧ f a = some r := by obtain ⟨a, h1, h2⟩ := Option.bind_eq_some_iff.mp h; exact ⟨a, ⟨h1⟩, h2⟩
theorem iteE {α : Type} {c : Prop} [d : Decidable c] {a b : Option α} {r : α} (h : (if c then a else b) = some r) : (decide c = true ∧ a = some r) ∨ (decide c = false ∧ b = some r) := by by_cases hc : c; exact .inl ⟨decide_eq_true hc, by rwa [if_pos hc] at h⟩; exact .inr ⟨decide_eq_false hc, by rwa [if_neg hc] at h⟩
theorem bst {w0 w w1 w2 : World} [GrownS w0 w w1] (h : Aside0 (Below w0.heap.size w0 w)) (hb : Below w1.heap.size w1 w2) : Aside0 (Below w0.heap.size w0 w2) := ⟨below_step (bel_g h.out) hb⟩

theorem iteP {α : Type} {c : Prop} [d : Decidable c] {a b : Option α} {r : α} (h : (if c then a else b) = some r) : (c ∧ a = some r) ∨ (¬ c ∧ b = some r) := by by_cases hc : c; exact .inl ⟨hc, by rwa [if_pos hc] at h⟩; exact .inr ⟨hc, by rwa [if_neg hc] at h⟩
theorem ifT {α : Type} {a b : Option α} {r : α} (h : (if true = true then a else b) = some r) : a = some r := by rwa [if_pos rfl] at h
theorem ifF {α : Type} {a b : Option α} {r : α} (h : (if false = true then a else b) = some r) : b = some r := by rwa [if_neg (show ¬ (false = true) by decide)] at h
theorem ofd {p : Prop} [d : Decidable p] (h : decide p = true := by first | (with_reducible assumption) | assumption) : p := of_decide_eq_true h
theorem eqS {α : Type} {a b : α} (h : a = b := by first | rfl | (simp; done) | (simp [*]; done)) : a = b := h
theorem eqE {α : Type} {a b : α} (h : a = b := by first | rfl | (simp [errW_none, errW_some] <;> rfl) | (simp [*, errW_none, errW_some] <;> rfl)) : a = b := h
theorem C_g {α : Type} {d : Kd α} {w w1 W : World} {A : Option Addr} {n : Nat} {xs : List α} (h : Aside0 (d.C w A n xs)) (hb : Aside0 (Below w.heap.size w w1)) [g : GrownS w w1 W] : d.C W A n xs := Kd.C_below h.out (bel_g hb.out)
theorem C_h {α : Type} {d : Kd α} {w W : World} {A : Option Addr} {n : Nat} {xs : List α} (h : Aside0 (d.C w A n xs)) (g : Grown w W := by (with_reducible repeat (first | apply Grown.alloc | apply Grown.drewN | apply Grown.drew)); exact Grown.rfl_ _) : d.C W A n xs := Kd.C_below h.out g.b
section
variable {w : World} {g : Nat} {t : TypeId} {a b c d : Value}
theorem blk1 (h : Aside0 (w.heap[g]? = some (.cells #[a] t (0, 0)))) : w.cell? ⟨g, 0, none⟩ = some a ∧ w.frozen? ⟨g, 0, none⟩ = false := ⟨(blk_cell h.out 0).trans rfl, blk_frozen h.out 0⟩
theorem blk2 (h : Aside0 (w.heap[g]? = some (.cells #[a, b] t (0, 0)))) : w.cell? ⟨g, 0, none⟩ = some a ∧ w.cell? ⟨g, 1, none⟩ = some b ∧ w.frozen? ⟨g, 0, none⟩ = false ∧ w.frozen? ⟨g, 1, none⟩ = false := ⟨(blk_cell h.out 0).trans rfl, (blk_cell h.out 1).trans rfl, blk_frozen h.out 0, blk_frozen h.out 1⟩
theorem blk3 (h : Aside0 (w.heap[g]? = some (.cells #[a, b, c] t (0, 0)))) : w.cell? ⟨g, 0, none⟩ = some a ∧ w.cell? ⟨g, 1, none⟩ = some b ∧ w.cell? ⟨g, 2, none⟩ = some c ∧ w.frozen? ⟨g, 0, none⟩ = false ∧ w.frozen? ⟨g, 1, none⟩ = false ∧ w.frozen? ⟨g, 2, none⟩ = false := ⟨(blk_cell h.out 0).trans rfl, (blk_cell h.out 1).trans rfl, (blk_cell h.out 2).trans rfl, blk_frozen h.out 0, blk_frozen h.out 1, blk_frozen h.out 2⟩
theorem neL {w w1 : World} {g g' : Nat} {o : Obj} (h : Aside0 (w.heap[g]? = some o)) (hg : g' = w1.heap.size) (gr : Grown w w1 := by (with_reducible repeat (first | apply Grown.alloc | apply Grown.drewN | apply Grown.drew)); exact Grown.rfl_ _) : Aside0 (g ≠ g') := ⟨by rw [hg]; exact Nat.ne_of_lt (ltG h gr)⟩
theorem neR {w w1 : World} {g g' : Nat} {o : Obj} (h : Aside0 (w.heap[g]? = some o)) (hg : g' = w1.heap.size) (gr : Grown w w1 := by (with_reducible repeat (first | apply Grown.alloc | apply Grown.drewN | apply Grown.drew)); exact Grown.rfl_ _) : Aside0 (g' ≠ g) := ⟨fun e => (neL h hg gr).out e.symm⟩
theorem geB {w0 w w1 : World} {g : Nat} [gr : GrownS w0 w w1] (h : Aside0 (Below w0.heap.size w0 w)) (hg : g = w1.heap.size) : Ge w0.heap.size g := ⟨by rw [hg]; exact below_size (bel_g h.out)⟩
end
def bm (n m : Nat) : Array Bool := ((List.range n).map fun i => m.testBit i).toArray
section
variable {P : Program} {ops : Array Oper} {Q : Exit → Act → World → Prop} {md : Region.Mode} {S : World → Prop} {ds : List Nat} {T : Bool × List (List Nat × List Nat)} {B : List Nat} {oi : Oper} {v : Value} {fuel : Nat} {l : Array Bool} {a a' : Act} {w W : World}
theorem pureW (i : Nat) (N : Option Tmp) (l' : Array Bool) (HT : Aside0 (rtab md ops = T)) (h : wpAnyLast P md ops Q S ds fuel l' a' w) (hi : ops[i]? = some oi := by rfl) (hN : oi.dst = N := by rfl) (hc : anyT T l.toList l'.toList i = true := by kernel_rfl) (hy : Yields P ops oi v a := by exact Or.inl ⟨by rfl, by intro w'; go_simp; with_reducible rfl⟩) (ha : a.put N v = a' := by simp only [Act.put, List.setIfInBounds_toArray, List.set_cons_zero, List.set_cons_succ, i64_w, i32_w]; rfl) (hQ : ∀ c a w, Q (.panic c) (a.put oi.dst v) w → Q (.panic c) a w := by exact fun _ _ _ h => h) : wpAnyLast P md ops Q S ds (fuel + 1) l a w := pure_ l' hi hN (any_of HT.out hc) hQ hy ha h
theorem takeW (i : Nat) (N : Option Tmp) (l' : Array Bool) (HT : Aside0 (rtab md ops = T)) (HW : Aside0 (waitsOk T.2 B = true)) (hS : S w) (h : wpAnyLast P md ops Q S ds fuel l' a' w) (hi : ops[i]? = some oi := by rfl) (hN : oi.dst = N := by rfl) (hc : takeW T B ds l.toList l'.toList i = true := by kernel_rfl) (hy : Region.wanted oi (yielded ops a.tmps) = true ∧ ∀ w', S w' → (execOp a.eval oi).run P w' = .ok (.value v) w' := by exact ⟨by rfl, by intro w' hs; go_simp; with_reducible rfl⟩) (ha : a.put N v = a' := by simp only [Act.put, List.setIfInBounds_toArray, List.set_cons_zero, List.set_cons_succ, i64_w, i32_w]; rfl) (hQ : ∀ c a w, Q (.panic c) (a.put oi.dst v) w → Q (.panic c) a w := by exact fun _ _ _ h => h) : wpAnyLast P md ops Q S ds (fuel + 1) l a w := take_ l' hi hN (take_ofW HT.out HW.out hc) hQ (Or.inl hy) hS ha h
theorem oneW (i : Nat) (N : Option Tmp) (l' : Array Bool) (HT : Aside0 (rtab md ops = T)) (h : ∀ K : Act → World → Prop, Shut (∀ a' w', S w' → (S w' → wpAnyLast P md ops Q S ds fuel l' a' w') → K a' w') → if Region.wanted oi (yielded ops a.tmps) = true then Oper.wp P oi a w K Q else K (a.put N undef) w) (hi : ops[i]? = some oi := by rfl) (hN : oi.dst = N := by rfl) (hc : (readyT T.2 l.toList == [i] && l.toList.set i true == l'.toList) = true := by kernel_rfl) (hd : i ∉ ds := by decide) : wpAnyLast P md ops Q S ds (fuel + 1) l a w := one_ l' hi hN (one_of HT.out hc) hd h
theorem normW (N : Tmp) (h : wpAnyLast P md ops Q S ds fuel l a' w) (ha : Act.put a (some N) v = a' := by simp only [Act.put, List.setIfInBounds_toArray, List.set_cons_zero, List.set_cons_succ, i64_w, i32_w]; rfl) : wpAnyLast P md ops Q S ds fuel l (Act.put a (some N) v) w := norm_ ha h
theorem doneW (HT : Aside0 (rtab md ops = T)) (h : Q .normal a w) {n : Nat} (hc : (readyT T.2 l.toList == []) = true := by kernel_rfl) : wpAnyLast P md ops Q S ds n l a w := done_ (done_of HT.out hc) h
theorem goesR {N : Option Tmp} {K : Act → World → Prop} {f : FuncId} {fn : Func} {asx : Array Operand} {ts : Array TypeId} (hf : P.funcs[f]? = some fn) (args : Array Value) (h : Calls P f args w fun e w' => ∃ v, e = .returned v ∧ K (a.put N v) w') (hname : (fn.name == "runtime.NumGoroutine") = false := by kernel_rfl) (hb : fn.body.isSome = true := by rfl) (hw : Region.wanted oi (yielded ops a.tmps) = true := by rfl) (hN : oi.dst = N := by rfl) (hop : oi.op = .call { callee := .value (.func f), args := asx, argTypes := ts } := by rfl) (hargs : asx.map a.eval = args := by (try simp only [List.map_toArray, List.map_cons, List.map_nil]); first | done | rfl | (simp only [List.length_drop, List.length_take]; rfl)) : if Region.wanted oi (yielded ops a.tmps) = true then Oper.wp P oi a w K Q else K (a.put N undef) w := goes_ hf hname hb args hw hN hop hargs h
theorem goesQ {rest : List Oper} (N : Option Tmp) {f : FuncId} {fn : Func} {asx : Array Operand} {ts : Array TypeId} (hf : P.funcs[f]? = some fn) (args : Array Value) (h : Calls P f args w fun e w' => ∃ v, e = .returned v ∧ wpList P ops Q rest (a.put N v) w') (hd : oi.dst = N := by rfl) (hg : oi.guard = none := by rfl) (hname : (fn.name == "runtime.NumGoroutine") = false := by kernel_rfl) (hb : fn.body.isSome = true := by rfl) (hop : oi.op = .call { callee := .value (.func f), args := asx, argTypes := ts } := by rfl) (hargs : asx.map a.eval = args := by (try simp only [List.map_toArray, List.map_cons, List.map_nil]); first | done | rfl | (simp only [List.length_drop, List.length_take]; rfl)) : wpList P ops Q (oi :: rest) a w := goesL_ N hd hg hf hname hb args hop hargs h
theorem boxE {rest : List Oper} {N : Tmp} {cs : Array Value} {t : TypeId} (h : ∀ g, g = W.heap.size → ∀ w1, w1.heap[g]? = some (.cells cs t (0, 0)) → Below W.heap.size W w1 → wpList P ops Q rest (a.put oi.dst (.pointer (some ⟨g, 0, none⟩))) w1) (hgd : oi.guard = none := by rfl) (hd : oi.dst = some N := by rfl) (hrun : (execOp a.eval oi).run P W = .ok (.value (.pointer (some ⟨W.heap.size, 0, none⟩))) (W.alloc (.cells cs t (0, 0))) := by first | (go_simp; done) | (go_simp; rfl)) : wpList P ops Q (oi :: rest) a W := box_event hgd hd hrun h
end

theorem itND {α : Type} {c : Prop} [d : Decidable c] {a : Option α} {r : α} (h : (if c then a else none) = some r) : decide c = true ∧ a = some r := by by_cases hc : c; exact ⟨decide_eq_true hc, by rwa [if_pos hc] at h⟩; rw [if_neg hc] at h; cases h
theorem itNP {α : Type} {c : Prop} [d : Decidable c] {a : Option α} {r : α} (h : (if c then a else none) = some r) : c ∧ a = some r := by by_cases hc : c; exact ⟨hc, by rwa [if_pos hc] at h⟩; rw [if_neg hc] at h; cases h
theorem itMD {α : Type} {c : Prop} [d : Decidable c] {b : Option α} {r : α} (h : (if c then none else b) = some r) : decide c = false ∧ b = some r := by by_cases hc : c; rw [if_pos hc] at h; cases h; exact ⟨decide_eq_false hc, by rwa [if_neg hc] at h⟩
theorem itMP {α : Type} {c : Prop} [d : Decidable c] {b : Option α} {r : α} (h : (if c then none else b) = some r) : ¬ c ∧ b = some r := by by_cases hc : c; rw [if_pos hc] at h; cases h; exact ⟨hc, by rwa [if_neg hc] at h⟩
class NeB (g g' : Nat) : Prop where out : g ≠ g'
class SetA (cs : Array Value) (i : Nat) (u : Value) (cs' : outParam (Array Value)) : Prop where out : cs.setIfInBounds i u = cs'
instance (a u : Value) : SetA #[a] 0 u #[u] := ⟨rfl⟩
instance (a b u : Value) : SetA #[a, b] 0 u #[u, b] := ⟨rfl⟩
instance (a b u : Value) : SetA #[a, b] 1 u #[a, u] := ⟨rfl⟩
instance (a b c u : Value) : SetA #[a, b, c] 0 u #[u, b, c] := ⟨rfl⟩
instance (a b c u : Value) : SetA #[a, b, c] 1 u #[a, u, c] := ⟨rfl⟩
instance (a b c u : Value) : SetA #[a, b, c] 2 u #[a, b, u] := ⟨rfl⟩
class Reach (w W : World) (g : Nat) (t : TypeId) (cs : Array Value) (cs' : outParam (Array Value)) : Prop where out : w.heap[g]? = some (.cells cs t (0, 0)) → W.heap[g]? = some (.cells cs' t (0, 0))
instance (w : World) (g : Nat) (t : TypeId) (cs : Array Value) : Reach w w g t cs cs := ⟨id⟩
instance (w W : World) (g : Nat) (t : TypeId) (cs cs' : Array Value) (o : Obj) [r : Reach w W g t cs cs'] : Reach w (W.alloc o) g t cs cs' := ⟨fun h => blk_alloc (r.out h) o⟩
instance (w W : World) (g : Nat) (t : TypeId) (cs cs' : Array Value) [r : Reach w W g t cs cs'] : Reach w W.drew g t cs cs' := ⟨fun h => blk_drew (r.out h)⟩
instance (w W : World) (g : Nat) (t : TypeId) (cs cs' : Array Value) (n : Nat) [r : Reach w W g t cs cs'] : Reach w (W.drewN n) g t cs cs' := ⟨fun h => blk_drewN (r.out h) n⟩
instance (w W : World) (g g' i : Nat) (t : TypeId) (cs cs' : Array Value) (u : Value) [r : Reach w W g t cs cs'] [n : NeB g g'] : Reach w (W.setCell ⟨g', i, none⟩ u) g t cs cs' := ⟨fun h => blk_far (r.out h) n.out u⟩
instance (priority := 2000) (w W : World) (g i : Nat) (t : TypeId) (cs cs' cs2 : Array Value) (u : Value) [r : Reach w W g t cs cs'] [e : SetA cs' i u cs2] : Reach w (W.setCell ⟨g, i, none⟩ u) g t cs cs2 := ⟨fun h => blk_put (r.out h) i u e.out⟩
theorem blkT {w W : World} {g : Nat} {t : TypeId} {cs cs' : Array Value} (h : Aside0 (w.heap[g]? = some (.cells cs t (0, 0)))) [r : Reach w W g t cs cs'] : W.heap[g]? = some (.cells cs' t (0, 0)) := r.out h.out
theorem blkS {w W w2 : World} {g : Nat} {t : TypeId} {cs cs' : Array Value} (h : Aside0 (w.heap[g]? = some (.cells cs t (0, 0)))) (hb : Below W.heap.size W w2) [r : Reach w W g t cs cs'] : Aside0 (w2.heap[g]? = some (.cells cs' t (0, 0))) := ⟨blk_below (r.out h.out) hb⟩
theorem neL7 {w w1 : World} {g g' : Nat} {o : Obj} (h : Aside0 (w.heap[g]? = some o)) (hg : g' = w1.heap.size) (gr : Grown w w1 := by (with_reducible repeat (first | apply Grown.alloc | apply Grown.drewN | apply Grown.drew)); exact Grown.rfl_ _) : NeB g g' := ⟨(neL h hg gr).out⟩
theorem neR7 {w w1 : World} {g g' : Nat} {o : Obj} (h : Aside0 (w.heap[g]? = some o)) (hg : g' = w1.heap.size) (gr : Grown w w1 := by (with_reducible repeat (first | apply Grown.alloc | apply Grown.drewN | apply Grown.drew)); exact Grown.rfl_ _) : NeB g' g := ⟨(neR h hg gr).out⟩
theorem rB {α : Type} {d : Kd α} {e : Nat} {w w1 w2 : World} {base : Nat} {ok : Nat → Prop} {v : Value} {xs : List α} (h : Aside0 (d.R e w base ok v xs)) (hb : Below w1.heap.size w1 w2) (gr : Grown w w1 := by (with_reducible repeat (first | apply Grown.alloc | apply Grown.drewN | apply Grown.drew)); exact Grown.rfl_ _) : Aside0 (d.R e w2 base ok v xs) := ⟨Kd.R_below (Kd.R_g h.out gr) hb⟩
theorem neB_f {g g' : Nat} [n : NeB g g'] : (g = g') = False := eq_false n.out
theorem mkA {p : Prop} (h : p) : Aside0 p := ⟨h⟩
abbrev Fc (p : Prop) : Prop := Aside0 p
section
variable {P : Program} {ops : Array Oper} {Q : Exit → Act → World → Prop} {md : Region.Mode} {S : World → Prop} {ds : List Nat} {T : Bool × List (List Nat × List Nat)} {oi : Oper} {fuel : Nat} {l : Array Bool} {a a' : Act} {w : World}
theorem pureG (i : Nat) (N : Option Tmp) (l' : Array Bool) (HT : Aside0 (rtab md ops = T)) (h : wpAnyLast P md ops Q S ds fuel l' a' w) (hi : ops[i]? = some oi := by rfl) (hN : oi.dst = N := by rfl) (hc : anyT T l.toList l'.toList i = true := by kernel_rfl) (hy : Yields P ops oi undef a := by exact Or.inr ⟨by rfl, rfl⟩) (ha : a.put N undef = a' := by simp only [Act.put, List.setIfInBounds_toArray, List.set_cons_zero, List.set_cons_succ, i64_w, i32_w]; rfl) (hQ : ∀ c a w, Q (.panic c) (a.put oi.dst undef) w → Q (.panic c) a w := by exact fun _ _ _ h => h) : wpAnyLast P md ops Q S ds (fuel + 1) l a w := pure_ l' hi hN (any_of HT.out hc) hQ hy ha h
end

section
variable {α : Type} {d : Kd α} {e : Nat} {w w1 w2 W : World} {base g t n c : Nat} {ok : Nat → Prop} {v : Value} {xs : List α} {A : Option Addr}
theorem rC (h : Aside0 (d.R e w base ok (.slice A n c) xs)) (f : d.C w A xs.length xs → d.C w1 A xs.length xs := by intro h; repeat (first | exact h | (with_reducible refine Kd.C_alloc ?_ _) | (with_reducible refine Kd.C_drewN ?_ _) | (with_reducible refine Kd.C_drew ?_))) : d.C w1 A xs.length xs := f (Kd.R_reads' h.out).2.2
theorem rL (h : Aside0 (d.R e w base ok (.slice A n c) xs)) : n ≤ c := (Kd.R_reads' h.out).2.1
theorem rF {cs : Array Value} {u1 u2 : Value} (h : Aside0 (d.R e w base ok v xs)) (b : Aside0 (w.heap[g]? = some (.cells cs t (0, 0)))) (ht : ∀ q, q ∈ e :: d.E → q ≠ t := by decide) : d.R e ((w.setCell ⟨g, 0, none⟩ u1).setCell ⟨g, 1, none⟩ u2) base ok v xs := Kd.R_mono (Kd.R_far (p := ⟨g, 1, none⟩) (Kd.R_far (p := ⟨g, 0, none⟩) (Kd.R_types h.out b.out ht) (fun _ hk => hk.2) u1) (fun _ hk => hk.2) u2) (fun _ h => h.1)
theorem rFg {cs : Array Value} {u1 u2 : Value} (h : Aside0 (d.R e w base ok v xs)) (b : Aside0 (w.heap[g]? = some (.cells cs t (0, 0)))) (gr : Grown ((w.setCell ⟨g, 0, none⟩ u1).setCell ⟨g, 1, none⟩ u2) w1 := by (with_reducible repeat (first | apply Grown.alloc | apply Grown.drewN | apply Grown.drew)); exact Grown.rfl_ _) (ht : ∀ q, q ∈ e :: d.E → q ≠ t := by decide) : d.R e w1 base ok v xs := Kd.R_g (rF h b ht) gr
theorem rCF {cs : Array Value} {u1 u2 : Value} (h : Aside0 (d.R e w base ok (.slice A n c) xs)) (b : Aside0 (w.heap[g]? = some (.cells cs t (0, 0)))) (gr : Grown ((w.setCell ⟨g, 0, none⟩ u1).setCell ⟨g, 1, none⟩ u2) w1 := by (with_reducible repeat (first | apply Grown.alloc | apply Grown.drewN | apply Grown.drew)); exact Grown.rfl_ _) (ht : ∀ q, q ∈ e :: d.E → q ≠ t := by decide) : d.C w1 A xs.length xs := (Kd.R_reads' (rFg h b gr ht)).2.2
theorem rG {g' t' : Nat} {cs cs' : Array Value} {u1 u2 u3 u4 : Value} (h : Aside0 (d.R e w base ok v xs)) (b : Aside0 (w.heap[g]? = some (.cells cs t (0, 0)))) (b' : Aside0 (w.heap[g']? = some (.cells cs' t' (0, 0)))) (ht : ∀ q, q ∈ e :: d.E → q ≠ t := by decide) (ht' : ∀ q, q ∈ e :: d.E → q ≠ t' := by decide) : d.R e ((((w.setCell ⟨g, 0, none⟩ u1).setCell ⟨g, 1, none⟩ u2).setCell ⟨g', 0, none⟩ u3).setCell ⟨g', 1, none⟩ u4) base ok v xs := Kd.R_mono (Kd.R_mono (Kd.R_far (p := ⟨g', 1, none⟩) (Kd.R_far (p := ⟨g', 0, none⟩) (Kd.R_far (p := ⟨g, 1, none⟩) (Kd.R_far (p := ⟨g, 0, none⟩) (Kd.R_types (Kd.R_types h.out b.out ht) b'.out ht') (fun _ hk => hk.1.2) u1) (fun _ hk => hk.1.2) u2) (fun _ hk => hk.2) u3) (fun _ hk => hk.2) u4) (fun _ h_ => h_.1)) (fun _ h_ => h_.1)
theorem rGg {g' t' : Nat} {cs cs' : Array Value} {u1 u2 u3 u4 : Value} (h : Aside0 (d.R e w base ok v xs)) (b : Aside0 (w.heap[g]? = some (.cells cs t (0, 0)))) (b' : Aside0 (w.heap[g']? = some (.cells cs' t' (0, 0)))) (gr : Grown ((((w.setCell ⟨g, 0, none⟩ u1).setCell ⟨g, 1, none⟩ u2).setCell ⟨g', 0, none⟩ u3).setCell ⟨g', 1, none⟩ u4) w1 := by (with_reducible repeat (first | apply Grown.alloc | apply Grown.drewN | apply Grown.drew)); exact Grown.rfl_ _) (ht : ∀ q, q ∈ e :: d.E → q ≠ t := by decide) (ht' : ∀ q, q ∈ e :: d.E → q ≠ t' := by decide) : d.R e w1 base ok v xs := Kd.R_g (rG h b b' ht ht') gr
theorem rDF {g' t' : Nat} {cs cs' : Array Value} {u1 u2 u3 u4 : Value} (h : Aside0 (d.R e w base ok (.slice A n c) xs)) (b : Aside0 (w.heap[g]? = some (.cells cs t (0, 0)))) (b' : Aside0 (w.heap[g']? = some (.cells cs' t' (0, 0)))) (gr : Grown ((((w.setCell ⟨g, 0, none⟩ u1).setCell ⟨g, 1, none⟩ u2).setCell ⟨g', 0, none⟩ u3).setCell ⟨g', 1, none⟩ u4) w1 := by (with_reducible repeat (first | apply Grown.alloc | apply Grown.drewN | apply Grown.drew)); exact Grown.rfl_ _) (ht : ∀ q, q ∈ e :: d.E → q ≠ t := by decide) (ht' : ∀ q, q ∈ e :: d.E → q ≠ t' := by decide) : d.C w1 A xs.length xs := (Kd.R_reads' (rGg h b b' gr ht ht')).2.2
theorem kU (h : KeepBut w W g none) (hb : Below W.heap.size W w2) : Aside0 (KeepBut w w2 g none) := ⟨h.trans (KeepBut.of_below hb g none) (.inl rfl)⟩
theorem kB {g' : Nat} {o : Obj} (hk : KeepBut W w2 g' none) (h : Aside0 (w.heap[g]? = some o)) [i : NeB g g'] (gr : Grown w W := by (with_reducible repeat (first | apply Grown.alloc | apply Grown.drewN | apply Grown.drew)); exact Grown.rfl_ _) : Aside0 (w2.heap[g]? = some o) := ⟨hk.blk (blk_g h.out gr) i.out (by simp)⟩
theorem kR {g' : Nat} {cs cs' : Array Value} (hk : KeepBut W w2 g' none) (h : Aside0 (w.heap[g]? = some (.cells cs t (0, 0)))) [r : Reach w W g t cs cs'] [i : NeB g g'] : Aside0 (w2.heap[g]? = some (.cells cs' t (0, 0))) := ⟨hk.blk (r.out h.out) i.out (by simp)⟩
theorem kT (h : KeepBut w W g none) (hk : KeepBut W w2 g none) : Aside0 (KeepBut w w2 g none) := ⟨h.trans hk (.inl rfl)⟩
theorem rK (h : d.R e W base (fun k => ok k ∧ k ≠ g) v xs) (hk : KeepBut W w2 g none) : Aside0 (d.R e w2 base ok v xs) := ⟨Kd.R_mono (Kd.R_keep h hk (fun _ h => h.2)) (fun _ h => h.1)⟩
theorem cF {g' i i' : Nat} {x y : Option Nat} {u : Value} {r : Option Value} [n : NeB g g'] (h : W.cell? ⟨g, i, x⟩ = r) : (W.setCell ⟨g', i', y⟩ u).cell? ⟨g, i, x⟩ = r := (cell_far (p := ⟨g', i', y⟩) n.out u).trans h
variable {P : Program} {ops : Array Oper} {Q : Exit → Act → World → Prop} {md : Region.Mode} {S : World → Prop} {ds : List Nat} {T : Bool × List (List Nat × List Nat)} {oi : Oper} {fuel : Nat} {l : Array Bool} {a a' : Act}
theorem purW {v : Value} (i N x y : Nat) (HT : Aside0 (rtab md ops = T)) (h : wpAnyLast P md ops Q S ds fuel (bm x y) a' w) (hi : ops[i]? = some oi := by rfl) (hN : oi.dst = some N := by rfl) (hc : anyT T l.toList (bm x y).toList i = true := by kernel_rfl) (hy : Yields P ops oi v a := by exact Or.inl ⟨by rfl, by intro w'; go_simp; with_reducible rfl⟩) (ha : a.put (some N) v = a' := by simp only [Act.put, List.setIfInBounds_toArray, List.set_cons_zero, List.set_cons_succ, i64_w, i32_w]; rfl) (hQ : ∀ c a w, Q (.panic c) (a.put oi.dst v) w → Q (.panic c) a w := by exact fun _ _ _ h => h) : wpAnyLast P md ops Q S ds (fuel + 1) l a w := pureW i (some N) (bm x y) HT h hi hN hc hy ha hQ
theorem purG (i N x y : Nat) (HT : Aside0 (rtab md ops = T)) (h : wpAnyLast P md ops Q S ds fuel (bm x y) a' w) (hi : ops[i]? = some oi := by rfl) (hN : oi.dst = some N := by rfl) (hc : anyT T l.toList (bm x y).toList i = true := by kernel_rfl) (hy : Yields P ops oi undef a := by exact Or.inr ⟨by rfl, rfl⟩) (ha : a.put (some N) undef = a' := by simp only [Act.put, List.setIfInBounds_toArray, List.set_cons_zero, List.set_cons_succ, i64_w, i32_w]; rfl) (hQ : ∀ c a w, Q (.panic c) (a.put oi.dst undef) w → Q (.panic c) a w := by exact fun _ _ _ h => h) : wpAnyLast P md ops Q S ds (fuel + 1) l a w := pureG i (some N) (bm x y) HT h hi hN hc hy ha hQ
end

theorem nmE {α β : Type} {a : α} {f : α → Option β} {r : β} (h : (some a).bind f = some r) : ∃ y, Aside0 (y = a) ∧ f y = some r := ⟨a, ⟨rfl⟩, h⟩
theorem nilE {p : Prop} (h : p := by first | exact Kd.R_nil _ _ _ _ _ | exact Kd.N_nil _ _ _ _ _ | exact Kd.V_nil _ _ _ _ _ | exact Kd.Q_nil _ _ _ _ _ | exact Kd.S_nil _ _ _ _ _) : p := h
theorem drE {p : Prop} (h : p := by repeat (first | exact Drawn0.refl _ | apply Drawn0.step)) : p := h
theorem itNQ {α : Type} {c : Prop} [d : Decidable c] {a : Option α} {r : α} (h : (if c then a else none) = some r) : (c = True) ∧ decide c = true ∧ a = some r := by obtain ⟨h1, h2⟩ := itNP h; exact ⟨eq_true h1, decide_eq_true h1, h2⟩
section
variable {α : Type} {d : Kd α} {e : Nat} {w w1 w2 W w0 : World} {base b1 b2 n : Nat} {ok ok1 ok2 : Nat → Prop} {v v1 : Value} {xs ys : List α}
theorem rg (h : Aside0 (d.R e w base ok v xs)) (g : Grown w w1 := by (with_reducible repeat (first | apply Grown.alloc | apply Grown.drewN | apply Grown.drew)); exact Grown.rfl_ _) : Aside0 (d.R e w1 base ok v xs) := ⟨Kd.R_g h.out g⟩
theorem bg {g : Nat} {o : Obj} (h : Aside0 (w.heap[g]? = some o)) (gr : Grown w w1 := by (with_reducible repeat (first | apply Grown.alloc | apply Grown.drewN | apply Grown.drew)); exact Grown.rfl_ _) : Aside0 (w1.heap[g]? = some o) := ⟨blk_g h.out gr⟩
theorem hbg [g : GrownS w0 w w1] (h : Aside0 (Below w0.heap.size w0 w)) : Aside0 (Below w0.heap.size w0 w1) := ⟨bel_g h.out⟩
end

section
variable {α β : Type} {d : Kd α} {d2 : Kd β} {e e2 n t g : Nat} {w w1 w2 W w0 : World} {base base2 : Nat} {ok ok2 : Nat → Prop} {v u : Value} {xs : List α} {ys : List β} {cs : Array Value} {u1 u2 : Value}
theorem atI {A : Option Addr} {k : IntKind} {zs : List Int} (h : (Kd.int k).C w A n zs) (i : Int) (h0 : decide (0 ≤ i) = true := by first | (with_reducible assumption) | assumption) (h1 : decide (i < (n : Int)) = true := by first | (with_reducible assumption) | assumption) : (0 ≤ i) = True ∧ (i < (n : Int)) = True ∧ ∃ ad, A = some ad ∧ w.cell? (ad.add i.toNat) = some (.int k (rd zs i)) := ⟨eq_true (of_decide_eq_true h0), eq_true (of_decide_eq_true h1), Kd.at_int h i (of_decide_eq_true h0) (of_decide_eq_true h1)⟩
theorem rE (h : Aside0 (d.R e w base ok v xs)) (ho : d2.R e2 w2 W.heap.size ok2 u ys) (hb : Below W.heap.size W w1) (gr : Grown w W := by (with_reducible repeat (first | apply Grown.alloc | apply Grown.drewN | apply Grown.drew)); exact Grown.rfl_ _) : Aside0 (d.R e w1 base (fun k => ok k ∧ some k ≠ u.ownBlock) v xs) := ⟨Kd.R_elder' (Kd.R_g h.out gr) (Kd.R_base ho) hb⟩
theorem rEF (h : Aside0 (d.R e w base ok v xs)) (b : Aside0 (w.heap[g]? = some (.cells cs t (0, 0)))) (ho : d2.R e2 w2 W.heap.size ok2 u ys) (hb : Below W.heap.size W w1) (gr : Grown ((w.setCell ⟨g, 0, none⟩ u1).setCell ⟨g, 1, none⟩ u2) W := by (with_reducible repeat (first | apply Grown.alloc | apply Grown.drewN | apply Grown.drew)); exact Grown.rfl_ _) (ht : ∀ q, q ∈ e :: d.E → q ≠ t := by decide) : Aside0 (d.R e w1 base (fun k => ok k ∧ some k ≠ u.ownBlock) v xs) := ⟨Kd.R_elder' (rFg h b gr ht) (Kd.R_base ho) hb⟩
theorem rN (h : d.R e w1 W.heap.size ok v xs) (H : Aside0 (d2.R e2 w base2 ok2 u ys)) (gr : Grown w W := by (with_reducible repeat (first | apply Grown.alloc | apply Grown.drewN | apply Grown.drew)); exact Grown.rfl_ _) : d.R e w1 W.heap.size (fun k => ok k ∧ some k ≠ u.ownBlock) v xs := Kd.R_new' h (Kd.R_lt (Kd.R_g H.out gr))
theorem rNF (h : d.R e w1 W.heap.size ok v xs) (H : Aside0 (d2.R e2 w base2 ok2 u ys)) (b : Aside0 (w.heap[g]? = some (.cells cs t (0, 0)))) (gr : Grown ((w.setCell ⟨g, 0, none⟩ u1).setCell ⟨g, 1, none⟩ u2) W := by (with_reducible repeat (first | apply Grown.alloc | apply Grown.drewN | apply Grown.drew)); exact Grown.rfl_ _) (ht : ∀ q, q ∈ e2 :: d2.E → q ≠ t := by decide) : d.R e w1 W.heap.size (fun k => ok k ∧ some k ≠ u.ownBlock) v xs := Kd.R_new' h (Kd.R_lt (rFg H b gr ht))
theorem rLo (h : d.R e w1 W.heap.size ok v xs) (HB : Aside0 (Below w0.heap.size w0 w)) [g : GrownS w0 w W] : Aside0 (d.R e w1 w0.heap.size ok v xs) := ⟨Kd.R_lower h (below_size (bel_g HB.out))⟩
variable {P : Program} {ops : Array Oper} {Q : Exit → Act → World → Prop} {oi : Oper} {a : Act} {rest : List Oper} {N : Tmp}
theorem boxG (HB : Aside0 (Below w0.heap.size w0 w)) [gs : GrownS w0 w W] (cs : Array Value) (t : TypeId) (h : ∀ g, g = W.heap.size → ∀ w1, Aside0 (w1.heap[g]? = some (.cells cs t (0, 0))) → Ge w0.heap.size g → Below W.heap.size W w1 → wpList P ops Q rest (a.put oi.dst (.pointer (some ⟨g, 0, none⟩))) w1) (hgd : oi.guard = none := by rfl) (hd : oi.dst = some N := by rfl) (hrun : (execOp a.eval oi).run P W = .ok (.value (.pointer (some ⟨W.heap.size, 0, none⟩))) (W.alloc (.cells cs t (0, 0))) := by first | (go_simp; done) | (go_simp; rfl)) : wpList P ops Q (oi :: rest) a W := boxE (fun g hg w1 hbox hb => h g hg w1 (mkA hbox) (geB HB hg) hb) hgd hd hrun
theorem litE (d : Kd α) (e : Nat) (xs : List α) (inner : List Value) (hrep : Reps (d.M W W.heap.size (fun _ => True)) d.sz xs inner) (h : ∀ v1 w1, d.R e w1 W.heap.size (fun _ => True) v1 xs → Below W.heap.size W w1 → W.grownBy w1 none → (∃ b, v1.ownBlock = some b ∧ W.heap.size ≤ b) → wpList P ops Q rest (a.put oi.dst v1) w1) (hgd : oi.guard = none := by rfl) (hd : oi.dst = some N := by rfl) (hrun : (execOp a.eval oi).run P W = .ok (.value (.slice (some ⟨W.heap.size, 0, none⟩) xs.length xs.length)) (W.alloc (.cells inner.toArray e)) := by first | (go_simp; done) | (go_simp; rfl)) (hm : xs.length ≤ 9223372036854775807 := by simp) : wpList P ops Q (oi :: rest) a W := Kd.R_lit d W.heap.size e hgd (N := N) hd hrun hrep (fun _ hk => hk) trivial (Below.refl _ _) (Nat.le_refl _) hm h
end

abbrev O2 (v0 v1 : Value) (k_ : Nat) : Prop := some k_ ≠ v0.ownBlock ∧ some k_ ≠ v1.ownBlock
abbrev O3 (v0 v1 v2 : Value) (k_ : Nat) : Prop := some k_ ≠ v0.ownBlock ∧ some k_ ≠ v1.ownBlock ∧ some k_ ≠ v2.ownBlock
abbrev O4 (v0 v1 v2 v3 : Value) (k_ : Nat) : Prop := some k_ ≠ v0.ownBlock ∧ some k_ ≠ v1.ownBlock ∧ some k_ ≠ v2.ownBlock ∧ some k_ ≠ v3.ownBlock
abbrev O5 (v0 v1 v2 v3 v4 : Value) (k_ : Nat) : Prop := some k_ ≠ v0.ownBlock ∧ some k_ ≠ v1.ownBlock ∧ some k_ ≠ v2.ownBlock ∧ some k_ ≠ v3.ownBlock ∧ some k_ ≠ v4.ownBlock
abbrev O6 (v0 v1 v2 v3 v4 v5 : Value) (k_ : Nat) : Prop := some k_ ≠ v0.ownBlock ∧ some k_ ≠ v1.ownBlock ∧ some k_ ≠ v2.ownBlock ∧ some k_ ≠ v3.ownBlock ∧ some k_ ≠ v4.ownBlock ∧ some k_ ≠ v5.ownBlock
abbrev O7 (v0 v1 v2 v3 v4 v5 v6 : Value) (k_ : Nat) : Prop := some k_ ≠ v0.ownBlock ∧ some k_ ≠ v1.ownBlock ∧ some k_ ≠ v2.ownBlock ∧ some k_ ≠ v3.ownBlock ∧ some k_ ≠ v4.ownBlock ∧ some k_ ≠ v5.ownBlock ∧ some k_ ≠ v6.ownBlock
abbrev O8 (v0 v1 v2 v3 v4 v5 v6 v7 : Value) (k_ : Nat) : Prop := some k_ ≠ v0.ownBlock ∧ some k_ ≠ v1.ownBlock ∧ some k_ ≠ v2.ownBlock ∧ some k_ ≠ v3.ownBlock ∧ some k_ ≠ v4.ownBlock ∧ some k_ ≠ v5.ownBlock ∧ some k_ ≠ v6.ownBlock ∧ some k_ ≠ v7.ownBlock
theorem rM {α : Type} {d : Kd α} {e : Nat} {w : World} {base : Nat} {ok ok2 : Nat → Prop} {v : Value} {xs : List α} (h : d.R e w base ok v xs) (f : ∀ k, ok k → ok2 k := by intro _ hk; and_intros <;> (with_reducible first | exact hk | exact hk.1 | exact hk.2 | exact hk.1.1 | exact hk.1.2 | exact hk.2.1 | exact hk.2.2 | exact hk.1.1.1 | exact hk.1.1.2 | exact hk.1.2.1 | exact hk.1.2.2 | exact hk.2.2.1 | exact hk.2.2.2 | exact hk.1.1.2.1 | exact hk.1.2.2.1 | exact hk.1.2.2.2 | exact hk.2.2.2.1 | exact hk.2.2.2.2 | exact hk.1.2.2.2.1 | exact hk.1.2.2.2.2 | exact hk.2.2.2.2.1 | exact hk.2.2.2.2.2 | exact hk.1.2.2.2.2.1 | exact hk.1.2.2.2.2.2 | exact hk.2.2.2.2.2.1 | exact hk.2.2.2.2.2.2 | exact hk.1.2.2.2.2.2.1 | exact hk.1.2.2.2.2.2.2)) : d.R e w base ok2 v xs := Kd.R_mono h f
end Go.Proofs.Ytfomdcbgggdnhaa.Q
