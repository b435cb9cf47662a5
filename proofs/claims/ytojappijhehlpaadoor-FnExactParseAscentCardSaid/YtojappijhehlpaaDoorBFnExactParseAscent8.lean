import Derived.Test.YtojappijhehlpaaDoorBFnExactParseAscent7
namespace Go.Proofs.YtojappijhehlpaaDoor.Pure
open Go.RowKit Go.Proofs.YtojappijhehlpaaDoor.Q Go.Proofs.YtojappijhehlpaaDoorW.PrintWords Go.Proofs.YtojappijhehlpaaDoorW.PrintLast
set_option linter.unusedVariables false
set_option linter.unusedSimpArgs false
theorem size_list (s : ByteArray) : s.size = s.data.toList.length := by rw [Array.length_toList]; rfl
theorem bytes_same {a b : ByteArray} (h : a.data.toList = b.data.toList) : a = b := ByteArray.ext (Array.toList_inj.1 h)
theorem bt_list (s : ByteArray) {i : Nat} (h : i < s.data.toList.length) : bt s (i : Int) = ((s.data.toList[i]).toNat : Int) := by
 have hs : i < s.size := by rw [size_list]; exact h
 unfold bt
 rw [dif_pos (by simpa using hs)]
 simp [ByteArray.getElem_eq_getElem_data]
theorem extract_list (s : ByteArray) (a b : Nat) : (s.extract a b).data.toList = (s.data.toList.take b).drop a := by
 rw [ByteArray.data_extract, Array.toList_extract]
 simp [List.extract, List.take_drop]
 try (rcases Nat.le_total a b with h | h <;> simp [h, List.drop_take])
theorem split_l (s : ByteArray) (hs : s.size ≤ 1048576) (d : Nat) : ∀ (i f : Nat) (out : List ByteArray), i + d = s.size → f ≤ i → out.length ≤ i → ∃ ws, Ev (fun k => spec_l1Split.l0 k s 44 out (f : Int) (i : Int)) ws ∧ ws.map (·.data.toList) = out.map (·.data.toList) ++ glue ((s.data.toList.take i).drop f) (spl (s.data.toList.drop i)) := by
 have hz := size_list s
 induction d with
 | zero =>
  intro i f out hi hf ho
  refine ⟨out ++ [s.extract f s.size], Ev.shift ?_, ?_⟩
  ·simp only [spec_l1Split.l0]
   exact Ev.neg (by omega) (Ev.pos (by omega) (Ev.pos (by omega) (Ev.pos (by omega) (Ev.ret (by simp)))))
  ·rw [List.drop_of_length_le (show s.data.toList.length ≤ i by omega), List.map_append]
   simp only [spl, glue, List.map_cons, List.map_nil, List.append_nil]
   rw [extract_list, show s.size = i by omega]
 | succ d ih =>
  intro i f out hi hf ho
  have hil : i < s.data.toList.length := by omega
  have hb := bt_list s hil
  have hd := List.drop_eq_getElem_cons hil
  by_cases hc : s.data.toList[i] = 44
  ·obtain ⟨ws, e1, e2⟩ := ih (i + 1) (i + 1) (out ++ [s.extract f i]) (by omega) (Nat.le_refl _) (by simp; omega)
   refine ⟨ws, Ev.shift ?_, ?_⟩
   ·simp only [spec_l1Split.l0]
    rw [hb, hc, wrap64_id (x := (i : Int) + 1) (by omega) (by omega), cast1]
    exact Ev.pos (by omega) (Ev.pos (by omega) (Ev.pos (by rfl) (Ev.pos (by omega) (Ev.pos (by omega) (Ev.pos (by omega) (Ev.pos (by omega) (by simpa using e1)))))))
   ·rw [e2, hd, hc, spl_comma, List.map_append]
    simp only [glue, List.map_cons, List.map_nil, List.append_nil, List.append_assoc, List.singleton_append]
    rw [extract_list, List.drop_of_length_le (show ((s.data.toList.take (i + 1))).length ≤ i + 1 by simp; omega)]
    have := glue_nil (spl_ne (s.data.toList.drop (i + 1)))
    unfold glue at this
    cases ht : spl (s.data.toList.drop (i + 1)) with
    | nil => exact absurd ht (spl_ne _)
    | cons a r => simp
  ·obtain ⟨ws, e1, e2⟩ := ih (i + 1) f out (by omega) (by omega) (by omega)
   refine ⟨ws, Ev.shift ?_, ?_⟩
   ·simp only [spec_l1Split.l0]
    rw [hb, wrap64_id (x := (i : Int) + 1) (by omega) (by omega), cast1]
    refine Ev.pos (by omega) (Ev.pos (by omega) (Ev.neg (fun e => hc ?_) e1))
    apply UInt8.toNat_inj.1
    have : (44 : UInt8).toNat = 44 := rfl
    omega
   ·rw [e2, hd, spl_cons hc, glue_glue]
    congr 2
    rw [List.take_succ_eq_append_getElem hil, List.drop_append_of_le_length (by rw [List.length_take]; omega)]
theorem split_ev (s : ByteArray) (hs : s.size ≤ 1048576) : ∃ ws, Ev (fun k => spec_l1Split.f k s 44) ws ∧ ws.map (·.data.toList) = spl s.data.toList := by
 obtain ⟨ws, e1, e2⟩ := split_l s hs s.size 0 0 [] (by omega) (Nat.le_refl _) (by simp)
 refine ⟨ws, ?_, ?_⟩
 ·unfold spec_l1Split.f; exact e1
 ·rw [e2]; simp; exact glue_nil (spl_ne _)
theorem words_eq {a b : List ByteArray} (h : a.map (·.data.toList) = b.map (·.data.toList)) : a = b := by
 have hl : a.length = b.length := by have := congrArg List.length h; simpa using this
 refine List.ext_getElem hl fun i h1 h2 => ?_
 have := congrArg (fun l => l[i]?) h
 simp only [List.getElem?_map, List.getElem?_eq_getElem h1, List.getElem?_eq_getElem h2, Option.map_some, Option.some.injEq] at this
 exact bytes_same this
def dig : Int → List UInt8 → Int
 | acc, [] => acc
 | acc, c :: t => if (c.toNat : Int) < 48 then -1 else if (c.toNat : Int) > 57 then -1 else dig (10 * acc + ((c.toNat : Int) - 48)) t
def rdV (l : List UInt8) : Int := match l with
 | [] => -1
 | c :: t => if l.length ≤ 6 then (if c.toNat = 48 ∧ t ≠ [] then -1 else dig 0 l) else -1
theorem dig_l (s : ByteArray) (hs : s.size ≤ 6) (d : Nat) : ∀ (i : Nat) (acc : Int), i + d = s.size → 0 ≤ acc → acc < 10 ^ i → Ev (fun k => spec_l1Read.l0 k s acc (i : Int)) (dig acc (s.data.toList.drop i)) := by
 have hz := size_list s
 induction d with
 | zero =>
  intro i acc hi h0 h1
  rw [List.drop_of_length_le (by omega)]
  refine Ev.shift ?_
  simp only [spec_l1Read.l0]
  exact Ev.neg (by omega) (Ev.ret rfl)
 | succ d ih =>
  intro i acc hi h0 h1
  have hil : i < s.data.toList.length := by omega
  rw [List.drop_eq_getElem_cons hil]
  simp only [dig]
  refine Ev.shift ?_
  simp only [spec_l1Read.l0]
  rw [bt_list s hil]
  refine Ev.pos (by omega) (Ev.pos (by omega) ?_)
  by_cases g1 : ((s.data.toList[i]).toNat : Int) < 48
  ·rw [if_pos g1]; exact Ev.pos g1 (Ev.ret rfl)
  ·rw [if_neg g1]
   refine Ev.neg g1 ?_
   by_cases g2 : ((s.data.toList[i]).toNat : Int) > 57
   ·rw [if_pos g2]; exact Ev.pos g2 (Ev.ret rfl)
   ·rw [if_neg g2]
    have h6 : acc < 1000000 := by
     have : i ≤ 6 := by omega
     have hp : (10 : Int) ^ i ≤ 10 ^ 6 := by
      match i, this with
      | 0, _ | 1, _ | 2, _ | 3, _ | 4, _ | 5, _ | 6, _ => decide
     have : (10 : Int) ^ 6 = 1000000 := by decide
     omega
    have hp : (10 : Int) ^ (i + 1) = 10 * 10 ^ i := by rw [Int.pow_succ]; omega
    refine Ev.neg g2 ?_
    rw [wrap64_id (x := 10 * acc) (by omega) (by omega), Int.emod_eq_of_lt (a := ((s.data.toList[i]).toNat : Int) - 48) (by omega) (by omega), wrap64_id (by omega) (by omega), wrap64_id (x := (i : Int) + 1) (by omega) (by omega), cast1]
    exact ih (i + 1) _ (by omega) (by omega) (by rw [hp]; omega)
theorem read_ev (s : ByteArray) : Ev (fun k => spec_l1Read.f k s) (rdV s.data.toList) := by
 have hz := size_list s
 unfold spec_l1Read.f
 refine Ev.bindc (spec_in _ _ _) ?_
 cases hl : s.data.toList with
 | nil =>
  rw [hl] at hz
  refine Ev.neg (by simp at hz; simp [hz]) (Ev.shift ?_)
  simp only [spec_l1Read.j0]
  exact Ev.pos (by trivial) (Ev.ret rfl)
 | cons c t =>
  have hl2 := hl
  have h0 : 0 < s.data.toList.length := by rw [hl]; simp
  have hb := bt_list s h0
  have e0 : s.data.toList[0] = c := by simp [hl]
  rw [e0] at hb
  rw [hl] at hz
  simp only [rdV]
  by_cases h6 : (c :: t).length ≤ 6
  ·rw [if_pos h6]
   have hd := dig_l s (by omega) s.size 0 0 (by omega) (by omega) (by decide)
   rw [List.drop_zero, hl] at hd
   refine Ev.pos (by simp at h6 hz ⊢; omega) (Ev.pos (by simp at hz; omega) ?_)
   by_cases g : bt s 0 = 48
   ·refine Ev.pos g (Ev.shift ?_)
    simp only [spec_l1Read.j0]
    have hb' : bt s 0 = (c.toNat : Int) := hb
    by_cases ht : t = []
    ·subst ht
     rw [if_neg (by simp)]
     exact Ev.neg (by simp at hz; simp [hz]) hd
    ·rw [if_pos ⟨by omega, ht⟩]
     have : 0 < t.length := List.length_pos_iff.2 ht
     exact Ev.pos (by simp at hz; simp; omega) (Ev.ret rfl)
   ·refine Ev.neg g (Ev.shift ?_)
    simp only [spec_l1Read.j0]
    have hb' : bt s 0 = (c.toNat : Int) := hb
    rw [if_neg (fun e => g (by omega))]
    exact Ev.neg (by simp) hd
  ·rw [if_neg h6]
   refine Ev.neg (by simp at h6 hz ⊢; omega) (Ev.shift ?_)
   simp only [spec_l1Read.j0]
   exact Ev.pos (by trivial) (Ev.ret rfl)
theorem dig_ge : ∀ (l : List UInt8) (acc : Int), 0 ≤ acc → dig acc l = -1 ∨ acc ≤ dig acc l
 | [], acc, h => .inr (by simp [dig])
 | c :: t, acc, h => by
  simp only [dig]
  split
  ·exact .inl rfl
  ·split
   ·exact .inl rfl
   ·rcases dig_ge t (10 * acc + ((c.toNat : Int) - 48)) (by omega) with g | g
    ·exact .inl g
    ·exact .inr (by omega)
theorem rdV_tb : ∀ n : Fin 13, rdV (tb n.val) = (n.val : Int) := by decide +kernel
theorem byte_of {c : UInt8} {n : Nat} (h : (c.toNat : Int) = n) (hn : n < 256) : c = UInt8.ofNat n := by
 apply UInt8.toNat_inj.1
 rw [UInt8.toNat_ofNat']
 omega
theorem tb_rdV {l : List UInt8} (h : 0 ≤ rdV l ∧ rdV l ≤ 12) : l = tb (rdV l).toNat := by
 match l with
 | [] => simp [rdV] at h
 | [c] =>
  simp only [rdV, dig] at h ⊢
  simp at h ⊢
  split at h
  ·omega
  ·split at h
   ·omega
   ·rename_i g1 g2
    rw [if_neg g1, if_neg g2]
    unfold tb
    rw [if_pos (by omega)]
    congr 1
    exact byte_of (by omega) (by omega)
 | [c, d] =>
  simp only [rdV, dig] at h ⊢
  simp at h ⊢
  split at h
  ·omega
  ·split at h
   ·omega
   ·split at h
    ·omega
    ·split at h
     ·omega
     ·split at h
      ·omega
      ·rename_i g0 g1 g2 g3 g4
       rw [if_neg g0, if_neg g1, if_neg g2, if_neg g3, if_neg g4]
       unfold tb
       rw [if_neg (by omega)]
       congr 1
       ·exact byte_of (by omega) (by omega)
       ·congr 1
        exact byte_of (by omega) (by omega)
 | c :: d :: e :: r =>
  exfalso
  simp only [rdV] at h
  split at h
  ·split at h
   ·omega
   ·rename_i g0
    simp only [dig] at h
    split at h
    ·omega
    ·split at h
     ·omega
     ·split at h
      ·omega
      ·split at h
       ·omega
       ·split at h
        ·omega
        ·split at h
         ·omega
         ·rename_i g1 g2 g3 g4 g5 g6
          have hc : c.toNat ≠ 48 := fun e => g0 ⟨e, by simp⟩
          rcases dig_ge r (10 * (10 * (10 * 0 + ((c.toNat : Int) - 48)) + ((d.toNat : Int) - 48)) + ((e.toNat : Int) - 48)) (by omega) with g | g <;> omega
  ·omega
end Go.Proofs.YtojappijhehlpaaDoor.Pure
/- ParseAscent answers what the reference answers and hands back memory of its own, for every text of at most 2^20 bytes (longer ones the statement lets pass). Condition: the listed variables, tied to the program's text by the card. -/
namespace Go.Proofs.YtojappijhehlpaaDoor.Pure
open Go.RowKit Go.Proofs.YtojappijhehlpaaDoor.Q Go.Proofs.YtojappijhehlpaaDoorW.PrintWords Go.Proofs.YtojappijhehlpaaDoorW.PrintLast
set_option linter.unusedVariables false
set_option linter.unusedSimpArgs false
def nm : List ByteArray → Option (List Int)
 | [] => some []
 | w :: t => match Go.Lib.atoiAll w.data.toList with
  | .ok v => (nm t).map (v :: ·)
  | _ => none
theorem nm_len : ∀ (ws : List ByteArray) (vs : List Int), nm ws = some vs → vs.length = ws.length
 | [], vs, h => by simp [nm] at h; subst h; rfl
 | w :: t, vs, h => by
  unfold nm at h
  split at h
  ·obtain ⟨us, h1, rfl⟩ := Option.map_eq_some_iff.1 h
   simp [nm_len t us h1]
  ·cases h
theorem rdB_lt (ws : List ByteArray) {i : Nat} (h : i < ws.length) : rdOf ByteArray.empty ws (i : Int) = ws[i] := by
 simp [rdOf, h]
def numR (out : List Int) : Option (List Int) → List Int × Bool
 | some vs => (out ++ vs, true)
 | none => ([], false)
theorem num_l (ws : List ByteArray) (hz : ∀ w ∈ ws, w.size ≤ 1048576) (hl : ws.length ≤ 12) (d : Nat) : ∀ (i K : Nat) (out : List Int), i + d = ws.length → d < K → out.length ≤ i → impl_numbersOf.l0 K ws out (i : Int) = some (numR out (nm (ws.drop i))) := by
 induction d with
 | zero =>
  intro i K out hi hK ho
  obtain ⟨k, rfl⟩ : ∃ k, K = k + 1 := ⟨K - 1, by omega⟩
  unfold impl_numbersOf.l0
  rw [if_neg (by omega), List.drop_of_length_le (by omega)]
  simp [nm, numR]
 | succ d ih =>
  intro i K out hi hK ho
  obtain ⟨k, rfl⟩ : ∃ k, K = k + 1 := ⟨K - 1, by omega⟩
  have hil : i < ws.length := by omega
  unfold impl_numbersOf.l0
  rw [if_pos (by omega), if_pos (by omega), rdB_lt ws hil, if_pos (by have := hz _ (List.getElem_mem hil); omega), List.drop_eq_getElem_cons hil, wrap64_id (x := (i : Int) + 1) (by omega) (by omega), cast1]
  unfold nm
  cases ha : Go.Lib.atoiAll (ws[i]).data.toList with
  | ok v =>
   dsimp only
   rw [if_pos (by omega), ih (i + 1) k (out ++ [v]) (by omega) (by omega) (by simp; omega)]
   cases nm (ws.drop (i + 1)) <;> simp [numR]
  | range => rfl
  | _ => rfl
theorem num_f (s : ByteArray) (hs : s.size ≤ 1048576) {ws : List ByteArray} (hw : Go.Lib.splitB (⟨#[44]⟩ : ByteArray) 0 (Go.Lib.countB s (⟨#[44]⟩ : ByteArray)) s = ws) (hz : ∀ w ∈ ws, w.size ≤ 1048576) : impl_numbersOf.f s = some (if 12 < ws.length then ([], false) else numR [] (nm ws)) := by
 unfold impl_numbersOf.f strings_Split.f
 rw [if_pos ⟨by omega, by decide⟩, Option.bind_some, hw]
 by_cases h : 12 < ws.length
 ·rw [if_pos (by omega), if_pos h]
 ·rw [if_neg (by omega), if_neg h]
  have := num_l ws hz (by omega) ws.length 0 14 [] (by omega) (by omega) (by simp)
  simpa using this
theorem spl_count : ∀ l : List UInt8, (spl l).length ≤ l.length + 1
 | [] => by simp [spl]
 | c :: t => by
  have ih := spl_count t
  by_cases h : c = 44
  ·subst h; rw [spl_comma]; simp; exact ih
  ·rw [spl_cons h]
   cases ht : spl t with
   | nil => simp [glue]
   | cons a r => rw [ht] at ih; simp [glue] at ih ⊢; omega
def vals (ws : List ByteArray) : List Int := ws.map fun w => rdV w.data.toList
theorem sparse_l (ws : List ByteArray) (hl : ws.length ≤ 1048577) (d : Nat) : ∀ i : Nat, i + d = ws.length → Ev (fun k => spec_ParseAscent.l0 k (vals (ws.take i)) ws (ws.length : Int) (i : Int)) (if isAsc (vals ws) = true then (vals ws, true) else ([], false)) := by
 induction d with
 | zero =>
  intro i hi
  refine Ev.shift ?_
  simp only [spec_ParseAscent.l0]
  rw [List.take_of_length_le (by omega)]
  refine Ev.neg (by omega) (Ev.bind (good_spec (vals ws)) ?_)
  by_cases h : isAsc (vals ws) = true
  ·exact Ev.eq (Ev.pos h (Ev.ret rfl)) (if_pos h).symm
  ·exact Ev.eq (Ev.neg h (Ev.ret rfl)) (if_neg h).symm
 | succ d ih =>
  intro i hi
  have hil : i < ws.length := by omega
  have := ih (i + 1) (by omega)
  have e : vals (ws.take (i + 1)) = vals (ws.take i) ++ [rdV (ws[i]).data.toList] := by unfold vals; rw [List.take_succ_eq_append_getElem hil, List.map_append]; rfl
  rw [e] at this
  refine Ev.shift ?_
  simp only [spec_ParseAscent.l0]
  rw [rdB_lt ws hil, wrap64_id (x := (i : Int) + 1) (by omega) (by omega), cast1]
  exact Ev.pos (by omega) (Ev.pos (by omega) (Ev.pos (by omega) (Ev.bind (read_ev _) (Ev.pos (by simp [vals]; omega) this))))
theorem nm_vals : ∀ ws : List ByteArray, (∀ w ∈ ws, 0 ≤ rdV w.data.toList ∧ rdV w.data.toList ≤ 12) → nm ws = some (vals ws) ∧ ws.map (·.data.toList) = (vals ws).map fun n => tb n.toNat
 | [], _ => by simp [nm, vals]
 | w :: t, h => by
  obtain ⟨g1, g2⟩ := nm_vals t (fun v hv => h v (by simp [hv]))
  have hw := h w (by simp)
  have e := tb_rdV hw
  have ha := tb_atoi ⟨(rdV w.data.toList).toNat, by omega⟩
  dsimp only at ha
  rw [← e] at ha
  refine ⟨?_, ?_⟩
  ·unfold nm
   rw [ha]
   dsimp only
   rw [g1]
   simp only [vals, List.map_cons, Option.map_some]
   rw [show (((rdV w.data.toList).toNat : Nat) : Int) = rdV w.data.toList by omega]
  ·simp only [vals, List.map_cons] at g2 ⊢
   rw [g2, ← e]
theorem vals_tb (ws : List ByteArray) (us : List Int) (hu : ∀ n ∈ us, 0 ≤ n ∧ n ≤ 12) (h : ws.map (·.data.toList) = us.map fun n => tb n.toNat) : vals ws = us := by
 have e : vals ws = (ws.map (·.data.toList)).map rdV := by simp [vals]
 rw [e, h, List.map_map]
 conv => rhs; rw [← List.map_id us]
 refine List.map_congr_left fun n hn => ?_
 have := hu n hn
 have ht := rdV_tb ⟨n.toNat, by omega⟩
 dsimp only at ht
 simp only [Function.comp, id]
 rw [ht]; omega
theorem short_mem {l : List Int} (h : shortP l) : ∀ n ∈ l, 0 ≤ n ∧ n ≤ 12 := fun n hn => by
 obtain ⟨i, hi, rfl⟩ := List.mem_iff_getElem.1 hn
 have := h.2 i hi
 rwa [rd_lt l i hi] at this
theorem ParseAscent_both (s : ByteArray) (hs : s.size ≤ 1048576) : ∃ x b, Ev (fun k => impl_ParseAscent.f k s) (x, b) ∧ Ev (fun k => spec_ParseAscent.f k s) (x, b) ∧ x.length ≤ 1000 := by
 unfold impl_ParseAscent.f spec_ParseAscent.f
 by_cases h0 : s.toList = []
 ·exact ⟨[], true, Ev.pos h0 (Ev.ret rfl), Ev.pos h0 (Ev.bind (good_spec []) (Ev.pos (by decide) (Ev.ret rfl))), by simp⟩
 obtain ⟨ws, e1, e2⟩ := split_ev s hs
 have hw := words_eq ((words_i s).trans e2.symm)
 have hz2 := size_list s
 have hlen : ws.length = (spl s.data.toList).length := by rw [← e2]; simp
 have hl : ws.length ≤ 1048577 := by have := spl_count s.data.toList; omega
 have hz : ∀ w ∈ ws, w.size ≤ 1048576 := fun w hww => by
  have : w.data.toList ∈ spl s.data.toList := by rw [← e2]; exact List.mem_map.2 ⟨w, hww, rfl⟩
  have := spl_len _ _ this
  rw [size_list w]; omega
 have hn := num_f s hs hw hz
 have sp := sparse_l ws hl ws.length 0 (by omega)
 simp only [List.take_zero, vals, List.map_nil] at sp
 have hsp : Ev (fun k => if s.toList = ([] : List UInt8) then ((spec_asGood.f k ([] : List Int)).bind fun t189 => (if t189 = true then (some (([] : List Int), true)) else (some (([] : List Int), false)))) else ((spec_l1Split.f k s 44).bind fun t190 => (spec_ParseAscent.l0 k ([] : List Int) t190 (t190.length : Int) 0))) (if isAsc (vals ws) = true then (vals ws, true) else ([], false)) := Ev.neg h0 (Ev.bind e1 sp)
 by_cases hg : isAsc (vals ws) = true
 ·rw [if_pos hg] at hsp
  have hp := asc_short hg
  have hl12 : ws.length ≤ 12 := by have := hp.1; simpa [vals] using this
  have hm : ∀ w ∈ ws, 0 ≤ rdV w.data.toList ∧ rdV w.data.toList ≤ 12 := fun w hww => short_mem hp _ (List.mem_map.2 ⟨w, hww, rfl⟩)
  obtain ⟨n1, n2⟩ := nm_vals ws hm
  rw [if_neg (by omega), n1] at hn
  change impl_numbersOf.f s = some (vals ws, true) at hn
  have hj : jt (vals ws) = s := by
   refine bytes_same ?_
   show (jl (vals ws)).toArray.toList = _
   unfold jl
   rw [← n2, e2, join_spl]
  refine ⟨vals ws, true, Ev.neg h0 (Ev.bindc hn (Ev.pos rfl (Ev.bind (isAscent_impl (vals ws)) (Ev.pos hg (Ev.bind (itext_ev hp) (Ev.pos (by rw [hj]) (Ev.ret rfl))))))), hsp, by have := hp.1; omega⟩
 ·rw [if_neg hg] at hsp
  refine ⟨[], false, Ev.neg h0 (Ev.bindc hn ?_), hsp, by simp⟩
  by_cases h12 : 12 < ws.length
  ·rw [if_pos h12]; exact Ev.neg (by simp) (Ev.ret rfl)
  rw [if_neg h12]
  cases hu : nm ws with
  | none => exact Ev.neg (by simp [numR]) (Ev.ret rfl)
  | some us =>
   refine Ev.pos rfl (Ev.bind (isAscent_impl us) ?_)
   by_cases ha : isAsc us = true
   ·have hp := asc_short ha
    refine Ev.pos ha (Ev.bind (itext_ev hp) (Ev.neg (fun e => hg ?_) (Ev.ret rfl)))
    have hul := nm_len ws us hu
    have e' : (jt us).data.toList = s.data.toList := by rw [ByteArray.toList_eq, ByteArray.toList_eq] at e; exact e
    have ej : jl us = s.data.toList := e'
    have hne : us ≠ [] := by
     intro e; subst e
     have := spl_ne s.data.toList
     rw [← e2] at this
     simp at hul
     exact this (by rw [List.eq_nil_of_length_eq_zero hul.symm]; rfl)
    have hsj : spl (jl us) = us.map fun n => tb n.toNat := by
     unfold jl
     refine spl_join _ (by simpa using hne) fun w hww c hc => ?_
     obtain ⟨n, hn', rfl⟩ := List.mem_map.1 hww
     have := short_mem hp n hn'
     exact tb_comma ⟨n.toNat, by omega⟩ c hc
    rw [ej, ← e2] at hsj
    rw [vals_tb ws us (short_mem hp) hsj]
    exact ha
   ·exact Ev.neg ha (Ev.ret rfl)
theorem FnExactParseAscent (s : ByteArray) : ∃ k, laws_FnExactParseAscent.f k s = some true := by
 refine Ev.at1 ?_
 unfold laws_FnExactParseAscent.f
 by_cases hb : (s.size : Int) > 1048576
 ·exact Ev.pos hb (Ev.ret rfl)
 obtain ⟨x, b, hi, hs, hx⟩ := ParseAscent_both s (by omega)
 have ex := eqIntS_same x (by omega)
 have mx := markIntS x (by omega) 1 (by omega) (by omega)
 have gx := heldIntS x.length (by omega) 1 (by omega) (by omega)
 refine Ev.neg hb (Ev.bind hs (Ev.bind hi (Ev.bind ex (Ev.pos rfl (Ev.neg (by simp) (Ev.bind mx (Ev.bind gx (Ev.neg (by omega) (Ev.pos rfl (Ev.bind hi (Ev.bind ex (Ev.pos rfl (Ev.neg (by simp) (Ev.bind gx (Ev.neg (by omega) (Ev.pos rfl (Ev.ret rfl)))))))))))))))))
end Go.Proofs.YtojappijhehlpaaDoor.Pure
