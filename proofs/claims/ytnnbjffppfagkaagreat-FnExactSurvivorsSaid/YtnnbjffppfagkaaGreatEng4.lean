/- The engine, file 4 of 4: an abstract machine over value-like data, and the proof that what it runs, the machine runs. -/
import Derived.Test.YtnnbjffppfagkaaGreatEng3
import Derived.Laws.IdiomCopy
import Derived.Sort.Row
import Derived.Sort.Grow
import Derived.Sort.EncStr
set_option linter.all false
set_option linter.unusedSimpArgs false
set_option linter.unusedVariables false
set_option linter.unusedSectionVars false
/- The engine, part Ar: an element is put into a row (slices.Insert). -/
namespace Go.Ab
open Go
variable [GI]
/-- All is read before anything is written. -/
theorem run_copy_cellsN {P : Program} (w : World) (dT sT ty elem : TypeId) (i : TypeInfo) (b o dLen dCap : Nat) (a : Addr) (sLen sCap : Nat) (cs : List Value) (m : Nat)
    (hu : P.underlying dT = some (.slice elem)) (hi : P.info? elem = some i) (hm : m = Nat.min sLen dLen) (hn : cs.length = m * i.size)
    (hsrc : ∀ j v, cs[j]? = some v → w.cell? (a.add j) = some v) (hc : ∀ j, j < cs.length → (w.cell? ⟨b, o + j, none⟩).isSome = true) (hf : ∀ j, j < cs.length → w.frozen? ⟨b, o + j, none⟩ = false) (h1 : ∀ v ∈ cs, v.oneCell' = true) :
    (Builtin.copy_ #[dT, sT] ty #[.slice (some ⟨b, o, none⟩) dLen dCap, .slice (some a) sLen sCap]).run P w = .ok (goInt m) (w.setCells b o cs) := by
  have hl := run_loadCells_list (P := P) w a cs hsrc
  have hst := run_storeCells_cells (P := P) b o cs 0 w (by simpa using hc) (by simpa using hf) h1
  rw [hn] at hl
  simp [Builtin.copy_, run_underlying hu, Builtin.lenOf, Builtin.firstCells, sizeOf, typeInfo, hi, ← hm, hl, hst]
def insL {α : Type} (l : List α) (i : Nat) (x : α) : List α := l.take i ++ x :: l.drop i
/-- slices.Insert of one element: what its walk has to show. -/
def InsOk (P : Program) (f : FuncId) (esz : Nat) : Prop := ∀ (w : World) (v u : Value) (n i : Nat) (e : TypeId) (cs xs : List Value), ownR w e esz v n cs → ownR w e esz u 1 xs → (∀ b, v.ownBlock = some b → u.ownBlock ≠ some b) → (∀ c ∈ cs, c.oneCell' = true) → (∀ c ∈ xs, c.oneCell' = true) → i ≤ n → n < 1073741824 →
  Calls P f #[v, .int .i64 i, u] w fun e' w' => ∃ v', e' = .returned v' ∧ Keep (fun b => v.ownBlock = some b) w w' ∧ ownR w' e esz v' (n + 1) (cs.take (i * esz) ++ xs ++ cs.drop (i * esz)) ∧ ∀ b, v'.ownBlock = some b → v.ownBlock = some b ∨ w.heap.size ≤ b
def insS (n esz i k : Nat) : Nat := if k < i * esz then k else if k < i * esz + esz then n * esz + (k - i * esz) else k - esz
theorem ins_get {α : Type} {cs xs : List α} {esz i n : Nat} (hc : cs.length = n * esz) (hx : xs.length = esz) (hi : i ≤ n) (k : Nat) : (cs.take (i * esz) ++ xs ++ cs.drop (i * esz))[k]? = if k < (n + 1) * esz then (cs ++ xs)[insS n esz i k]? else none := by
  have h1 : i * esz ≤ n * esz := Nat.mul_le_mul_right _ hi
  have h2 : (n + 1) * esz = n * esz + esz := Nat.succ_mul _ _
  have ht : (cs.take (i * esz)).length = i * esz := by rw [List.length_take]; omega
  unfold insS
  by_cases ha : k < i * esz
  · rw [if_pos (by omega), if_pos ha, List.append_assoc, List.getElem?_append_left (by omega), List.getElem?_take, if_pos ha, List.getElem?_append_left (by omega)]
  · rw [if_neg ha]
    by_cases hb : k < i * esz + esz
    · rw [if_pos (by omega), if_pos hb, List.getElem?_append_left (by rw [List.length_append]; omega), List.getElem?_append_right (by omega), ht, List.getElem?_append_right (by omega), hc]
      congr 1
      omega
    · rw [if_neg hb, List.getElem?_append_right (by rw [List.length_append]; omega), List.length_append, ht, hx, List.getElem?_drop]
      by_cases hd : k < (n + 1) * esz
      · rw [if_pos hd, List.getElem?_append_left (by omega)]
        congr 1
        omega
      · rw [if_neg hd, List.getElem?_eq_none (by omega)]
theorem ins_len {α : Type} {cs xs : List α} {esz i n : Nat} (hc : cs.length = n * esz) (hx : xs.length = esz) (hi : i ≤ n) : (cs.take (i * esz) ++ xs ++ cs.drop (i * esz)).length = (n + 1) * esz := by
  have h1 : i * esz ≤ n * esz := Nat.mul_le_mul_right _ hi
  have h2 : (n + 1) * esz = n * esz + esz := Nat.succ_mul _ _
  rw [List.length_append, List.length_append, List.length_take, List.length_drop]
  omega
theorem insL_flat {α : Type} {n : Nat} {l : List (List α)} {x : List α} (h : ∀ row ∈ l, row.length = n) (hx : x.length = n) {i : Nat} (hi : i ≤ l.length) : (insL l i x).flatten = l.flatten.take (i * n) ++ x ++ l.flatten.drop (i * n) := by
  have ht : ((l.take i).flatten).length = i * n := by
    rw [flatten_len (n := n) fun row hr => h row (List.mem_of_mem_take hr), List.length_take, Nat.min_eq_left (by omega)]
  have e : l.flatten = (l.take i).flatten ++ (l.drop i).flatten := by rw [← List.flatten_append, List.take_append_drop]
  have e1 : l.flatten.take (i * n) = (l.take i).flatten := by rw [e, List.take_append_of_le_length (by omega)]; exact List.take_of_length_le (by omega)
  have e2 : l.flatten.drop (i * n) = (l.drop i).flatten := by rw [e, List.drop_append_of_le_length (by omega), List.drop_of_length_le (by omega), List.nil_append]
  rw [e1, e2, insL, List.flatten_append, List.flatten_cons, List.append_assoc]
theorem one_of {w : World} {R : Nat → Prop} {q : Bool} {ety : K → TypeId} {k : K} {l : List k.den} {us : List Value} {fs : Nat → Nat → Prop} (hc : CellsO w R q (l.map (elemCD ety k)).flatten us fs) : ∀ c ∈ us, c.oneCell' = true := by
  intro u hu
  obtain ⟨j, hj, rfl⟩ := List.getElem_of_mem hu
  have hk2 : j < (l.map (elemCD ety k)).flatten.length := by rw [hc.len]; exact hj
  refine celLO_one (hc.rel j _ _ (List.getElem?_eq_getElem hk2) (List.getElem?_eq_getElem hj)) fun v0 hv0 => ?_
  have hm : (l.map (elemCD ety k)).flatten[j] ∈ (l.map (elemCD ety k)).flatten := List.getElem_mem hk2
  rw [hv0, List.mem_flatten] at hm
  obtain ⟨row, hr, hv1⟩ := hm
  obtain ⟨x, _, rfl⟩ := List.mem_map.1 hr
  exact elem_one hv1
theorem ins_row {P : Program} {ety : K → TypeId} {f : FuncId} (k : K) (hf : InsOk P f k.esz) {w : World} {R F G : Nat → Prop} {q : Bool} {l : List k.den} {x : k.den} {v u : Value} {i : Nat} (h : OwnO w R q (dataCD ety ⟨k, l⟩) v F) (hu : OwnO w R q (dataCD ety ⟨k, [x]⟩) u G) (hR : ∀ b, R b → b < w.heap.size) (hFR : ∀ b, F b → ¬ R b)
    (hFG : ∀ b, F b → ¬ G b) (hi : i ≤ l.length) (hl : l.length < 1073741824) :
    Calls P f #[v, .int .i64 i, u] w fun e w' => ∃ (v' : Value) (F' : Nat → Prop), e = .returned v' ∧ OwnO w' R q (dataCD ety ⟨k, insL l i x⟩) v' F' ∧ (∀ b, F' b → w.heap.size ≤ b ∨ F b ∨ G b) ∧ Keep F w w' := by
  have hltF := fun b hb => h.lt b hb
  have hltG := fun b hb => hu.lt b hb
  have h' : OwnO w R q (.sl (ety k) k.esz (l.map (elemCD ety k))) v F := h
  have hu' : OwnO w R q (.sl (ety k) k.esz ([x].map (elemCD ety k))) u G := hu
  obtain ⟨us, fs, ho, hn, hc, hb, hF⟩ := h'.open
  obtain ⟨ys, gs, ho2, hn2, hc2, hb2, hG⟩ := hu'.open
  rw [List.length_map] at ho
  have ho2 : ownR w (ety k) k.esz u 1 ys := ho2
  have hul : us.length = l.length * k.esz := ho.1
  have hyl : ys.length = k.esz := by have := ho2.1; rw [Nat.one_mul] at this; exact this
  refine (hf w v u l.length i (ety k) us ys ho ho2 (fun b hb' hh => hFG b ((hF b).2 (.inl hb')) ((hG b).2 (.inl hh))) (one_of hc) (one_of hc2) hi hl).mono ?_
  rintro e w' ⟨v', rfl, hk, ho', hnew⟩
  have hkF : Keep F w w' := hk.mono fun b hb' => (hF b).2 (.inl hb')
  have hrow : ∀ row ∈ l.map (elemCD ety k), row.length = k.esz := fun row hr => by obtain ⟨x, _, rfl⟩ := List.mem_map.1 hr; exact elemCD_len ety k x
  have hfl : (l.map (elemCD ety k)).flatten.length = l.length * k.esz := by rw [flatten_len hrow, List.length_map]
  have hcc : CellsO w R q ((l.map (elemCD ety k)).flatten ++ elemCD ety k x) (us ++ ys) (appF us.length fs gs) := by
    have hl2 : (elemCD ety k x).length = ys.length := by rw [elemCD_len, hyl]
    have e2 : ([x].map (elemCD ety k)).flatten = elemCD ety k x := by simp
    refine ⟨by rw [List.length_append, List.length_append, hfl, hul, hl2], fun j cd c hj hc' => ?_, fun i j b h1 h2 e1 e3 => ?_⟩
    · unfold appF
      by_cases hlt : j < us.length
      · rw [if_pos hlt]
        rw [List.getElem?_append_left (by omega)] at hj
        rw [List.getElem?_append_left hlt] at hc'
        exact hc.rel j cd c hj hc'
      · rw [if_neg hlt]
        rw [List.getElem?_append_right (by omega), hfl, ← hul] at hj
        rw [List.getElem?_append_right (by omega)] at hc'
        exact hc2.rel _ cd c (by rw [e2]; exact hj) hc'
    · unfold appF at e1 e3
      rw [List.length_append] at h1 h2
      split at e1 <;> split at e3
      · exact hc.dis i j b (by assumption) (by assumption) e1 e3
      · exact absurd ((hG b).2 (.inr ⟨_, by omega, e3⟩)) (hFG b ((hF b).2 (.inr ⟨_, by assumption, e1⟩)))
      · exact absurd ((hG b).2 (.inr ⟨_, by omega, e1⟩)) (hFG b ((hF b).2 (.inr ⟨_, by assumption, e3⟩)))
      · have := hc2.dis _ _ b (by omega) (by omega) e1 e3
        omega
  have happ : ∀ j b, j < (us ++ ys).length → appF us.length fs gs j b → (F b ∨ G b) ∧ v.ownBlock ≠ some b := fun j b hj hh => by
    unfold appF at hh
    rw [List.length_append] at hj
    split at hh
    · exact ⟨.inl ((hF b).2 (.inr ⟨j, by assumption, hh⟩)), hb j b (by assumption) hh⟩
    · have : G b := (hG b).2 (.inr ⟨_, by omega, hh⟩)
      exact ⟨.inr this, fun e => hFG b ((hF b).2 (.inl e)) this⟩
  have hlen : (insL l i x).length = l.length + 1 := by simp only [insL, List.length_append, List.length_cons, List.length_take, List.length_drop]; omega
  have hml : (us.take (i * k.esz) ++ ys ++ us.drop (i * k.esz)).length = (l.length + 1) * k.esz := ins_len hul hyl hi
  have hsu : (l.length + 1) * k.esz = l.length * k.esz + k.esz := Nat.succ_mul _ _
  have hie : i * k.esz ≤ l.length * k.esz := Nat.mul_le_mul_right _ hi
  have T := own_turn (w := w) (w' := w') (R := R) (q := q) (ety := ety) (k := k) (l' := insL l i x) (v' := v') (us' := us.take (i * k.esz) ++ ys ++ us.drop (i * k.esz)) (insS l.length k.esz i) hcc
    (fun b hRb => hk.block b (hR b hRb) fun e => hFR b ((hF b).2 (.inl e)) hRb)
    (fun j b hj hh => hk.block b (by rcases (happ j b hj hh).1 with h | h; exact hltF b h; exact hltG b h) (happ j b hj hh).2)
    (by rw [hlen]; exact ho')
    (fun j b hj hh e => by
      rcases hnew b e with h | h
      · exact (happ j b hj hh).2 h
      · rcases (happ j b hj hh).1 with h2 | h2
        · have := hltF b h2; omega
        · have := hltG b h2; omega)
    (fun j hj => by
      rw [hml] at hj
      refine ⟨by unfold insS; rw [List.length_append, hul, hyl]; split; omega; split <;> omega, ?_, ?_⟩
      · rw [ins_get hul hyl hi, if_pos hj]
      · have e : (insL l i x).map (elemCD ety k) = insL (l.map (elemCD ety k)) i (elemCD ety k x) := by simp [insL, List.map_take, List.map_drop]
        rw [e, insL_flat hrow (elemCD_len ety k x) (by rw [List.length_map]; exact hi), ins_get hfl (elemCD_len ety k x) hi, if_pos hj])
    (fun a b ha hb e => by
      rw [hml] at ha hb
      unfold insS at e
      by_cases h1 : a < i * k.esz
      · rw [if_pos h1] at e
        by_cases h3 : b < i * k.esz
        · rw [if_pos h3] at e; exact e
        · rw [if_neg h3] at e; split at e <;> omega
      · rw [if_neg h1] at e
        by_cases h2 : a < i * k.esz + k.esz
        · rw [if_pos h2] at e
          by_cases h3 : b < i * k.esz
          · rw [if_pos h3] at e; omega
          · rw [if_neg h3] at e; split at e <;> omega
        · rw [if_neg h2] at e
          by_cases h3 : b < i * k.esz
          · rw [if_pos h3] at e; omega
          · rw [if_neg h3] at e; split at e <;> omega)
  refine ⟨v', _, rfl, T, fun b hb' => ?_, hkF⟩
  rcases hb' with hb' | ⟨j, hj, hb'⟩
  · rcases hnew b hb' with h | h
    · exact .inr (.inl ((hF b).2 (.inl h)))
    · exact .inl h
  · rw [hml] at hj
    exact .inr (happ _ b (by unfold insS; rw [List.length_append, hul, hyl]; split; omega; split <;> omega) hb').1
end Go.Ab
/- The engine, part As: rows that the library sorts. -/
namespace Go.Ab
open Go Go.Sort
variable [GI]
theorem putRow_blk {α : Type} [Inhabited α] {enc : α → Value} {w : World} {g : Nat} {cur : Array Value} {t : TypeId} {fz : Nat × Nat} (h : w.heap[g]? = some (.cells cur t fz)) (n : Nat) (d : Array α) (os : Array Obj) {w' : World} (hw : w' = grow (putRow enc (Sort.ahead w n) g 0 d) os) :
    ∃ cur' : Array Value, w'.heap[g]? = some (.cells cur' t fz) ∧ cur'.size = cur.size ∧ (∀ k : Nat, k < cur.size → cur'[k]? = if k < d.size then some (enc d[k]!) else cur[k]?) ∧ Keep (fun b => b = g) w w' := by
  have hg : g < w.heap.size := by
    rcases Nat.lt_or_ge g w.heap.size with h' | h'
    · exact h'
    · rw [Array.getElem?_eq_none h'] at h; cases h
  have hs : (w.heap.modify g (onCells (putCells enc 0 d))).size = w.heap.size := by simp
  have hh : w'.heap = w.heap.modify g (onCells (putCells enc 0 d)) ++ os := by rw [hw]; rfl
  have hb : ∀ b, b < w.heap.size → w'.heap[b]? = (w.heap.modify g (onCells (putCells enc 0 d)))[b]? := fun b hb => by
    rw [hh, Array.getElem?_append_left (by rw [hs]; exact hb)]
  refine ⟨putCells enc 0 d cur, ?_, by simp [putCells], fun k hk => ?_, ?_⟩
  · rw [hb g hg, Array.getElem?_modify, if_pos rfl, h]; rfl
  · simp only [putCells, Array.getElem?_mapIdx]
    rw [Array.getElem?_eq_getElem hk]
    by_cases hkd : k < d.size
    · simp [hkd]
    · simp [hkd]
  · refine ⟨by rw [hw]; rfl, by rw [hw]; rfl, by rw [hw]; rfl, ?_, fun b hlt hne => ?_⟩
    · rw [hh, Array.size_append, hs]; omega
    · rw [hb b hlt, Array.getElem?_modify, if_neg (fun e => hne e.symm)]
/-- The end of a contract that turns its first argument, a row, and answers nothing. -/
theorem fin_io {P : Program} {ety : K → TypeId} {w w' : World} {R F F' : Nat → Prop} {e : Ending} {q : Bool} {d : Data} {v : Value} (hR : ∀ b, R b → b < w.heap.size) (hFR : ∀ b, F b → ¬ R b) (he : e = .returned (.tuple #[])) (ho : OwnO w' R q (dataCD ety d) v F') (hF : ∀ b, F' b → w.heap.size ≤ b ∨ F b) (hk : Keep F w w') {modes : List Md} {vs : List Value} (hio : inouts modes vs = [v]) :
    ∃ (v : Value) (R' F' : Nat → Prop), e = .returned v ∧ (∀ b, R b → R' b) ∧ (∀ b, R' b → b < w'.heap.size) ∧ (∀ b, R' b → R b ∨ w.heap.size ≤ b ∨ F b) ∧
      RelA (ctx0 ety w' R') (.agg (.tup [] :: [.own q d])) (.agg (v :: inouts modes vs).toArray) F' ∧ (∀ b, F' b → ¬ R' b) ∧ (∀ b, F' b → w.heap.size ≤ b ∨ F b) ∧ Keep F w w' := by
  refine ⟨_, R, F', he, fun _ h => h, fun b h => Nat.lt_of_lt_of_le (hR b h) hk.size, fun b h => .inl h, ?_, fun b hb hRb => ?_, hF, hk⟩
  · rw [hio]
    refine .agg _ _ (fun j b => j = 1 ∧ F' b) _ rfl (fun j c u hj hu => ?_) (fun j k b _ _ h1 h2 => by rw [h1.1, h2.1]) fun b => ⟨fun h => ⟨1, by simp, rfl, h⟩, fun ⟨_, _, h⟩ => h.2⟩
    match j, hj, hu with
    | 0, hj, hu => cases hj; cases hu; exact .pl _ _ _ (.tup [] #[] rfl fun j c u h => by simp at h) fun b h => by simp at h
    | 1, hj, hu =>
      cases hj; cases hu
      have e : (fun b => (1 : Nat) = 1 ∧ F' b) = F' := by funext b; simp
      rw [e]
      exact .own _ _ _ _ ho
  · rcases hF b hb with h | h
    · have := hR b hRb; omega
    · exact hFR b h hRb
end Go.Ab
/- The engine, part At: rows whose elements are moved about, as raw cells: slot p holds what element τ p was. -/
namespace Go.Ab
open Go
variable [GI]
/-- The first N slots of block g hold the elements of 'cur' in the order τ. -/
structure Arr (w : World) (g : Nat) (t : TypeId) (fz : Nat × Nat) (esz : Nat) (cur : Array Value) (N : Nat) (τ : Nat → Nat) (wx : World) : Prop where
  keep : Keep (fun b => b = g) w wx
  blk : ∃ curx : Array Value, wx.heap[g]? = some (.cells curx t fz) ∧ curx.size = cur.size ∧ ∀ p c, p < N → c < esz → curx[p * esz + c]? = cur[τ p * esz + c]?
theorem Arr.start {w : World} {g : Nat} {t : TypeId} {fz : Nat × Nat} {esz : Nat} {cur : Array Value} {N : Nat} (h : w.heap[g]? = some (.cells cur t fz)) : Arr w g t fz esz cur N id w :=
  ⟨.refl _ _, cur, h, rfl, fun _ _ _ _ => rfl⟩
theorem Arr.grown {w wx wy : World} {g : Nat} {t : TypeId} {fz : Nat × Nat} {esz : Nat} {cur : Array Value} {N : Nat} {τ : Nat → Nat} (h : Arr w g t fz esz cur N τ wx) (k : Keep (fun _ => False) wx wy) : Arr w g t fz esz cur N τ wy := by
  obtain ⟨h1, curx, h2, h3, h4⟩ := h
  have hg : g < wx.heap.size := by
    rcases Nat.lt_or_ge g wx.heap.size with h' | h'
    · exact h'
    · rw [Array.getElem?_eq_none h'] at h2; cases h2
  exact ⟨h1.trans (k.mono fun _ h => h.elim), curx, by rw [k.block g hg id]; exact h2, h3, h4⟩
theorem Arr.cell {w wx : World} {g : Nat} {t : TypeId} {fz : Nat × Nat} {esz : Nat} {cur : Array Value} {N : Nat} {τ : Nat → Nat} (h : Arr w g t fz esz cur N τ wx) {p c : Nat} (hp : p < N) (hc : c < esz) {v : Value} (hv : cur[τ p * esz + c]? = some v) : wx.cell? ⟨g, p * esz + c, none⟩ = some v := by
  obtain ⟨_, curx, h2, _, h4⟩ := h
  rw [cell_blk h2, h4 p c hp hc]; exact hv
theorem Arr.set {w wx : World} {g : Nat} {t : TypeId} {fz : Nat × Nat} {esz : Nat} {cur : Array Value} {N : Nat} {τ : Nat → Nat} (h : Arr w g t fz esz cur N τ wx) {q m : Nat} (hq : q < N) (hN : N * esz ≤ cur.size) {vs : List Value} (hl : vs.length = esz) (hvs : ∀ c, c < esz → vs[c]? = cur[m * esz + c]?) :
    Arr w g t fz esz cur N (fun p => if p = q then m else τ p) (wx.setCells g (q * esz) vs) := by
  obtain ⟨h1, curx, h2, h3, h4⟩ := h
  have hqe : q * esz + esz ≤ N * esz := by rw [← Nat.succ_mul]; exact Nat.mul_le_mul_right _ hq
  obtain ⟨cury, b1, b2, b3, b4⟩ := setCells_blk (g := g) (t := t) (fz := fz) vs (q * esz) curx wx h2 (by rw [hl, h3]; omega)
  refine ⟨h1.trans b4, cury, b1, by rw [b2, h3], fun p c hp hc => ?_⟩
  rw [b3, hl]
  by_cases hpq : p = q
  · subst hpq
    rw [if_pos (by omega), if_pos rfl, Nat.add_sub_cancel_left]
    exact hvs c hc
  · rw [if_neg, if_neg hpq]
    · exact h4 p c hp hc
    · intro hh
      rcases Nat.lt_or_gt_of_ne hpq with hlt | hgt
      · have : p * esz + esz ≤ q * esz := by rw [← Nat.succ_mul]; exact Nat.mul_le_mul_right _ hlt
        omega
      · have : q * esz + esz ≤ p * esz := by rw [← Nat.succ_mul]; exact Nat.mul_le_mul_right _ hgt
        omega
end Go.Ab
