/- The engine, file 3 of 3: an abstract machine over value-like data, and the proof that what it runs, the machine runs. -/
import Derived.Test.YthfcgefegbfklaaGreatEng2
import Derived.ProofKit
import Derived.OpenShut
import Derived.Carry
import Derived.Lib.Join
set_option linter.all false
set_option linter.unusedSimpArgs false
set_option linter.unusedVariables false
set_option linter.unusedSectionVars false
/- The engine, part Am: tables of functions. -/
namespace Go.Ab
open Go
structure CRow (P : Program) (ety : K → TypeId) (f : FuncId) (sp : Spec) : Prop where
  ok : FnOk P ety f sp
  ent : ∀ args w, (callFunc f args).run P w = .ok (.enter f args) w
def calOf : List (FuncId × Spec) → FuncId → Option Spec
  | [], _ => none
  | (f, sp) :: l, g => if f = g then some sp else calOf l g
theorem calOf_nil (g : FuncId) : calOf [] g = none := rfl
theorem calOf_cons (f : FuncId) (sp : Spec) (l : List (FuncId × Spec)) (g : FuncId) : calOf ((f, sp) :: l) g = if f = g then some sp else calOf l g := rfl
inductive Rows (P : Program) (ety : K → TypeId) : List (FuncId × Spec) → Prop
  | nil : Rows P ety []
  | cons {f sp l} (h : CRow P ety f sp) (t : Rows P ety l) : Rows P ety ((f, sp) :: l)
theorem Rows.get {P : Program} {ety : K → TypeId} {l : List (FuncId × Spec)} (h : Rows P ety l) : ∀ f sp, calOf l f = some sp → CRow P ety f sp := by
  induction h with
  | nil => intro f sp h; cases h
  | @cons f sp l h t ih =>
    intro g sp' hg
    rw [calOf_cons] at hg
    split at hg
    · rename_i e
      cases hg
      subst e
      exact h
    · exact ih g sp' hg
theorem EnvOk.of {P : Program} {td : TypeId → TD} {ety : K → TypeId} {l : List (FuncId × Spec)} (hm : P.follows .mixedOrders = true) (ht : ∀ (E : Env) t, TDok P E t (td t)) (h : Rows P ety l) (dr : Nat → Option (List Nat × List (List Nat))) : EnvOk P ⟨td, ety, calOf l, dr⟩ :=
  ⟨hm, fun t => ht _ t, fun f sp hf => (h.get f sp hf).ok, fun f sp hf => (h.get f sp hf).ent⟩
theorem ent_of {P : Program} {f : FuncId} {fn : Func} (hf : P.funcs[f]? = some fn) (hn : (fn.name == "runtime.NumGoroutine") = false) (hb : fn.body.isNone = false) (args : Array Value) (w : World) : (callFunc f args).run P w = .ok (.enter f args) w := by
  simp only [callFunc, program, Sem.run_bind]
  show (Result.ok P w).andThen _ = _
  simp only [Result.andThen_ok, hf, hn, hb]
  rfl
theorem CRow.of {P : Program} {E : Env} (hE : EnvOk P E) {f : FuncId} {fn : Func} {sp : Spec} {c : Code} (hf : P.funcs[f]? = some fn) (hn : (fn.name == "runtime.NumGoroutine") = false) (hb : fn.body = some c) (hs : (okC c && (wr c).all fun d => decide (d < fn.ntmps)) = true)
    (h : ∀ args p r outs, sp.run args = some (p, r, outs) → (∀ q, p = some q → q) → Body E fn sp.modes args fun r' outs' => r' = r ∧ outs' = outs) : CRow P E.ety f sp :=
  ⟨fnOk_of_body hE hf hb hs h, ent_of hf hn (by rw [hb]; rfl)⟩
def drOf : List (Nat × List Nat × List (List Nat)) → Nat → Option (List Nat × List (List Nat))
  | [], _ => none
  | (i, hs, iv) :: l, j => if i = j then some (hs, iv) else drOf l j
theorem drOf_nil (j : Nat) : drOf [] j = none := rfl
theorem drOf_cons (i : Nat) (hs : List Nat) (iv : List (List Nat)) (l : List (Nat × List Nat × List (List Nat))) (j : Nat) : drOf ((i, hs, iv) :: l) j = if i = j then some (hs, iv) else drOf l j := rfl
theorem self_and (p q : Prop) : (p → p ∧ q) = (p → q) := propext ⟨fun h hp => (h hp).2, fun h hp => ⟨hp, h hp⟩⟩
theorem imp_two (p q : Prop) : (p → q → p ∧ q) = True := propext ⟨fun _ => trivial, fun _ hp hq => ⟨hp, hq⟩⟩
attribute [push_cast] self_and imp_two Bool.and_eq_true Option.toArray_none Option.toArray_some drOf_nil drOf_cons calOf_nil calOf_cons
/-- What the guard asks, ahead of what the operation asks. -/
def qW (q : Option Prop) : Option (Option Prop × AV × Hp × Nat) → Option (Option Prop × AV × Hp × Nat)
  | some (p, v, hp, nx) => some (cjo q p, v, hp, nx)
  | none => none
theorem qW_some (q p v hp nx) : qW q (some (p, v, hp, nx)) = some (cjo q p, v, hp, nx) := rfl
theorem qW_none (q) : qW q none = none := rfl
section
variable (E : Env) (e : Operand → AV) (q : Option Prop) (fr : Fr) (hp : Hp) (nx : Nat) (d : Option Tmp) (t : TypeId) (ps : String) (af : Array Edge)
theorem stepW_alloc (ty : TypeId) : stepW E ⟨d, .alloc ty, t, ps, af, none⟩ e q ⟨fr, hp, nx⟩ = qW q (stepH E ⟨d, .alloc ty, t, ps, af, none⟩ e hp nx) := by
  show (match stepH E ⟨d, .alloc ty, t, ps, af, none⟩ e hp nx with | some (p, v, hp, nx) => some (cjo q p, v, hp, nx) | none => none) = _
  cases stepH E ⟨d, .alloc ty, t, ps, af, none⟩ e hp nx <;> rfl
theorem stepW_box (ty : TypeId) (x : Operand) : stepW E ⟨d, .box ty x, t, ps, af, none⟩ e q ⟨fr, hp, nx⟩ = qW q (stepH E ⟨d, .box ty x, t, ps, af, none⟩ e hp nx) := by
  show (match stepH E ⟨d, .box ty x, t, ps, af, none⟩ e hp nx with | some (p, v, hp, nx) => some (cjo q p, v, hp, nx) | none => none) = _
  cases stepH E ⟨d, .box ty x, t, ps, af, none⟩ e hp nx <;> rfl
theorem stepW_buildSlice (ty : TypeId) (len : Nat) (parts : Array (Nat × Operand)) : stepW E ⟨d, .buildSlice ty len parts, t, ps, af, none⟩ e q ⟨fr, hp, nx⟩ = qW q (stepH E ⟨d, .buildSlice ty len parts, t, ps, af, none⟩ e hp nx) := by
  show (match stepH E ⟨d, .buildSlice ty len parts, t, ps, af, none⟩ e hp nx with | some (p, v, hp, nx) => some (cjo q p, v, hp, nx) | none => none) = _
  cases stepH E ⟨d, .buildSlice ty len parts, t, ps, af, none⟩ e hp nx <;> rfl
theorem stepW_makeSlice (ty : TypeId) (l c : Operand) : stepW E ⟨d, .makeSlice ty l c, t, ps, af, none⟩ e q ⟨fr, hp, nx⟩ = qW q (stepH E ⟨d, .makeSlice ty l c, t, ps, af, none⟩ e hp nx) := by
  show (match stepH E ⟨d, .makeSlice ty l c, t, ps, af, none⟩ e hp nx with | some (p, v, hp, nx) => some (cjo q p, v, hp, nx) | none => none) = _
  cases stepH E ⟨d, .makeSlice ty l c, t, ps, af, none⟩ e hp nx <;> rfl
theorem stepW_store (ty : TypeId) (a x : Operand) : stepW E ⟨d, .store ty a x, t, ps, af, none⟩ e q ⟨fr, hp, nx⟩ = qW q (stepH E ⟨d, .store ty a x, t, ps, af, none⟩ e hp nx) := by
  show (match stepH E ⟨d, .store ty a x, t, ps, af, none⟩ e hp nx with | some (p, v, hp, nx) => some (cjo q p, v, hp, nx) | none => none) = _
  cases stepH E ⟨d, .store ty a x, t, ps, af, none⟩ e hp nx <;> rfl
theorem stepW_append (args : Array Operand) (ats : Array TypeId) : stepW E ⟨d, .call ⟨.builtin .append, args, ats⟩, t, ps, af, none⟩ e q ⟨fr, hp, nx⟩ = qW q (stepH E ⟨d, .call ⟨.builtin .append, args, ats⟩, t, ps, af, none⟩ e hp nx) := by
  show (match stepH E ⟨d, .call ⟨.builtin .append, args, ats⟩, t, ps, af, none⟩ e hp nx with | some (p, v, hp, nx) => some (cjo q p, v, hp, nx) | none => none) = _
  cases stepH E ⟨d, .call ⟨.builtin .append, args, ats⟩, t, ps, af, none⟩ e hp nx <;> rfl
theorem stepW_slice (ty : TypeId) (x : Operand) (lo hi : Option Operand) : stepW E ⟨d, .slice ty x lo hi none, t, ps, af, none⟩ e q ⟨fr, hp, nx⟩ = qW q (orH (stepP E ⟨d, .slice ty x lo hi none, t, ps, af, none⟩ e hp) hp nx (stepH E ⟨d, .slice ty x lo hi none, t, ps, af, none⟩ e hp nx)) := by
  unfold stepW
  cases stepP E ⟨d, .slice ty x lo hi none, t, ps, af, none⟩ e hp with
  | some r => rfl
  | none => cases stepH E ⟨d, .slice ty x lo hi none, t, ps, af, none⟩ e hp nx <;> rfl
theorem stepW_convert (ty dst : TypeId) (x : Operand) : stepW E ⟨d, .convert ty dst x, t, ps, af, none⟩ e q ⟨fr, hp, nx⟩ = qW q (orH (stepP E ⟨d, .convert ty dst x, t, ps, af, none⟩ e hp) hp nx (stepH E ⟨d, .convert ty dst x, t, ps, af, none⟩ e hp nx)) := by
  unfold stepW
  cases stepP E ⟨d, .convert ty dst x, t, ps, af, none⟩ e hp with
  | some r => rfl
  | none => cases stepH E ⟨d, .convert ty dst x, t, ps, af, none⟩ e hp nx <;> rfl
theorem stepW_call (f : Operand) (args : Array Operand) (ats : Array TypeId) : stepW E ⟨d, .call ⟨.value f, args, ats⟩, t, ps, af, none⟩ e q ⟨fr, hp, nx⟩ = qW q (orH (stepP E ⟨d, .call ⟨.value f, args, ats⟩, t, ps, af, none⟩ e hp) hp nx (stepH E ⟨d, .call ⟨.value f, args, ats⟩, t, ps, af, none⟩ e hp nx)) := by
  unfold stepW
  cases stepP E ⟨d, .call ⟨.value f, args, ats⟩, t, ps, af, none⟩ e hp with
  | some r => rfl
  | none => cases stepH E ⟨d, .call ⟨.value f, args, ats⟩, t, ps, af, none⟩ e hp nx <;> rfl
end
attribute [push_cast] qW_some qW_none stepW_alloc stepW_box stepW_buildSlice stepW_makeSlice stepW_store stepW_append stepW_slice stepW_convert stepW_call
end Go.Ab
/- The engine, part An: what a law is handed, read as data; the row's end. -/
namespace Go.Ab
open Go Go.ChangeShapes Go.WideShapes Go.ChangeAt Go.RowKit
abbrev mxl : Nat := 9223372036854775807
section
variable {H : Type} {enc : TypeId × Value → H} {P : Program} {w : World} {base : Nat} {sp : Nat → Bool} {held : Bool} (ety : K → TypeId)
abbrev allR (w : World) : Nat → Prop := fun b => b < w.heap.size
/-- An element of a kind. -/
def CarF (enc : TypeId × Value → H) (P : Program) (w : World) (base : Nat) (sp : Nat → Bool) (held : Bool) (ety : K → TypeId) (k : K) (fit : k.den → Prop) (t : TypeId) (fuel : Nat) : Prop := ∀ cs d ps, DataW.trod enc P w base sp held fuel t cs = some (d, ps) →
  ∃ x : k.den, fit x ∧ cs.length = k.esz ∧ ∀ (j : Nat) (c : AV), (elemCells k x)[j]? = some c → ∃ u, cs[j]? = some u ∧ Rep w (allR w) (cellCD ety c) u
/-- A slice of a kind. -/
def SlF (enc : TypeId × Value → H) (P : Program) (w : World) (base : Nat) (sp : Nat → Bool) (held : Bool) (ety : K → TypeId) (k : K) (fit : k.den → Prop) (t : TypeId) (fuel : Nat) : Prop := ∀ cs d ps, DataW.trod enc P w base sp held fuel t cs = some (d, ps) →
  ∃ (l : List k.den) (v : Value), cs = [v] ∧ l.length ≤ mxl ∧ (∀ x ∈ l, fit x) ∧ Rep w (allR w) (dataCD ety ⟨k, l⟩) v
variable {ety}
theorem trod_str {t : TypeId} (ht : P.underlying t = some .string) {fuel : Nat} {cs : List Value} {d : DataW H} {ps : List MemPlace} (h : DataW.trod enc P w base sp held fuel t cs = some (d, ps)) : ∃ l : Str, cs = [sv l] ∧ l.length ≤ mxl := by
  cases fuel with
  | zero => simp [DataW.trod] at h
  | succ n =>
    unfold DataW.trod at h
    rw [ht] at h
    split at h <;> simp_all
    rename_i s
    exact ⟨s.data.toList, rfl, by have := h.1; simp only [Go.maxLen] at this; exact this⟩
theorem trod_int {t : TypeId} (ht : P.underlying t = some (.int .i64)) {fuel : Nat} {cs : List Value} {d : DataW H} {ps : List MemPlace} (h : DataW.trod enc P w base sp held fuel t cs = some (d, ps)) : ∃ n : Int, cs = [.int .i64 n] ∧ i64ok n := by
  cases fuel with
  | zero => simp [DataW.trod] at h
  | succ n =>
    unfold DataW.trod at h
    rw [ht] at h
    split at h <;> simp_all
    rename_i k _ n heq
    subst heq
    have h2 := h.1.2
    simp only [Lit.wf, decide_eq_true_eq, Bool.and_eq_true] at h2
    exact h2
theorem trod_bool {t : TypeId} (ht : P.underlying t = some .bool) {fuel : Nat} {cs : List Value} {d : DataW H} {ps : List MemPlace} (h : DataW.trod enc P w base sp held fuel t cs = some (d, ps)) : ∃ b : Bool, cs = [.bool b] := by
  cases fuel with
  | zero => simp [DataW.trod] at h
  | succ n =>
    unfold DataW.trod at h
    rw [ht] at h
    split at h <;> simp_all
theorem trod_struct {t : TypeId} {fs : Array Field} (ht : P.underlying t = some (.struct fs)) {fuel : Nat} {cs : List Value} {d : DataW H} {ps : List MemPlace} (h : DataW.trod enc P w base sp held (fuel + 1) t cs = some (d, ps)) :
    cs.length = P.cellsOf t ∧ ∀ f ∈ fs.toList, ∃ d' p', DataW.trod enc P w base sp held fuel f.type ((cs.drop f.offset).take (P.cellsOf f.type)) = some (d', p') := by
  unfold DataW.trod at h
  rw [ht] at h
  split at h <;> simp_all
  obtain ⟨a, h1, h2⟩ := h.2
  intro f hf
  obtain ⟨i, hi, rfl⟩ := List.mem_iff_getElem.1 (Array.mem_toList_iff.2 hf)
  have hl := mapM_some_length h1
  have hg := mapM_some_get h1 i _ (List.getElem?_eq_getElem hi)
  have hlt : i < a.length := by rw [hl]; exact hi
  refine ⟨a[i].1, a[i].2, ?_⟩
  simp at hg ⊢
  rw [hg]
  simp [hlt]
theorem addr_add (a : Addr) (i j : Nat) : (a.add i).add j = a.add (i + j) := by
  unfold Addr.add
  split <;> split <;> simp_all <;> (try (split <;> simp_all)) <;> omega
theorem slF_of {k : K} {fit : k.den → Prop} {t e : TypeId} (ht : P.underlying t = some (.slice e)) (hc : P.cellsOf e = k.esz) (hk : 0 < k.esz) {fuel : Nat} (hf : CarF enc P w base sp held ety k fit e fuel) : SlF enc P w base sp held ety k fit t (fuel + 1) := by
  intro cs d ps h
  unfold DataW.trod at h
  rw [ht] at h
  split at h
  case h_7 =>
    rename_i heq
    cases heq
    exact ⟨[], _, rfl, Nat.zero_le _, fun _ h => (by cases h), .sl _ _ [] none 0 (fun _ => undef) (Nat.le_refl _) (fun _ h => by cases h) (fun k cd hk => by simp at hk) (fun k cd hk => by simp at hk)⟩
  case h_8 =>
    rename_i a len cap heq
    cases heq
    simp only at h
    split at h
    · rename_i hb
      obtain ⟨hb1, hb2, hb3⟩ := hb
      cases hm : (List.range len).mapM (fun i => (w.cells? base (a.add (i * P.cellsOf e)) (P.cellsOf e)).bind (DataW.trod enc P w base sp held fuel e)) with
      | none => rw [hm] at h; cases h
      | some elems =>
        have hlen : elems.length = len := by simpa using mapM_some_length hm
        have hel : ∀ i, i < len → ∃ cs d' p', w.cells? base (a.add (i * P.cellsOf e)) (P.cellsOf e) = some cs ∧ DataW.trod enc P w base sp held fuel e cs = some (d', p') := by
          intro i hi
          have := mapM_some_get hm i i (by simp [hi])
          rw [List.getElem?_eq_getElem (by omega)] at this
          cases hc : w.cells? base (a.add (i * P.cellsOf e)) (P.cellsOf e) with
          | none => rw [hc] at this; cases this
          | some cs =>
            rw [hc] at this
            exact ⟨cs, _, _, rfl, this⟩
        have hx : ∀ i, i < len → ∃ x : k.den, fit x ∧ ∃ cs : List Value, w.cells? base (a.add (i * P.cellsOf e)) (P.cellsOf e) = some cs ∧ cs.length = k.esz ∧ ∀ (j : Nat) (c : AV), (elemCells k x)[j]? = some c → ∃ u, cs[j]? = some u ∧ Rep w (allR w) (cellCD ety c) u := by
          intro i hi
          obtain ⟨cs, d', p', h1, h2⟩ := hel i hi
          obtain ⟨x, h3, h4, h5⟩ := hf cs d' p' h2
          exact ⟨x, h3, cs, h1, h4, h5⟩
        let X : Nat → k.den := fun i => if hi : i < len then (hx i hi).choose else k.dflt
        have hX : ∀ i (hi : i < len), fit (X i) ∧ ∃ cs : List Value, w.cells? base (a.add (i * P.cellsOf e)) (P.cellsOf e) = some cs ∧ cs.length = k.esz ∧ ∀ (j : Nat) (c : AV), (elemCells k (X i))[j]? = some c → ∃ u, cs[j]? = some u ∧ Rep w (allR w) (cellCD ety c) u := by
          intro i hi
          have : X i = (hx i hi).choose := dif_pos hi
          rw [this]
          exact (hx i hi).choose_spec
        let l : List k.den := (List.range len).map X
        have hll : l.length = len := by simp [l]
        refine ⟨l, _, rfl, by rw [hll]; exact Nat.le_trans hb2 (by simpa [Go.maxLen] using hb3), fun x hx' => ?_, ?_⟩
        · obtain ⟨i, hi, rfl⟩ := List.mem_map.1 hx'
          exact (hX i (List.mem_range.1 hi)).1
        · have hn : ∀ row ∈ l.map (elemCD ety k), row.length = k.esz := by
            intro row hr
            obtain ⟨x, _, rfl⟩ := List.mem_map.1 hr
            exact elemCD_len ety k x
          -- the cell at place q of the whole
          have hq : ∀ (q : Nat) (cd : CD), (l.map (elemCD ety k)).flatten[q]? = some cd → ∃ u, w.cell? (a.add q) = some u ∧ Rep w (allR w) cd u := by
            intro q cd hqc
            have hfl := flatten_len hn
            rw [List.length_map, hll] at hfl
            have hqlt : q < len * k.esz := by rw [← hfl]; exact (List.getElem?_eq_some_iff.1 hqc).1
            have hi : q / k.esz < len := by rw [Nat.div_lt_iff_lt_mul hk]; exact hqlt
            have hj : q % k.esz < k.esz := Nat.mod_lt _ hk
            obtain ⟨_, cs, c1, c2, c3⟩ := hX (q / k.esz) hi
            have hrow : (l.map (elemCD ety k))[q / k.esz]? = some (elemCD ety k (X (q / k.esz))) := by simp [l, hi]
            have hjc : q % k.esz < (elemCells k (X (q / k.esz))).length := by rw [elemCells_len]; exact hj
            have hcell : (elemCD ety k (X (q / k.esz)))[q % k.esz]? = some (cellCD ety ((elemCells k (X (q / k.esz)))[q % k.esz])) := by
              rw [elemCD_cells, List.getElem?_map, List.getElem?_eq_getElem hjc]
              rfl
            have := flatten_get hn hrow hcell
            have hqe : q / k.esz * k.esz + q % k.esz = q := by rw [Nat.mul_comm]; exact Nat.div_add_mod q k.esz
            rw [hqe, hqc] at this
            cases this
            obtain ⟨u, u1, u2⟩ := c3 _ _ (List.getElem?_eq_getElem hjc)
            refine ⟨u, ?_, u2⟩
            obtain ⟨_, _, hcc⟩ := World.cells?_some c1
            have := hcc (q % k.esz) (by rw [hc]; exact hj)
            rw [u1] at this
            rw [← this, hc]
            rw [addr_add, hqe]
          have hspot : ∀ (q : Nat) (cd : CD), (l.map (elemCD ety k)).flatten[q]? = some cd → a = ⟨a.block, a.off, none⟩ ∧ a.block < w.heap.size := by
            intro q cd hqc
            have h0 : 0 < (l.map (elemCD ety k)).flatten.length := Nat.lt_of_le_of_lt (Nat.zero_le _) (List.getElem?_eq_some_iff.1 hqc).1
            obtain ⟨u, hu, _⟩ := hq 0 _ (List.getElem?_eq_getElem h0)
            rw [show a.add 0 = a from rfl] at hu
            have h1 := World.cell?_spot hu
            have h2 := World.block_lt_of_cell? _ _ hu
            obtain ⟨b, o, s⟩ := a
            simp only at h1
            subst h1
            exact ⟨rfl, h2⟩
          show Rep w (allR w) (.sl (ety k) k.esz (l.map (elemCD ety k))) _
          have hlm : (l.map (elemCD ety k)).length = len := by simp [hll]
          rw [← hlm]
          refine .sl _ _ _ _ cap (fun q => (w.cell? (a.add q)).getD undef) (by rw [hlm]; exact hb2) hn (fun q cd hqc => ?_) (fun q cd hqc => ?_)
          · obtain ⟨h1, h2⟩ := hspot q cd hqc
            obtain ⟨u, hu, _⟩ := hq q cd hqc
            refine ⟨a.block, a.off, by rw [← h1], h2, ?_⟩
            have : a.add q = ⟨a.block, a.off + q, none⟩ := by rw [h1]; exact add_plain _ _ _
            rw [← this, hu]
            rfl
          · obtain ⟨u, hu, hr⟩ := hq q cd hqc
            rw [hu]
            exact hr
    · cases h
  all_goals first
    | (rename_i heq; cases heq; done)
    | (rename_i heq _; cases heq; done)
    | (cases h; done)
theorem agg_of_okWide {r : Reach} {b0 : Nat} {t : TypeId} {fs : Array Field} {v : Value} (ht : P.underlying t = some (.struct fs)) (h : Value.okWide P w r b0 t v) : ∃ cs : Array Value, v = .agg cs := by
  unfold Value.okWide at h
  rw [ht] at h
  obtain ⟨cs, h1, _⟩ := h
  exact ⟨cs, h1⟩
theorem take1_drop {cs : List Value} {o : Nat} {v : Value} (h : (cs.drop o).take 1 = [v]) : cs[o]? = some v := by
  have := congrArg (·[0]?) h
  simpa using this
/-- A struct of a kind, handed by value. -/
theorem entry_st {k : K} {fit : k.den → Prop} {t : TypeId} {fs : Array Field} {r : Reach} {b0 : Nat} {v : Value} {d : DataW H} {ps : List MemPlace} (ht : P.underlying t = some (.struct fs)) (hf : ∀ fuel, CarF enc P w base sp held ety k fit t fuel) (hv : Value.okWide P w r b0 t v)
    (h : DataW.Trod enc P w base sp held t v d ps) : ∃ x : k.den, fit x ∧ RelV (ctx0 ety w (allR w)) (.agg (elemCells k x)) v := by
  obtain ⟨cs, rfl⟩ := agg_of_okWide ht hv
  obtain ⟨fuel, h⟩ := h
  obtain ⟨x, h1, h2, h3⟩ := hf fuel cs.toList d ps h
  refine ⟨x, h1, .agg _ _ (by rw [elemCells_len, ← h2]; simp) fun j c u hc hu => ?_⟩
  obtain ⟨u', e1, e2⟩ := h3 j c hc
  rw [Array.getElem?_toList] at e1
  have : u' = u := Option.some.inj (e1.symm.trans hu)
  subst this
  exact rel_of_rep (X := ctx0 ety w (allR w)) (elemCells_plain k x c (List.mem_of_getElem? hc)) e2
theorem entry_sl {k : K} {fit : k.den → Prop} {t e : TypeId} {v : Value} {d : DataW H} {ps : List MemPlace} (hnot : ∀ cs, v ≠ .agg cs) (hf : ∀ fuel, SlF enc P w base sp held ety k fit t fuel)
    (h : DataW.Trod enc P w base sp held t v d ps) : ∃ l : List k.den, l.length ≤ mxl ∧ (∀ x ∈ l, fit x) ∧ RelV (ctx0 ety w (allR w)) (.dat ⟨k, l⟩) v := by
  obtain ⟨fuel, h⟩ := h
  obtain ⟨l, u, h1, h2, h3, h4⟩ := hf fuel _ d ps h
  have : v = u := by
    cases v <;> first | (simp [Value.cells] at h1; exact h1) | exact absurd rfl (hnot _)
  subst this
  exact ⟨l, h2, h3, .dat _ _ h4⟩
abbrev fitS (s : Str) : Prop := s.length ≤ mxl
abbrev fitAnsw (a : Answ) : Prop := i64ok a.code ∧ fitS a.text
theorem fieldAt {t : TypeId} {fs : Array Field} (ht : P.underlying t = some (.struct fs)) {fuel : Nat} {cs : List Value} {d : DataW H} {ps : List MemPlace} (h : DataW.trod enc P w base sp held (fuel + 1) t cs = some (d, ps)) (i : Nat) {f : Field} (hi : fs[i]? = some f) :
    ∃ d' p', DataW.trod enc P w base sp held fuel f.type ((cs.drop f.offset).take (P.cellsOf f.type)) = some (d', p') :=
  (trod_struct ht h).2 f (by simpa using Array.mem_of_getElem? hi)
theorem str_at {t : TypeId} {o : Nat} {fuel : Nat} {cs : List Value} (ht : P.underlying t = some .string) (hc : P.cellsOf t = 1) (h : ∃ d' p', DataW.trod enc P w base sp held fuel t ((cs.drop o).take (P.cellsOf t)) = some (d', p')) : ∃ l : Str, cs[o]? = some (sv l) ∧ fitS l := by
  obtain ⟨d', p', h⟩ := h
  rw [hc] at h
  obtain ⟨l, h1, h2⟩ := trod_str ht h
  exact ⟨l, take1_drop h1, h2⟩
theorem int_at {t : TypeId} {o : Nat} {fuel : Nat} {cs : List Value} (ht : P.underlying t = some (.int .i64)) (hc : P.cellsOf t = 1) (h : ∃ d' p', DataW.trod enc P w base sp held fuel t ((cs.drop o).take (P.cellsOf t)) = some (d', p')) : ∃ n : Int, cs[o]? = some (.int .i64 n) ∧ i64ok n := by
  obtain ⟨d', p', h⟩ := h
  rw [hc] at h
  obtain ⟨l, h1, h2⟩ := trod_int ht h
  exact ⟨l, take1_drop h1, h2⟩
theorem bool_at {t : TypeId} {o : Nat} {fuel : Nat} {cs : List Value} (ht : P.underlying t = some .bool) (hc : P.cellsOf t = 1) (h : ∃ d' p', DataW.trod enc P w base sp held fuel t ((cs.drop o).take (P.cellsOf t)) = some (d', p')) : ∃ b : Bool, cs[o]? = some (.bool b) := by
  obtain ⟨d', p', h⟩ := h
  rw [hc] at h
  obtain ⟨l, h1⟩ := trod_bool ht h
  exact ⟨l, take1_drop h1⟩
theorem sl_at {k : K} {fit : k.den → Prop} {t : TypeId} {o : Nat} {fuel : Nat} {cs : List Value} (hs : SlF enc P w base sp held ety k fit t fuel) (hc : P.cellsOf t = 1) (h : ∃ d' p', DataW.trod enc P w base sp held fuel t ((cs.drop o).take (P.cellsOf t)) = some (d', p')) :
    ∃ (l : List k.den) (v : Value), cs[o]? = some v ∧ l.length ≤ mxl ∧ (∀ x ∈ l, fit x) ∧ Rep w (allR w) (dataCD ety ⟨k, l⟩) v := by
  obtain ⟨d', p', h⟩ := h
  rw [hc] at h
  obtain ⟨l, v, h1, h2, h3, h4⟩ := hs _ _ _ h
  exact ⟨l, v, take1_drop h1, h2, h3, h4⟩
theorem carF_zero {k : K} {fit : k.den → Prop} {t : TypeId} : CarF enc P w base sp held ety k fit t 0 := fun cs d ps h => by simp [DataW.trod] at h
theorem slF_zero {k : K} {fit : k.den → Prop} {t : TypeId} : SlF enc P w base sp held ety k fit t 0 := fun cs d ps h => by simp [DataW.trod] at h
theorem slF_all {k : K} {fit : k.den → Prop} {t e : TypeId} (ht : P.underlying t = some (.slice e)) (hc : P.cellsOf e = k.esz) (hk : 0 < k.esz) (hf : ∀ fuel, CarF enc P w base sp held ety k fit e fuel) : ∀ fuel, SlF enc P w base sp held ety k fit t fuel
  | 0 => slF_zero
  | n + 1 => slF_of ht hc hk (hf n)
theorem carF_str {t : TypeId} (ht : P.underlying t = some .string) (fuel : Nat) : CarF enc P w base sp held ety .str fitS t fuel := fun cs d ps h => by
  obtain ⟨l, rfl, h2⟩ := trod_str ht h
  exact ⟨l, h2, rfl, fun j c hj => by match j, hj with | 0, hj => cases hj; exact ⟨_, rfl, .sc _⟩⟩
theorem carF_int {t : TypeId} (ht : P.underlying t = some (.int .i64)) (fuel : Nat) : CarF enc P w base sp held ety .int i64ok t fuel := fun cs d ps h => by
  obtain ⟨l, rfl, h2⟩ := trod_int ht h
  exact ⟨l, h2, rfl, fun j c hj => by match j, hj with | 0, hj => cases hj; exact ⟨_, rfl, .sc _⟩⟩
/-- An answer. -/
theorem carF_answ {t t0 t1 : TypeId} {fs : Array Field} (ht : P.underlying t = some (.struct fs)) (hf : fs.map (fun f => (f.type, f.offset)) = #[(t0, 0), (t1, 1)]) (hc : P.cellsOf t = 2) (h0 : P.underlying t0 = some (.int .i64)) (h1 : P.underlying t1 = some .string)
    (c0 : P.cellsOf t0 = 1) (c1 : P.cellsOf t1 = 1) : ∀ fuel, CarF enc P w base sp held ety .answ fitAnsw t fuel
  | 0 => carF_zero
  | fuel + 1 => fun cs d ps h => by
    have hl := (trod_struct ht h).1
    have hget : ∀ (i : Nat) (x : TypeId × Nat), (#[(t0, 0), (t1, 1)] : Array (TypeId × Nat))[i]? = some x → ∃ d' p', DataW.trod enc P w base sp held fuel x.1 ((cs.drop x.2).take (P.cellsOf x.1)) = some (d', p') := by
      intro i x hx
      rw [← hf, Array.getElem?_map] at hx
      cases hfi : fs[i]? with
      | none => rw [hfi] at hx; cases hx
      | some f => rw [hfi] at hx; cases hx; exact fieldAt ht h i hfi
    obtain ⟨n, n1, n2⟩ := int_at h0 c0 (hget 0 (t0, 0) rfl)
    obtain ⟨l, l1, l2⟩ := str_at h1 c1 (hget 1 (t1, 1) rfl)
    refine ⟨⟨n, l⟩, ⟨n2, l2⟩, by rw [hl, hc]; rfl, fun j c hj => ?_⟩
    match j, hj with
    | 0, hj => cases hj; exact ⟨_, n1, .sc _⟩
    | 1, hj => cases hj; exact ⟨_, l1, .sc _⟩
/-- The fields of a struct, read one by one. -/
theorem fields_at {t : TypeId} {fs : Array Field} {L : Array (TypeId × Nat)} (ht : P.underlying t = some (.struct fs)) (hf : fs.map (fun f => (f.type, f.offset)) = L) {fuel : Nat} {cs : List Value} {d : DataW H} {ps : List MemPlace}
    (h : DataW.trod enc P w base sp held (fuel + 1) t cs = some (d, ps)) (i : Nat) (x : TypeId × Nat) (hx : L[i]? = some x) : ∃ d' p', DataW.trod enc P w base sp held fuel x.1 ((cs.drop x.2).take (P.cellsOf x.1)) = some (d', p') := by
  rw [← hf, Array.getElem?_map] at hx
  cases hfi : fs[i]? with
  | none => rw [hfi] at hx; cases hx
  | some f => rw [hfi] at hx; cases hx; exact fieldAt ht h i hfi
abbrev fitSS (l : List Str) : Prop := l.length ≤ mxl ∧ ∀ x ∈ l, fitS x
abbrev fitRu (r : Rule) : Prop := i64ok r.space ∧ fitS r.name ∧ fitSS r.attrs
abbrev fitRR (l : List Rule) : Prop := l.length ≤ mxl ∧ ∀ x ∈ l, fitRu x
abbrev fitCf (c : Cfg) : Prop := fitRR c.allow ∧ fitRR c.remove ∧ fitRR c.unwrap ∧ fitSS c.attrs ∧ fitSS c.drop
/-- A rule. -/
theorem carF_rule {t t0 t1 t2 : TypeId} {fs : Array Field} (ht : P.underlying t = some (.struct fs)) (hf : fs.map (fun f => (f.type, f.offset)) = #[(t0, 0), (t1, 1), (t2, 2)]) (hc : P.cellsOf t = 3) (h0 : P.underlying t0 = some (.int .i64)) (h1 : P.underlying t1 = some .string)
    (h2 : ∀ fuel, SlF enc P w base sp held ety .str fitS t2 fuel) (c0 : P.cellsOf t0 = 1) (c1 : P.cellsOf t1 = 1) (c2 : P.cellsOf t2 = 1) : ∀ fuel, CarF enc P w base sp held ety .rule fitRu t fuel
  | 0 => carF_zero
  | fuel + 1 => fun cs d ps h => by
    have hl := (trod_struct ht h).1
    have hget := fields_at ht hf h
    obtain ⟨n, n1, n2⟩ := int_at h0 c0 (hget 0 (t0, 0) rfl)
    obtain ⟨l, l1, l2⟩ := str_at h1 c1 (hget 1 (t1, 1) rfl)
    obtain ⟨a, v, a1, a2, a3, a4⟩ := sl_at (h2 fuel) c2 (hget 2 (t2, 2) rfl)
    refine ⟨⟨n, l, a⟩, ⟨n2, l2, a2, a3⟩, by rw [hl, hc]; rfl, fun j c hj => ?_⟩
    match j, hj with
    | 0, hj => cases hj; exact ⟨_, n1, .sc _⟩
    | 1, hj => cases hj; exact ⟨_, l1, .sc _⟩
    | 2, hj => cases hj; exact ⟨_, a1, a4⟩
/-- A configuration. -/
theorem carF_cfg {t tb tr ts : TypeId} {fs : Array Field} (ht : P.underlying t = some (.struct fs)) (hf : fs.map (fun f => (f.type, f.offset)) = #[(tb, 0), (tb, 1), (tr, 2), (tr, 3), (tr, 4), (ts, 5), (ts, 6), (tb, 7), (tb, 8)]) (hc : P.cellsOf t = 9) (hb : P.underlying tb = some .bool)
    (hr : ∀ fuel, SlF enc P w base sp held ety .rule fitRu tr fuel) (hs : ∀ fuel, SlF enc P w base sp held ety .str fitS ts fuel) (c0 : P.cellsOf tb = 1) (c1 : P.cellsOf tr = 1) (c2 : P.cellsOf ts = 1) : ∀ fuel, CarF enc P w base sp held ety .cfg fitCf t fuel
  | 0 => carF_zero
  | fuel + 1 => fun cs d ps h => by
    have hl := (trod_struct ht h).1
    have hget := fields_at ht hf h
    obtain ⟨b0, e0⟩ := bool_at hb c0 (hget 0 (tb, 0) rfl)
    obtain ⟨b1, e1⟩ := bool_at hb c0 (hget 1 (tb, 1) rfl)
    obtain ⟨r2, v2, e2, f2, g2, k2⟩ := sl_at (hr fuel) c1 (hget 2 (tr, 2) rfl)
    obtain ⟨r3, v3, e3, f3, g3, k3⟩ := sl_at (hr fuel) c1 (hget 3 (tr, 3) rfl)
    obtain ⟨r4, v4, e4, f4, g4, k4⟩ := sl_at (hr fuel) c1 (hget 4 (tr, 4) rfl)
    obtain ⟨s5, v5, e5, f5, g5, k5⟩ := sl_at (hs fuel) c2 (hget 5 (ts, 5) rfl)
    obtain ⟨s6, v6, e6, f6, g6, k6⟩ := sl_at (hs fuel) c2 (hget 6 (ts, 6) rfl)
    obtain ⟨b7, e7⟩ := bool_at hb c0 (hget 7 (tb, 7) rfl)
    obtain ⟨b8, e8⟩ := bool_at hb c0 (hget 8 (tb, 8) rfl)
    refine ⟨⟨b0, b1, r2, r3, r4, s5, s6, b7, b8⟩, ⟨⟨f2, g2⟩, ⟨f3, g3⟩, ⟨f4, g4⟩, ⟨f5, g5⟩, ⟨f6, g6⟩⟩, by rw [hl, hc]; rfl, fun j c hj => ?_⟩
    match j, hj with
    | 0, hj => cases hj; exact ⟨_, e0, .sc _⟩
    | 1, hj => cases hj; exact ⟨_, e1, .sc _⟩
    | 2, hj => cases hj; exact ⟨_, e2, k2⟩
    | 3, hj => cases hj; exact ⟨_, e3, k3⟩
    | 4, hj => cases hj; exact ⟨_, e4, k4⟩
    | 5, hj => cases hj; exact ⟨_, e5, k5⟩
    | 6, hj => cases hj; exact ⟨_, e6, k6⟩
    | 7, hj => cases hj; exact ⟨_, e7, .sc _⟩
    | 8, hj => cases hj; exact ⟨_, e8, .sc _⟩
abbrev fitII (l : List Int) : Prop := l.length ≤ mxl ∧ ∀ x ∈ l, i64ok x
abbrev fitKa (c : Kall) : Prop := fitII c.path ∧ fitS c.name ∧ fitS c.text
/-- A call. -/
theorem carF_call {t ti tp ts : TypeId} {fs : Array Field} (ht : P.underlying t = some (.struct fs)) (hf : fs.map (fun f => (f.type, f.offset)) = #[(ti, 0), (ti, 1), (ti, 2), (tp, 3), (ts, 4), (ts, 5)]) (hc : P.cellsOf t = 6) (h0 : P.underlying ti = some (.int .i64)) (h1 : P.underlying ts = some .string)
    (h2 : ∀ fuel, SlF enc P w base sp held ety .int i64ok tp fuel) (c0 : P.cellsOf ti = 1) (c1 : P.cellsOf ts = 1) (c2 : P.cellsOf tp = 1) : ∀ fuel, CarF enc P w base sp held ety .call fitKa t fuel
  | 0 => carF_zero
  | fuel + 1 => fun cs d ps h => by
    have hl := (trod_struct ht h).1
    have hget := fields_at ht hf h
    obtain ⟨n0, e0, f0⟩ := int_at h0 c0 (hget 0 (ti, 0) rfl)
    obtain ⟨n1, e1, f1⟩ := int_at h0 c0 (hget 1 (ti, 1) rfl)
    obtain ⟨n2, e2, f2⟩ := int_at h0 c0 (hget 2 (ti, 2) rfl)
    obtain ⟨a, v, a1, a2, a3, a4⟩ := sl_at (h2 fuel) c2 (hget 3 (tp, 3) rfl)
    obtain ⟨l4, e4, f4⟩ := str_at h1 c1 (hget 4 (ts, 4) rfl)
    obtain ⟨l5, e5, f5⟩ := str_at h1 c1 (hget 5 (ts, 5) rfl)
    refine ⟨⟨n0, n1, n2, a, l4, l5⟩, ⟨⟨a2, a3⟩, f4, f5⟩, by rw [hl, hc]; rfl, fun j c hj => ?_⟩
    match j, hj with
    | 0, hj => cases hj; exact ⟨_, e0, .sc _⟩
    | 1, hj => cases hj; exact ⟨_, e1, .sc _⟩
    | 2, hj => cases hj; exact ⟨_, e2, .sc _⟩
    | 3, hj => cases hj; exact ⟨_, a1, a4⟩
    | 4, hj => cases hj; exact ⟨_, e4, .sc _⟩
    | 5, hj => cases hj; exact ⟨_, e5, .sc _⟩
abbrev fitA2 (a : Attr) : Prop := fitS a.name ∧ fitS a.value
mutual
def fitNo : Node → Prop
  | .mk _ _ n t a ks => fitS n ∧ fitS t ∧ (a.length ≤ mxl ∧ ∀ x ∈ a, fitA2 x) ∧ ks.length ≤ mxl ∧ fitNos ks
def fitNos : List Node → Prop
  | [] => True
  | x :: r => fitNo x ∧ fitNos r
end
theorem fitNos_of {l : List Node} (h : ∀ x ∈ l, fitNo x) : fitNos l := by
  induction l with
  | nil => exact trivial
  | cons x r ih => exact ⟨h x List.mem_cons_self, ih fun y hy => h y (List.mem_cons_of_mem _ hy)⟩
/-- An attribute. -/
theorem carF_attr {t ts : TypeId} {fs : Array Field} (ht : P.underlying t = some (.struct fs)) (hf : fs.map (fun f => (f.type, f.offset)) = #[(ts, 0), (ts, 1)]) (hc : P.cellsOf t = 2) (h1 : P.underlying ts = some .string) (c1 : P.cellsOf ts = 1) : ∀ fuel, CarF enc P w base sp held ety .attr fitA2 t fuel
  | 0 => carF_zero
  | fuel + 1 => fun cs d ps h => by
    have hl := (trod_struct ht h).1
    have hget := fields_at ht hf h
    obtain ⟨l0, e0, f0⟩ := str_at h1 c1 (hget 0 (ts, 0) rfl)
    obtain ⟨l1, e1, f1⟩ := str_at h1 c1 (hget 1 (ts, 1) rfl)
    refine ⟨⟨l0, l1⟩, ⟨f0, f1⟩, by rw [hl, hc]; rfl, fun j c hj => ?_⟩
    match j, hj with
    | 0, hj => cases hj; exact ⟨_, e0, .sc _⟩
    | 1, hj => cases hj; exact ⟨_, e1, .sc _⟩
/-- A node, and a list of nodes. -/
theorem carF_node2 {t ti ts ta tk : TypeId} {fs : Array Field} (ht : P.underlying t = some (.struct fs)) (hf : fs.map (fun f => (f.type, f.offset)) = #[(ti, 0), (ti, 1), (ts, 2), (ts, 3), (ta, 4), (tk, 5)]) (hc : P.cellsOf t = 6) (h0 : P.underlying ti = some (.int .i64)) (h1 : P.underlying ts = some .string)
    (h2 : ∀ fuel, SlF enc P w base sp held ety .attr fitA2 ta fuel) (hk : P.underlying tk = some (.slice t)) (c0 : P.cellsOf ti = 1) (c1 : P.cellsOf ts = 1) (c2 : P.cellsOf ta = 1) (c3 : P.cellsOf tk = 1) : ∀ fuel, CarF enc P w base sp held ety .node fitNo t fuel ∧ SlF enc P w base sp held ety .node fitNo tk fuel
  | 0 => ⟨carF_zero, slF_zero⟩
  | fuel + 1 => by
    have ih := carF_node2 ht hf hc h0 h1 h2 hk c0 c1 c2 c3 fuel
    refine ⟨fun cs d ps h => ?_, slF_of hk (by rw [hc]; rfl) (by decide) ih.1⟩
    have hl := (trod_struct ht h).1
    have hget := fields_at ht hf h
    obtain ⟨n0, e0, f0⟩ := int_at h0 c0 (hget 0 (ti, 0) rfl)
    obtain ⟨n1, e1, f1⟩ := int_at h0 c0 (hget 1 (ti, 1) rfl)
    obtain ⟨l2, e2, f2⟩ := str_at h1 c1 (hget 2 (ts, 2) rfl)
    obtain ⟨l3, e3, f3⟩ := str_at h1 c1 (hget 3 (ts, 3) rfl)
    obtain ⟨a4, v4, e4, f4, g4, k4⟩ := sl_at (h2 fuel) c2 (hget 4 (ta, 4) rfl)
    obtain ⟨a5, v5, e5, f5, g5, k5⟩ := sl_at ih.2 c3 (hget 5 (tk, 5) rfl)
    refine ⟨.mk n0 n1 l2 l3 a4 a5, ?_, by rw [hl, hc]; rfl, fun j c hj => ?_⟩
    · rw [fitNo]; exact ⟨f2, f3, ⟨f4, g4⟩, f5, fitNos_of g5⟩
    match j, hj with
    | 0, hj => cases hj; exact ⟨_, e0, .sc _⟩
    | 1, hj => cases hj; exact ⟨_, e1, .sc _⟩
    | 2, hj => cases hj; exact ⟨_, e2, .sc _⟩
    | 3, hj => cases hj; exact ⟨_, e3, .sc _⟩
    | 4, hj => cases hj; exact ⟨_, e4, k4⟩
    | 5, hj => cases hj; exact ⟨_, e5, k5⟩
abbrev fitDc (d : Docu) : Prop := fitS d.name ∧ d.kids.length ≤ mxl ∧ ∀ x ∈ d.kids, fitNo x
/-- A document. -/
theorem carF_doc {t ts tk : TypeId} {fs : Array Field} (ht : P.underlying t = some (.struct fs)) (hf : fs.map (fun f => (f.type, f.offset)) = #[(ts, 0), (tk, 1)]) (hc : P.cellsOf t = 2) (h1 : P.underlying ts = some .string)
    (h2 : ∀ fuel, SlF enc P w base sp held ety .node fitNo tk fuel) (c1 : P.cellsOf ts = 1) (c2 : P.cellsOf tk = 1) : ∀ fuel, CarF enc P w base sp held ety .doc fitDc t fuel
  | 0 => carF_zero
  | fuel + 1 => fun cs d ps h => by
    have hl := (trod_struct ht h).1
    have hget := fields_at ht hf h
    obtain ⟨l0, e0, f0⟩ := str_at h1 c1 (hget 0 (ts, 0) rfl)
    obtain ⟨a, v, e1, f1, g1, k1⟩ := sl_at (h2 fuel) c2 (hget 1 (tk, 1) rfl)
    refine ⟨⟨l0, a⟩, ⟨f0, f1, g1⟩, by rw [hl, hc]; rfl, fun j c hj => ?_⟩
    match j, hj with
    | 0, hj => cases hj; exact ⟨_, e0, .sc _⟩
    | 1, hj => cases hj; exact ⟨_, e1, k1⟩
/-- A struct whose cells are known, handed by value. -/
theorem entry_cells {α : Type} {cells : α → List AV} {fit : α → Prop} {n : Nat} {t : TypeId} {fs : Array Field} {r : Reach} {b0 : Nat} {v : Value} {d : DataW H} {ps : List MemPlace} (ht : P.underlying t = some (.struct fs)) (hn : ∀ x, (cells x).length = n)
    (hf : ∀ fuel cs d ps, DataW.trod enc P w base sp held fuel t cs = some (d, ps) → ∃ x : α, fit x ∧ cs.length = n ∧ ∀ (j : Nat) (c : AV), (cells x)[j]? = some c → ∃ u, cs[j]? = some u ∧ RelV (ctx0 ety w (allR w)) c u)
    (hv : Value.okWide P w r b0 t v) (h : DataW.Trod enc P w base sp held t v d ps) : ∃ x : α, fit x ∧ RelV (ctx0 ety w (allR w)) (.agg (cells x)) v := by
  obtain ⟨cs, rfl⟩ := agg_of_okWide ht hv
  obtain ⟨fuel, h⟩ := h
  obtain ⟨x, h1, h2, h3⟩ := hf fuel cs.toList d ps h
  refine ⟨x, h1, .agg _ _ (by rw [hn, ← h2]; simp) fun j c u hc hu => ?_⟩
  obtain ⟨u', e1, e2⟩ := h3 j c hc
  rw [Array.getElem?_toList] at e1
  have : u' = u := Option.some.inj (e1.symm.trans hu)
  subst this
  exact e2
def houseCells (x : List Docu × List Cfg) : List AV := [.dat ⟨.doc, x.1⟩, .dat ⟨.cfg, x.2⟩]
abbrev fitHo (x : List Docu × List Cfg) : Prop := (x.1.length ≤ mxl ∧ ∀ y ∈ x.1, fitDc y) ∧ x.2.length ≤ mxl ∧ ∀ y ∈ x.2, fitCf y
theorem house_f {t td tc : TypeId} {fs : Array Field} (ht : P.underlying t = some (.struct fs)) (hf : fs.map (fun f => (f.type, f.offset)) = #[(td, 0), (tc, 1)]) (hc : P.cellsOf t = 2) (hd : ∀ fuel, SlF enc P w base sp held ety .doc fitDc td fuel) (hcf : ∀ fuel, SlF enc P w base sp held ety .cfg fitCf tc fuel)
    (c1 : P.cellsOf td = 1) (c2 : P.cellsOf tc = 1) : ∀ fuel cs d ps, DataW.trod enc P w base sp held fuel t cs = some (d, ps) → ∃ x : List Docu × List Cfg, fitHo x ∧ cs.length = 2 ∧ ∀ (j : Nat) (c : AV), (houseCells x)[j]? = some c → ∃ u, cs[j]? = some u ∧ RelV (ctx0 ety w (allR w)) c u
  | 0, cs, d, ps, h => by simp [DataW.trod] at h
  | fuel + 1, cs, d, ps, h => by
    have hl := (trod_struct ht h).1
    have hget := fields_at ht hf h
    obtain ⟨a0, v0, e0, f0, g0, k0⟩ := sl_at (hd fuel) c1 (hget 0 (td, 0) rfl)
    obtain ⟨a1, v1, e1, f1, g1, k1⟩ := sl_at (hcf fuel) c2 (hget 1 (tc, 1) rfl)
    refine ⟨(a0, a1), ⟨⟨f0, g0⟩, f1, g1⟩, by rw [hl, hc], fun j c hj => ?_⟩
    match j, hj with
    | 0, hj => cases hj; exact ⟨_, e0, .dat _ _ k0⟩
    | 1, hj => cases hj; exact ⟨_, e1, .dat _ _ k1⟩
/-- The end of a law's row. -/
theorem law_post {s : ChangeSpec} {f : Func} {tb : TypeId} {W W' : World} {args : Array Value} {ds gs : List (DataW H)} {before : List MemPlace} (hl : laidOutB P = true) (hvars : s.vars = []) (hres : f.resultTypes = #[tb]) (htb : P.underlying tb = some .bool)
    (hrd : ∀ t ∈ f.params.toList, P.readableRec t = true ∧ t < P.types.size)
    (hfn : s.fn H (ds ++ gs) = { results := [.lit (.bool true)], args := ds }) (hW : DataW.Whole enc P f.params.toList s.vars false W args.toList ds gs before) (hk : Keep (fun _ => False) W W') :
    s.post enc P f false true false false W args (.bool true) W' := by
  have hW0 := hW
  obtain ⟨p, q, hA, hV, rfl, hfz, hnd⟩ := hW
  rw [hvars] at hV
  obtain ⟨rfl, rfl⟩ := trodVars_none hV
  have hargs : DataW.TrodAll enc P W' 0 (fun b => decide (b < W.heap.size)) true f.params.toList args.toList ds p := by
    have key : ∀ (ts : List TypeId) (vs : List Value) (ds : List (DataW H)) (p : List MemPlace), (∀ t ∈ ts, P.readableRec t = true ∧ t < P.types.size) → DataW.TrodAll enc P W 0 (fun _ => true) true ts vs ds p → DataW.TrodAll enc P W' 0 (fun b => decide (b < W.heap.size)) true ts vs ds p := by
      intro ts
      induction ts with
      | nil => intro vs ds p _ h; cases vs <;> cases ds <;> first | exact h | exact h.elim
      | cons t ts ih =>
        intro vs ds p ht h
        have hlt := DataW.TrodAll.lt h
        cases vs with
        | nil => exact h.elim
        | cons v vs =>
          cases ds with
          | nil => exact h.elim
          | cons d ds =>
            obtain ⟨p1, p2, h1, h2, rfl⟩ := h
            have := ht t List.mem_cons_self
            exact ⟨p1, p2, Below.trod hl this.1 this.2 h1 hk.below (fun x hx => hlt x (List.mem_append_left _ hx)), ih vs ds p2 (fun t h => ht t (List.mem_cons_of_mem _ h)) h2, rfl⟩
    exact key _ _ _ _ hrd hA
  refine ⟨ds, [], p ++ [], [], p, [], hW0, ?_, ?_, ?_, hk.keptBut _, fun h => by cases h⟩
  · rw [hfn, hres]
    exact trodAll_mk1 (shut_bool htb true)
  · rw [hfn]
    exact hargs
  · rw [hvars, hfn]
    rfl
end
end Go.Ab
/- The engine, part Ao: contracts that are not walked by the engine (Go's library): how they become rows of the table. -/
namespace Go.Ab
open Go Go.RowKit
theorem argsA {X : Ctx} {args : List AV} {vs : Array Value} {F : Nat → Prop} (h : RelA X (.agg args) (.agg vs) F) : args.length = vs.size ∧ ∀ (j : Nat) (c : AV) (u : Value), args[j]? = some c → vs[j]? = some u → ∃ F', RelA X c u F' := by
  cases h with
  | pl c v F h hF =>
    cases h with
    | agg cs vs hl h => exact ⟨hl, fun j c u hj hu => ⟨_, .pl c u (fun _ => False) (h j c u hj hu) fun _ h => h⟩⟩
  | agg cs vs fs F hl h hd hF => exact ⟨hl, fun j c u hj hu => ⟨_, h j c u hj hu⟩⟩
theorem args2 {X : Ctx} {a b : AV} {vs : Array Value} {F : Nat → Prop} (h : RelA X (.agg [a, b]) (.agg vs) F) : ∃ u v, vs = #[u, v] ∧ (∃ F', RelA X a u F') ∧ ∃ F', RelA X b v F' := by
  obtain ⟨hl, hg⟩ := argsA h
  obtain ⟨l⟩ := vs
  match l, hl with
  | [u, v], _ => exact ⟨u, v, rfl, hg 0 a u rfl rfl, hg 1 b v rfl rfl⟩
theorem args1 {X : Ctx} {a : AV} {vs : Array Value} {F : Nat → Prop} (h : RelA X (.agg [a]) (.agg vs) F) : ∃ u, vs = #[u] ∧ ∃ F', RelA X a u F' := by
  obtain ⟨hl, hg⟩ := argsA h
  obtain ⟨l⟩ := vs
  match l, hl with
  | [u], _ => exact ⟨u, rfl, hg 0 a u rfl rfl⟩
theorem args3 {X : Ctx} {a b c : AV} {vs : Array Value} {F : Nat → Prop} (h : RelA X (.agg [a, b, c]) (.agg vs) F) : ∃ u v t, vs = #[u, v, t] ∧ (∃ F', RelA X a u F') ∧ (∃ F', RelA X b v F') ∧ ∃ F', RelA X c t F' := by
  obtain ⟨hl, hg⟩ := argsA h
  obtain ⟨l⟩ := vs
  match l, hl with
  | [u, v, t], _ => exact ⟨u, v, t, rfl, hg 0 a u rfl rfl, hg 1 b v rfl rfl, hg 2 c t rfl rfl⟩
theorem relA_str {X : Ctx} {l : Str} {v : Value} {F : Nat → Prop} (h : RelA X (.str l) v F) : v = sv l := by cases h with | pl _ _ _ h _ => exact h.str_inv
theorem relA_int {X : Ctx} {k n} {v : Value} {F : Nat → Prop} (h : RelA X (.int k n) v F) : v = .int k n := by cases h with | pl _ _ _ h _ => exact h.int_inv
theorem relA_u8 {X : Ctx} {b} {v : Value} {F : Nat → Prop} (h : RelA X (.u8 b) v F) : v = .int .u8 (b.toNat : Nat) := by cases h with | pl _ _ _ h _ => exact h.u8_inv
theorem relA_dat {X : Ctx} {d : Data} {v : Value} {F : Nat → Prop} (h : RelA X (.dat d) v F) : Rep X.w X.R (dataCD X.ety d) v := by
  cases h with
  | pl _ _ _ h _ => cases h with | dat d v h => exact h
/-- A slice of strings, as memory. -/
theorem rep_strs {w : World} {R : Nat → Prop} {ety : K → TypeId} {l : List Str} {v : Value} (h : Rep w R (dataCD ety ⟨.str, l⟩) v) :
    ∃ A cap, v = .slice A l.length cap ∧ l.length ≤ cap ∧ (l ≠ [] → ∃ b o, A = some ⟨b, o, none⟩ ∧ R b ∧ ∀ (j : Nat) (s : Str), l[j]? = some s → w.cell? ⟨b, o + j, none⟩ = some (sv s)) := by
  have e : dataCD ety ⟨.str, l⟩ = .sl (ety .str) 1 (l.map fun s => [CD.sc (sv s)]) := rfl
  rw [e] at h
  have hfl0 : ∀ l : List Str, (l.map fun s => [CD.sc (sv s)]).flatten = l.map fun s => CD.sc (sv s) := fun l => by
    clear e h
    induction l with
    | nil => rfl
    | cons x l ih => simp only [List.map_cons, List.flatten_cons, ih, List.singleton_append]
  have hfl := hfl0 l
  cases h with
  | sl e n els A cap us hcap hn hc hr =>
    rw [List.length_map] at hcap ⊢
    refine ⟨A, cap, rfl, hcap, fun hne => ?_⟩
    rw [hfl] at hc hr
    have h0 : (l.map fun s => CD.sc (sv s))[0]? = some (CD.sc (sv (l.head hne))) := by cases l with | nil => exact absurd rfl hne | cons x l => rfl
    obtain ⟨b, o, hA, hR, _⟩ := hc 0 _ h0
    refine ⟨b, o, hA, hR, fun j s hj => ?_⟩
    have hj' : (l.map fun s => CD.sc (sv s))[j]? = some (CD.sc (sv s)) := by rw [List.getElem?_map, hj]; rfl
    obtain ⟨b', o', hA', _, hcell⟩ := hc j _ hj'
    rw [hA] at hA'
    cases hA'
    have hu := hr j _ hj'
    rw [hcell]
    generalize us j = u at hu
    cases hu
    rfl
theorem keep_of_below {w w' : World} {S : Nat → Prop} (h : Below w.heap.size w w') : Keep S w w' := ⟨h.os, h.tape, h.output, h.size, fun b hb _ => h.block b hb⟩
/-- The end of a contract that answers a plain value and makes at most new memory. -/
theorem fin_plain {P : Program} {ety : K → TypeId} {w w' : World} {R F : Nat → Prop} {e : Ending} {r : AV} {v : Value} {modes : List Md} {vs : List Value} (hio : inouts modes vs = []) (hR : ∀ b, R b → b < w.heap.size) (he : e = .returned v) (hb : Below w.heap.size w w') (hr : ∀ X, RelV X r v) :
    ∃ (v : Value) (R' F' : Nat → Prop), e = .returned v ∧ (∀ b, R b → R' b) ∧ (∀ b, R' b → b < w'.heap.size) ∧ (∀ b, R' b → R b ∨ w.heap.size ≤ b ∨ F b) ∧
      RelA (ctx0 ety w' R') (.agg (r :: [])) (.agg (v :: inouts modes vs).toArray) F' ∧ (∀ b, F' b → ¬ R' b) ∧ (∀ b, F' b → w.heap.size ≤ b ∨ F b) ∧ Keep F w w' := by
  refine ⟨v, R, fun _ => False, he, fun _ h => h, fun b h => Nat.lt_of_lt_of_le (hR b h) hb.size, fun b h => .inl h, ?_, fun _ h => h.elim, fun _ h => h.elim, keep_of_below hb⟩
  rw [hio]
  refine .pl _ _ _ (.agg _ _ rfl fun j c u hj hu => ?_) fun _ h => h
  match j, hj, hu with
  | 0, hj, hu => cases hj; cases hu; exact hr _
/-- Texts with something between. -/
def joinS (l : List Str) (sep : Str) : Str := Lib.join l sep
theorem joinS_nil (sep : Str) : joinS [] sep = [] := rfl
theorem joinS_take {l : List Str} {sep : Str} {k : Nat} (h : k < l.length) : joinS (l.take (k + 1)) sep = (if 0 < k then joinS (l.take k) sep ++ sep else []) ++ l.getD k [] := by
  have key : ∀ (l : List Str) (x : Str), joinS (l ++ [x]) sep = (if 0 < l.length then joinS l sep ++ sep else []) ++ x := by
    intro l x
    induction l with
    | nil => simp [joinS, Lib.join, List.intercalate, List.intersperse]
    | cons y l ih =>
      cases l with
      | nil => simp [joinS, Lib.join, List.intercalate, List.intersperse]
      | cons z l =>
        have e1 : joinS ((y :: z :: l) ++ [x]) sep = y ++ sep ++ joinS ((z :: l) ++ [x]) sep := by simp [joinS, Lib.join, List.intercalate, List.intersperse]
        have e2 : joinS (y :: z :: l) sep = y ++ sep ++ joinS (z :: l) sep := by simp [joinS, Lib.join, List.intercalate, List.intersperse]
        rw [e1, e2, ih]
        simp
  rw [List.take_succ_eq_append_getElem h, key]
  have e : l.getD k [] = l[k] := by simp [List.getD, h]
  rw [e]
  have hl : (l.take k).length = k := by simp; omega
  rw [hl]
end Go.Ab
