/- Copies of trees, attributes that are left. -/
import Derived.Test.YtkandginbnlpcaaGreatFnM
set_option linter.all false
set_option linter.unusedSimpArgs false
set_option linter.unusedVariables false
set_option linter.unusedSectionVars false
set_option maxRecDepth 20000
set_option maxHeartbeats 1000000
namespace Go.Ab
open Go Go.Proofs.Tryz
noncomputable def sp_cloneA : Spec := ⟨[.sl .attr], [.rd], false, fun
  | [.dat ⟨.attr, l⟩] => some (some (l.length ≤ 1073741824), .own true ⟨.attr, l⟩, [])
  | _ => none⟩
@[push_cast] theorem sp_cloneA_ps : sp_cloneA.ps = [.sl .attr] := rfl
@[push_cast] theorem sp_cloneA_md : sp_cloneA.modes = [.rd] := rfl
@[push_cast] theorem sp_cloneA_pure : sp_cloneA.pure = false := rfl
@[push_cast] theorem sp_cloneA_run (l : List Attr) : sp_cloneA.run [.dat ⟨.attr, l⟩] = some (some (l.length ≤ 1073741824), .own true ⟨.attr, l⟩, []) := rfl
noncomputable def e_cloneA : Env := mk [] [] [(2000000, [.nil .attr 2])]
@[push_cast] theorem e_cloneA_gh : e_cloneA.gh = ghOf [(2000000, [.nil .attr 2])] := rfl
@[push_cast] theorem e_cloneA_dr : e_cloneA.dr = drOf [] := rfl
@[push_cast] theorem e_cloneA_td : e_cloneA.td = td := rfl
@[push_cast] theorem e_cloneA_eqt : e_cloneA.eqt = eqt := rfl
@[push_cast] theorem e_cloneA_cal : e_cloneA.cal = calOf [] := rfl
theorem c_cloneA : CRow P0 ety0 115 sp_cloneA := CRow.of (E := e_cloneA) (mkOk (.nil)) func115 rfl rfl rfl (by
  intro args p r outs h hq
  simp only [sp_cloneA] at h; split at h <;> cases h
  rename_i l
  have hz := hq _ rfl
  cases l with
  | nil =>
    refine Body.intro (rs := [.tmp 2]) rfl rfl rfl ?_
    apply vc_run 1000 (stop := false) rfl; simp only [push_cast, reduceIte, Nat.reduceEqDiff, Nat.reduceAdd, Nat.reduceSub, Nat.reduceLT, Int.reduceNeg, Int.reduceLE, Int.reduceLT, Int.reduceToNat, Nat.reduceLeDiff, UInt8.reduceOfNat, UInt8.reduceOfNatLT, and_self, Nat.reduceMul, decide_true, decide_false, Bool.not_true, Bool.not_false, implies_true]
    unfold sizeOk
    omega
  | cons x r =>
    refine Body.intro (rs := [.tmp 2]) rfl rfl rfl ?_
    apply vc_run 1000 (stop := false) rfl; simp only [push_cast, reduceIte, Nat.reduceEqDiff, Nat.reduceAdd, Nat.reduceSub, Nat.reduceLT, Int.reduceNeg, Int.reduceLE, Int.reduceLT, Int.reduceToNat, Nat.reduceLeDiff, UInt8.reduceOfNat, UInt8.reduceOfNatLT, and_self, Nat.reduceMul, decide_true, decide_false, Bool.not_true, Bool.not_false, implies_true]
    refine ⟨fun h => h.elim, ?_⟩
    unfold sizeOk
    simp only [List.length_cons] at hz
    omega)
noncomputable def sp_cloNd (z : Nat) : Spec := ⟨[.st .node], [.rd], false, fun
  | [.agg [.int .i64 k, .int .i64 s, .str m, .str t, .dat ⟨.attr, a⟩, .dat ⟨.node, ks⟩]] => some (some (szNds ks < z ∧ szNd (.mk k s m t a ks) ≤ 1048576), .agg [.int .i64 k, .int .i64 s, .str m, .str t, .own true ⟨.attr, a⟩, .own true ⟨.node, ks⟩], [])
  | _ => none⟩
@[push_cast] theorem sp_cloNd_ps (z : Nat) : (sp_cloNd z).ps = [.st .node] := rfl
@[push_cast] theorem sp_cloNd_md (z : Nat) : (sp_cloNd z).modes = [.rd] := rfl
@[push_cast] theorem sp_cloNd_pure (z : Nat) : (sp_cloNd z).pure = false := rfl
@[push_cast] theorem sp_cloNd_run (z : Nat) (k s : Int) (m t : Str) (a : List Attr) (ks : List Node) : (sp_cloNd z).run [.agg [.int .i64 k, .int .i64 s, .str m, .str t, .dat ⟨.attr, a⟩, .dat ⟨.node, ks⟩]] = some (some (szNds ks < z ∧ szNd (.mk k s m t a ks) ≤ 1048576), .agg [.int .i64 k, .int .i64 s, .str m, .str t, .own true ⟨.attr, a⟩, .own true ⟨.node, ks⟩], []) := rfl
noncomputable def sp_cloNds (z : Nat) : Spec := ⟨[.sl .node], [.rd], false, fun
  | [.dat ⟨.node, l⟩] => some (some (szNds l < z ∧ szL szNd l ≤ 1048576), .own true ⟨.node, l⟩, [])
  | _ => none⟩
@[push_cast] theorem sp_cloNds_ps (z : Nat) : (sp_cloNds z).ps = [.sl .node] := rfl
@[push_cast] theorem sp_cloNds_md (z : Nat) : (sp_cloNds z).modes = [.rd] := rfl
@[push_cast] theorem sp_cloNds_pure (z : Nat) : (sp_cloNds z).pure = false := rfl
@[push_cast] theorem sp_cloNds_run (z : Nat) (l : List Node) : (sp_cloNds z).run [.dat ⟨.node, l⟩] = some (some (szNds l < z ∧ szL szNd l ≤ 1048576), .own true ⟨.node, l⟩, []) := rfl
noncomputable def e_cloned_ (z : Nat) : Env := mk [(115, sp_cloneA), (116, (sp_cloNds z))] [(1, [10, 13, 15], [[1, 2], [1, 2], [1, 2], [1, 2], [1, 2], [1, 2], [1, 2], [1, 2], [], [], [], [0], [0]])] []
@[push_cast] theorem e_cloned__gh (z : Nat) : (e_cloned_ z).gh = ghOf [] := rfl
@[push_cast] theorem e_cloned__dr (z : Nat) : (e_cloned_ z).dr = drOf [(1, [10, 13, 15], [[1, 2], [1, 2], [1, 2], [1, 2], [1, 2], [1, 2], [1, 2], [1, 2], [], [], [], [0], [0]])] := rfl
@[push_cast] theorem e_cloned__td (z : Nat) : (e_cloned_ z).td = td := rfl
@[push_cast] theorem e_cloned__eqt (z : Nat) : (e_cloned_ z).eqt = eqt := rfl
@[push_cast] theorem e_cloned__cal (z : Nat) : (e_cloned_ z).cal = calOf [(115, sp_cloneA), (116, (sp_cloNds z))] := rfl
theorem c_cloned_ (z : Nat) (h_cloNds : CRow P0 ety0 116 (sp_cloNds z)) : CRow P0 ety0 66 (sp_cloNd z) := CRow.of (E := (e_cloned_ z)) (mkOk (.cons c_cloneA (.cons h_cloNds (.nil)))) func66 rfl rfl rfl (by
  intro args p r outs h hq
  simp only [sp_cloNd] at h; split at h <;> cases h
  rename_i k s m t a ks
  obtain ⟨hz, hs⟩ := hq _ rfl
  rw [szNd_mk] at hs
  have ha := szL_len szAt a
  refine Body.intro (rs := [.cell 2 59]) rfl rfl rfl ?_
  apply vc_run 1000 (stop := false) rfl; simp only [push_cast, reduceIte, Nat.reduceEqDiff, Nat.reduceAdd, Nat.reduceSub, Nat.reduceLT, Int.reduceNeg, Int.reduceLE, Int.reduceLT, Int.reduceToNat, Nat.reduceLeDiff, UInt8.reduceOfNat, UInt8.reduceOfNatLT, and_self, Nat.reduceMul, decide_true, decide_false, Bool.not_true, Bool.not_false, implies_true]
  exact ⟨by omega, hz, by omega⟩)
noncomputable def e_cloneds_ (z : Nat) : Env := mk [(66, (sp_cloNd z))] [] []
@[push_cast] theorem e_cloneds__gh (z : Nat) : (e_cloneds_ z).gh = ghOf [] := rfl
@[push_cast] theorem e_cloneds__dr (z : Nat) : (e_cloneds_ z).dr = drOf [] := rfl
@[push_cast] theorem e_cloneds__td (z : Nat) : (e_cloneds_ z).td = td := rfl
@[push_cast] theorem e_cloneds__eqt (z : Nat) : (e_cloneds_ z).eqt = eqt := rfl
@[push_cast] theorem e_cloneds__cal (z : Nat) : (e_cloneds_ z).cal = calOf [(66, (sp_cloNd z))] := rfl
theorem c_cloneds_ (z : Nat) (h_cloNd : CRow P0 ety0 66 (sp_cloNd z)) : CRow P0 ety0 116 (sp_cloNds (z+1)) := CRow.of (E := (e_cloneds_ z)) (mkOk (.cons h_cloNd (.nil))) func116 rfl rfl rfl (by
  intro args p r outs h hq
  simp only [sp_cloNds] at h; split at h <;> cases h
  rename_i l
  obtain ⟨hn, hz⟩ := hq _ rfl
  have hl := szL_len szNd l
  refine Body.intro (rs := [.tmp 2]) rfl rfl rfl ?_
  apply vc_run 1000 (stop := false) rfl; simp only [push_cast, reduceIte, Nat.reduceEqDiff, Nat.reduceAdd, Nat.reduceSub, Nat.reduceLT, Int.reduceNeg, Int.reduceLE, Int.reduceLT, Int.reduceToNat, Nat.reduceLeDiff, UInt8.reduceOfNat, UInt8.reduceOfNatLT, and_self, Nat.reduceMul, decide_true, decide_false, Bool.not_true, Bool.not_false, implies_true]
  refine Run.loop [3, 9] [7, 8] [] rfl (fun n vs bs => ∃ j : Nat, vs = [.own true ⟨.node, l.take j⟩, .int .i64 j] ∧ bs = [] ∧ j ≤ l.length ∧ n = l.length - j) l.length ?_ ?_
  · simp only [push_cast, reduceIte, Nat.reduceEqDiff, Nat.reduceAdd, Nat.reduceSub, Nat.reduceLT, Int.reduceNeg, Int.reduceLE, Int.reduceLT, Int.reduceToNat, Nat.reduceLeDiff, UInt8.reduceOfNat, UInt8.reduceOfNatLT, and_self, Nat.reduceMul, decide_true, decide_false, Bool.not_true, Bool.not_false, implies_true]
    exact ⟨0, rfl, by omega, by omega⟩
  rintro n vs bs ⟨j, rfl, rfl, hj, rfl⟩
  simp only [push_cast, reduceIte, Nat.reduceEqDiff, Nat.reduceAdd, Nat.reduceSub, Nat.reduceLT, Int.reduceNeg, Int.reduceLE, Int.reduceLT, Int.reduceToNat, Nat.reduceLeDiff, UInt8.reduceOfNat, UInt8.reduceOfNatLT, and_self, Nat.reduceMul, decide_true, decide_false, Bool.not_true, Bool.not_false, implies_true]
  apply vc_run 1000 (stop := false) rfl; simp only [push_cast, reduceIte, Nat.reduceEqDiff, Nat.reduceAdd, Nat.reduceSub, Nat.reduceLT, Int.reduceNeg, Int.reduceLE, Int.reduceLT, Int.reduceToNat, Nat.reduceLeDiff, UInt8.reduceOfNat, UInt8.reduceOfNatLT, and_self, Nat.reduceMul, decide_true, decide_false, Bool.not_true, Bool.not_false, implies_true]
  refine ⟨fun hlt => ?_, fun hge => ?_⟩
  · have hlt : j < l.length := Int.ofNat_lt.1 (of_decide_eq_true hlt)
    have hel := szL_at szNd nodeD hlt
    simp only [gd_nat]
    refine ⟨by omega, ⟨kid_lt hn hlt, by omega⟩, by unfold sizeOk; rw [List.length_take]; omega, by constructor <;> omega, _, by omega, j + 1, ?_, by omega, rfl⟩
    rw [List.take_succ_eq_append_getElem hlt]
    have e : l.getD j nodeD = l[j] := by simp [List.getD, hlt]
    rw [e]; rfl
  · have hge : j = l.length := by have := of_decide_eq_false hge; omega
    subst hge
    rw [List.take_length])
noncomputable def sp_cloned : Spec := ⟨[.st .node], [.rd], false, fun
  | [.agg [.int .i64 k, .int .i64 s, .str m, .str t, .dat ⟨.attr, a⟩, .dat ⟨.node, ks⟩]] => some (some (szNd (.mk k s m t a ks) ≤ 1048576), .agg [.int .i64 k, .int .i64 s, .str m, .str t, .own true ⟨.attr, a⟩, .own true ⟨.node, ks⟩], [])
  | _ => none⟩
@[push_cast] theorem sp_cloned_ps : sp_cloned.ps = [.st .node] := rfl
@[push_cast] theorem sp_cloned_md : sp_cloned.modes = [.rd] := rfl
@[push_cast] theorem sp_cloned_pure : sp_cloned.pure = false := rfl
@[push_cast] theorem sp_cloned_run (k s : Int) (m t : Str) (a : List Attr) (ks : List Node) : sp_cloned.run [.agg [.int .i64 k, .int .i64 s, .str m, .str t, .dat ⟨.attr, a⟩, .dat ⟨.node, ks⟩]] = some (some (szNd (.mk k s m t a ks) ≤ 1048576), .agg [.int .i64 k, .int .i64 s, .str m, .str t, .own true ⟨.attr, a⟩, .own true ⟨.node, ks⟩], []) := rfl
theorem r_cloNds : ∀ z, CRow P0 ety0 116 (sp_cloNds z)
  | 0 => .absurd (fun args p r outs h hq => by
      simp only [sp_cloNds] at h; split at h <;> cases h
      exact absurd (hq _ rfl).1 (Nat.not_lt_zero _)) (ent_of func116 rfl rfl)
  | z + 1 => c_cloneds_ z (c_cloned_ z (r_cloNds z))
theorem c_cloned : CRow P0 ety0 66 sp_cloned := .all (spn := sp_cloNd) (fun _ => rfl) (fun z => c_cloned_ z (r_cloNds z)) (fun args p r outs h hq => by
  simp only [sp_cloned] at h; split at h <;> cases h
  rename_i k s m t a ks
  exact ⟨szNds ks + 1, _, rfl, fun q hq' => by cases hq'; exact ⟨Nat.lt_succ_self _, hq _ rfl⟩⟩)
noncomputable def sp_clonedT : Spec := ⟨[.sl .node], [.rd], false, fun
  | [.dat ⟨.node, l⟩] => some (some (szL szNd l ≤ 1048576), .own true ⟨.node, l⟩, [])
  | _ => none⟩
@[push_cast] theorem sp_clonedT_ps : sp_clonedT.ps = [.sl .node] := rfl
@[push_cast] theorem sp_clonedT_md : sp_clonedT.modes = [.rd] := rfl
@[push_cast] theorem sp_clonedT_pure : sp_clonedT.pure = false := rfl
@[push_cast] theorem sp_clonedT_run (l : List Node) : sp_clonedT.run [.dat ⟨.node, l⟩] = some (some (szL szNd l ≤ 1048576), .own true ⟨.node, l⟩, []) := rfl
theorem c_clonedT : CRow P0 ety0 116 sp_clonedT := .all (spn := sp_cloNds) (fun _ => rfl) r_cloNds (fun args p r outs h hq => by
  simp only [sp_clonedT] at h; split at h <;> cases h
  rename_i l
  exact ⟨szNds l + 1, _, rfl, fun q hq' => by cases hq'; exact ⟨Nat.lt_succ_self _, hq _ rfl⟩⟩)
/-- How far a list is sifted. -/
def DelI {α : Type} (q : α → Bool) (l d : List α) (i j : Nat) : Prop := d.length = l.length ∧ i < j ∧ j ≤ l.length ∧ d.take i = (l.take j).filter q ∧ d.drop j = l.drop j
theorem take_one {α : Type} {l : List α} {d : α} {j : Nat} (h : j < l.length) : l.take (j + 1) = l.take j ++ [l.getD j d] := by
  rw [List.take_succ_eq_append_getElem h]; simp [List.getD, h]
theorem drop_one {α : Type} {l : List α} {d : α} {j : Nat} (h : j < l.length) : l.drop j = l.getD j d :: l.drop (j + 1) := by
  rw [List.drop_eq_getElem_cons h]; simp [List.getD, h]
theorem del_none {α : Type} {p q : α → Bool} {l : List α} (hp : ∀ a, p a = !q a) (h : idx (l.findIdx? p) = -1) : l.filter q = l := by
  have hn : l.findIdx? p = none := by
    cases hf : l.findIdx? p with
    | none => rfl
    | some i => rw [hf] at h; have : (i : Int) = -1 := h; omega
  rw [List.filter_eq_self]
  intro a ha
  have := List.findIdx?_eq_none_iff.1 hn a ha
  rw [hp] at this
  simpa using this
theorem del_some {α : Type} {p q : α → Bool} {l : List α} {d : α} (hp : ∀ a, p a = !q a) (h : ¬ idx (l.findIdx? p) = -1) : ∃ i : Nat, idx (l.findIdx? p) = i ∧ DelI q l l i (i + 1) := by
  cases hf : l.findIdx? p with
  | none => rw [hf] at h; exact absurd rfl h
  | some i =>
    obtain ⟨hi, h1, h2⟩ := List.findIdx?_eq_some_iff_getElem.1 hf
    refine ⟨i, rfl, rfl, by omega, by omega, ?_, rfl⟩
    rw [take_one (d := d) hi, List.filter_append]
    have e : l.getD i d = l[i] := by simp [List.getD, hi]
    rw [hp] at h1
    have hf2 : (l.take i).filter q = l.take i := by
      rw [List.filter_eq_self]
      intro a ha
      obtain ⟨j, hj, rfl⟩ := List.getElem_of_mem ha
      rw [List.length_take] at hj
      have := h2 j (by omega)
      rw [hp] at this
      rw [List.getElem_take]
      simpa using this
    rw [e, hf2, List.filter_cons]
    simp at h1
    simp [h1]
theorem DelI.yes {α : Type} {q : α → Bool} {l d : List α} {i j : Nat} {x : α} (h : DelI q l d i j) (hj : j < l.length) (hq : q (l.getD j x) = true) : DelI q l (d.set i (l.getD j x)) (i + 1) (j + 1) := by
  obtain ⟨h1, h2, h3, h4, h5⟩ := h
  refine ⟨by rw [List.length_set]; exact h1, by omega, by omega, ?_, ?_⟩
  · rw [take_one (d := x) (by rw [List.length_set]; omega), take_one (d := x) hj, List.filter_append, ← h4, List.take_set]
    have e : (d.set i (l.getD j x)).getD i x = l.getD j x := by simp [List.getD, show i < d.length by omega]
    rw [e, List.set_eq_of_length_le (by rw [List.length_take]; omega), List.filter_cons, hq]
    rfl
  · rw [List.drop_set, if_pos (by omega), ← List.drop_drop, ← List.drop_drop, h5]
theorem DelI.no {α : Type} {q : α → Bool} {l d : List α} {i j : Nat} {x : α} (h : DelI q l d i j) (hj : j < l.length) (hq : q (l.getD j x) = false) : DelI q l d i (j + 1) := by
  obtain ⟨h1, h2, h3, h4, h5⟩ := h
  refine ⟨h1, by omega, by omega, ?_, ?_⟩
  · rw [take_one (d := x) hj, List.filter_append, ← h4, List.filter_cons, hq]
    simp
  · rw [← List.drop_drop, ← List.drop_drop, h5]
theorem DelI.at {α : Type} {q : α → Bool} {l d : List α} {i j : Nat} {x : α} (h : DelI q l d i j) (hj : j < l.length) : d.getD j x = l.getD j x := by
  have h5 := h.2.2.2.2
  rw [drop_one (d := x) (by rw [h.1]; exact hj), drop_one (d := x) hj] at h5
  exact (List.cons.inj h5).1
def goesA (c : Cfg) (s : Int) (m : Str) (a : Attr) : Bool := !keepA c s m a
noncomputable def sp_goesA : Spec := ⟨[.st .attr, .sc, .sc], [.rd, .rd, .rd], true, fun
  | [.agg [.str x, .str y], .rbp [.bool ha, .bool ht, .dat ⟨.rule, al⟩, .dat ⟨.rule, re⟩, .dat ⟨.rule, un⟩, .dat ⟨.str, ns⟩, .dat ⟨.str, dr⟩, .bool co, .bool da] 0, .rbp [.int .i64 k, .int .i64 s, .str m, .str t, .dat ⟨.attr, b⟩, .dat ⟨.node, ks⟩] 0] => some (some (szCfg ⟨ha, ht, al, re, un, ns, dr, co, da⟩ ≤ 1048576 ∧ x.length ≤ 65536 ∧ y.length ≤ 65536), .bool (goesA ⟨ha, ht, al, re, un, ns, dr, co, da⟩ s m ⟨x, y⟩), [])
  | _ => none⟩
@[push_cast] theorem sp_goesA_ps : sp_goesA.ps = [.st .attr, .sc, .sc] := rfl
@[push_cast] theorem sp_goesA_md : sp_goesA.modes = [.rd, .rd, .rd] := rfl
@[push_cast] theorem sp_goesA_pure : sp_goesA.pure = true := rfl
@[push_cast] theorem sp_goesA_run (x y : Str) (ha ht : Bool) (al re un : List Rule) (ns dr : List Str) (co da : Bool) (k s : Int) (m t : Str) (b : List Attr) (ks : List Node) : sp_goesA.run [.agg [.str x, .str y], .rbp [.bool ha, .bool ht, .dat ⟨.rule, al⟩, .dat ⟨.rule, re⟩, .dat ⟨.rule, un⟩, .dat ⟨.str, ns⟩, .dat ⟨.str, dr⟩, .bool co, .bool da] 0, .rbp [.int .i64 k, .int .i64 s, .str m, .str t, .dat ⟨.attr, b⟩, .dat ⟨.node, ks⟩] 0] = some (some (szCfg ⟨ha, ht, al, re, un, ns, dr, co, da⟩ ≤ 1048576 ∧ x.length ≤ 65536 ∧ y.length ≤ 65536), .bool (goesA ⟨ha, ht, al, re, un, ns, dr, co, da⟩ s m ⟨x, y⟩), []) := rfl
noncomputable def e_goesA : Env := mk [(73, sp_keepA)] [] []
@[push_cast] theorem e_goesA_gh : e_goesA.gh = ghOf [] := rfl
@[push_cast] theorem e_goesA_dr : e_goesA.dr = drOf [] := rfl
@[push_cast] theorem e_goesA_td : e_goesA.td = td := rfl
@[push_cast] theorem e_goesA_eqt : e_goesA.eqt = eqt := rfl
@[push_cast] theorem e_goesA_cal : e_goesA.cal = calOf [(73, sp_keepA)] := rfl
theorem c_goesA : CRow P0 ety0 72 sp_goesA := CRow.of (E := e_goesA) (mkOk (.cons c_keepA (.nil))) func72 rfl rfl rfl (by
  intro args p r outs h hq
  simp only [sp_goesA] at h; split at h <;> cases h
  rename_i x y ha ht al re un ns dr co da k s m t b ks
  have hz := hq _ rfl
  refine Body.intro (rs := [.tmp 4]) rfl rfl rfl ?_
  apply vc_run 1000 (stop := false) rfl; simp only [push_cast, reduceIte, Nat.reduceEqDiff, Nat.reduceAdd, Nat.reduceSub, Nat.reduceLT, Int.reduceNeg, Int.reduceLE, Int.reduceLT, Int.reduceToNat, Nat.reduceLeDiff, UInt8.reduceOfNat, UInt8.reduceOfNatLT, and_self, Nat.reduceMul, decide_true, decide_false, Bool.not_true, Bool.not_false, implies_true]
  exact ⟨hz, rfl⟩)
noncomputable def sp_idxAttrG : Spec := ⟨[.sl .attr, .sc], [.rd, .rd], true, fun
  | [.dat ⟨.attr, l⟩, .fn 72 [] [.rbp [.bool ha, .bool ht, .dat ⟨.rule, al⟩, .dat ⟨.rule, re⟩, .dat ⟨.rule, un⟩, .dat ⟨.str, ns⟩, .dat ⟨.str, dr⟩, .bool co, .bool da] 0, .rbp [.int .i64 k, .int .i64 s, .str m, .str t, .dat ⟨.attr, b⟩, .dat ⟨.node, ks⟩] 0]] => some (some (l.length ≤ 1073741824 ∧ szCfg ⟨ha, ht, al, re, un, ns, dr, co, da⟩ ≤ 1048576 ∧ ∀ a ∈ l, a.name.length ≤ 65536 ∧ a.value.length ≤ 65536), .int .i64 (idx (l.findIdx? (goesA ⟨ha, ht, al, re, un, ns, dr, co, da⟩ s m))), [])
  | _ => none⟩
@[push_cast] theorem sp_idxAttrG_ps : sp_idxAttrG.ps = [.sl .attr, .sc] := rfl
@[push_cast] theorem sp_idxAttrG_md : sp_idxAttrG.modes = [.rd, .rd] := rfl
@[push_cast] theorem sp_idxAttrG_pure : sp_idxAttrG.pure = true := rfl
@[push_cast] theorem sp_idxAttrG_run (l : List Attr) (ha ht : Bool) (al re un : List Rule) (ns dr : List Str) (co da : Bool) (k s : Int) (m t : Str) (b : List Attr) (ks : List Node) : sp_idxAttrG.run [.dat ⟨.attr, l⟩, .fn 72 [] [.rbp [.bool ha, .bool ht, .dat ⟨.rule, al⟩, .dat ⟨.rule, re⟩, .dat ⟨.rule, un⟩, .dat ⟨.str, ns⟩, .dat ⟨.str, dr⟩, .bool co, .bool da] 0, .rbp [.int .i64 k, .int .i64 s, .str m, .str t, .dat ⟨.attr, b⟩, .dat ⟨.node, ks⟩] 0]] = some (some (l.length ≤ 1073741824 ∧ szCfg ⟨ha, ht, al, re, un, ns, dr, co, da⟩ ≤ 1048576 ∧ ∀ a ∈ l, a.name.length ≤ 65536 ∧ a.value.length ≤ 65536), .int .i64 (idx (l.findIdx? (goesA ⟨ha, ht, al, re, un, ns, dr, co, da⟩ s m))), []) := rfl
noncomputable def e_idxAttrG : Env := mk [(72, sp_goesA)] [] []
@[push_cast] theorem e_idxAttrG_gh : e_idxAttrG.gh = ghOf [] := rfl
@[push_cast] theorem e_idxAttrG_dr : e_idxAttrG.dr = drOf [] := rfl
@[push_cast] theorem e_idxAttrG_td : e_idxAttrG.td = td := rfl
@[push_cast] theorem e_idxAttrG_eqt : e_idxAttrG.eqt = eqt := rfl
@[push_cast] theorem e_idxAttrG_cal : e_idxAttrG.cal = calOf [(72, sp_goesA)] := rfl
theorem c_idxAttrG : CRow P0 ety0 122 sp_idxAttrG := CRow.of (E := e_idxAttrG) (mkOk (.cons c_goesA (.nil))) func122 rfl rfl rfl (by
  intro args p r outs h hq
  simp only [sp_idxAttrG] at h; split at h <;> cases h
  rename_i l ha ht al re un ns dr co da k s m t b ks
  have hq0 := hq _ rfl
  have hl : l.length ≤ 1073741824 := by first | exact hq0 | exact hq0.1
  refine Body.intro (rs := [.tmp 4]) rfl rfl rfl ?_
  apply vc_run 1000 (stop := false) rfl; simp only [push_cast, reduceIte, Nat.reduceEqDiff, Nat.reduceAdd, Nat.reduceSub, Nat.reduceLT, Int.reduceNeg, Int.reduceLE, Int.reduceLT, Int.reduceToNat, Nat.reduceLeDiff, UInt8.reduceOfNat, UInt8.reduceOfNatLT, and_self, Nat.reduceMul, decide_true, decide_false, Bool.not_true, Bool.not_false, implies_true]
  refine Run.loop [8] [0, 1, 6, 7] [] rfl (fun n vs bs => ∃ k : Nat, vs = [.int .i64 k] ∧ bs = [] ∧ k ≤ l.length ∧ (∀ j < k, (goesA ⟨ha, ht, al, re, un, ns, dr, co, da⟩ s m) (l.getD j attrD) = false) ∧ n = l.length - k) l.length ?_ ?_
  · simp only [push_cast, reduceIte, Nat.reduceEqDiff, Nat.reduceAdd, Nat.reduceSub, Nat.reduceLT, Int.reduceNeg, Int.reduceLE, Int.reduceLT, Int.reduceToNat, Nat.reduceLeDiff, UInt8.reduceOfNat, UInt8.reduceOfNatLT, and_self, Nat.reduceMul, decide_true, decide_false, Bool.not_true, Bool.not_false, implies_true]
    exact ⟨0, rfl, by omega, by simp, by omega⟩
  rintro n vs bs ⟨k, rfl, rfl, hk, hb, rfl⟩
  simp only [push_cast, reduceIte, Nat.reduceEqDiff, Nat.reduceAdd, Nat.reduceSub, Nat.reduceLT, Int.reduceNeg, Int.reduceLE, Int.reduceLT, Int.reduceToNat, Nat.reduceLeDiff, UInt8.reduceOfNat, UInt8.reduceOfNatLT, and_self, Nat.reduceMul, decide_true, decide_false, Bool.not_true, Bool.not_false, implies_true]
  apply vc_run 1000 (stop := false) rfl; simp only [push_cast, reduceIte, Nat.reduceEqDiff, Nat.reduceAdd, Nat.reduceSub, Nat.reduceLT, Int.reduceNeg, Int.reduceLE, Int.reduceLT, Int.reduceToNat, Nat.reduceLeDiff, UInt8.reduceOfNat, UInt8.reduceOfNatLT, and_self, Nat.reduceMul, decide_true, decide_false, Bool.not_true, Bool.not_false, implies_true]
  refine ⟨fun hlt => ?_, fun hge => ?_⟩
  · have hlt : k < l.length := by simpa using hlt
    simp only [gd_nat]
    refine ⟨by omega, ⟨hq0.2.1, fit_at hq0.2.2 hlt⟩, fun hy => ?_, fun hn => ⟨by constructor <;> omega, _, by omega, k + 1, rfl, by omega, below_step hb hn, rfl⟩⟩
    rw [findIdx_at (p := goesA ⟨ha, ht, al, re, un, ns, dr, co, da⟩ s m) hlt hb hy]; rfl
  · have hge : k = l.length := by simp at hge; omega
    subst hge
    rw [findIdx_none (p := goesA ⟨ha, ht, al, re, un, ns, dr, co, da⟩ s m) hb]; rfl)
noncomputable def sp_delA : Spec := ⟨[.sl .attr, .sc], [.tk, .rd], false, fun
  | [.own true ⟨.attr, l⟩, .fn 72 [] [.rbp [.bool ha, .bool ht, .dat ⟨.rule, al⟩, .dat ⟨.rule, re⟩, .dat ⟨.rule, un⟩, .dat ⟨.str, ns⟩, .dat ⟨.str, dr⟩, .bool co, .bool da] 0, .rbp [.int .i64 k, .int .i64 s, .str m, .str t, .dat ⟨.attr, b⟩, .dat ⟨.node, ks⟩] 0]] => some (some (l.length ≤ 1073741824 ∧ szCfg ⟨ha, ht, al, re, un, ns, dr, co, da⟩ ≤ 1048576 ∧ ∀ a ∈ l, a.name.length ≤ 65536 ∧ a.value.length ≤ 65536), .own true ⟨.attr, l.filter (keepA ⟨ha, ht, al, re, un, ns, dr, co, da⟩ s m)⟩, [])
  | _ => none⟩
@[push_cast] theorem sp_delA_ps : sp_delA.ps = [.sl .attr, .sc] := rfl
@[push_cast] theorem sp_delA_md : sp_delA.modes = [.tk, .rd] := rfl
@[push_cast] theorem sp_delA_pure : sp_delA.pure = false := rfl
@[push_cast] theorem sp_delA_run (l : List Attr) (ha ht : Bool) (al re un : List Rule) (ns dr : List Str) (co da : Bool) (k s : Int) (m t : Str) (b : List Attr) (ks : List Node) : sp_delA.run [.own true ⟨.attr, l⟩, .fn 72 [] [.rbp [.bool ha, .bool ht, .dat ⟨.rule, al⟩, .dat ⟨.rule, re⟩, .dat ⟨.rule, un⟩, .dat ⟨.str, ns⟩, .dat ⟨.str, dr⟩, .bool co, .bool da] 0, .rbp [.int .i64 k, .int .i64 s, .str m, .str t, .dat ⟨.attr, b⟩, .dat ⟨.node, ks⟩] 0]] = some (some (l.length ≤ 1073741824 ∧ szCfg ⟨ha, ht, al, re, un, ns, dr, co, da⟩ ≤ 1048576 ∧ ∀ a ∈ l, a.name.length ≤ 65536 ∧ a.value.length ≤ 65536), .own true ⟨.attr, l.filter (keepA ⟨ha, ht, al, re, un, ns, dr, co, da⟩ s m)⟩, []) := rfl
noncomputable def e_delA : Env := mk [(122, sp_idxAttrG), (72, sp_goesA)] [] []
@[push_cast] theorem e_delA_gh : e_delA.gh = ghOf [] := rfl
@[push_cast] theorem e_delA_dr : e_delA.dr = drOf [] := rfl
@[push_cast] theorem e_delA_td : e_delA.td = td := rfl
@[push_cast] theorem e_delA_eqt : e_delA.eqt = eqt := rfl
@[push_cast] theorem e_delA_cal : e_delA.cal = calOf [(122, sp_idxAttrG), (72, sp_goesA)] := rfl
theorem c_delA : CRow P0 ety0 71 sp_delA := CRow.of (E := e_delA) (mkOk (.cons c_idxAttrG (.cons c_goesA (.nil)))) func71 rfl rfl rfl (by
  intro args p r outs h hq
  simp only [sp_delA] at h; split at h <;> cases h
  rename_i l ha ht al re un ns dr co da k s m t b ks
  obtain ⟨hl, hc, hx⟩ := hq _ rfl
  refine Body.intro (rs := [.tmp 4]) rfl rfl rfl ?_
  apply vc_run 1000 (stop := false) rfl; simp only [push_cast, reduceIte, Nat.reduceEqDiff, Nat.reduceAdd, Nat.reduceSub, Nat.reduceLT, Int.reduceNeg, Int.reduceLE, Int.reduceLT, Int.reduceToNat, Nat.reduceLeDiff, UInt8.reduceOfNat, UInt8.reduceOfNatLT, and_self, Nat.reduceMul, decide_true, decide_false, Bool.not_true, Bool.not_false, implies_true]
  have hp : ∀ a, goesA ⟨ha, ht, al, re, un, ns, dr, co, da⟩ s m a = !keepA ⟨ha, ht, al, re, un, ns, dr, co, da⟩ s m a := fun _ => rfl
  refine ⟨⟨hl, hc, hx⟩, fun h => ?_, fun h => ?_⟩
  · rw [del_none hp (of_decide_eq_true h)]
  obtain ⟨i0, e0, hi0⟩ := del_some (d := attrD) hp (of_decide_eq_false h)
  have hi1 := hi0.2.1
  have hi2 := hi0.2.2.1
  simp only [e0]
  clear h e0
  refine ⟨by constructor <;> omega, ?_⟩
  refine Run.loop [0, 5, 6] [1] [] rfl (fun n vs bs => ∃ (d : List Attr) (i j : Nat), vs = [.own true ⟨.attr, d⟩, .int .i64 i, .int .i64 j] ∧ bs = [] ∧ DelI (keepA ⟨ha, ht, al, re, un, ns, dr, co, da⟩ s m) l d i j ∧ n = l.length - j) (l.length - (i0 + 1)) ?_ ?_
  · simp only [push_cast, reduceIte, Nat.reduceEqDiff, Nat.reduceAdd, Nat.reduceSub, Nat.reduceLT, Int.reduceNeg, Int.reduceLE, Int.reduceLT, Int.reduceToNat, Nat.reduceLeDiff, UInt8.reduceOfNat, UInt8.reduceOfNatLT, and_self, Nat.reduceMul, decide_true, decide_false, Bool.not_true, Bool.not_false, implies_true]
    exact ⟨l, i0, i0 + 1, rfl, hi0, rfl⟩
  rintro n vs bs ⟨d, i, j, rfl, rfl, hI, rfl⟩
  simp only [push_cast, reduceIte, Nat.reduceEqDiff, Nat.reduceAdd, Nat.reduceSub, Nat.reduceLT, Int.reduceNeg, Int.reduceLE, Int.reduceLT, Int.reduceToNat, Nat.reduceLeDiff, UInt8.reduceOfNat, UInt8.reduceOfNatLT, and_self, Nat.reduceMul, decide_true, decide_false, Bool.not_true, Bool.not_false, implies_true]
  apply vc_run 1000 (stop := false) rfl; simp only [push_cast, reduceIte, Nat.reduceEqDiff, Nat.reduceAdd, Nat.reduceSub, Nat.reduceLT, Int.reduceNeg, Int.reduceLE, Int.reduceLT, Int.reduceToNat, Nat.reduceLeDiff, UInt8.reduceOfNat, UInt8.reduceOfNatLT, and_self, Nat.reduceMul, decide_true, decide_false, Bool.not_true, Bool.not_false, implies_true]
  have hdl := hI.1
  have hij := hI.2.1
  have hjl := hI.2.2.1
  refine ⟨fun hlt => ?_, fun hge => ?_⟩
  · have hlt : j < l.length := by have := of_decide_eq_true hlt; omega
    have hat := hI.at (x := attrD) hlt
    have hxj := fit_at (d := attrD) hx hlt
    simp only [gd_nat, hat, Int.toNat_natCast, hp, Bool.not_not]
    refine ⟨by omega, ⟨hc, hxj⟩, fun hy => ⟨by omega, by constructor <;> omega, by constructor <;> omega, _, ?_, _, i + 1, j + 1, rfl, hI.yes (x := attrD) hlt hy, rfl⟩, fun hn => ⟨by constructor <;> omega, _, ?_, _, i, j + 1, rfl, hI.no (x := attrD) hlt hn, rfl⟩⟩
    · omega
    · omega
  · have hge : j = l.length := by have := of_decide_eq_false hge; omega
    subst hge
    simp only [Int.toNat_natCast]
    have hl1 : (d.take i).length = i := by rw [List.length_take]; omega
    refine ⟨by omega, by rw [hl1]; omega, ?_⟩
    rw [List.take_append_of_le_length (by omega), List.take_of_length_le (by omega), hI.2.2.2.1, List.take_length])
end Go.Ab
