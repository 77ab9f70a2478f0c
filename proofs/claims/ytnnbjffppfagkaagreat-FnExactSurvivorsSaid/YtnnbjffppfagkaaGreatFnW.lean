/- Whether trees, rules, configurations are alike, as the program and the document ask it. -/
import Derived.Test.YtnnbjffppfagkaaGreatFnV
set_option linter.all false
set_option linter.unusedSimpArgs false
set_option linter.unusedVariables false
set_option linter.unusedSectionVars false
set_option maxRecDepth 20000
set_option maxHeartbeats 1000000
namespace Go.Ab
open Go Go.Proofs.Tryz
@[push_cast] theorem attr_dec (a b : Attr) : (decide (a.name = b.name) && decide (a.value = b.value)) = eqB a b := by
  by_cases h : a = b
  · subst h; simp [eqB_self]
  · rw [eqB_ne h]
    cases a; cases b
    simp at h ⊢
    intro h1 h2
    exact h h1 h2
noncomputable def sp_sameAttrs : Spec := ⟨[.sl .attr, .sl .attr], [.rd, .rd], true, fun
  | [.dat ⟨.attr, a⟩, .dat ⟨.attr, b⟩] => some (some (a.length ≤ 1073741824), .bool (eqB a b), [])
  | _ => none⟩
@[push_cast] theorem sp_sameAttrs_ps : sp_sameAttrs.ps = [.sl .attr, .sl .attr] := rfl
@[push_cast] theorem sp_sameAttrs_md : sp_sameAttrs.modes = [.rd, .rd] := rfl
@[push_cast] theorem sp_sameAttrs_pure : sp_sameAttrs.pure = true := rfl
@[push_cast] theorem sp_sameAttrs_run (a b : List Attr) : sp_sameAttrs.run [.dat ⟨.attr, a⟩, .dat ⟨.attr, b⟩] = some (some (a.length ≤ 1073741824), .bool (eqB a b), []) := rfl
theorem eqB_iff {α : Type} {a b : α} : eqB a b = true ↔ a = b := ⟨eqB_true, eqB_of⟩
noncomputable def sp_sameNd (z : Nat) : Spec := ⟨[.st .node, .st .node], [.rd, .rd], true, fun
  | [.agg [.int .i64 k, .int .i64 s, .str m, .str t, .dat ⟨.attr, a⟩, .dat ⟨.node, ks⟩], .agg [.int .i64 k2, .int .i64 s2, .str m2, .str t2, .dat ⟨.attr, a2⟩, .dat ⟨.node, ks2⟩]] => some (some (szNds ks < z ∧ szNd (.mk k s m t a ks) ≤ 1048576), .bool (eqB (Node.mk k s m t a ks) (.mk k2 s2 m2 t2 a2 ks2)), [])
  | _ => none⟩
@[push_cast] theorem sp_sameNd_ps (z : Nat) : (sp_sameNd z).ps = [.st .node, .st .node] := rfl
@[push_cast] theorem sp_sameNd_md (z : Nat) : (sp_sameNd z).modes = [.rd, .rd] := rfl
@[push_cast] theorem sp_sameNd_pure (z : Nat) : (sp_sameNd z).pure = true := rfl
@[push_cast] theorem sp_sameNd_run (z : Nat) (k s k2 s2 : Int) (m t m2 t2 : Str) (a a2 : List Attr) (ks ks2 : List Node) : (sp_sameNd z).run [.agg [.int .i64 k, .int .i64 s, .str m, .str t, .dat ⟨.attr, a⟩, .dat ⟨.node, ks⟩], .agg [.int .i64 k2, .int .i64 s2, .str m2, .str t2, .dat ⟨.attr, a2⟩, .dat ⟨.node, ks2⟩]] = some (some (szNds ks < z ∧ szNd (.mk k s m t a ks) ≤ 1048576), .bool (eqB (Node.mk k s m t a ks) (.mk k2 s2 m2 t2 a2 ks2)), []) := rfl
noncomputable def sp_alike (z : Nat) : Spec := ⟨[.sl .node, .sl .node], [.rd, .rd], true, fun
  | [.dat ⟨.node, a⟩, .dat ⟨.node, b⟩] => some (some (szNds a < z ∧ szL szNd a ≤ 1048576), .bool (eqB a b), [])
  | _ => none⟩
@[push_cast] theorem sp_alike_ps (z : Nat) : (sp_alike z).ps = [.sl .node, .sl .node] := rfl
@[push_cast] theorem sp_alike_md (z : Nat) : (sp_alike z).modes = [.rd, .rd] := rfl
@[push_cast] theorem sp_alike_pure (z : Nat) : (sp_alike z).pure = true := rfl
@[push_cast] theorem sp_alike_run (z : Nat) (a b : List Node) : (sp_alike z).run [.dat ⟨.node, a⟩, .dat ⟨.node, b⟩] = some (some (szNds a < z ∧ szL szNd a ≤ 1048576), .bool (eqB a b), []) := rfl
noncomputable def sp_areAlike : Spec := ⟨[.sl .node, .sl .node], [.rd, .rd], true, fun
  | [.dat ⟨.node, a⟩, .dat ⟨.node, b⟩] => some (some (szL szNd a ≤ 1048576), .bool (eqB a b), [])
  | _ => none⟩
@[push_cast] theorem sp_areAlike_ps : sp_areAlike.ps = [.sl .node, .sl .node] := rfl
@[push_cast] theorem sp_areAlike_md : sp_areAlike.modes = [.rd, .rd] := rfl
@[push_cast] theorem sp_areAlike_pure : sp_areAlike.pure = true := rfl
@[push_cast] theorem sp_areAlike_run (a b : List Node) : sp_areAlike.run [.dat ⟨.node, a⟩, .dat ⟨.node, b⟩] = some (some (szL szNd a ≤ 1048576), .bool (eqB a b), []) := rfl
theorem nd_ne (x y : Node) : (bif bif bif bif bif !decide (x.kind = y.kind) then true else !decide (x.space = y.space) then true else !decide (x.name = y.name) then true else !decide (x.text = y.text) then true else !eqB x.attrs y.attrs then true else !eqB x.kids y.kids) = !eqB x y := by
  have e : eqB x y = (decide (x.kind = y.kind) && decide (x.space = y.space) && decide (x.name = y.name) && decide (x.text = y.text) && eqB x.attrs y.attrs && eqB x.kids y.kids) := by
    rw [Bool.eq_iff_iff, eqB_iff]
    cases x; cases y
    simp only [Bool.and_eq_true, decide_eq_true_eq, eqB_iff, and_assoc]
    simp only [Node.mk.injEq, Node.kind, Node.space, Node.name, Node.text, Node.attrs, Node.kids]
  rw [e]
  generalize decide (x.kind = y.kind) = b1; generalize decide (x.space = y.space) = b2; generalize decide (x.name = y.name) = b3; generalize decide (x.text = y.text) = b4; generalize eqB x.attrs y.attrs = b5; generalize eqB x.kids y.kids = b6
  cases b1 <;> cases b2 <;> cases b3 <;> cases b4 <;> cases b5 <;> cases b6 <;> rfl
noncomputable def sp_alike2 (z : Nat) : Spec := ⟨[.sl .node, .sl .node], [.rd, .rd], true, fun
  | [.dat ⟨.node, a⟩, .dat ⟨.node, b⟩] => some (some (szNds a < z ∧ szL szNd a ≤ 1048576), .bool (eqB a b), [])
  | _ => none⟩
@[push_cast] theorem sp_alike2_ps (z : Nat) : (sp_alike2 z).ps = [.sl .node, .sl .node] := rfl
@[push_cast] theorem sp_alike2_md (z : Nat) : (sp_alike2 z).modes = [.rd, .rd] := rfl
@[push_cast] theorem sp_alike2_pure (z : Nat) : (sp_alike2 z).pure = true := rfl
@[push_cast] theorem sp_alike2_run (z : Nat) (a b : List Node) : (sp_alike2 z).run [.dat ⟨.node, a⟩, .dat ⟨.node, b⟩] = some (some (szNds a < z ∧ szL szNd a ≤ 1048576), .bool (eqB a b), []) := rfl
end Go.Ab
