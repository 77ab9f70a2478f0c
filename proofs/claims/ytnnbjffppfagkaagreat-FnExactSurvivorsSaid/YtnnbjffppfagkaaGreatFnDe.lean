/- Lists that are sifted in their place (slices.DeleteFunc). -/
import Derived.Test.YtnnbjffppfagkaaGreatFnD
set_option linter.all false
set_option linter.unusedSimpArgs false
set_option linter.unusedVariables false
set_option linter.unusedSectionVars false
set_option maxRecDepth 20000
set_option maxHeartbeats 1000000
namespace Go.Ab
open Go Go.Proofs.Tryz
/-- How far a list is sifted. -/
def DelI {α : Type} (q : α → Bool) (l d : List α) (i j : Nat) : Prop := d.length = l.length ∧ i < j ∧ j ≤ l.length ∧ d.take i = (l.take j).filter q ∧ d.drop j = l.drop j
theorem take_one {α : Type} {l : List α} {d : α} {j : Nat} (h : j < l.length) : l.take (j + 1) = l.take j ++ [l.getD j d] := by
  rw [List.take_succ_eq_append_getElem h]; simp [List.getD, h]
theorem drop_one {α : Type} {l : List α} {d : α} {j : Nat} (h : j < l.length) : l.drop j = l.getD j d :: l.drop (j + 1) := by
  rw [List.drop_eq_getElem_cons h]; simp [List.getD, h]
theorem del_none {α : Type} {p q : α → Bool} {l : List α} (hp : ∀ a, p a = !q a) (h : idx (l.findIdx? p) = -1) : l.filter q = l := by
  have hn : l.findIdx? p = none := by
    cases hf : l.findIdx? p with
    | none => rfl
    | some i => rw [hf] at h; have : (i : Int) = -1 := h; omega
  rw [List.filter_eq_self]
  intro a ha
  have := List.findIdx?_eq_none_iff.1 hn a ha
  rw [hp] at this
  simpa using this
theorem del_some {α : Type} {p q : α → Bool} {l : List α} {d : α} (hp : ∀ a, p a = !q a) (h : ¬ idx (l.findIdx? p) = -1) : ∃ i : Nat, idx (l.findIdx? p) = i ∧ DelI q l l i (i + 1) := by
  cases hf : l.findIdx? p with
  | none => rw [hf] at h; exact absurd rfl h
  | some i =>
    obtain ⟨hi, h1, h2⟩ := List.findIdx?_eq_some_iff_getElem.1 hf
    refine ⟨i, rfl, rfl, by omega, by omega, ?_, rfl⟩
    rw [take_one (d := d) hi, List.filter_append]
    have e : l.getD i d = l[i] := by simp [List.getD, hi]
    rw [hp] at h1
    have hf2 : (l.take i).filter q = l.take i := by
      rw [List.filter_eq_self]
      intro a ha
      obtain ⟨j, hj, rfl⟩ := List.getElem_of_mem ha
      rw [List.length_take] at hj
      have := h2 j (by omega)
      rw [hp] at this
      rw [List.getElem_take]
      simpa using this
    rw [e, hf2, List.filter_cons]
    simp at h1
    simp [h1]
theorem DelI.yes {α : Type} {q : α → Bool} {l d : List α} {i j : Nat} {x : α} (h : DelI q l d i j) (hj : j < l.length) (hq : q (l.getD j x) = true) : DelI q l (d.set i (l.getD j x)) (i + 1) (j + 1) := by
  obtain ⟨h1, h2, h3, h4, h5⟩ := h
  refine ⟨by rw [List.length_set]; exact h1, by omega, by omega, ?_, ?_⟩
  · rw [take_one (d := x) (by rw [List.length_set]; omega), take_one (d := x) hj, List.filter_append, ← h4, List.take_set]
    have e : (d.set i (l.getD j x)).getD i x = l.getD j x := by simp [List.getD, show i < d.length by omega]
    rw [e, List.set_eq_of_length_le (by rw [List.length_take]; omega), List.filter_cons, hq]
    rfl
  · rw [List.drop_set, if_pos (by omega), ← List.drop_drop, ← List.drop_drop, h5]
theorem DelI.no {α : Type} {q : α → Bool} {l d : List α} {i j : Nat} {x : α} (h : DelI q l d i j) (hj : j < l.length) (hq : q (l.getD j x) = false) : DelI q l d i (j + 1) := by
  obtain ⟨h1, h2, h3, h4, h5⟩ := h
  refine ⟨h1, by omega, by omega, ?_, ?_⟩
  · rw [take_one (d := x) hj, List.filter_append, ← h4, List.filter_cons, hq]
    simp
  · rw [← List.drop_drop, ← List.drop_drop, h5]
theorem DelI.at {α : Type} {q : α → Bool} {l d : List α} {i j : Nat} {x : α} (h : DelI q l d i j) (hj : j < l.length) : d.getD j x = l.getD j x := by
  have h5 := h.2.2.2.2
  rw [drop_one (d := x) (by rw [h.1]; exact hj), drop_one (d := x) hj] at h5
  exact (List.cons.inj h5).1
end Go.Ab
