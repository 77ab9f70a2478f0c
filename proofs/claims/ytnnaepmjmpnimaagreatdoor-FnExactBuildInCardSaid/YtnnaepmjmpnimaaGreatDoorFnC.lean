import Derived.Test.YtnnaepmjmpnimaaGreatDoorFnA
set_option linter.all false
set_option linter.unusedSimpArgs false
set_option linter.unusedVariables false
set_option linter.unusedSectionVars false
set_option maxRecDepth 20000
set_option maxHeartbeats 1000000
namespace Go.Ab
open Go Go.Proofs.Tryz
def sumL {α : Type} (f : α → Nat) (l : List α) : Nat := (l.map f).sum
theorem sumL_take {α : Type} (f : α → Nat) (l : List α) (d : α) {k : Nat} (h : k < l.length) : sumL f (l.take (k + 1)) = sumL f (l.take k) + f (l.getD k d) := by
  unfold sumL; rw [List.take_succ_eq_append_getElem h, List.map_append, List.sum_append]; simp [List.getD, h]
theorem sumL_take_le {α : Type} (f : α → Nat) (l : List α) (k : Nat) : sumL f (l.take k) ≤ sumL f l := by
  unfold sumL
  conv => rhs; rw [← List.take_append_drop k l, List.map_append, List.sum_append]
  omega
def szL {α : Type} (f : α → Nat) (l : List α) : Nat := l.length + sumL f l
theorem szL_len {α : Type} (f : α → Nat) (l : List α) : l.length ≤ szL f l := Nat.le_add_right _ _
theorem sumL_mem {α : Type} (f : α → Nat) {l : List α} {x : α} (h : x ∈ l) : f x ≤ sumL f l := by
  induction l with
  | nil => cases h
  | cons y l ih =>
    have e : sumL f (y :: l) = f y + sumL f l := by simp [sumL]
    cases h with
    | head => omega
    | tail _ h => have := ih h; omega
theorem szL_mem {α : Type} (f : α → Nat) {l : List α} {x : α} (h : x ∈ l) : f x ≤ szL f l := by have := sumL_mem f h; unfold szL; omega
theorem gd_nat {α : Type} (l : List α) (d : α) (k : Nat) : gd l d (k : Int) = l.getD k d := by simp [gd]
theorem szL_at {α : Type} (f : α → Nat) {l : List α} (d : α) {k : Nat} (h : k < l.length) : f (l.getD k d) ≤ szL f l := by
  have e : l.getD k d = l[k] := by simp [List.getD, h]
  rw [e]; exact szL_mem f (List.getElem_mem h)
open Classical in
noncomputable def eqB {α : Type} (a b : α) : Bool := decide (a = b)
theorem eqB_self {α : Type} (a : α) : eqB a a = true := by simp [eqB]
theorem eqB_of {α : Type} {a b : α} (h : a = b) : eqB a b = true := by simp [eqB, h]
theorem eqB_ne {α : Type} {a b : α} (h : a ≠ b) : eqB a b = false := by simp [eqB, h]
theorem eqB_true {α : Type} {a b : α} (h : eqB a b = true) : a = b := by simpa [eqB] using h
theorem eqB_not {α : Type} {a b : α} (h : (!eqB a b) = false) : a = b := by apply eqB_true; simpa using h
theorem eqB_yes {α : Type} {a b : α} (h : (!eqB a b) = true) : a ≠ b := by intro e; rw [eqB_of e] at h; cases h
theorem list_eq {α : Type} {a b : List α} (d : α) (hl : a.length = b.length) (h : ∀ j < a.length, a.getD j d = b.getD j d) : a = b := by
  apply List.ext_getElem hl
  intro j h1 h2
  have := h j h1
  simpa [List.getD, h1, h2] using this
@[push_cast] theorem eta_rule (r : Rule) : (⟨r.space, r.name, r.attrs⟩ : Rule) = r := rfl
theorem len_le {α : Type} {l : List α} {n : Nat} : decide ((l.length : Int) ≤ (n : Int)) = decide (l.length ≤ n) := decide_eq_decide.2 (by omega)
theorem len_gt {α : Type} {l : List α} {n : Nat} : decide ((n : Int) < (l.length : Int)) = !decide (l.length ≤ n) := by
  by_cases h : l.length ≤ n
  · rw [decide_eq_true h, decide_eq_false (by omega)]; rfl
  · rw [decide_eq_false h, decide_eq_true (by omega)]; rfl
end Go.Ab
