/- What a law does with configurations: their sizes, copies, whether two are alike. -/
import Derived.Test.YthncafnnekeogaaGreatDoorFnA
set_option linter.all false
set_option linter.unusedSimpArgs false
set_option linter.unusedVariables false
set_option linter.unusedSectionVars false
set_option maxRecDepth 20000
set_option maxHeartbeats 1000000
namespace Go.Ab
open Go Go.Proofs.Tryz
def szR (k : Nat) (n : Int) : Int := if n - k < 0 then -1 else n - k
theorem szR_add {a b : Nat} {n : Int} (h : ¬ n - a < 0) : szR b (szR a n) = szR (a + b) n := by
  unfold szR; rw [if_neg h]; split <;> split <;> omega
theorem szR_neg {a : Nat} {n : Int} (b : Nat) (h0 : 0 ≤ n) (h : n - a < 0) : szR (a + b) n = -1 := by
  unfold szR; rw [if_pos (by omega)]
theorem szR_lt {a : Nat} {n : Int} (h0 : 0 ≤ n) : (szR a n < 0 ↔ n - a < 0) := by unfold szR; split <;> omega
theorem szR_le {a : Nat} {n : Int} (h : ¬ szR a n < 0) (h0 : 0 ≤ n) : 0 ≤ szR a n ∧ szR a n ≤ n ∧ szR a n = n - a ∧ (a : Int) ≤ n := by unfold szR at *; split at h <;> (try rw [if_neg (by assumption)]) <;> omega
theorem szR_0 {n : Int} (h0 : 0 ≤ n) : szR 0 n = n := by unfold szR; rw [if_neg (by omega)]; omega
/-- How large a list is, beside its length. -/
def sumL {α : Type} (f : α → Nat) (l : List α) : Nat := (l.map f).sum
theorem sumL_take {α : Type} (f : α → Nat) (l : List α) (d : α) {k : Nat} (h : k < l.length) : sumL f (l.take (k + 1)) = sumL f (l.take k) + f (l.getD k d) := by
  unfold sumL; rw [List.take_succ_eq_append_getElem h, List.map_append, List.sum_append]; simp [List.getD, h]
theorem sumL_take_le {α : Type} (f : α → Nat) (l : List α) (k : Nat) : sumL f (l.take k) ≤ sumL f l := by
  unfold sumL
  conv => rhs; rw [← List.take_append_drop k l, List.map_append, List.sum_append]
  omega
abbrev mxN : Nat := 9223372036854775807
abbrev fitStr (s : Str) : Prop := s.length ≤ 9223372036854775807
def fitL {α : Type} (P : α → Prop) (l : List α) : Prop := l.length ≤ mxN ∧ ∀ x ∈ l, P x
/-- How large a list is, its length and all of its elements. -/
def szL {α : Type} (f : α → Nat) (l : List α) : Nat := l.length + sumL f l
theorem szL_len {α : Type} (f : α → Nat) (l : List α) : l.length ≤ szL f l := Nat.le_add_right _ _
theorem sumL_mem {α : Type} (f : α → Nat) {l : List α} {x : α} (h : x ∈ l) : f x ≤ sumL f l := by
  induction l with
  | nil => cases h
  | cons y l ih =>
    have e : sumL f (y :: l) = f y + sumL f l := by simp [sumL]
    cases h with
    | head => omega
    | tail _ h => have := ih h; omega
theorem szL_mem {α : Type} (f : α → Nat) {l : List α} {x : α} (h : x ∈ l) : f x ≤ szL f l := by have := sumL_mem f h; unfold szL; omega
theorem fit_at {α : Type} {P : α → Prop} {l : List α} {d : α} (h : ∀ x ∈ l, P x) {k : Nat} (hk : k < l.length) : P (l.getD k d) := by
  have : l.getD k d = l[k] := by simp [List.getD, hk]
  rw [this]; exact h _ (List.getElem_mem hk)
theorem gd_nat {α : Type} (l : List α) (d : α) (k : Nat) : gd l d (k : Int) = l.getD k d := by simp [gd]
theorem szL_at {α : Type} (f : α → Nat) {l : List α} (d : α) {k : Nat} (h : k < l.length) : f (l.getD k d) ≤ szL f l := by
  have e : l.getD k d = l[k] := by simp [List.getD, h]
  rw [e]; exact szL_mem f (List.getElem_mem h)
noncomputable def sp_szStringS : Spec := ⟨[.sl .str, .sc], [.rd, .rd], true, fun
  | [.dat ⟨.str, l⟩, .int .i64 n] => some (some (0 ≤ n ∧ n ≤ 1048576 ∧ fitL fitStr l), .int .i64 (szR (szL List.length l) n), [])
  | _ => none⟩
@[push_cast] theorem sp_szStringS_ps : sp_szStringS.ps = [.sl .str, .sc] := rfl
@[push_cast] theorem sp_szStringS_md : sp_szStringS.modes = [.rd, .rd] := rfl
@[push_cast] theorem sp_szStringS_pure : sp_szStringS.pure = true := rfl
@[push_cast] theorem sp_szStringS_run (l : List Str) (n : Int) : sp_szStringS.run [.dat ⟨.str, l⟩, .int .i64 n] = some (some (0 ≤ n ∧ n ≤ 1048576 ∧ fitL fitStr l), .int .i64 (szR (szL List.length l) n), []) := rfl
/-- Sizes taken off one after the other. -/
theorem szR_two {n : Int} {a b c : Nat} (h : 0 ≤ n - a) (hc : a + b = c) : szR b (n - a) = szR c n := by unfold szR; split <;> split <;> omega
theorem szR_m1 {n : Int} {c : Nat} (h : n - c < 0) : -1 = szR c n := by unfold szR; rw [if_pos h]
theorem szR_step {n : Int} {a b c : Nat} (h : n - a - b < 0) (hc : a + b ≤ c) : szR c n = -1 := by unfold szR; rw [if_pos (by omega)]
theorem szR_end {n : Int} {a c : Nat} (h : 0 ≤ n - a) (hc : a = c) : szR c n = n - a := by subst hc; unfold szR; rw [if_neg (by omega)]
/-- A list that is filled up to a place. -/
def fillL {α : Type} (l : List α) (d : α) (k : Nat) : List α := l.take k ++ List.replicate (l.length - k) d
theorem fillL_0 {α : Type} (l : List α) (d : α) : fillL l d 0 = List.replicate l.length d := by simp [fillL]
theorem fillL_all {α : Type} (l : List α) (d : α) : fillL l d l.length = l := by simp [fillL]
theorem fillL_len {α : Type} (l : List α) (d : α) (k : Nat) (h : k ≤ l.length) : (fillL l d k).length = l.length := by simp [fillL]; omega
theorem fillL_set {α : Type} (l : List α) (d : α) {k : Nat} (h : k < l.length) : (fillL l d k).set k (l.getD k d) = fillL l d (k + 1) := by
  unfold fillL
  rw [List.take_succ_eq_append_getElem h, List.set_append_right _ _ (by simp; omega)]
  have e : l.length - k = (l.length - (k + 1)) + 1 := by omega
  have e2 : k - (l.take k).length = 0 := by simp; omega
  rw [e, List.replicate_succ, e2, List.set_cons_zero, List.append_assoc]
  simp [List.getD, h]
noncomputable def sp_toStringS : Spec := ⟨[.sl .str], [.rd], false, fun
  | [.dat ⟨.str, l⟩] => some (some (szL List.length l ≤ 1048576), .own true ⟨.str, l⟩, [])
  | _ => none⟩
@[push_cast] theorem sp_toStringS_ps : sp_toStringS.ps = [.sl .str] := rfl
@[push_cast] theorem sp_toStringS_md : sp_toStringS.modes = [.rd] := rfl
@[push_cast] theorem sp_toStringS_pure : sp_toStringS.pure = false := rfl
@[push_cast] theorem sp_toStringS_run (l : List Str) : sp_toStringS.run [.dat ⟨.str, l⟩] = some (some (szL List.length l ≤ 1048576), .own true ⟨.str, l⟩, []) := rfl
open Classical in
/-- Whether two data are the same. -/
noncomputable def eqB {α : Type} (a b : α) : Bool := decide (a = b)
theorem eqB_self {α : Type} (a : α) : eqB a a = true := by simp [eqB]
theorem eqB_of {α : Type} {a b : α} (h : a = b) : eqB a b = true := by simp [eqB, h]
theorem eqB_ne {α : Type} {a b : α} (h : a ≠ b) : eqB a b = false := by simp [eqB, h]
theorem eqB_true {α : Type} {a b : α} (h : eqB a b = true) : a = b := by simpa [eqB] using h
theorem eqB_dec {α : Type} [DecidableEq α] (a b : α) : decide (a = b) = eqB a b := by unfold eqB; congr
theorem eqB_not {α : Type} {a b : α} (h : (!eqB a b) = false) : a = b := by apply eqB_true; simpa using h
theorem eqB_yes {α : Type} {a b : α} (h : (!eqB a b) = true) : a ≠ b := by intro e; rw [eqB_of e] at h; cases h
theorem list_eq {α : Type} {a b : List α} (d : α) (hl : a.length = b.length) (h : ∀ j < a.length, a.getD j d = b.getD j d) : a = b := by
  apply List.ext_getElem hl
  intro j h1 h2
  have := h j h1
  simpa [List.getD, h1, h2] using this
noncomputable def sp_eqStringS : Spec := ⟨[.sl .str, .sl .str], [.rd, .rd], true, fun
  | [.dat ⟨.str, a⟩, .dat ⟨.str, b⟩] => some (some (szL List.length a ≤ 1048576), .bool (eqB a b), [])
  | _ => none⟩
@[push_cast] theorem sp_eqStringS_ps : sp_eqStringS.ps = [.sl .str, .sl .str] := rfl
@[push_cast] theorem sp_eqStringS_md : sp_eqStringS.modes = [.rd, .rd] := rfl
@[push_cast] theorem sp_eqStringS_pure : sp_eqStringS.pure = true := rfl
@[push_cast] theorem sp_eqStringS_run (a b : List Str) : sp_eqStringS.run [.dat ⟨.str, a⟩, .dat ⟨.str, b⟩] = some (some (szL List.length a ≤ 1048576), .bool (eqB a b), []) := rfl
@[push_cast] theorem eta_rule (r : Rule) : (⟨r.space, r.name, r.attrs⟩ : Rule) = r := rfl
def szRule (r : Rule) : Nat := r.name.length + szL List.length r.attrs
def fitRule (r : Rule) : Prop := fitStr r.name ∧ fitL fitStr r.attrs
noncomputable def sp_szRule : Spec := ⟨[.st .rule, .sc], [.rd, .rd], true, fun
  | [.agg [.int .i64 s, .str m, .dat ⟨.str, a⟩], .int .i64 n] => some (some (0 ≤ n ∧ n ≤ 1048576 ∧ fitRule ⟨s, m, a⟩), .int .i64 (szR (szRule ⟨s, m, a⟩) n), [])
  | _ => none⟩
@[push_cast] theorem sp_szRule_ps : sp_szRule.ps = [.st .rule, .sc] := rfl
@[push_cast] theorem sp_szRule_md : sp_szRule.modes = [.rd, .rd] := rfl
@[push_cast] theorem sp_szRule_pure : sp_szRule.pure = true := rfl
@[push_cast] theorem sp_szRule_run (s n : Int) (m : Str) (a : List Str) : sp_szRule.run [.agg [.int .i64 s, .str m, .dat ⟨.str, a⟩], .int .i64 n] = some (some (0 ≤ n ∧ n ≤ 1048576 ∧ fitRule ⟨s, m, a⟩), .int .i64 (szR (szRule ⟨s, m, a⟩) n), []) := rfl
noncomputable def sp_szRuleS : Spec := ⟨[.sl .rule, .sc], [.rd, .rd], true, fun
  | [.dat ⟨.rule, l⟩, .int .i64 n] => some (some (0 ≤ n ∧ n ≤ 1048576 ∧ fitL fitRule l), .int .i64 (szR (szL szRule l) n), [])
  | _ => none⟩
@[push_cast] theorem sp_szRuleS_ps : sp_szRuleS.ps = [.sl .rule, .sc] := rfl
@[push_cast] theorem sp_szRuleS_md : sp_szRuleS.modes = [.rd, .rd] := rfl
@[push_cast] theorem sp_szRuleS_pure : sp_szRuleS.pure = true := rfl
@[push_cast] theorem sp_szRuleS_run (l : List Rule) (n : Int) : sp_szRuleS.run [.dat ⟨.rule, l⟩, .int .i64 n] = some (some (0 ≤ n ∧ n ≤ 1048576 ∧ fitL fitRule l), .int .i64 (szR (szL szRule l) n), []) := rfl
noncomputable def sp_toRule : Spec := ⟨[.st .rule], [.rd], false, fun
  | [.agg [.int .i64 s, .str m, .dat ⟨.str, a⟩]] => some (some (szL List.length a ≤ 1048576), .agg [.int .i64 s, .str m, .own true ⟨.str, a⟩], [])
  | _ => none⟩
@[push_cast] theorem sp_toRule_ps : sp_toRule.ps = [.st .rule] := rfl
@[push_cast] theorem sp_toRule_md : sp_toRule.modes = [.rd] := rfl
@[push_cast] theorem sp_toRule_pure : sp_toRule.pure = false := rfl
@[push_cast] theorem sp_toRule_run (s : Int) (m : Str) (a : List Str) : sp_toRule.run [.agg [.int .i64 s, .str m, .dat ⟨.str, a⟩]] = some (some (szL List.length a ≤ 1048576), .agg [.int .i64 s, .str m, .own true ⟨.str, a⟩], []) := rfl
noncomputable def sp_toRuleS : Spec := ⟨[.sl .rule], [.rd], false, fun
  | [.dat ⟨.rule, l⟩] => some (some (szL szRule l ≤ 1048576), .own true ⟨.rule, l⟩, [])
  | _ => none⟩
@[push_cast] theorem sp_toRuleS_ps : sp_toRuleS.ps = [.sl .rule] := rfl
@[push_cast] theorem sp_toRuleS_md : sp_toRuleS.modes = [.rd] := rfl
@[push_cast] theorem sp_toRuleS_pure : sp_toRuleS.pure = false := rfl
@[push_cast] theorem sp_toRuleS_run (l : List Rule) : sp_toRuleS.run [.dat ⟨.rule, l⟩] = some (some (szL szRule l ≤ 1048576), .own true ⟨.rule, l⟩, []) := rfl
noncomputable def sp_eqRule : Spec := ⟨[.st .rule, .st .rule], [.rd, .rd], true, fun
  | [.agg [.int .i64 s, .str m, .dat ⟨.str, a⟩], .agg [.int .i64 s', .str m', .dat ⟨.str, a'⟩]] => some (some (szL List.length a ≤ 1048576), .bool (eqB (⟨s, m, a⟩ : Rule) ⟨s', m', a'⟩), [])
  | _ => none⟩
@[push_cast] theorem sp_eqRule_ps : sp_eqRule.ps = [.st .rule, .st .rule] := rfl
@[push_cast] theorem sp_eqRule_md : sp_eqRule.modes = [.rd, .rd] := rfl
@[push_cast] theorem sp_eqRule_pure : sp_eqRule.pure = true := rfl
@[push_cast] theorem sp_eqRule_run (s s' : Int) (m m' : Str) (a a' : List Str) : sp_eqRule.run [.agg [.int .i64 s, .str m, .dat ⟨.str, a⟩], .agg [.int .i64 s', .str m', .dat ⟨.str, a'⟩]] = some (some (szL List.length a ≤ 1048576), .bool (eqB (⟨s, m, a⟩ : Rule) ⟨s', m', a'⟩), []) := rfl
noncomputable def sp_eqRuleS : Spec := ⟨[.sl .rule, .sl .rule], [.rd, .rd], true, fun
  | [.dat ⟨.rule, a⟩, .dat ⟨.rule, b⟩] => some (some (szL szRule a ≤ 1048576), .bool (eqB a b), [])
  | _ => none⟩
@[push_cast] theorem sp_eqRuleS_ps : sp_eqRuleS.ps = [.sl .rule, .sl .rule] := rfl
@[push_cast] theorem sp_eqRuleS_md : sp_eqRuleS.modes = [.rd, .rd] := rfl
@[push_cast] theorem sp_eqRuleS_pure : sp_eqRuleS.pure = true := rfl
@[push_cast] theorem sp_eqRuleS_run (a b : List Rule) : sp_eqRuleS.run [.dat ⟨.rule, a⟩, .dat ⟨.rule, b⟩] = some (some (szL szRule a ≤ 1048576), .bool (eqB a b), []) := rfl
theorem len_le {α : Type} {l : List α} {n : Nat} : decide ((l.length : Int) ≤ (n : Int)) = decide (l.length ≤ n) := decide_eq_decide.2 (by omega)
theorem len_gt {α : Type} {l : List α} {n : Nat} : decide ((n : Int) < (l.length : Int)) = !decide (l.length ≤ n) := by
  by_cases h : l.length ≤ n
  · rw [decide_eq_true h, decide_eq_false (by omega)]; rfl
  · rw [decide_eq_false h, decide_eq_true (by omega)]; rfl
theorem len_0 {α : Type} [DecidableEq α] {l : List α} : decide ((l.length : Int) = 0) = decide (l = []) := decide_eq_decide.2 ⟨fun h => List.length_eq_zero_iff.1 (by omega), fun h => by subst h; rfl⟩
theorem len_p {α : Type} [DecidableEq α] {l : List α} : decide ((0 : Int) < l.length) = !decide (l = []) := by
  by_cases h : l = []
  · subst h; rfl
  · have := List.length_pos_iff.2 h
    rw [decide_eq_false h, decide_eq_true (by omega)]; rfl
theorem len_e {α : Type} {l : List α} : decide ((l.length : Int) = 0) = l.isEmpty := by
  cases l with
  | nil => rfl
  | cons x l => exact decide_eq_false (by simp only [List.length_cons]; omega)
theorem len_pe {α : Type} {l : List α} : decide ((0 : Int) < l.length) = !l.isEmpty := by
  cases l with
  | nil => rfl
  | cons x l => exact decide_eq_true (by simp only [List.length_cons]; omega)
end Go.Ab
