/- What a law does with configurations: their sizes, copies, whether two are alike. -/
import Derived.Test.YtnnbjffppfagkaaGreatFnA
set_option linter.all false
set_option linter.unusedSimpArgs false
set_option linter.unusedVariables false
set_option linter.unusedSectionVars false
set_option maxRecDepth 20000
set_option maxHeartbeats 1000000
namespace Go.Ab
open Go Go.Proofs.Tryz
def szR (k : Nat) (n : Int) : Int := if n - k < 0 then -1 else n - k
theorem szR_add {a b : Nat} {n : Int} (h : ¬ n - a < 0) : szR b (szR a n) = szR (a + b) n := by
  unfold szR; rw [if_neg h]; split <;> split <;> omega
theorem szR_neg {a : Nat} {n : Int} (b : Nat) (h0 : 0 ≤ n) (h : n - a < 0) : szR (a + b) n = -1 := by
  unfold szR; rw [if_pos (by omega)]
theorem szR_lt {a : Nat} {n : Int} (h0 : 0 ≤ n) : (szR a n < 0 ↔ n - a < 0) := by unfold szR; split <;> omega
theorem szR_le {a : Nat} {n : Int} (h : ¬ szR a n < 0) (h0 : 0 ≤ n) : 0 ≤ szR a n ∧ szR a n ≤ n ∧ szR a n = n - a ∧ (a : Int) ≤ n := by unfold szR at *; split at h <;> (try rw [if_neg (by assumption)]) <;> omega
theorem szR_0 {n : Int} (h0 : 0 ≤ n) : szR 0 n = n := by unfold szR; rw [if_neg (by omega)]; omega
/-- How large a list is, beside its length. -/
def sumL {α : Type} (f : α → Nat) (l : List α) : Nat := (l.map f).sum
theorem sumL_take {α : Type} (f : α → Nat) (l : List α) (d : α) {k : Nat} (h : k < l.length) : sumL f (l.take (k + 1)) = sumL f (l.take k) + f (l.getD k d) := by
  unfold sumL; rw [List.take_succ_eq_append_getElem h, List.map_append, List.sum_append]; simp [List.getD, h]
theorem sumL_take_le {α : Type} (f : α → Nat) (l : List α) (k : Nat) : sumL f (l.take k) ≤ sumL f l := by
  unfold sumL
  conv => rhs; rw [← List.take_append_drop k l, List.map_append, List.sum_append]
  omega
abbrev mxN : Nat := 9223372036854775807
abbrev fitStr (s : Str) : Prop := s.length ≤ 9223372036854775807
def fitL {α : Type} (P : α → Prop) (l : List α) : Prop := l.length ≤ mxN ∧ ∀ x ∈ l, P x
/-- How large a list is, its length and all of its elements. -/
def szL {α : Type} (f : α → Nat) (l : List α) : Nat := l.length + sumL f l
theorem szL_len {α : Type} (f : α → Nat) (l : List α) : l.length ≤ szL f l := Nat.le_add_right _ _
theorem sumL_mem {α : Type} (f : α → Nat) {l : List α} {x : α} (h : x ∈ l) : f x ≤ sumL f l := by
  induction l with
  | nil => cases h
  | cons y l ih =>
    have e : sumL f (y :: l) = f y + sumL f l := by simp [sumL]
    cases h with
    | head => omega
    | tail _ h => have := ih h; omega
theorem szL_mem {α : Type} (f : α → Nat) {l : List α} {x : α} (h : x ∈ l) : f x ≤ szL f l := by have := sumL_mem f h; unfold szL; omega
theorem fit_at {α : Type} {P : α → Prop} {l : List α} {d : α} (h : ∀ x ∈ l, P x) {k : Nat} (hk : k < l.length) : P (l.getD k d) := by
  have : l.getD k d = l[k] := by simp [List.getD, hk]
  rw [this]; exact h _ (List.getElem_mem hk)
theorem gd_nat {α : Type} (l : List α) (d : α) (k : Nat) : gd l d (k : Int) = l.getD k d := by simp [gd]
theorem szL_at {α : Type} (f : α → Nat) {l : List α} (d : α) {k : Nat} (h : k < l.length) : f (l.getD k d) ≤ szL f l := by
  have e : l.getD k d = l[k] := by simp [List.getD, h]
  rw [e]; exact szL_mem f (List.getElem_mem h)
noncomputable def sp_szStringS : Spec := ⟨[.sl .str, .sc], [.rd, .rd], true, fun
  | [.dat ⟨.str, l⟩, .int .i64 n] => some (some (0 ≤ n ∧ n ≤ 1048576 ∧ fitL fitStr l), .int .i64 (szR (szL List.length l) n), [])
  | _ => none⟩
@[push_cast] theorem sp_szStringS_ps : sp_szStringS.ps = [.sl .str, .sc] := rfl
@[push_cast] theorem sp_szStringS_md : sp_szStringS.modes = [.rd, .rd] := rfl
@[push_cast] theorem sp_szStringS_pure : sp_szStringS.pure = true := rfl
@[push_cast] theorem sp_szStringS_run (l : List Str) (n : Int) : sp_szStringS.run [.dat ⟨.str, l⟩, .int .i64 n] = some (some (0 ≤ n ∧ n ≤ 1048576 ∧ fitL fitStr l), .int .i64 (szR (szL List.length l) n), []) := rfl
/-- Sizes taken off one after the other. -/
theorem szR_two {n : Int} {a b c : Nat} (h : 0 ≤ n - a) (hc : a + b = c) : szR b (n - a) = szR c n := by unfold szR; split <;> split <;> omega
theorem szR_m1 {n : Int} {c : Nat} (h : n - c < 0) : -1 = szR c n := by unfold szR; rw [if_pos h]
theorem szR_step {n : Int} {a b c : Nat} (h : n - a - b < 0) (hc : a + b ≤ c) : szR c n = -1 := by unfold szR; rw [if_pos (by omega)]
theorem szR_end {n : Int} {a c : Nat} (h : 0 ≤ n - a) (hc : a = c) : szR c n = n - a := by subst hc; unfold szR; rw [if_neg (by omega)]
noncomputable def e_szStringS : Env := mk [] [] [] [] none
@[push_cast] theorem e_szStringS_in : e_szStringS.inl = inlF [] := rfl
@[push_cast] theorem e_szStringS_fn : e_szStringS.fnd = fndF none := rfl
@[push_cast] theorem e_szStringS_gh : e_szStringS.gh = ghOf [] := rfl
@[push_cast] theorem e_szStringS_dr : e_szStringS.dr = drOf [] := rfl
@[push_cast] theorem e_szStringS_td : e_szStringS.td = td := rfl
@[push_cast] theorem e_szStringS_eqt : e_szStringS.eqt = eqt := rfl
@[push_cast] theorem e_szStringS_cal : e_szStringS.cal = calOf [] := rfl
theorem c_szStringS : CRow P0 ety0 32 sp_szStringS := CRow.of (E := e_szStringS) (mkOk (.nil)) func32 rfl rfl rfl (by
  intro args p r outs h hq
  simp only [sp_szStringS] at h; split at h <;> cases h
  rename_i l n
  obtain ⟨h0, h1, hl, hx⟩ := hq _ rfl
  have hl' : l.length ≤ 9223372036854775807 := hl
  refine Body.intro (rs := [.tmp 4]) rfl rfl rfl ?_
  apply vc_run 1000 (stop := false) rfl; simp only [push_cast, reduceIte, Nat.reduceEqDiff, Nat.reduceAdd, Nat.reduceSub, Nat.reduceLT, Int.reduceNeg, Int.reduceLE, Int.reduceLT, Int.reduceToNat, Nat.reduceLeDiff, UInt8.reduceOfNat, UInt8.reduceOfNatLT, and_self, Nat.reduceMul, decide_true, decide_false, Bool.not_true, Bool.not_false, implies_true]
  refine ⟨by constructor <;> omega, fun h => ?_, fun h => ?_⟩
  · rw [szL, szR_neg _ h0 (by simpa using h)]
  have h : ¬ n - (l.length : Int) < 0 := by simpa using h
  refine Run.loop [1, 5] [0] [] rfl (fun m vs bs => ∃ k : Nat, vs = [.int .i64 (n - l.length - sumL List.length (l.take k)), .int .i64 k] ∧ bs = [] ∧ k ≤ l.length ∧ 0 ≤ n - l.length - sumL List.length (l.take k) ∧ m = l.length - k) l.length ?_ ?_
  · simp only [push_cast, reduceIte, Nat.reduceEqDiff, Nat.reduceAdd, Nat.reduceSub, Nat.reduceLT, Int.reduceNeg, Int.reduceLE, Int.reduceLT, Int.reduceToNat, Nat.reduceLeDiff, UInt8.reduceOfNat, UInt8.reduceOfNatLT, and_self, Nat.reduceMul, decide_true, decide_false, Bool.not_true, Bool.not_false, implies_true]
    exact ⟨0, by simp [sumL], by omega, by simp [sumL]; omega, by omega⟩
  rintro m vs bs ⟨k, rfl, rfl, hk, hp, rfl⟩
  simp only [push_cast, reduceIte, Nat.reduceEqDiff, Nat.reduceAdd, Nat.reduceSub, Nat.reduceLT, Int.reduceNeg, Int.reduceLE, Int.reduceLT, Int.reduceToNat, Nat.reduceLeDiff, UInt8.reduceOfNat, UInt8.reduceOfNatLT, and_self, Nat.reduceMul, decide_true, decide_false, Bool.not_true, Bool.not_false, implies_true]
  apply vc_run 1000 (stop := false) rfl; simp only [push_cast, reduceIte, Nat.reduceEqDiff, Nat.reduceAdd, Nat.reduceSub, Nat.reduceLT, Int.reduceNeg, Int.reduceLE, Int.reduceLT, Int.reduceToNat, Nat.reduceLeDiff, UInt8.reduceOfNat, UInt8.reduceOfNatLT, and_self, Nat.reduceMul, decide_true, decide_false, Bool.not_true, Bool.not_false, implies_true]
  have hle := sumL_take_le List.length l k
  refine ⟨fun hlt => ?_, fun hge => ?_⟩
  · have hlt : k < l.length := by simpa using hlt
    have hs := sumL_take List.length l [] hlt
    have hf : (l.getD k []).length ≤ 9223372036854775807 := fit_at hx hlt
    have hle1 := sumL_take_le List.length l (k + 1)
    rw [gd_nat]
    refine ⟨by omega, by constructor <;> omega, fun hneg => ?_, fun hpos => ⟨by constructor <;> omega, _, by omega, k + 1, ?_, by omega, ?_, rfl⟩⟩
    · have hneg : n - (l.length : Int) - sumL List.length (l.take k) - (l.getD k []).length < 0 := by simpa using hneg
      rw [szL, szR, if_pos (by omega)]
    · rw [hs]; simp; omega
    · have hpos : ¬ n - (l.length : Int) - sumL List.length (l.take k) - (l.getD k []).length < 0 := by simpa using hpos
      omega
  · have hge : k = l.length := by simp at hge; omega
    subst hge
    rw [List.take_length] at hp ⊢
    rw [szL, szR, if_neg (by omega)]
    congr 1
    omega)
/-- A list that is filled up to a place. -/
def fillL {α : Type} (l : List α) (d : α) (k : Nat) : List α := l.take k ++ List.replicate (l.length - k) d
theorem fillL_0 {α : Type} (l : List α) (d : α) : fillL l d 0 = List.replicate l.length d := by simp [fillL]
theorem fillL_all {α : Type} (l : List α) (d : α) : fillL l d l.length = l := by simp [fillL]
theorem fillL_len {α : Type} (l : List α) (d : α) (k : Nat) (h : k ≤ l.length) : (fillL l d k).length = l.length := by simp [fillL]; omega
theorem fillL_set {α : Type} (l : List α) (d : α) {k : Nat} (h : k < l.length) : (fillL l d k).set k (l.getD k d) = fillL l d (k + 1) := by
  unfold fillL
  rw [List.take_succ_eq_append_getElem h, List.set_append_right _ _ (by simp; omega)]
  have e : l.length - k = (l.length - (k + 1)) + 1 := by omega
  have e2 : k - (l.take k).length = 0 := by simp; omega
  rw [e, List.replicate_succ, e2, List.set_cons_zero, List.append_assoc]
  simp [List.getD, h]
noncomputable def sp_toStringS : Spec := ⟨[.sl .str], [.rd], false, fun
  | [.dat ⟨.str, l⟩] => some (some (szL List.length l ≤ 1048576), .own true ⟨.str, l⟩, [])
  | _ => none⟩
@[push_cast] theorem sp_toStringS_ps : sp_toStringS.ps = [.sl .str] := rfl
@[push_cast] theorem sp_toStringS_md : sp_toStringS.modes = [.rd] := rfl
@[push_cast] theorem sp_toStringS_pure : sp_toStringS.pure = false := rfl
@[push_cast] theorem sp_toStringS_run (l : List Str) : sp_toStringS.run [.dat ⟨.str, l⟩] = some (some (szL List.length l ≤ 1048576), .own true ⟨.str, l⟩, []) := rfl
noncomputable def e_toStringS : Env := mk [] [] [] [] none
@[push_cast] theorem e_toStringS_in : e_toStringS.inl = inlF [] := rfl
@[push_cast] theorem e_toStringS_fn : e_toStringS.fnd = fndF none := rfl
@[push_cast] theorem e_toStringS_gh : e_toStringS.gh = ghOf [] := rfl
@[push_cast] theorem e_toStringS_dr : e_toStringS.dr = drOf [] := rfl
@[push_cast] theorem e_toStringS_td : e_toStringS.td = td := rfl
@[push_cast] theorem e_toStringS_eqt : e_toStringS.eqt = eqt := rfl
@[push_cast] theorem e_toStringS_cal : e_toStringS.cal = calOf [] := rfl
theorem c_toStringS : CRow P0 ety0 38 sp_toStringS := CRow.of (E := e_toStringS) (mkOk (.nil)) func38 rfl rfl rfl (by
  intro args p r outs h hq
  simp only [sp_toStringS] at h; split at h <;> cases h
  rename_i l
  have hz := hq _ rfl
  have hl : l.length ≤ 1048576 := Nat.le_trans (szL_len _ _) hz
  refine Body.intro (rs := [.tmp 2]) rfl rfl rfl ?_
  apply vc_run 1000 (stop := false) rfl; simp only [push_cast, reduceIte, Nat.reduceEqDiff, Nat.reduceAdd, Nat.reduceSub, Nat.reduceLT, Int.reduceNeg, Int.reduceLE, Int.reduceLT, Int.reduceToNat, Nat.reduceLeDiff, UInt8.reduceOfNat, UInt8.reduceOfNatLT, and_self, Nat.reduceMul, decide_true, decide_false, Bool.not_true, Bool.not_false, implies_true]
  refine ⟨by omega, ?_⟩
  refine Run.loop [3, 4] [0] [] rfl (fun m vs bs => ∃ k : Nat, vs = [.own true ⟨.str, fillL l [] k⟩, .int .i64 k] ∧ bs = [] ∧ k ≤ l.length ∧ m = l.length - k) l.length ?_ ?_
  · simp only [push_cast, reduceIte, Nat.reduceEqDiff, Nat.reduceAdd, Nat.reduceSub, Nat.reduceLT, Int.reduceNeg, Int.reduceLE, Int.reduceLT, Int.reduceToNat, Nat.reduceLeDiff, UInt8.reduceOfNat, UInt8.reduceOfNatLT, and_self, Nat.reduceMul, decide_true, decide_false, Bool.not_true, Bool.not_false, implies_true]
    exact ⟨0, by rw [fillL_0]; rfl, by omega, by omega⟩
  rintro m vs bs ⟨k, rfl, rfl, hk, rfl⟩
  simp only [push_cast, reduceIte, Nat.reduceEqDiff, Nat.reduceAdd, Nat.reduceSub, Nat.reduceLT, Int.reduceNeg, Int.reduceLE, Int.reduceLT, Int.reduceToNat, Nat.reduceLeDiff, UInt8.reduceOfNat, UInt8.reduceOfNatLT, and_self, Nat.reduceMul, decide_true, decide_false, Bool.not_true, Bool.not_false, implies_true]
  apply vc_run 1000 (stop := false) rfl; simp only [push_cast, reduceIte, Nat.reduceEqDiff, Nat.reduceAdd, Nat.reduceSub, Nat.reduceLT, Int.reduceNeg, Int.reduceLE, Int.reduceLT, Int.reduceToNat, Nat.reduceLeDiff, UInt8.reduceOfNat, UInt8.reduceOfNatLT, and_self, Nat.reduceMul, decide_true, decide_false, Bool.not_true, Bool.not_false, implies_true]
  rw [fillL_len _ _ _ hk]
  refine ⟨fun hlt => ?_, fun hge => ?_⟩
  · have hlt : k < l.length := by simpa using hlt
    have hel : List.length (l.getD k []) ≤ 1048576 := Nat.le_trans (szL_at _ _ hlt) hz
    simp only [gd_nat, Int.toNat_natCast]
    refine ⟨by omega, by omega, by constructor <;> omega, _, by omega, k + 1, ?_, by omega, rfl⟩
    rw [← fillL_set _ _ hlt]
    first | rfl | (cases hc : l.getD k []; rfl)
  · have hge : k = l.length := by simp at hge; omega
    subst hge
    rw [fillL_all])
open Classical in
/-- Whether two data are the same. -/
noncomputable def eqB {α : Type} (a b : α) : Bool := decide (a = b)
theorem eqB_self {α : Type} (a : α) : eqB a a = true := by simp [eqB]
theorem eqB_of {α : Type} {a b : α} (h : a = b) : eqB a b = true := by simp [eqB, h]
theorem eqB_ne {α : Type} {a b : α} (h : a ≠ b) : eqB a b = false := by simp [eqB, h]
theorem eqB_true {α : Type} {a b : α} (h : eqB a b = true) : a = b := by simpa [eqB] using h
theorem eqB_dec {α : Type} [DecidableEq α] (a b : α) : decide (a = b) = eqB a b := by unfold eqB; congr
theorem eqB_not {α : Type} {a b : α} (h : (!eqB a b) = false) : a = b := by apply eqB_true; simpa using h
theorem eqB_yes {α : Type} {a b : α} (h : (!eqB a b) = true) : a ≠ b := by intro e; rw [eqB_of e] at h; cases h
theorem list_eq {α : Type} {a b : List α} (d : α) (hl : a.length = b.length) (h : ∀ j < a.length, a.getD j d = b.getD j d) : a = b := by
  apply List.ext_getElem hl
  intro j h1 h2
  have := h j h1
  simpa [List.getD, h1, h2] using this
noncomputable def sp_eqStringS : Spec := ⟨[.sl .str, .sl .str], [.rd, .rd], true, fun
  | [.dat ⟨.str, a⟩, .dat ⟨.str, b⟩] => some (some (szL List.length a ≤ 1048576), .bool (eqB a b), [])
  | _ => none⟩
@[push_cast] theorem sp_eqStringS_ps : sp_eqStringS.ps = [.sl .str, .sl .str] := rfl
@[push_cast] theorem sp_eqStringS_md : sp_eqStringS.modes = [.rd, .rd] := rfl
@[push_cast] theorem sp_eqStringS_pure : sp_eqStringS.pure = true := rfl
@[push_cast] theorem sp_eqStringS_run (a b : List Str) : sp_eqStringS.run [.dat ⟨.str, a⟩, .dat ⟨.str, b⟩] = some (some (szL List.length a ≤ 1048576), .bool (eqB a b), []) := rfl
noncomputable def e_eqStringS : Env := mk [] [(6, [], [])] [] [] none
@[push_cast] theorem e_eqStringS_in : e_eqStringS.inl = inlF [] := rfl
@[push_cast] theorem e_eqStringS_fn : e_eqStringS.fnd = fndF none := rfl
@[push_cast] theorem e_eqStringS_gh : e_eqStringS.gh = ghOf [] := rfl
@[push_cast] theorem e_eqStringS_dr : e_eqStringS.dr = drOf [(6, [], [])] := rfl
@[push_cast] theorem e_eqStringS_td : e_eqStringS.td = td := rfl
@[push_cast] theorem e_eqStringS_eqt : e_eqStringS.eqt = eqt := rfl
@[push_cast] theorem e_eqStringS_cal : e_eqStringS.cal = calOf [] := rfl
theorem c_eqStringS : CRow P0 ety0 27 sp_eqStringS := CRow.of (E := e_eqStringS) (mkOk (.nil)) func27 rfl rfl rfl (by
  intro args p r outs h hq
  simp only [sp_eqStringS] at h; split at h <;> cases h
  rename_i a b
  have hz := hq _ rfl
  have hl : a.length ≤ 1048576 := Nat.le_trans (szL_len _ _) hz
  refine Body.intro (rs := [.tmp 4]) rfl rfl rfl ?_
  apply vc_run 1000 (stop := false) rfl; simp only [push_cast, reduceIte, Nat.reduceEqDiff, Nat.reduceAdd, Nat.reduceSub, Nat.reduceLT, Int.reduceNeg, Int.reduceLE, Int.reduceLT, Int.reduceToNat, Nat.reduceLeDiff, UInt8.reduceOfNat, UInt8.reduceOfNatLT, and_self, Nat.reduceMul, decide_true, decide_false, Bool.not_true, Bool.not_false, implies_true]
  refine ⟨fun h => ?_, fun h => ?_⟩
  · rw [eqB_ne]; intro e; subst e; simp at h
  have h : a.length = b.length := by simp at h; omega
  refine Run.loop [5] [0, 1] [] rfl (fun m vs bs => ∃ k : Nat, vs = [.int .i64 k] ∧ bs = [] ∧ k ≤ a.length ∧ (∀ j < k, a.getD j [] = b.getD j []) ∧ m = a.length - k) a.length ?_ ?_
  · simp only [push_cast, reduceIte, Nat.reduceEqDiff, Nat.reduceAdd, Nat.reduceSub, Nat.reduceLT, Int.reduceNeg, Int.reduceLE, Int.reduceLT, Int.reduceToNat, Nat.reduceLeDiff, UInt8.reduceOfNat, UInt8.reduceOfNatLT, and_self, Nat.reduceMul, decide_true, decide_false, Bool.not_true, Bool.not_false, implies_true]
    exact ⟨0, by simp, by omega, by simp, by omega⟩
  rintro m vs bs ⟨k, rfl, rfl, hk, hb, rfl⟩
  simp only [push_cast, reduceIte, Nat.reduceEqDiff, Nat.reduceAdd, Nat.reduceSub, Nat.reduceLT, Int.reduceNeg, Int.reduceLE, Int.reduceLT, Int.reduceToNat, Nat.reduceLeDiff, UInt8.reduceOfNat, UInt8.reduceOfNatLT, and_self, Nat.reduceMul, decide_true, decide_false, Bool.not_true, Bool.not_false, implies_true]
  apply vc_run 1000 (stop := false) rfl; simp only [push_cast, reduceIte, Nat.reduceEqDiff, Nat.reduceAdd, Nat.reduceSub, Nat.reduceLT, Int.reduceNeg, Int.reduceLE, Int.reduceLT, Int.reduceToNat, Nat.reduceLeDiff, UInt8.reduceOfNat, UInt8.reduceOfNatLT, and_self, Nat.reduceMul, decide_true, decide_false, Bool.not_true, Bool.not_false, implies_true]
  refine ⟨fun hlt => ?_, fun hge => ?_⟩
  · have hlt : k < a.length := by simpa using hlt
    have hel : List.length (a.getD k []) ≤ 1048576 := Nat.le_trans (szL_at _ _ hlt) hz
    simp only [gd_nat]
    refine ⟨by omega, by omega, fun hne => ?_, fun heq => ⟨by constructor <;> omega, _, by omega, k + 1, rfl, by omega, fun j hj => ?_, rfl⟩⟩
    · rw [eqB_ne]; intro e; subst e; first | (simp at hne; done) | exact absurd hne (by simp [eqB_self])
    · rcases Nat.lt_or_eq_of_le (Nat.le_of_lt_succ hj) with h | rfl
      · exact hb j h
      · first | exact eqB_not heq | (simpa using heq; done) | exact eqK (eqB_not heq)
  · have hge : k = a.length := by simp at hge; omega
    subst hge
    rw [eqB_of (list_eq [] h hb)])
@[push_cast] theorem eta_rule (r : Rule) : (⟨r.space, r.name, r.attrs⟩ : Rule) = r := rfl
def szRule (r : Rule) : Nat := r.name.length + szL List.length r.attrs
def fitRule (r : Rule) : Prop := fitStr r.name ∧ fitL fitStr r.attrs
noncomputable def sp_szRule : Spec := ⟨[.st .rule, .sc], [.rd, .rd], true, fun
  | [.agg [.int .i64 s, .str m, .dat ⟨.str, a⟩], .int .i64 n] => some (some (0 ≤ n ∧ n ≤ 1048576 ∧ fitRule ⟨s, m, a⟩), .int .i64 (szR (szRule ⟨s, m, a⟩) n), [])
  | _ => none⟩
@[push_cast] theorem sp_szRule_ps : sp_szRule.ps = [.st .rule, .sc] := rfl
@[push_cast] theorem sp_szRule_md : sp_szRule.modes = [.rd, .rd] := rfl
@[push_cast] theorem sp_szRule_pure : sp_szRule.pure = true := rfl
@[push_cast] theorem sp_szRule_run (s n : Int) (m : Str) (a : List Str) : sp_szRule.run [.agg [.int .i64 s, .str m, .dat ⟨.str, a⟩], .int .i64 n] = some (some (0 ≤ n ∧ n ≤ 1048576 ∧ fitRule ⟨s, m, a⟩), .int .i64 (szR (szRule ⟨s, m, a⟩) n), []) := rfl
noncomputable def e_szRule : Env := mk [(32, sp_szStringS)] [] [] [] none
@[push_cast] theorem e_szRule_in : e_szRule.inl = inlF [] := rfl
@[push_cast] theorem e_szRule_fn : e_szRule.fnd = fndF none := rfl
@[push_cast] theorem e_szRule_gh : e_szRule.gh = ghOf [] := rfl
@[push_cast] theorem e_szRule_dr : e_szRule.dr = drOf [] := rfl
@[push_cast] theorem e_szRule_td : e_szRule.td = td := rfl
@[push_cast] theorem e_szRule_eqt : e_szRule.eqt = eqt := rfl
@[push_cast] theorem e_szRule_cal : e_szRule.cal = calOf [(32, sp_szStringS)] := rfl
theorem c_szRule : CRow P0 ety0 53 sp_szRule := CRow.of (E := e_szRule) (mkOk (.cons c_szStringS (.nil))) func53 rfl rfl rfl (by
  intro args p r outs h hq
  simp only [sp_szRule] at h; split at h <;> cases h
  rename_i s m a n
  obtain ⟨h0, h1, hm, ha⟩ := hq _ rfl
  have hm : m.length ≤ 9223372036854775807 := hm
  refine Body.intro (rs := [.tmp 4]) rfl rfl rfl ?_
  apply vc_run 1000 (stop := false) rfl; simp only [push_cast, reduceIte, Nat.reduceEqDiff, Nat.reduceAdd, Nat.reduceSub, Nat.reduceLT, Int.reduceNeg, Int.reduceLE, Int.reduceLT, Int.reduceToNat, Nat.reduceLeDiff, UInt8.reduceOfNat, UInt8.reduceOfNatLT, and_self, Nat.reduceMul, decide_true, decide_false, Bool.not_true, Bool.not_false, implies_true]
  refine ⟨by constructor <;> omega, fun h => ?_, fun h => ?_⟩
  · have h : n - (m.length : Int) < 0 := by simpa using h
    rw [← szR_m1]; simp only [szRule]; omega
  · have h : 0 ≤ n - (m.length : Int) := by simpa using h
    refine ⟨⟨h, by omega, ha⟩, fun h' => ?_, fun h' => ?_⟩
    · have h' : szR (szL List.length a) (n - m.length) < 0 := by simpa using h'
      rw [szR_lt h] at h'
      rw [← szR_m1]; simp only [szRule]; omega
    · rw [szR_two h rfl]; rfl)
noncomputable def sp_szRuleS : Spec := ⟨[.sl .rule, .sc], [.rd, .rd], true, fun
  | [.dat ⟨.rule, l⟩, .int .i64 n] => some (some (0 ≤ n ∧ n ≤ 1048576 ∧ fitL fitRule l), .int .i64 (szR (szL szRule l) n), [])
  | _ => none⟩
@[push_cast] theorem sp_szRuleS_ps : sp_szRuleS.ps = [.sl .rule, .sc] := rfl
@[push_cast] theorem sp_szRuleS_md : sp_szRuleS.modes = [.rd, .rd] := rfl
@[push_cast] theorem sp_szRuleS_pure : sp_szRuleS.pure = true := rfl
@[push_cast] theorem sp_szRuleS_run (l : List Rule) (n : Int) : sp_szRuleS.run [.dat ⟨.rule, l⟩, .int .i64 n] = some (some (0 ≤ n ∧ n ≤ 1048576 ∧ fitL fitRule l), .int .i64 (szR (szL szRule l) n), []) := rfl
noncomputable def e_szRuleS : Env := mk [(53, sp_szRule)] [] [] [] none
@[push_cast] theorem e_szRuleS_in : e_szRuleS.inl = inlF [] := rfl
@[push_cast] theorem e_szRuleS_fn : e_szRuleS.fnd = fndF none := rfl
@[push_cast] theorem e_szRuleS_gh : e_szRuleS.gh = ghOf [] := rfl
@[push_cast] theorem e_szRuleS_dr : e_szRuleS.dr = drOf [] := rfl
@[push_cast] theorem e_szRuleS_td : e_szRuleS.td = td := rfl
@[push_cast] theorem e_szRuleS_eqt : e_szRuleS.eqt = eqt := rfl
@[push_cast] theorem e_szRuleS_cal : e_szRuleS.cal = calOf [(53, sp_szRule)] := rfl
theorem c_szRuleS : CRow P0 ety0 31 sp_szRuleS := CRow.of (E := e_szRuleS) (mkOk (.cons c_szRule (.nil))) func31 rfl rfl rfl (by
  intro args p r outs h hq
  simp only [sp_szRuleS] at h; split at h <;> cases h
  rename_i l n
  obtain ⟨h0, h1, hl, hx⟩ := hq _ rfl
  have hl' : l.length ≤ 9223372036854775807 := hl
  refine Body.intro (rs := [.tmp 4]) rfl rfl rfl ?_
  apply vc_run 1000 (stop := false) rfl; simp only [push_cast, reduceIte, Nat.reduceEqDiff, Nat.reduceAdd, Nat.reduceSub, Nat.reduceLT, Int.reduceNeg, Int.reduceLE, Int.reduceLT, Int.reduceToNat, Nat.reduceLeDiff, UInt8.reduceOfNat, UInt8.reduceOfNatLT, and_self, Nat.reduceMul, decide_true, decide_false, Bool.not_true, Bool.not_false, implies_true]
  refine ⟨by constructor <;> omega, fun h => ?_, fun h => ?_⟩
  · rw [szL, szR_neg _ h0 (by simpa using h)]
  have h : ¬ n - (l.length : Int) < 0 := by simpa using h
  refine Run.loop [1, 5] [0] [] rfl (fun m vs bs => ∃ k : Nat, vs = [.int .i64 (n - l.length - sumL szRule (l.take k)), .int .i64 k] ∧ bs = [] ∧ k ≤ l.length ∧ 0 ≤ n - l.length - sumL szRule (l.take k) ∧ m = l.length - k) l.length ?_ ?_
  · simp only [push_cast, reduceIte, Nat.reduceEqDiff, Nat.reduceAdd, Nat.reduceSub, Nat.reduceLT, Int.reduceNeg, Int.reduceLE, Int.reduceLT, Int.reduceToNat, Nat.reduceLeDiff, UInt8.reduceOfNat, UInt8.reduceOfNatLT, and_self, Nat.reduceMul, decide_true, decide_false, Bool.not_true, Bool.not_false, implies_true]
    exact ⟨0, by simp [sumL], by omega, by simp [sumL]; omega, by omega⟩
  rintro m vs bs ⟨k, rfl, rfl, hk, hp, rfl⟩
  simp only [push_cast, reduceIte, Nat.reduceEqDiff, Nat.reduceAdd, Nat.reduceSub, Nat.reduceLT, Int.reduceNeg, Int.reduceLE, Int.reduceLT, Int.reduceToNat, Nat.reduceLeDiff, UInt8.reduceOfNat, UInt8.reduceOfNatLT, and_self, Nat.reduceMul, decide_true, decide_false, Bool.not_true, Bool.not_false, implies_true]
  apply vc_run 1000 (stop := false) rfl; simp only [push_cast, reduceIte, Nat.reduceEqDiff, Nat.reduceAdd, Nat.reduceSub, Nat.reduceLT, Int.reduceNeg, Int.reduceLE, Int.reduceLT, Int.reduceToNat, Nat.reduceLeDiff, UInt8.reduceOfNat, UInt8.reduceOfNatLT, and_self, Nat.reduceMul, decide_true, decide_false, Bool.not_true, Bool.not_false, implies_true]
  have hle := sumL_take_le szRule l k
  refine ⟨fun hlt => ?_, fun hge => ?_⟩
  · have hlt : k < l.length := by simpa using hlt
    have hs := sumL_take szRule l ruleD hlt
    have hf : fitRule (l.getD k ruleD) := fit_at hx hlt
    have hle1 := sumL_take_le szRule l (k + 1)
    simp only [gd_nat]
    generalize hR : szR _ _ = R
    have hR' : R = szR (szRule (l.getD k ruleD)) (n - l.length - sumL szRule (l.take k)) := hR.symm
    refine ⟨by omega, ⟨hp, by omega, hf⟩, fun hneg => ?_, fun hpos => ⟨by constructor <;> omega, _, by omega, k + 1, ?_, by omega, ?_, rfl⟩⟩
    · have hneg : R < 0 := by simpa using hneg
      rw [hR', szR_lt hp] at hneg
      rw [szL, szR, if_pos (by omega)]
    · have hpos : ¬ R < 0 := by simpa using hpos
      rw [hR', szR_lt hp] at hpos
      rw [hR', szR, if_neg hpos, hs]; simp; omega
    · have hpos : ¬ R < 0 := by simpa using hpos
      rw [hR', szR_lt hp] at hpos
      omega
  · have hge : k = l.length := by simp at hge; omega
    subst hge
    rw [List.take_length] at hp ⊢
    rw [szL, szR, if_neg (by omega)]
    congr 1
    omega)
noncomputable def sp_toRule : Spec := ⟨[.st .rule], [.rd], false, fun
  | [.agg [.int .i64 s, .str m, .dat ⟨.str, a⟩]] => some (some (szL List.length a ≤ 1048576), .agg [.int .i64 s, .str m, .own true ⟨.str, a⟩], [])
  | _ => none⟩
@[push_cast] theorem sp_toRule_ps : sp_toRule.ps = [.st .rule] := rfl
@[push_cast] theorem sp_toRule_md : sp_toRule.modes = [.rd] := rfl
@[push_cast] theorem sp_toRule_pure : sp_toRule.pure = false := rfl
@[push_cast] theorem sp_toRule_run (s : Int) (m : Str) (a : List Str) : sp_toRule.run [.agg [.int .i64 s, .str m, .dat ⟨.str, a⟩]] = some (some (szL List.length a ≤ 1048576), .agg [.int .i64 s, .str m, .own true ⟨.str, a⟩], []) := rfl
noncomputable def e_toRule : Env := mk [(38, sp_toStringS)] [] [] [] none
@[push_cast] theorem e_toRule_in : e_toRule.inl = inlF [] := rfl
@[push_cast] theorem e_toRule_fn : e_toRule.fnd = fndF none := rfl
@[push_cast] theorem e_toRule_gh : e_toRule.gh = ghOf [] := rfl
@[push_cast] theorem e_toRule_dr : e_toRule.dr = drOf [] := rfl
@[push_cast] theorem e_toRule_td : e_toRule.td = td := rfl
@[push_cast] theorem e_toRule_eqt : e_toRule.eqt = eqt := rfl
@[push_cast] theorem e_toRule_cal : e_toRule.cal = calOf [(38, sp_toStringS)] := rfl
theorem c_toRule : CRow P0 ety0 59 sp_toRule := CRow.of (E := e_toRule) (mkOk (.cons c_toStringS (.nil))) func59 rfl rfl rfl (by
  intro args p r outs h hq
  simp only [sp_toRule] at h; split at h <;> cases h
  rename_i s m a
  have hz := hq _ rfl
  refine Body.intro (rs := [.cell 2 80]) rfl rfl rfl ?_
  apply vc_run 1000 (stop := false) rfl; simp only [push_cast, reduceIte, Nat.reduceEqDiff, Nat.reduceAdd, Nat.reduceSub, Nat.reduceLT, Int.reduceNeg, Int.reduceLE, Int.reduceLT, Int.reduceToNat, Nat.reduceLeDiff, UInt8.reduceOfNat, UInt8.reduceOfNatLT, and_self, Nat.reduceMul, decide_true, decide_false, Bool.not_true, Bool.not_false, implies_true]
  exact hz)
noncomputable def sp_toRuleS : Spec := ⟨[.sl .rule], [.rd], false, fun
  | [.dat ⟨.rule, l⟩] => some (some (szL szRule l ≤ 1048576), .own true ⟨.rule, l⟩, [])
  | _ => none⟩
@[push_cast] theorem sp_toRuleS_ps : sp_toRuleS.ps = [.sl .rule] := rfl
@[push_cast] theorem sp_toRuleS_md : sp_toRuleS.modes = [.rd] := rfl
@[push_cast] theorem sp_toRuleS_pure : sp_toRuleS.pure = false := rfl
@[push_cast] theorem sp_toRuleS_run (l : List Rule) : sp_toRuleS.run [.dat ⟨.rule, l⟩] = some (some (szL szRule l ≤ 1048576), .own true ⟨.rule, l⟩, []) := rfl
noncomputable def e_toRuleS : Env := mk [(59, sp_toRule)] [] [] [] none
@[push_cast] theorem e_toRuleS_in : e_toRuleS.inl = inlF [] := rfl
@[push_cast] theorem e_toRuleS_fn : e_toRuleS.fnd = fndF none := rfl
@[push_cast] theorem e_toRuleS_gh : e_toRuleS.gh = ghOf [] := rfl
@[push_cast] theorem e_toRuleS_dr : e_toRuleS.dr = drOf [] := rfl
@[push_cast] theorem e_toRuleS_td : e_toRuleS.td = td := rfl
@[push_cast] theorem e_toRuleS_eqt : e_toRuleS.eqt = eqt := rfl
@[push_cast] theorem e_toRuleS_cal : e_toRuleS.cal = calOf [(59, sp_toRule)] := rfl
theorem c_toRuleS : CRow P0 ety0 37 sp_toRuleS := CRow.of (E := e_toRuleS) (mkOk (.cons c_toRule (.nil))) func37 rfl rfl rfl (by
  intro args p r outs h hq
  simp only [sp_toRuleS] at h; split at h <;> cases h
  rename_i l
  have hz := hq _ rfl
  have hl : l.length ≤ 1048576 := Nat.le_trans (szL_len _ _) hz
  refine Body.intro (rs := [.tmp 2]) rfl rfl rfl ?_
  apply vc_run 1000 (stop := false) rfl; simp only [push_cast, reduceIte, Nat.reduceEqDiff, Nat.reduceAdd, Nat.reduceSub, Nat.reduceLT, Int.reduceNeg, Int.reduceLE, Int.reduceLT, Int.reduceToNat, Nat.reduceLeDiff, UInt8.reduceOfNat, UInt8.reduceOfNatLT, and_self, Nat.reduceMul, decide_true, decide_false, Bool.not_true, Bool.not_false, implies_true]
  refine ⟨by omega, ?_⟩
  refine Run.loop [3, 4] [0] [] rfl (fun m vs bs => ∃ k : Nat, vs = [.own true ⟨.rule, fillL l ruleD k⟩, .int .i64 k] ∧ bs = [] ∧ k ≤ l.length ∧ m = l.length - k) l.length ?_ ?_
  · simp only [push_cast, reduceIte, Nat.reduceEqDiff, Nat.reduceAdd, Nat.reduceSub, Nat.reduceLT, Int.reduceNeg, Int.reduceLE, Int.reduceLT, Int.reduceToNat, Nat.reduceLeDiff, UInt8.reduceOfNat, UInt8.reduceOfNatLT, and_self, Nat.reduceMul, decide_true, decide_false, Bool.not_true, Bool.not_false, implies_true]
    exact ⟨0, by rw [fillL_0]; rfl, by omega, by omega⟩
  rintro m vs bs ⟨k, rfl, rfl, hk, rfl⟩
  simp only [push_cast, reduceIte, Nat.reduceEqDiff, Nat.reduceAdd, Nat.reduceSub, Nat.reduceLT, Int.reduceNeg, Int.reduceLE, Int.reduceLT, Int.reduceToNat, Nat.reduceLeDiff, UInt8.reduceOfNat, UInt8.reduceOfNatLT, and_self, Nat.reduceMul, decide_true, decide_false, Bool.not_true, Bool.not_false, implies_true]
  apply vc_run 1000 (stop := false) rfl; simp only [push_cast, reduceIte, Nat.reduceEqDiff, Nat.reduceAdd, Nat.reduceSub, Nat.reduceLT, Int.reduceNeg, Int.reduceLE, Int.reduceLT, Int.reduceToNat, Nat.reduceLeDiff, UInt8.reduceOfNat, UInt8.reduceOfNatLT, and_self, Nat.reduceMul, decide_true, decide_false, Bool.not_true, Bool.not_false, implies_true]
  rw [fillL_len _ _ _ hk]
  refine ⟨fun hlt => ?_, fun hge => ?_⟩
  · have hlt : k < l.length := by simpa using hlt
    have hel : szRule (l.getD k ruleD) ≤ 1048576 := Nat.le_trans (szL_at _ _ hlt) hz
    simp only [gd_nat, Int.toNat_natCast]
    refine ⟨by omega, (by simp only [szRule] at hel; omega), by omega, by constructor <;> omega, _, by omega, k + 1, ?_, by omega, rfl⟩
    rw [← fillL_set _ _ hlt]
    first | rfl | (cases hc : l.getD k ruleD; rfl)
  · have hge : k = l.length := by simp at hge; omega
    subst hge
    rw [fillL_all])
noncomputable def sp_eqRule : Spec := ⟨[.st .rule, .st .rule], [.rd, .rd], true, fun
  | [.agg [.int .i64 s, .str m, .dat ⟨.str, a⟩], .agg [.int .i64 s', .str m', .dat ⟨.str, a'⟩]] => some (some (szL List.length a ≤ 1048576), .bool (eqB (⟨s, m, a⟩ : Rule) ⟨s', m', a'⟩), [])
  | _ => none⟩
@[push_cast] theorem sp_eqRule_ps : sp_eqRule.ps = [.st .rule, .st .rule] := rfl
@[push_cast] theorem sp_eqRule_md : sp_eqRule.modes = [.rd, .rd] := rfl
@[push_cast] theorem sp_eqRule_pure : sp_eqRule.pure = true := rfl
@[push_cast] theorem sp_eqRule_run (s s' : Int) (m m' : Str) (a a' : List Str) : sp_eqRule.run [.agg [.int .i64 s, .str m, .dat ⟨.str, a⟩], .agg [.int .i64 s', .str m', .dat ⟨.str, a'⟩]] = some (some (szL List.length a ≤ 1048576), .bool (eqB (⟨s, m, a⟩ : Rule) ⟨s', m', a'⟩), []) := rfl
noncomputable def e_eqRule : Env := mk [(27, sp_eqStringS)] [] [] [] none
@[push_cast] theorem e_eqRule_in : e_eqRule.inl = inlF [] := rfl
@[push_cast] theorem e_eqRule_fn : e_eqRule.fnd = fndF none := rfl
@[push_cast] theorem e_eqRule_gh : e_eqRule.gh = ghOf [] := rfl
@[push_cast] theorem e_eqRule_dr : e_eqRule.dr = drOf [] := rfl
@[push_cast] theorem e_eqRule_td : e_eqRule.td = td := rfl
@[push_cast] theorem e_eqRule_eqt : e_eqRule.eqt = eqt := rfl
@[push_cast] theorem e_eqRule_cal : e_eqRule.cal = calOf [(27, sp_eqStringS)] := rfl
theorem c_eqRule : CRow P0 ety0 74 sp_eqRule := CRow.of (E := e_eqRule) (mkOk (.cons c_eqStringS (.nil))) func74 rfl rfl rfl (by
  intro args p r outs h hq
  simp only [sp_eqRule] at h; split at h <;> cases h
  rename_i s m a s' m' a'
  have hz := hq _ rfl
  refine Body.intro (rs := [.tmp 4]) rfl rfl rfl ?_
  apply vc_run 1000 (stop := false) rfl; simp only [push_cast, reduceIte, Nat.reduceEqDiff, Nat.reduceAdd, Nat.reduceSub, Nat.reduceLT, Int.reduceNeg, Int.reduceLE, Int.reduceLT, Int.reduceToNat, Nat.reduceLeDiff, UInt8.reduceOfNat, UInt8.reduceOfNatLT, and_self, Nat.reduceMul, decide_true, decide_false, Bool.not_true, Bool.not_false, implies_true]
  refine ⟨fun h => ?_, fun h => ⟨fun h2 => ?_, fun h2 => ⟨hz, fun h3 => ?_, fun h3 => ?_⟩⟩⟩
  · rw [eqB_ne]; intro e; cases e; simp at h
  · rw [eqB_ne]; intro e; cases e; simp at h2
  · rw [eqB_ne]; intro e; cases e; exact eqB_yes h3 rfl
  · have := eqB_not h3
    simp at h h2
    rw [eqB_of]; rw [h, h2, this])
noncomputable def sp_eqRuleS : Spec := ⟨[.sl .rule, .sl .rule], [.rd, .rd], true, fun
  | [.dat ⟨.rule, a⟩, .dat ⟨.rule, b⟩] => some (some (szL szRule a ≤ 1048576), .bool (eqB a b), [])
  | _ => none⟩
@[push_cast] theorem sp_eqRuleS_ps : sp_eqRuleS.ps = [.sl .rule, .sl .rule] := rfl
@[push_cast] theorem sp_eqRuleS_md : sp_eqRuleS.modes = [.rd, .rd] := rfl
@[push_cast] theorem sp_eqRuleS_pure : sp_eqRuleS.pure = true := rfl
@[push_cast] theorem sp_eqRuleS_run (a b : List Rule) : sp_eqRuleS.run [.dat ⟨.rule, a⟩, .dat ⟨.rule, b⟩] = some (some (szL szRule a ≤ 1048576), .bool (eqB a b), []) := rfl
noncomputable def e_eqRuleS : Env := mk [(74, sp_eqRule)] [(6, [], [])] [] [] none
@[push_cast] theorem e_eqRuleS_in : e_eqRuleS.inl = inlF [] := rfl
@[push_cast] theorem e_eqRuleS_fn : e_eqRuleS.fnd = fndF none := rfl
@[push_cast] theorem e_eqRuleS_gh : e_eqRuleS.gh = ghOf [] := rfl
@[push_cast] theorem e_eqRuleS_dr : e_eqRuleS.dr = drOf [(6, [], [])] := rfl
@[push_cast] theorem e_eqRuleS_td : e_eqRuleS.td = td := rfl
@[push_cast] theorem e_eqRuleS_eqt : e_eqRuleS.eqt = eqt := rfl
@[push_cast] theorem e_eqRuleS_cal : e_eqRuleS.cal = calOf [(74, sp_eqRule)] := rfl
theorem c_eqRuleS : CRow P0 ety0 43 sp_eqRuleS := CRow.of (E := e_eqRuleS) (mkOk (.cons c_eqRule (.nil))) func43 rfl rfl rfl (by
  intro args p r outs h hq
  simp only [sp_eqRuleS] at h; split at h <;> cases h
  rename_i a b
  have hz := hq _ rfl
  have hl : a.length ≤ 1048576 := Nat.le_trans (szL_len _ _) hz
  refine Body.intro (rs := [.tmp 4]) rfl rfl rfl ?_
  apply vc_run 1000 (stop := false) rfl; simp only [push_cast, reduceIte, Nat.reduceEqDiff, Nat.reduceAdd, Nat.reduceSub, Nat.reduceLT, Int.reduceNeg, Int.reduceLE, Int.reduceLT, Int.reduceToNat, Nat.reduceLeDiff, UInt8.reduceOfNat, UInt8.reduceOfNatLT, and_self, Nat.reduceMul, decide_true, decide_false, Bool.not_true, Bool.not_false, implies_true]
  refine ⟨fun h => ?_, fun h => ?_⟩
  · rw [eqB_ne]; intro e; subst e; simp at h
  have h : a.length = b.length := by simp at h; omega
  refine Run.loop [5] [0, 1] [] rfl (fun m vs bs => ∃ k : Nat, vs = [.int .i64 k] ∧ bs = [] ∧ k ≤ a.length ∧ (∀ j < k, a.getD j ruleD = b.getD j ruleD) ∧ m = a.length - k) a.length ?_ ?_
  · simp only [push_cast, reduceIte, Nat.reduceEqDiff, Nat.reduceAdd, Nat.reduceSub, Nat.reduceLT, Int.reduceNeg, Int.reduceLE, Int.reduceLT, Int.reduceToNat, Nat.reduceLeDiff, UInt8.reduceOfNat, UInt8.reduceOfNatLT, and_self, Nat.reduceMul, decide_true, decide_false, Bool.not_true, Bool.not_false, implies_true]
    exact ⟨0, by simp, by omega, by simp, by omega⟩
  rintro m vs bs ⟨k, rfl, rfl, hk, hb, rfl⟩
  simp only [push_cast, reduceIte, Nat.reduceEqDiff, Nat.reduceAdd, Nat.reduceSub, Nat.reduceLT, Int.reduceNeg, Int.reduceLE, Int.reduceLT, Int.reduceToNat, Nat.reduceLeDiff, UInt8.reduceOfNat, UInt8.reduceOfNatLT, and_self, Nat.reduceMul, decide_true, decide_false, Bool.not_true, Bool.not_false, implies_true]
  apply vc_run 1000 (stop := false) rfl; simp only [push_cast, reduceIte, Nat.reduceEqDiff, Nat.reduceAdd, Nat.reduceSub, Nat.reduceLT, Int.reduceNeg, Int.reduceLE, Int.reduceLT, Int.reduceToNat, Nat.reduceLeDiff, UInt8.reduceOfNat, UInt8.reduceOfNatLT, and_self, Nat.reduceMul, decide_true, decide_false, Bool.not_true, Bool.not_false, implies_true]
  refine ⟨fun hlt => ?_, fun hge => ?_⟩
  · have hlt : k < a.length := by simpa using hlt
    have hel : szRule (a.getD k ruleD) ≤ 1048576 := Nat.le_trans (szL_at _ _ hlt) hz
    simp only [gd_nat]
    refine ⟨by omega, by omega, (by simp only [szRule] at hel; omega), fun hne => ?_, fun heq => ⟨by constructor <;> omega, _, by omega, k + 1, rfl, by omega, fun j hj => ?_, rfl⟩⟩
    · rw [eqB_ne]; intro e; subst e; first | (simp at hne; done) | exact absurd hne (by simp [eqB_self])
    · rcases Nat.lt_or_eq_of_le (Nat.le_of_lt_succ hj) with h | rfl
      · exact hb j h
      · first | exact eqB_not heq | (simpa using heq; done) | exact eqK (eqB_not heq)
  · have hge : k = a.length := by simp at hge; omega
    subst hge
    rw [eqB_of (list_eq ruleD h hb)])
theorem len_le {α : Type} {l : List α} {n : Nat} : decide ((l.length : Int) ≤ (n : Int)) = decide (l.length ≤ n) := decide_eq_decide.2 (by omega)
theorem len_gt {α : Type} {l : List α} {n : Nat} : decide ((n : Int) < (l.length : Int)) = !decide (l.length ≤ n) := by
  by_cases h : l.length ≤ n
  · rw [decide_eq_true h, decide_eq_false (by omega)]; rfl
  · rw [decide_eq_false h, decide_eq_true (by omega)]; rfl
theorem len_0 {α : Type} [DecidableEq α] {l : List α} : decide ((l.length : Int) = 0) = decide (l = []) := decide_eq_decide.2 ⟨fun h => List.length_eq_zero_iff.1 (by omega), fun h => by subst h; rfl⟩
theorem len_p {α : Type} [DecidableEq α] {l : List α} : decide ((0 : Int) < l.length) = !decide (l = []) := by
  by_cases h : l = []
  · subst h; rfl
  · have := List.length_pos_iff.2 h
    rw [decide_eq_false h, decide_eq_true (by omega)]; rfl
theorem len_e {α : Type} {l : List α} : decide ((l.length : Int) = 0) = l.isEmpty := by
  cases l with
  | nil => rfl
  | cons x l => exact decide_eq_false (by simp only [List.length_cons]; omega)
theorem len_pe {α : Type} {l : List α} : decide ((0 : Int) < l.length) = !l.isEmpty := by
  cases l with
  | nil => rfl
  | cons x l => exact decide_eq_true (by simp only [List.length_cons]; omega)
end Go.Ab
