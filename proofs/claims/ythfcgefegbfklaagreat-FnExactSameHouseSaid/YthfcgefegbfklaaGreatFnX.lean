/- Whether rules, configurations, documents are alike. -/
import Derived.Test.YthfcgefegbfklaaGreatFnW
import Derived.Test.YthfcgefegbfklaaGreatFnV
set_option linter.all false
set_option linter.unusedSimpArgs false
set_option linter.unusedVariables false
set_option linter.unusedSectionVars false
set_option maxRecDepth 20000
set_option maxHeartbeats 1000000
namespace Go.Ab
open Go Go.Proofs.Tryz
noncomputable def sp_sameStrs : Spec := ⟨[.sl .str, .sl .str], [.rd, .rd], true, fun
  | [.dat ⟨.str, a⟩, .dat ⟨.str, b⟩] => some (some (a.length ≤ 1073741824), .bool (eqB a b), [])
  | _ => none⟩
@[push_cast] theorem sp_sameStrs_ps : sp_sameStrs.ps = [.sl .str, .sl .str] := rfl
@[push_cast] theorem sp_sameStrs_md : sp_sameStrs.modes = [.rd, .rd] := rfl
@[push_cast] theorem sp_sameStrs_pure : sp_sameStrs.pure = true := rfl
@[push_cast] theorem sp_sameStrs_run (a b : List Str) : sp_sameStrs.run [.dat ⟨.str, a⟩, .dat ⟨.str, b⟩] = some (some (a.length ≤ 1073741824), .bool (eqB a b), []) := rfl
noncomputable def e_sameStrs : Env := mk [] [(6, [], [])] []
@[push_cast] theorem e_sameStrs_gh : e_sameStrs.gh = ghOf [] := rfl
@[push_cast] theorem e_sameStrs_dr : e_sameStrs.dr = drOf [(6, [], [])] := rfl
@[push_cast] theorem e_sameStrs_td : e_sameStrs.td = td := rfl
@[push_cast] theorem e_sameStrs_eqt : e_sameStrs.eqt = eqt := rfl
@[push_cast] theorem e_sameStrs_cal : e_sameStrs.cal = calOf [] := rfl
theorem c_sameStrs : CRow P0 ety0 80 sp_sameStrs := CRow.of (E := e_sameStrs) (mkOk (.nil)) func80 rfl rfl rfl (by
  intro args p r outs h hq
  simp only [sp_sameStrs] at h; split at h <;> cases h
  rename_i a b
  have hz := hq _ rfl
  skip
  refine Body.intro (rs := [.tmp 4]) rfl rfl rfl ?_
  apply vc_run 1000 (stop := false) rfl; simp only [push_cast, reduceIte, Nat.reduceEqDiff, Nat.reduceAdd, Nat.reduceSub, Nat.reduceLT, Int.reduceNeg, Int.reduceLE, Int.reduceLT, Int.reduceToNat, Nat.reduceLeDiff, UInt8.reduceOfNat, UInt8.reduceOfNatLT, and_self, Nat.reduceMul, decide_true, decide_false, Bool.not_true, Bool.not_false, implies_true]
  refine ⟨fun h => ?_, fun h => ?_⟩
  · rw [eqB_ne]; intro e; subst e; simp at h
  have h : a.length = b.length := by simp at h; omega
  refine Run.loop [13] [0, 1, 12] [] rfl (fun m vs bs => ∃ k : Nat, vs = [.int .i64 k] ∧ bs = [] ∧ k ≤ a.length ∧ (∀ j < k, a.getD j [] = b.getD j []) ∧ m = a.length - k) a.length ?_ ?_
  · simp only [push_cast, reduceIte, Nat.reduceEqDiff, Nat.reduceAdd, Nat.reduceSub, Nat.reduceLT, Int.reduceNeg, Int.reduceLE, Int.reduceLT, Int.reduceToNat, Nat.reduceLeDiff, UInt8.reduceOfNat, UInt8.reduceOfNatLT, and_self, Nat.reduceMul, decide_true, decide_false, Bool.not_true, Bool.not_false, implies_true]
    exact ⟨0, by simp, by omega, by simp, by omega⟩
  rintro m vs bs ⟨k, rfl, rfl, hk, hb, rfl⟩
  simp only [push_cast, reduceIte, Nat.reduceEqDiff, Nat.reduceAdd, Nat.reduceSub, Nat.reduceLT, Int.reduceNeg, Int.reduceLE, Int.reduceLT, Int.reduceToNat, Nat.reduceLeDiff, UInt8.reduceOfNat, UInt8.reduceOfNatLT, and_self, Nat.reduceMul, decide_true, decide_false, Bool.not_true, Bool.not_false, implies_true]
  apply vc_run 1000 (stop := false) rfl; simp only [push_cast, reduceIte, Nat.reduceEqDiff, Nat.reduceAdd, Nat.reduceSub, Nat.reduceLT, Int.reduceNeg, Int.reduceLE, Int.reduceLT, Int.reduceToNat, Nat.reduceLeDiff, UInt8.reduceOfNat, UInt8.reduceOfNatLT, and_self, Nat.reduceMul, decide_true, decide_false, Bool.not_true, Bool.not_false, implies_true]
  try simp only [eqB_dec]
  refine ⟨fun hlt => ?_, fun hge => ?_⟩
  · have hlt : k < a.length := Int.ofNat_lt.1 (of_decide_eq_true hlt)
    simp only [gd_nat]
    refine ⟨by omega, by omega, fun hne => ?_, fun heq => ⟨by constructor <;> omega, _, by omega, k + 1, rfl, by omega, below_step hb (eqB_not heq), rfl⟩⟩
    rw [eqB_ne]; intro e; subst e; exact eqB_yes hne rfl
  · have hge : k = a.length := by have := of_decide_eq_false hge; omega
    subst hge
    rw [eqB_of (list_eq [] h hb)])
noncomputable def sp_sameStrs2 : Spec := ⟨[.sl .str, .sl .str], [.rd, .rd], true, fun
  | [.dat ⟨.str, a⟩, .dat ⟨.str, b⟩] => some (some (a.length ≤ 1073741824), .bool (eqB a b), [])
  | _ => none⟩
@[push_cast] theorem sp_sameStrs2_ps : sp_sameStrs2.ps = [.sl .str, .sl .str] := rfl
@[push_cast] theorem sp_sameStrs2_md : sp_sameStrs2.modes = [.rd, .rd] := rfl
@[push_cast] theorem sp_sameStrs2_pure : sp_sameStrs2.pure = true := rfl
@[push_cast] theorem sp_sameStrs2_run (a b : List Str) : sp_sameStrs2.run [.dat ⟨.str, a⟩, .dat ⟨.str, b⟩] = some (some (a.length ≤ 1073741824), .bool (eqB a b), []) := rfl
noncomputable def e_sameStrs2 : Env := mk [] [(6, [], [])] []
@[push_cast] theorem e_sameStrs2_gh : e_sameStrs2.gh = ghOf [] := rfl
@[push_cast] theorem e_sameStrs2_dr : e_sameStrs2.dr = drOf [(6, [], [])] := rfl
@[push_cast] theorem e_sameStrs2_td : e_sameStrs2.td = td := rfl
@[push_cast] theorem e_sameStrs2_eqt : e_sameStrs2.eqt = eqt := rfl
@[push_cast] theorem e_sameStrs2_cal : e_sameStrs2.cal = calOf [] := rfl
theorem c_sameStrs2 : CRow P0 ety0 121 sp_sameStrs2 := CRow.of (E := e_sameStrs2) (mkOk (.nil)) func121 rfl rfl rfl (by
  intro args p r outs h hq
  simp only [sp_sameStrs2] at h; split at h <;> cases h
  rename_i a b
  have hz := hq _ rfl
  skip
  refine Body.intro (rs := [.tmp 4]) rfl rfl rfl ?_
  apply vc_run 1000 (stop := false) rfl; simp only [push_cast, reduceIte, Nat.reduceEqDiff, Nat.reduceAdd, Nat.reduceSub, Nat.reduceLT, Int.reduceNeg, Int.reduceLE, Int.reduceLT, Int.reduceToNat, Nat.reduceLeDiff, UInt8.reduceOfNat, UInt8.reduceOfNatLT, and_self, Nat.reduceMul, decide_true, decide_false, Bool.not_true, Bool.not_false, implies_true]
  refine ⟨fun h => ?_, fun h => ?_⟩
  · rw [eqB_ne]; intro e; subst e; simp at h
  have h : a.length = b.length := by simp at h; omega
  refine Run.loop [5] [0, 1] [] rfl (fun m vs bs => ∃ k : Nat, vs = [.int .i64 k] ∧ bs = [] ∧ k ≤ a.length ∧ (∀ j < k, a.getD j [] = b.getD j []) ∧ m = a.length - k) a.length ?_ ?_
  · simp only [push_cast, reduceIte, Nat.reduceEqDiff, Nat.reduceAdd, Nat.reduceSub, Nat.reduceLT, Int.reduceNeg, Int.reduceLE, Int.reduceLT, Int.reduceToNat, Nat.reduceLeDiff, UInt8.reduceOfNat, UInt8.reduceOfNatLT, and_self, Nat.reduceMul, decide_true, decide_false, Bool.not_true, Bool.not_false, implies_true]
    exact ⟨0, by simp, by omega, by simp, by omega⟩
  rintro m vs bs ⟨k, rfl, rfl, hk, hb, rfl⟩
  simp only [push_cast, reduceIte, Nat.reduceEqDiff, Nat.reduceAdd, Nat.reduceSub, Nat.reduceLT, Int.reduceNeg, Int.reduceLE, Int.reduceLT, Int.reduceToNat, Nat.reduceLeDiff, UInt8.reduceOfNat, UInt8.reduceOfNatLT, and_self, Nat.reduceMul, decide_true, decide_false, Bool.not_true, Bool.not_false, implies_true]
  apply vc_run 1000 (stop := false) rfl; simp only [push_cast, reduceIte, Nat.reduceEqDiff, Nat.reduceAdd, Nat.reduceSub, Nat.reduceLT, Int.reduceNeg, Int.reduceLE, Int.reduceLT, Int.reduceToNat, Nat.reduceLeDiff, UInt8.reduceOfNat, UInt8.reduceOfNatLT, and_self, Nat.reduceMul, decide_true, decide_false, Bool.not_true, Bool.not_false, implies_true]
  try simp only [eqB_dec]
  refine ⟨fun hlt => ?_, fun hge => ?_⟩
  · have hlt : k < a.length := Int.ofNat_lt.1 (of_decide_eq_true hlt)
    simp only [gd_nat]
    refine ⟨by omega, by omega, fun hne => ?_, fun heq => ⟨by constructor <;> omega, _, by omega, k + 1, rfl, by omega, below_step hb (eqB_not heq), rfl⟩⟩
    rw [eqB_ne]; intro e; subst e; exact eqB_yes hne rfl
  · have hge : k = a.length := by have := of_decide_eq_false hge; omega
    subst hge
    rw [eqB_of (list_eq [] h hb)])
noncomputable def sp_sameRule : Spec := ⟨[.st .rule, .st .rule], [.rd, .rd], true, fun
  | [.agg [.int .i64 s, .str m, .dat ⟨.str, a⟩], .agg [.int .i64 s2, .str m2, .dat ⟨.str, a2⟩]] => some (some (a.length ≤ 1073741824), .bool (eqB (⟨s, m, a⟩ : Rule) ⟨s2, m2, a2⟩), [])
  | _ => none⟩
@[push_cast] theorem sp_sameRule_ps : sp_sameRule.ps = [.st .rule, .st .rule] := rfl
@[push_cast] theorem sp_sameRule_md : sp_sameRule.modes = [.rd, .rd] := rfl
@[push_cast] theorem sp_sameRule_pure : sp_sameRule.pure = true := rfl
@[push_cast] theorem sp_sameRule_run (s s2 : Int) (m m2 : Str) (a a2 : List Str) : sp_sameRule.run [.agg [.int .i64 s, .str m, .dat ⟨.str, a⟩], .agg [.int .i64 s2, .str m2, .dat ⟨.str, a2⟩]] = some (some (a.length ≤ 1073741824), .bool (eqB (⟨s, m, a⟩ : Rule) ⟨s2, m2, a2⟩), []) := rfl
noncomputable def e_sameRule : Env := mk [(80, sp_sameStrs)] [] []
@[push_cast] theorem e_sameRule_gh : e_sameRule.gh = ghOf [] := rfl
@[push_cast] theorem e_sameRule_dr : e_sameRule.dr = drOf [] := rfl
@[push_cast] theorem e_sameRule_td : e_sameRule.td = td := rfl
@[push_cast] theorem e_sameRule_eqt : e_sameRule.eqt = eqt := rfl
@[push_cast] theorem e_sameRule_cal : e_sameRule.cal = calOf [(80, sp_sameStrs)] := rfl
theorem c_sameRule : CRow P0 ety0 123 sp_sameRule := CRow.of (E := e_sameRule) (mkOk (.cons c_sameStrs (.nil))) func123 rfl rfl rfl (by
  intro args p r outs h hq
  simp only [sp_sameRule] at h; split at h <;> cases h
  rename_i s m a s2 m2 a2
  have hz := hq _ rfl
  refine Body.intro (rs := [.tmp 4]) rfl rfl rfl ?_
  apply vc_run 1000 (stop := false) rfl; simp only [push_cast, reduceIte, Nat.reduceEqDiff, Nat.reduceAdd, Nat.reduceSub, Nat.reduceLT, Int.reduceNeg, Int.reduceLE, Int.reduceLT, Int.reduceToNat, Nat.reduceLeDiff, UInt8.reduceOfNat, UInt8.reduceOfNatLT, and_self, Nat.reduceMul, decide_true, decide_false, Bool.not_true, Bool.not_false, implies_true]
  refine ⟨fun _ => hz, congrArg AV.bool ?_⟩
  rw [Bool.eq_iff_iff, eqB_iff]
  simp only [Bool.cond_false_right, Bool.and_eq_true, decide_eq_true_eq, eqB_iff, Rule.mk.injEq, and_assoc])
noncomputable def sp_eqFnRule : Spec := ⟨[.sl .rule, .sl .rule, .sc], [.rd, .rd, .rd], true, fun
  | [.dat ⟨.rule, a⟩, .dat ⟨.rule, b⟩, .fn 123 [] []] => some (some (szL szRule a ≤ 1048576), .bool (eqB a b), [])
  | _ => none⟩
@[push_cast] theorem sp_eqFnRule_ps : sp_eqFnRule.ps = [.sl .rule, .sl .rule, .sc] := rfl
@[push_cast] theorem sp_eqFnRule_md : sp_eqFnRule.modes = [.rd, .rd, .rd] := rfl
@[push_cast] theorem sp_eqFnRule_pure : sp_eqFnRule.pure = true := rfl
@[push_cast] theorem sp_eqFnRule_run (a b : List Rule) : sp_eqFnRule.run [.dat ⟨.rule, a⟩, .dat ⟨.rule, b⟩, .fn 123 [] []] = some (some (szL szRule a ≤ 1048576), .bool (eqB a b), []) := rfl
noncomputable def e_eqFnRule : Env := mk [(123, sp_sameRule)] [] []
@[push_cast] theorem e_eqFnRule_gh : e_eqFnRule.gh = ghOf [] := rfl
@[push_cast] theorem e_eqFnRule_dr : e_eqFnRule.dr = drOf [] := rfl
@[push_cast] theorem e_eqFnRule_td : e_eqFnRule.td = td := rfl
@[push_cast] theorem e_eqFnRule_eqt : e_eqFnRule.eqt = eqt := rfl
@[push_cast] theorem e_eqFnRule_cal : e_eqFnRule.cal = calOf [(123, sp_sameRule)] := rfl
theorem c_eqFnRule : CRow P0 ety0 122 sp_eqFnRule := CRow.of (E := e_eqFnRule) (mkOk (.cons c_sameRule (.nil))) func122 rfl rfl rfl (by
  intro args p r outs h hq
  simp only [sp_eqFnRule] at h; split at h <;> cases h
  rename_i a b
  have hz := hq _ rfl
  have hl := szL_len szRule a
  refine Body.intro (rs := [.tmp 6]) rfl rfl rfl ?_
  apply vc_run 1000 (stop := false) rfl; simp only [push_cast, reduceIte, Nat.reduceEqDiff, Nat.reduceAdd, Nat.reduceSub, Nat.reduceLT, Int.reduceNeg, Int.reduceLE, Int.reduceLT, Int.reduceToNat, Nat.reduceLeDiff, UInt8.reduceOfNat, UInt8.reduceOfNatLT, and_self, Nat.reduceMul, decide_true, decide_false, Bool.not_true, Bool.not_false, implies_true]
  refine ⟨fun h => ?_, fun h => ?_⟩
  · rw [eqB_ne]; intro e; subst e; simp at h
  have h : a.length = b.length := by simp at h; omega
  refine Run.loop [17] [0, 1, 2, 15, 16] [] rfl (fun m vs bs => ∃ k : Nat, vs = [.int .i64 k] ∧ bs = [] ∧ k ≤ a.length ∧ (∀ j < k, a.getD j ruleD = b.getD j ruleD) ∧ m = a.length - k) a.length ?_ ?_
  · simp only [push_cast, reduceIte, Nat.reduceEqDiff, Nat.reduceAdd, Nat.reduceSub, Nat.reduceLT, Int.reduceNeg, Int.reduceLE, Int.reduceLT, Int.reduceToNat, Nat.reduceLeDiff, UInt8.reduceOfNat, UInt8.reduceOfNatLT, and_self, Nat.reduceMul, decide_true, decide_false, Bool.not_true, Bool.not_false, implies_true]
    exact ⟨0, by simp, by omega, by simp, by omega⟩
  rintro m vs bs ⟨k, rfl, rfl, hk, hb, rfl⟩
  simp only [push_cast, reduceIte, Nat.reduceEqDiff, Nat.reduceAdd, Nat.reduceSub, Nat.reduceLT, Int.reduceNeg, Int.reduceLE, Int.reduceLT, Int.reduceToNat, Nat.reduceLeDiff, UInt8.reduceOfNat, UInt8.reduceOfNatLT, and_self, Nat.reduceMul, decide_true, decide_false, Bool.not_true, Bool.not_false, implies_true]
  apply vc_run 1000 (stop := false) rfl; simp only [push_cast, reduceIte, Nat.reduceEqDiff, Nat.reduceAdd, Nat.reduceSub, Nat.reduceLT, Int.reduceNeg, Int.reduceLE, Int.reduceLT, Int.reduceToNat, Nat.reduceLeDiff, UInt8.reduceOfNat, UInt8.reduceOfNatLT, and_self, Nat.reduceMul, decide_true, decide_false, Bool.not_true, Bool.not_false, implies_true]
  try simp only [eqB_dec]
  refine ⟨fun hlt => ?_, fun hge => ?_⟩
  · have hlt : k < a.length := Int.ofNat_lt.1 (of_decide_eq_true hlt)
    simp only [gd_nat]
    refine ⟨by omega, by omega, (by have := szL_at szRule ruleD hlt; have e : szRule (a.getD k ruleD) = (a.getD k ruleD).name.length + szL List.length (a.getD k ruleD).attrs := rfl; have := szL_len List.length (a.getD k ruleD).attrs; omega),fun hne => ?_, fun heq => ⟨by constructor <;> omega, _, by omega, k + 1, rfl, by omega, below_step hb (eqB_not heq), rfl⟩⟩
    rw [eqB_ne]; intro e; subst e; exact eqB_yes hne rfl
  · have hge : k = a.length := by have := of_decide_eq_false hge; omega
    subst hge
    rw [eqB_of (list_eq ruleD h hb)])
noncomputable def sp_sameRules : Spec := ⟨[.sl .rule, .sl .rule], [.rd, .rd], true, fun
  | [.dat ⟨.rule, a⟩, .dat ⟨.rule, b⟩] => some (some (szL szRule a ≤ 1048576), .bool (eqB a b), [])
  | _ => none⟩
@[push_cast] theorem sp_sameRules_ps : sp_sameRules.ps = [.sl .rule, .sl .rule] := rfl
@[push_cast] theorem sp_sameRules_md : sp_sameRules.modes = [.rd, .rd] := rfl
@[push_cast] theorem sp_sameRules_pure : sp_sameRules.pure = true := rfl
@[push_cast] theorem sp_sameRules_run (a b : List Rule) : sp_sameRules.run [.dat ⟨.rule, a⟩, .dat ⟨.rule, b⟩] = some (some (szL szRule a ≤ 1048576), .bool (eqB a b), []) := rfl
noncomputable def e_sameRules : Env := mk [(122, sp_eqFnRule)] [] []
@[push_cast] theorem e_sameRules_gh : e_sameRules.gh = ghOf [] := rfl
@[push_cast] theorem e_sameRules_dr : e_sameRules.dr = drOf [] := rfl
@[push_cast] theorem e_sameRules_td : e_sameRules.td = td := rfl
@[push_cast] theorem e_sameRules_eqt : e_sameRules.eqt = eqt := rfl
@[push_cast] theorem e_sameRules_cal : e_sameRules.cal = calOf [(122, sp_eqFnRule)] := rfl
theorem c_sameRules : CRow P0 ety0 79 sp_sameRules := CRow.of (E := e_sameRules) (mkOk (.cons c_eqFnRule (.nil))) func79 rfl rfl rfl (by
  intro args p r outs h hq
  simp only [sp_sameRules] at h; split at h <;> cases h
  have hz := hq _ rfl
  refine Body.intro (rs := [.tmp 4]) rfl rfl rfl ?_
  apply vc_run 1000 (stop := false) rfl; simp only [push_cast, reduceIte, Nat.reduceEqDiff, Nat.reduceAdd, Nat.reduceSub, Nat.reduceLT, Int.reduceNeg, Int.reduceLE, Int.reduceLT, Int.reduceToNat, Nat.reduceLeDiff, UInt8.reduceOfNat, UInt8.reduceOfNatLT, and_self, Nat.reduceMul, decide_true, decide_false, Bool.not_true, Bool.not_false, implies_true]
  exact hz)
theorem rule_ne (x y : Rule) : (bif bif !decide (x.space = y.space) then true else !decide (x.name = y.name) then true else !eqB x.attrs y.attrs) = !eqB x y := by
  have e : eqB x y = (decide (x.space = y.space) && decide (x.name = y.name) && eqB x.attrs y.attrs) := by
    rw [Bool.eq_iff_iff, eqB_iff]
    cases x; cases y
    simp only [Bool.and_eq_true, decide_eq_true_eq, eqB_iff, Rule.mk.injEq, and_assoc]
  rw [e]
  generalize decide (x.space = y.space) = b1; generalize decide (x.name = y.name) = b2; generalize eqB x.attrs y.attrs = b3
  cases b1 <;> cases b2 <;> cases b3 <;> rfl
noncomputable def e_sameRules2 : Env := mk [(121, sp_sameStrs2)] [(6, [], [])] []
@[push_cast] theorem e_sameRules2_gh : e_sameRules2.gh = ghOf [] := rfl
@[push_cast] theorem e_sameRules2_dr : e_sameRules2.dr = drOf [(6, [], [])] := rfl
@[push_cast] theorem e_sameRules2_td : e_sameRules2.td = td := rfl
@[push_cast] theorem e_sameRules2_eqt : e_sameRules2.eqt = eqt := rfl
@[push_cast] theorem e_sameRules2_cal : e_sameRules2.cal = calOf [(121, sp_sameStrs2)] := rfl
theorem c_sameRules2 : CRow P0 ety0 120 sp_sameRules := CRow.of (E := e_sameRules2) (mkOk (.cons c_sameStrs2 (.nil))) func120 rfl rfl rfl (by
  intro args p r outs h hq
  simp only [sp_sameRules] at h; split at h <;> cases h
  rename_i a b
  have hz := hq _ rfl
  have hl := szL_len szRule a
  refine Body.intro (rs := [.tmp 4]) rfl rfl rfl ?_
  apply vc_run 1000 (stop := false) rfl; simp only [push_cast, reduceIte, Nat.reduceEqDiff, Nat.reduceAdd, Nat.reduceSub, Nat.reduceLT, Int.reduceNeg, Int.reduceLE, Int.reduceLT, Int.reduceToNat, Nat.reduceLeDiff, UInt8.reduceOfNat, UInt8.reduceOfNatLT, and_self, Nat.reduceMul, decide_true, decide_false, Bool.not_true, Bool.not_false, implies_true]
  refine ⟨fun h => ?_, fun h => ?_⟩
  · rw [eqB_ne]; intro e; subst e; simp at h
  have h : a.length = b.length := by simp at h; omega
  refine Run.loop [5] [0, 1] [] rfl (fun m vs bs => ∃ k : Nat, vs = [.int .i64 k] ∧ bs = [] ∧ k ≤ a.length ∧ (∀ j < k, a.getD j ruleD = b.getD j ruleD) ∧ m = a.length - k) a.length ?_ ?_
  · simp only [push_cast, reduceIte, Nat.reduceEqDiff, Nat.reduceAdd, Nat.reduceSub, Nat.reduceLT, Int.reduceNeg, Int.reduceLE, Int.reduceLT, Int.reduceToNat, Nat.reduceLeDiff, UInt8.reduceOfNat, UInt8.reduceOfNatLT, and_self, Nat.reduceMul, decide_true, decide_false, Bool.not_true, Bool.not_false, implies_true]
    exact ⟨0, by simp, by omega, by simp, by omega⟩
  rintro m vs bs ⟨k, rfl, rfl, hk, hb, rfl⟩
  simp only [push_cast, reduceIte, Nat.reduceEqDiff, Nat.reduceAdd, Nat.reduceSub, Nat.reduceLT, Int.reduceNeg, Int.reduceLE, Int.reduceLT, Int.reduceToNat, Nat.reduceLeDiff, UInt8.reduceOfNat, UInt8.reduceOfNatLT, and_self, Nat.reduceMul, decide_true, decide_false, Bool.not_true, Bool.not_false, implies_true]
  apply vc_run 1000 (stop := false) rfl; simp only [push_cast, reduceIte, Nat.reduceEqDiff, Nat.reduceAdd, Nat.reduceSub, Nat.reduceLT, Int.reduceNeg, Int.reduceLE, Int.reduceLT, Int.reduceToNat, Nat.reduceLeDiff, UInt8.reduceOfNat, UInt8.reduceOfNatLT, and_self, Nat.reduceMul, decide_true, decide_false, Bool.not_true, Bool.not_false, implies_true]
  simp only [rule_ne]
  refine ⟨fun hlt => ?_, fun hge => ?_⟩
  · have hlt : k < a.length := Int.ofNat_lt.1 (of_decide_eq_true hlt)
    have hel := szL_at szRule ruleD hlt
    have e : szRule (a.getD k ruleD) = (a.getD k ruleD).name.length + szL List.length (a.getD k ruleD).attrs := rfl
    have hal := szL_len List.length (a.getD k ruleD).attrs
    simp only [gd_nat]
    refine ⟨by omega, by omega, fun _ => by omega, fun _ => by omega, fun _ => by omega, fun _ => by omega, fun _ => by omega, fun hne => ?_, fun heq => ⟨by constructor <;> omega, _, by omega, k + 1, rfl, by omega, below_step hb (eqB_not heq), rfl⟩⟩
    rw [eqB_ne]; intro e; subst e; exact eqB_yes hne rfl
  · have hge : k = a.length := by have := of_decide_eq_false hge; omega
    subst hge
    rw [eqB_of (list_eq ruleD h hb)])
noncomputable def sp_sameCfg : Spec := ⟨[.st .cfg, .st .cfg], [.rd, .rd], true, fun
  | [.agg [.bool a1, .bool a2, .dat ⟨.rule, a3⟩, .dat ⟨.rule, a4⟩, .dat ⟨.rule, a5⟩, .dat ⟨.str, a6⟩, .dat ⟨.str, a7⟩, .bool a8, .bool a9], .agg [.bool b1, .bool b2, .dat ⟨.rule, b3⟩, .dat ⟨.rule, b4⟩, .dat ⟨.rule, b5⟩, .dat ⟨.str, b6⟩, .dat ⟨.str, b7⟩, .bool b8, .bool b9]] => some (some (szCfg ⟨a1, a2, a3, a4, a5, a6, a7, a8, a9⟩ ≤ 1048576), .bool (eqB (⟨a1, a2, a3, a4, a5, a6, a7, a8, a9⟩ : Cfg) ⟨b1, b2, b3, b4, b5, b6, b7, b8, b9⟩), [])
  | _ => none⟩
@[push_cast] theorem sp_sameCfg_ps : sp_sameCfg.ps = [.st .cfg, .st .cfg] := rfl
@[push_cast] theorem sp_sameCfg_md : sp_sameCfg.modes = [.rd, .rd] := rfl
@[push_cast] theorem sp_sameCfg_pure : sp_sameCfg.pure = true := rfl
@[push_cast] theorem sp_sameCfg_run (a1 a2 a8 a9 b1 b2 b8 b9 : Bool) (a3 a4 a5 b3 b4 b5 : List Rule) (a6 a7 b6 b7 : List Str) : sp_sameCfg.run [.agg [.bool a1, .bool a2, .dat ⟨.rule, a3⟩, .dat ⟨.rule, a4⟩, .dat ⟨.rule, a5⟩, .dat ⟨.str, a6⟩, .dat ⟨.str, a7⟩, .bool a8, .bool a9], .agg [.bool b1, .bool b2, .dat ⟨.rule, b3⟩, .dat ⟨.rule, b4⟩, .dat ⟨.rule, b5⟩, .dat ⟨.str, b6⟩, .dat ⟨.str, b7⟩, .bool b8, .bool b9]] = some (some (szCfg ⟨a1, a2, a3, a4, a5, a6, a7, a8, a9⟩ ≤ 1048576), .bool (eqB (⟨a1, a2, a3, a4, a5, a6, a7, a8, a9⟩ : Cfg) ⟨b1, b2, b3, b4, b5, b6, b7, b8, b9⟩), []) := rfl
theorem szCfg_parts {a1 a2 a8 a9 : Bool} {a3 a4 a5 : List Rule} {a6 a7 : List Str} (h : szCfg ⟨a1, a2, a3, a4, a5, a6, a7, a8, a9⟩ ≤ 1048576) : szL szRule a3 ≤ 1048576 ∧ szL szRule a4 ≤ 1048576 ∧ szL szRule a5 ≤ 1048576 ∧ a6.length ≤ 1048576 ∧ a7.length ≤ 1048576 := by
  have e : szCfg ⟨a1, a2, a3, a4, a5, a6, a7, a8, a9⟩ = szL szRule a3 + szL szRule a4 + szL szRule a5 + szL List.length a6 + szL List.length a7 := rfl
  have h6 := szL_len List.length a6
  have h7 := szL_len List.length a7
  omega
noncomputable def e_isSameCfg : Env := mk [(79, sp_sameRules), (80, sp_sameStrs)] [] []
@[push_cast] theorem e_isSameCfg_gh : e_isSameCfg.gh = ghOf [] := rfl
@[push_cast] theorem e_isSameCfg_dr : e_isSameCfg.dr = drOf [] := rfl
@[push_cast] theorem e_isSameCfg_td : e_isSameCfg.td = td := rfl
@[push_cast] theorem e_isSameCfg_eqt : e_isSameCfg.eqt = eqt := rfl
@[push_cast] theorem e_isSameCfg_cal : e_isSameCfg.cal = calOf [(79, sp_sameRules), (80, sp_sameStrs)] := rfl
theorem c_isSameCfg : CRow P0 ety0 41 sp_sameCfg := CRow.of (E := e_isSameCfg) (mkOk (.cons c_sameRules (.cons c_sameStrs (.nil)))) func41 rfl rfl rfl (by
  intro args p r outs h hq
  simp only [sp_sameCfg] at h; split at h <;> cases h
  rename_i a1 a2 a8 a9 b1 b2 b8 b9 a3 a4 a5 b3 b4 b5 a6 a7 b6 b7
  obtain ⟨h3, h4, h5, h6, h7⟩ := szCfg_parts (hq _ rfl)
  refine Body.intro (rs := [.tmp 4]) rfl rfl rfl ?_
  apply vc_run 1000 (stop := false) rfl; simp only [push_cast, reduceIte, Nat.reduceEqDiff, Nat.reduceAdd, Nat.reduceSub, Nat.reduceLT, Int.reduceNeg, Int.reduceLE, Int.reduceLT, Int.reduceToNat, Nat.reduceLeDiff, UInt8.reduceOfNat, UInt8.reduceOfNatLT, and_self, Nat.reduceMul, decide_true, decide_false, Bool.not_true, Bool.not_false, implies_true]
  refine ⟨fun _ => h3, fun _ => h4, fun _ => h5, fun _ => by omega, fun _ => by omega, congrArg AV.bool ?_⟩
  rw [Bool.eq_iff_iff, eqB_iff]
  simp only [Bool.cond_false_right, Bool.and_eq_true, decide_eq_true_eq, beq_iff_eq, eqB_iff, Cfg.mk.injEq]
  constructor <;> intro h <;> simp_all)
noncomputable def e_l07Same : Env := mk [(120, sp_sameRules), (121, sp_sameStrs2)] [] []
@[push_cast] theorem e_l07Same_gh : e_l07Same.gh = ghOf [] := rfl
@[push_cast] theorem e_l07Same_dr : e_l07Same.dr = drOf [] := rfl
@[push_cast] theorem e_l07Same_td : e_l07Same.td = td := rfl
@[push_cast] theorem e_l07Same_eqt : e_l07Same.eqt = eqt := rfl
@[push_cast] theorem e_l07Same_cal : e_l07Same.cal = calOf [(120, sp_sameRules), (121, sp_sameStrs2)] := rfl
theorem c_l07Same : CRow P0 ety0 78 sp_sameCfg := CRow.of (E := e_l07Same) (mkOk (.cons c_sameRules2 (.cons c_sameStrs2 (.nil)))) func78 rfl rfl rfl (by
  intro args p r outs h hq
  simp only [sp_sameCfg] at h; split at h <;> cases h
  rename_i a1 a2 a8 a9 b1 b2 b8 b9 a3 a4 a5 b3 b4 b5 a6 a7 b6 b7
  obtain ⟨h3, h4, h5, h6, h7⟩ := szCfg_parts (hq _ rfl)
  refine Body.intro (rs := [.tmp 4]) rfl rfl rfl ?_
  apply vc_run 1000 (stop := false) rfl; simp only [push_cast, reduceIte, Nat.reduceEqDiff, Nat.reduceAdd, Nat.reduceSub, Nat.reduceLT, Int.reduceNeg, Int.reduceLE, Int.reduceLT, Int.reduceToNat, Nat.reduceLeDiff, UInt8.reduceOfNat, UInt8.reduceOfNatLT, and_self, Nat.reduceMul, decide_true, decide_false, Bool.not_true, Bool.not_false, implies_true]
  refine ⟨fun _ => h3, fun _ => h4, fun _ => h5, fun _ => by omega, fun _ => by omega, congrArg AV.bool ?_⟩
  rw [Bool.eq_iff_iff, eqB_iff]
  simp only [Bool.cond_false_right, Bool.and_eq_true, decide_eq_true_eq, beq_iff_eq, eqB_iff, Cfg.mk.injEq]
  constructor <;> intro h <;> simp_all)
noncomputable def sp_eqFnCfg : Spec := ⟨[.sl .cfg, .sl .cfg, .sc], [.rd, .rd, .rd], true, fun
  | [.dat ⟨.cfg, a⟩, .dat ⟨.cfg, b⟩, .fn 41 [] []] => some (some (szL szCfg a ≤ 1048576), .bool (eqB a b), [])
  | _ => none⟩
@[push_cast] theorem sp_eqFnCfg_ps : sp_eqFnCfg.ps = [.sl .cfg, .sl .cfg, .sc] := rfl
@[push_cast] theorem sp_eqFnCfg_md : sp_eqFnCfg.modes = [.rd, .rd, .rd] := rfl
@[push_cast] theorem sp_eqFnCfg_pure : sp_eqFnCfg.pure = true := rfl
@[push_cast] theorem sp_eqFnCfg_run (a b : List Cfg) : sp_eqFnCfg.run [.dat ⟨.cfg, a⟩, .dat ⟨.cfg, b⟩, .fn 41 [] []] = some (some (szL szCfg a ≤ 1048576), .bool (eqB a b), []) := rfl
noncomputable def e_eqFnCfg : Env := mk [(41, sp_sameCfg)] [] []
@[push_cast] theorem e_eqFnCfg_gh : e_eqFnCfg.gh = ghOf [] := rfl
@[push_cast] theorem e_eqFnCfg_dr : e_eqFnCfg.dr = drOf [] := rfl
@[push_cast] theorem e_eqFnCfg_td : e_eqFnCfg.td = td := rfl
@[push_cast] theorem e_eqFnCfg_eqt : e_eqFnCfg.eqt = eqt := rfl
@[push_cast] theorem e_eqFnCfg_cal : e_eqFnCfg.cal = calOf [(41, sp_sameCfg)] := rfl
theorem c_eqFnCfg : CRow P0 ety0 40 sp_eqFnCfg := CRow.of (E := e_eqFnCfg) (mkOk (.cons c_isSameCfg (.nil))) func40 rfl rfl rfl (by
  intro args p r outs h hq
  simp only [sp_eqFnCfg] at h; split at h <;> cases h
  rename_i a b
  have hz := hq _ rfl
  have hl := szL_len szCfg a
  refine Body.intro (rs := [.tmp 6]) rfl rfl rfl ?_
  apply vc_run 1000 (stop := false) rfl; simp only [push_cast, reduceIte, Nat.reduceEqDiff, Nat.reduceAdd, Nat.reduceSub, Nat.reduceLT, Int.reduceNeg, Int.reduceLE, Int.reduceLT, Int.reduceToNat, Nat.reduceLeDiff, UInt8.reduceOfNat, UInt8.reduceOfNatLT, and_self, Nat.reduceMul, decide_true, decide_false, Bool.not_true, Bool.not_false, implies_true]
  refine ⟨fun h => ?_, fun h => ?_⟩
  · rw [eqB_ne]; intro e; subst e; simp at h
  have h : a.length = b.length := by simp at h; omega
  refine Run.loop [17] [0, 1, 2, 15, 16] [] rfl (fun m vs bs => ∃ k : Nat, vs = [.int .i64 k] ∧ bs = [] ∧ k ≤ a.length ∧ (∀ j < k, a.getD j cfgD = b.getD j cfgD) ∧ m = a.length - k) a.length ?_ ?_
  · simp only [push_cast, reduceIte, Nat.reduceEqDiff, Nat.reduceAdd, Nat.reduceSub, Nat.reduceLT, Int.reduceNeg, Int.reduceLE, Int.reduceLT, Int.reduceToNat, Nat.reduceLeDiff, UInt8.reduceOfNat, UInt8.reduceOfNatLT, and_self, Nat.reduceMul, decide_true, decide_false, Bool.not_true, Bool.not_false, implies_true]
    exact ⟨0, by simp, by omega, by simp, by omega⟩
  rintro m vs bs ⟨k, rfl, rfl, hk, hb, rfl⟩
  simp only [push_cast, reduceIte, Nat.reduceEqDiff, Nat.reduceAdd, Nat.reduceSub, Nat.reduceLT, Int.reduceNeg, Int.reduceLE, Int.reduceLT, Int.reduceToNat, Nat.reduceLeDiff, UInt8.reduceOfNat, UInt8.reduceOfNatLT, and_self, Nat.reduceMul, decide_true, decide_false, Bool.not_true, Bool.not_false, implies_true]
  apply vc_run 1000 (stop := false) rfl; simp only [push_cast, reduceIte, Nat.reduceEqDiff, Nat.reduceAdd, Nat.reduceSub, Nat.reduceLT, Int.reduceNeg, Int.reduceLE, Int.reduceLT, Int.reduceToNat, Nat.reduceLeDiff, UInt8.reduceOfNat, UInt8.reduceOfNatLT, and_self, Nat.reduceMul, decide_true, decide_false, Bool.not_true, Bool.not_false, implies_true]
  try simp only [eqB_dec]
  refine ⟨fun hlt => ?_, fun hge => ?_⟩
  · have hlt : k < a.length := Int.ofNat_lt.1 (of_decide_eq_true hlt)
    simp only [gd_nat]
    refine ⟨by omega, by omega, (by have := szL_at szCfg cfgD hlt; have e : szCfg (a.getD k cfgD) = szCfg ⟨(a.getD k cfgD).hasAllow, (a.getD k cfgD).hasAttrs, (a.getD k cfgD).allow, (a.getD k cfgD).remove, (a.getD k cfgD).unwrap, (a.getD k cfgD).attrs, (a.getD k cfgD).drop, (a.getD k cfgD).comments, (a.getD k cfgD).data⟩ := rfl; omega),fun hne => ?_, fun heq => ⟨by constructor <;> omega, _, by omega, k + 1, rfl, by omega, below_step hb (eqB_not heq), rfl⟩⟩
    rw [eqB_ne]; intro e; subst e; exact eqB_yes hne rfl
  · have hge : k = a.length := by have := of_decide_eq_false hge; omega
    subst hge
    rw [eqB_of (list_eq cfgD h hb)])
noncomputable def sp_sameDoc : Spec := ⟨[.st .doc, .st .doc], [.rd, .rd], true, fun
  | [.agg [.str m, .dat ⟨.node, a⟩], .agg [.str m2, .dat ⟨.node, a2⟩]] => some (some (szL szNd a ≤ 1048576), .bool (eqB (⟨m, a⟩ : Docu) ⟨m2, a2⟩), [])
  | _ => none⟩
@[push_cast] theorem sp_sameDoc_ps : sp_sameDoc.ps = [.st .doc, .st .doc] := rfl
@[push_cast] theorem sp_sameDoc_md : sp_sameDoc.modes = [.rd, .rd] := rfl
@[push_cast] theorem sp_sameDoc_pure : sp_sameDoc.pure = true := rfl
@[push_cast] theorem sp_sameDoc_run (m m2 : Str) (a a2 : List Node) : sp_sameDoc.run [.agg [.str m, .dat ⟨.node, a⟩], .agg [.str m2, .dat ⟨.node, a2⟩]] = some (some (szL szNd a ≤ 1048576), .bool (eqB (⟨m, a⟩ : Docu) ⟨m2, a2⟩), []) := rfl
noncomputable def e_sameDoc : Env := mk [(44, sp_areAlike)] [] []
@[push_cast] theorem e_sameDoc_gh : e_sameDoc.gh = ghOf [] := rfl
@[push_cast] theorem e_sameDoc_dr : e_sameDoc.dr = drOf [] := rfl
@[push_cast] theorem e_sameDoc_td : e_sameDoc.td = td := rfl
@[push_cast] theorem e_sameDoc_eqt : e_sameDoc.eqt = eqt := rfl
@[push_cast] theorem e_sameDoc_cal : e_sameDoc.cal = calOf [(44, sp_areAlike)] := rfl
theorem c_sameDoc : CRow P0 ety0 43 sp_sameDoc := CRow.of (E := e_sameDoc) (mkOk (.cons c_areAlike (.nil))) func43 rfl rfl rfl (by
  intro args p r outs h hq
  simp only [sp_sameDoc] at h; split at h <;> cases h
  rename_i m m2 a a2
  have hz := hq _ rfl
  refine Body.intro (rs := [.tmp 4]) rfl rfl rfl ?_
  apply vc_run 1000 (stop := false) rfl; simp only [push_cast, reduceIte, Nat.reduceEqDiff, Nat.reduceAdd, Nat.reduceSub, Nat.reduceLT, Int.reduceNeg, Int.reduceLE, Int.reduceLT, Int.reduceToNat, Nat.reduceLeDiff, UInt8.reduceOfNat, UInt8.reduceOfNatLT, and_self, Nat.reduceMul, decide_true, decide_false, Bool.not_true, Bool.not_false, implies_true]
  refine ⟨fun _ => hz, congrArg AV.bool ?_⟩
  rw [Bool.eq_iff_iff, eqB_iff]
  simp only [Bool.cond_false_right, Bool.and_eq_true, decide_eq_true_eq, eqB_iff, Docu.mk.injEq])
noncomputable def sp_eqFnDoc : Spec := ⟨[.sl .doc, .sl .doc, .sc], [.rd, .rd, .rd], true, fun
  | [.dat ⟨.doc, a⟩, .dat ⟨.doc, b⟩, .fn 43 [] []] => some (some (szL szDo a ≤ 1048576), .bool (eqB a b), [])
  | _ => none⟩
@[push_cast] theorem sp_eqFnDoc_ps : sp_eqFnDoc.ps = [.sl .doc, .sl .doc, .sc] := rfl
@[push_cast] theorem sp_eqFnDoc_md : sp_eqFnDoc.modes = [.rd, .rd, .rd] := rfl
@[push_cast] theorem sp_eqFnDoc_pure : sp_eqFnDoc.pure = true := rfl
@[push_cast] theorem sp_eqFnDoc_run (a b : List Docu) : sp_eqFnDoc.run [.dat ⟨.doc, a⟩, .dat ⟨.doc, b⟩, .fn 43 [] []] = some (some (szL szDo a ≤ 1048576), .bool (eqB a b), []) := rfl
noncomputable def e_eqFnDoc : Env := mk [(43, sp_sameDoc)] [] []
@[push_cast] theorem e_eqFnDoc_gh : e_eqFnDoc.gh = ghOf [] := rfl
@[push_cast] theorem e_eqFnDoc_dr : e_eqFnDoc.dr = drOf [] := rfl
@[push_cast] theorem e_eqFnDoc_td : e_eqFnDoc.td = td := rfl
@[push_cast] theorem e_eqFnDoc_eqt : e_eqFnDoc.eqt = eqt := rfl
@[push_cast] theorem e_eqFnDoc_cal : e_eqFnDoc.cal = calOf [(43, sp_sameDoc)] := rfl
theorem c_eqFnDoc : CRow P0 ety0 42 sp_eqFnDoc := CRow.of (E := e_eqFnDoc) (mkOk (.cons c_sameDoc (.nil))) func42 rfl rfl rfl (by
  intro args p r outs h hq
  simp only [sp_eqFnDoc] at h; split at h <;> cases h
  rename_i a b
  have hz := hq _ rfl
  have hl := szL_len szDo a
  refine Body.intro (rs := [.tmp 6]) rfl rfl rfl ?_
  apply vc_run 1000 (stop := false) rfl; simp only [push_cast, reduceIte, Nat.reduceEqDiff, Nat.reduceAdd, Nat.reduceSub, Nat.reduceLT, Int.reduceNeg, Int.reduceLE, Int.reduceLT, Int.reduceToNat, Nat.reduceLeDiff, UInt8.reduceOfNat, UInt8.reduceOfNatLT, and_self, Nat.reduceMul, decide_true, decide_false, Bool.not_true, Bool.not_false, implies_true]
  refine ⟨fun h => ?_, fun h => ?_⟩
  · rw [eqB_ne]; intro e; subst e; simp at h
  have h : a.length = b.length := by simp at h; omega
  refine Run.loop [17] [0, 1, 2, 15, 16] [] rfl (fun m vs bs => ∃ k : Nat, vs = [.int .i64 k] ∧ bs = [] ∧ k ≤ a.length ∧ (∀ j < k, a.getD j docD = b.getD j docD) ∧ m = a.length - k) a.length ?_ ?_
  · simp only [push_cast, reduceIte, Nat.reduceEqDiff, Nat.reduceAdd, Nat.reduceSub, Nat.reduceLT, Int.reduceNeg, Int.reduceLE, Int.reduceLT, Int.reduceToNat, Nat.reduceLeDiff, UInt8.reduceOfNat, UInt8.reduceOfNatLT, and_self, Nat.reduceMul, decide_true, decide_false, Bool.not_true, Bool.not_false, implies_true]
    exact ⟨0, by simp, by omega, by simp, by omega⟩
  rintro m vs bs ⟨k, rfl, rfl, hk, hb, rfl⟩
  simp only [push_cast, reduceIte, Nat.reduceEqDiff, Nat.reduceAdd, Nat.reduceSub, Nat.reduceLT, Int.reduceNeg, Int.reduceLE, Int.reduceLT, Int.reduceToNat, Nat.reduceLeDiff, UInt8.reduceOfNat, UInt8.reduceOfNatLT, and_self, Nat.reduceMul, decide_true, decide_false, Bool.not_true, Bool.not_false, implies_true]
  apply vc_run 1000 (stop := false) rfl; simp only [push_cast, reduceIte, Nat.reduceEqDiff, Nat.reduceAdd, Nat.reduceSub, Nat.reduceLT, Int.reduceNeg, Int.reduceLE, Int.reduceLT, Int.reduceToNat, Nat.reduceLeDiff, UInt8.reduceOfNat, UInt8.reduceOfNatLT, and_self, Nat.reduceMul, decide_true, decide_false, Bool.not_true, Bool.not_false, implies_true]
  try simp only [eqB_dec]
  refine ⟨fun hlt => ?_, fun hge => ?_⟩
  · have hlt : k < a.length := Int.ofNat_lt.1 (of_decide_eq_true hlt)
    simp only [gd_nat]
    refine ⟨by omega, by omega, (by have := szL_at szDo docD hlt; have e : szDo (a.getD k docD) = (a.getD k docD).name.length + szL szNd (a.getD k docD).kids := rfl; omega),fun hne => ?_, fun heq => ⟨by constructor <;> omega, _, by omega, k + 1, rfl, by omega, below_step hb (eqB_not heq), rfl⟩⟩
    rw [eqB_ne]; intro e; subst e; exact eqB_yes hne rfl
  · have hge : k = a.length := by have := of_decide_eq_false hge; omega
    subst hge
    rw [eqB_of (list_eq docD h hb)])
theorem doc_ne (x y : Docu) : (bif !decide (x.name = y.name) then true else !eqB x.kids y.kids) = !eqB x y := by
  have e : eqB x y = (decide (x.name = y.name) && eqB x.kids y.kids) := by
    rw [Bool.eq_iff_iff, eqB_iff]
    cases x; cases y
    simp only [Bool.and_eq_true, decide_eq_true_eq, eqB_iff, Docu.mk.injEq]
  rw [e]
  generalize decide (x.name = y.name) = b1; generalize eqB x.kids y.kids = b2
  cases b1 <;> cases b2 <;> rfl
noncomputable def sp_sameHo : Spec := ⟨[.sc, .sc], [.rd, .rd], true, fun
  | [.agg [.dat ⟨.doc, ds⟩, .dat ⟨.cfg, cs⟩], .agg [.dat ⟨.doc, ds2⟩, .dat ⟨.cfg, cs2⟩]] => some (some (szL szDo ds ≤ 1048576 ∧ szL szCfg cs ≤ 1048576), .bool (eqB ds ds2 && eqB cs cs2), [])
  | _ => none⟩
@[push_cast] theorem sp_sameHo_ps : sp_sameHo.ps = [.sc, .sc] := rfl
@[push_cast] theorem sp_sameHo_md : sp_sameHo.modes = [.rd, .rd] := rfl
@[push_cast] theorem sp_sameHo_pure : sp_sameHo.pure = true := rfl
@[push_cast] theorem sp_sameHo_run (ds ds2 : List Docu) (cs cs2 : List Cfg) : sp_sameHo.run [.agg [.dat ⟨.doc, ds⟩, .dat ⟨.cfg, cs⟩], .agg [.dat ⟨.doc, ds2⟩, .dat ⟨.cfg, cs2⟩]] = some (some (szL szDo ds ≤ 1048576 ∧ szL szCfg cs ≤ 1048576), .bool (eqB ds ds2 && eqB cs cs2), []) := rfl
noncomputable def e_l10Same : Env := mk [(49, sp_areAlike), (78, sp_sameCfg)] [(6, [], []), (11, [], [])] []
@[push_cast] theorem e_l10Same_gh : e_l10Same.gh = ghOf [] := rfl
@[push_cast] theorem e_l10Same_dr : e_l10Same.dr = drOf [(6, [], []), (11, [], [])] := rfl
@[push_cast] theorem e_l10Same_td : e_l10Same.td = td := rfl
@[push_cast] theorem e_l10Same_eqt : e_l10Same.eqt = eqt := rfl
@[push_cast] theorem e_l10Same_cal : e_l10Same.cal = calOf [(49, sp_areAlike), (78, sp_sameCfg)] := rfl
theorem c_l10Same : CRow P0 ety0 39 sp_sameHo := CRow.of (E := e_l10Same) (mkOk (.cons c_l03Same (.cons c_l07Same (.nil)))) func39 rfl rfl rfl (by
  intro args p r outs h hq
  simp only [sp_sameHo] at h; split at h <;> cases h
  rename_i ds cs ds2 cs2
  obtain ⟨hz1, hz2⟩ := hq _ rfl
  have hl1 := szL_len szDo ds
  have hl2 := szL_len szCfg cs
  refine Body.intro (rs := [.tmp 4]) rfl rfl rfl ?_
  apply vc_run 1000 (stop := false) rfl; simp only [push_cast, reduceIte, Nat.reduceEqDiff, Nat.reduceAdd, Nat.reduceSub, Nat.reduceLT, Int.reduceNeg, Int.reduceLE, Int.reduceLT, Int.reduceToNat, Nat.reduceLeDiff, UInt8.reduceOfNat, UInt8.reduceOfNatLT, and_self, Nat.reduceMul, decide_true, decide_false, Bool.not_true, Bool.not_false, implies_true]
  refine ⟨fun h => ?_, fun h => ?_⟩
  · by_cases e : ds.length = ds2.length
    · rw [eqB_ne (a := cs), Bool.and_false]; intro e2; subst e2; simp [e] at h
    · rw [eqB_ne (a := ds), Bool.false_and]; intro e2; subst e2; exact e rfl
  have h1 : ds.length = ds2.length := by by_cases e : ds.length = ds2.length; exact e; simp at h; omega
  have h2 : cs.length = cs2.length := by simp [h1] at h; omega
  refine Run.loop [5] [2, 3] [0, 1] rfl (fun m vs bs => ∃ k : Nat, vs = [.int .i64 k] ∧ bs = [[.dat ⟨.doc, ds⟩, .dat ⟨.cfg, cs⟩], [.dat ⟨.doc, ds2⟩, .dat ⟨.cfg, cs2⟩]] ∧ k ≤ ds.length ∧ (∀ j < k, ds.getD j docD = ds2.getD j docD) ∧ m = ds.length - k) ds.length ?_ ?_
  · simp only [push_cast, reduceIte, Nat.reduceEqDiff, Nat.reduceAdd, Nat.reduceSub, Nat.reduceLT, Int.reduceNeg, Int.reduceLE, Int.reduceLT, Int.reduceToNat, Nat.reduceLeDiff, UInt8.reduceOfNat, UInt8.reduceOfNatLT, and_self, Nat.reduceMul, decide_true, decide_false, Bool.not_true, Bool.not_false, implies_true]
    exact ⟨0, by simp, by omega, by simp, by omega⟩
  rintro m vs bs ⟨k, rfl, rfl, hk, hb, rfl⟩
  simp only [push_cast, reduceIte, Nat.reduceEqDiff, Nat.reduceAdd, Nat.reduceSub, Nat.reduceLT, Int.reduceNeg, Int.reduceLE, Int.reduceLT, Int.reduceToNat, Nat.reduceLeDiff, UInt8.reduceOfNat, UInt8.reduceOfNatLT, and_self, Nat.reduceMul, decide_true, decide_false, Bool.not_true, Bool.not_false, implies_true]
  apply vc_run 1000 (stop := false) rfl; simp only [push_cast, reduceIte, Nat.reduceEqDiff, Nat.reduceAdd, Nat.reduceSub, Nat.reduceLT, Int.reduceNeg, Int.reduceLE, Int.reduceLT, Int.reduceToNat, Nat.reduceLeDiff, UInt8.reduceOfNat, UInt8.reduceOfNatLT, and_self, Nat.reduceMul, decide_true, decide_false, Bool.not_true, Bool.not_false, implies_true]
  simp only [doc_ne]
  refine ⟨fun hlt => ?_, fun hge => ?_⟩
  · have hlt : k < ds.length := Int.ofNat_lt.1 (of_decide_eq_true hlt)
    have hel := szL_at szDo docD hlt
    have e : szDo (ds.getD k docD) = (ds.getD k docD).name.length + szL szNd (ds.getD k docD).kids := rfl
    simp only [gd_nat]
    refine ⟨by omega, by omega, fun _ => by omega, fun _ => by omega, fun _ => by omega, fun hne => ?_, fun heq => ⟨by constructor <;> omega, _, by omega, k + 1, rfl, by omega, below_step hb (eqB_not heq), rfl⟩⟩
    rw [eqB_ne (a := ds), Bool.false_and]; intro e; subst e; exact eqB_yes hne rfl
  · have hge : k = ds.length := by have := of_decide_eq_false hge; omega
    subst hge
    rw [eqB_of (list_eq docD h1 hb), Bool.true_and]
    refine Run.loop [6] [2, 3] [0, 1] rfl (fun m vs bs => ∃ k : Nat, vs = [.int .i64 k] ∧ bs = [[.dat ⟨.doc, ds⟩, .dat ⟨.cfg, cs⟩], [.dat ⟨.doc, ds2⟩, .dat ⟨.cfg, cs2⟩]] ∧ k ≤ cs.length ∧ (∀ j < k, cs.getD j cfgD = cs2.getD j cfgD) ∧ m = cs.length - k) cs.length ?_ ?_
    · simp only [push_cast, reduceIte, Nat.reduceEqDiff, Nat.reduceAdd, Nat.reduceSub, Nat.reduceLT, Int.reduceNeg, Int.reduceLE, Int.reduceLT, Int.reduceToNat, Nat.reduceLeDiff, UInt8.reduceOfNat, UInt8.reduceOfNatLT, and_self, Nat.reduceMul, decide_true, decide_false, Bool.not_true, Bool.not_false, implies_true]
      exact ⟨0, by simp, by omega, by simp, by omega⟩
    rintro m vs bs ⟨k, rfl, rfl, hk, hb, rfl⟩
    simp only [push_cast, reduceIte, Nat.reduceEqDiff, Nat.reduceAdd, Nat.reduceSub, Nat.reduceLT, Int.reduceNeg, Int.reduceLE, Int.reduceLT, Int.reduceToNat, Nat.reduceLeDiff, UInt8.reduceOfNat, UInt8.reduceOfNatLT, and_self, Nat.reduceMul, decide_true, decide_false, Bool.not_true, Bool.not_false, implies_true]
    apply vc_run 1000 (stop := false) rfl; simp only [push_cast, reduceIte, Nat.reduceEqDiff, Nat.reduceAdd, Nat.reduceSub, Nat.reduceLT, Int.reduceNeg, Int.reduceLE, Int.reduceLT, Int.reduceToNat, Nat.reduceLeDiff, UInt8.reduceOfNat, UInt8.reduceOfNatLT, and_self, Nat.reduceMul, decide_true, decide_false, Bool.not_true, Bool.not_false, implies_true]
    refine ⟨fun hlt => ?_, fun hge => ?_⟩
    · have hlt : k < cs.length := Int.ofNat_lt.1 (of_decide_eq_true hlt)
      have hel := szL_at szCfg cfgD hlt
      simp only [gd_nat]
      refine ⟨by omega, by omega, by omega, fun hne => ?_, fun heq => ⟨by constructor <;> omega, _, by omega, k + 1, rfl, by omega, below_step hb (eqB_not heq), rfl⟩⟩
      rw [eqB_ne]; intro e; subst e; exact eqB_yes hne rfl
    · have hge : k = cs.length := by have := of_decide_eq_false hge; omega
      subst hge
      rw [eqB_of (list_eq cfgD h2 hb)])
noncomputable def sp_sameHouse : Spec := ⟨[.sc, .sc], [.rd, .rd], true, fun
  | [.agg [.dat ⟨.doc, ds⟩, .dat ⟨.cfg, cs⟩], .agg [.dat ⟨.doc, ds2⟩, .dat ⟨.cfg, cs2⟩]] => some (some (szL szDo ds ≤ 1048576 ∧ szL szCfg cs ≤ 1048576 ∧ szL szDo ds2 ≤ 1048576 ∧ szL szCfg cs2 ≤ 1048576), .bool (houseOK ds cs && houseOK ds2 cs2 && eqB ds ds2 && eqB cs cs2), [])
  | _ => none⟩
@[push_cast] theorem sp_sameHouse_ps : sp_sameHouse.ps = [.sc, .sc] := rfl
@[push_cast] theorem sp_sameHouse_md : sp_sameHouse.modes = [.rd, .rd] := rfl
@[push_cast] theorem sp_sameHouse_pure : sp_sameHouse.pure = true := rfl
@[push_cast] theorem sp_sameHouse_run (ds ds2 : List Docu) (cs cs2 : List Cfg) : sp_sameHouse.run [.agg [.dat ⟨.doc, ds⟩, .dat ⟨.cfg, cs⟩], .agg [.dat ⟨.doc, ds2⟩, .dat ⟨.cfg, cs2⟩]] = some (some (szL szDo ds ≤ 1048576 ∧ szL szCfg cs ≤ 1048576 ∧ szL szDo ds2 ≤ 1048576 ∧ szL szCfg cs2 ≤ 1048576), .bool (houseOK ds cs && houseOK ds2 cs2 && eqB ds ds2 && eqB cs cs2), []) := rfl
noncomputable def e_sameHouse : Env := mk [(11, sp_houseOK), (40, sp_eqFnCfg), (42, sp_eqFnDoc)] [] []
@[push_cast] theorem e_sameHouse_gh : e_sameHouse.gh = ghOf [] := rfl
@[push_cast] theorem e_sameHouse_dr : e_sameHouse.dr = drOf [] := rfl
@[push_cast] theorem e_sameHouse_td : e_sameHouse.td = td := rfl
@[push_cast] theorem e_sameHouse_eqt : e_sameHouse.eqt = eqt := rfl
@[push_cast] theorem e_sameHouse_cal : e_sameHouse.cal = calOf [(11, sp_houseOK), (40, sp_eqFnCfg), (42, sp_eqFnDoc)] := rfl
theorem c_sameHouse : CRow P0 ety0 14 sp_sameHouse := CRow.of (E := e_sameHouse) (mkOk (.cons c_houseOK (.cons c_eqFnCfg (.cons c_eqFnDoc (.nil))))) func14 rfl rfl rfl (by
  intro args p r outs h hq
  simp only [sp_sameHouse] at h; split at h <;> cases h
  rename_i ds cs ds2 cs2
  obtain ⟨hz1, hz2, hz3, hz4⟩ := hq _ rfl
  refine Body.intro (rs := [.tmp 4]) rfl rfl rfl ?_
  apply vc_run 1000 (stop := false) rfl; simp only [push_cast, reduceIte, Nat.reduceEqDiff, Nat.reduceAdd, Nat.reduceSub, Nat.reduceLT, Int.reduceNeg, Int.reduceLE, Int.reduceLT, Int.reduceToNat, Nat.reduceLeDiff, UInt8.reduceOfNat, UInt8.reduceOfNatLT, and_self, Nat.reduceMul, decide_true, decide_false, Bool.not_true, Bool.not_false, implies_true]
  refine ⟨⟨hz1, hz2⟩, fun _ => ⟨hz3, hz4⟩, fun _ => hz2, fun _ => hz1, ?_⟩
  generalize houseOK ds cs = b1; generalize houseOK ds2 cs2 = b2; generalize eqB ds ds2 = b3; generalize eqB cs cs2 = b4
  cases b1 <;> cases b2 <;> cases b3 <;> cases b4 <;> rfl)
noncomputable def e_sameHouse2 : Env := mk [(29, sp_houseOK), (39, sp_sameHo)] [] []
@[push_cast] theorem e_sameHouse2_gh : e_sameHouse2.gh = ghOf [] := rfl
@[push_cast] theorem e_sameHouse2_dr : e_sameHouse2.dr = drOf [] := rfl
@[push_cast] theorem e_sameHouse2_td : e_sameHouse2.td = td := rfl
@[push_cast] theorem e_sameHouse2_eqt : e_sameHouse2.eqt = eqt := rfl
@[push_cast] theorem e_sameHouse2_cal : e_sameHouse2.cal = calOf [(29, sp_houseOK), (39, sp_sameHo)] := rfl
theorem c_sameHouse2 : CRow P0 ety0 13 sp_sameHouse := CRow.of (E := e_sameHouse2) (mkOk (.cons c_l10OK (.cons c_l10Same (.nil)))) func13 rfl rfl rfl (by
  intro args p r outs h hq
  simp only [sp_sameHouse] at h; split at h <;> cases h
  rename_i ds cs ds2 cs2
  obtain ⟨hz1, hz2, hz3, hz4⟩ := hq _ rfl
  refine Body.intro (rs := [.tmp 4]) rfl rfl rfl ?_
  apply vc_run 1000 (stop := false) rfl; simp only [push_cast, reduceIte, Nat.reduceEqDiff, Nat.reduceAdd, Nat.reduceSub, Nat.reduceLT, Int.reduceNeg, Int.reduceLE, Int.reduceLT, Int.reduceToNat, Nat.reduceLeDiff, UInt8.reduceOfNat, UInt8.reduceOfNatLT, and_self, Nat.reduceMul, decide_true, decide_false, Bool.not_true, Bool.not_false, implies_true]
  refine ⟨⟨hz1, hz2⟩, fun _ => ⟨hz3, hz4⟩, fun _ => ⟨hz1, hz2⟩, ?_⟩
  generalize houseOK ds cs = b1; generalize houseOK ds2 cs2 = b2; generalize eqB ds ds2 = b3; generalize eqB cs cs2 = b4
  cases b1 <;> cases b2 <;> cases b3 <;> cases b4 <;> rfl)
noncomputable def sp_lawSameHouse : Spec := ⟨[.sc, .sc], [.rd, .rd], true, fun
  | [.agg [.dat ⟨.doc, ds⟩, .dat ⟨.cfg, cs⟩], .agg [.dat ⟨.doc, ds2⟩, .dat ⟨.cfg, cs2⟩]] => some (some (fitL fitDo ds ∧ fitL fitCfg cs ∧ fitL fitDo ds2 ∧ fitL fitCfg cs2), .bool true, [])
  | _ => none⟩
@[push_cast] theorem sp_lawSameHouse_ps : sp_lawSameHouse.ps = [.sc, .sc] := rfl
@[push_cast] theorem sp_lawSameHouse_md : sp_lawSameHouse.modes = [.rd, .rd] := rfl
@[push_cast] theorem sp_lawSameHouse_pure : sp_lawSameHouse.pure = true := rfl
@[push_cast] theorem sp_lawSameHouse_run (ds ds2 : List Docu) (cs cs2 : List Cfg) : sp_lawSameHouse.run [.agg [.dat ⟨.doc, ds⟩, .dat ⟨.cfg, cs⟩], .agg [.dat ⟨.doc, ds2⟩, .dat ⟨.cfg, cs2⟩]] = some (some (fitL fitDo ds ∧ fitL fitCfg cs ∧ fitL fitDo ds2 ∧ fitL fitCfg cs2), .bool true, []) := rfl
noncomputable def e_lawSameHouse : Env := mk [(8, sp_szHouse), (10, sp_toHouse), (12, sp_eqHouse), (14, sp_sameHouse), (13, sp_sameHouse)] [(8, [1, 3], [[], [], [0]]), (14, [2], [[1]]), (16, [2], [[1]])] []
@[push_cast] theorem e_lawSameHouse_gh : e_lawSameHouse.gh = ghOf [] := rfl
@[push_cast] theorem e_lawSameHouse_dr : e_lawSameHouse.dr = drOf [(8, [1, 3], [[], [], [0]]), (14, [2], [[1]]), (16, [2], [[1]])] := rfl
@[push_cast] theorem e_lawSameHouse_td : e_lawSameHouse.td = td := rfl
@[push_cast] theorem e_lawSameHouse_eqt : e_lawSameHouse.eqt = eqt := rfl
@[push_cast] theorem e_lawSameHouse_cal : e_lawSameHouse.cal = calOf [(8, sp_szHouse), (10, sp_toHouse), (12, sp_eqHouse), (14, sp_sameHouse), (13, sp_sameHouse)] := rfl
theorem c_lawSameHouse : CRow P0 ety0 4 sp_lawSameHouse := CRow.of (E := e_lawSameHouse) (mkOk (.cons c_szHouse (.cons c_toHouse (.cons c_eqHouse (.cons c_sameHouse (.cons c_sameHouse2 (.nil))))))) func4 rfl rfl rfl (by
  intro args p r outs h hq
  simp only [sp_lawSameHouse] at h; split at h <;> cases h
  rename_i ds cs ds2 cs2
  obtain ⟨hd, hc, hd2, hc2⟩ := hq _ rfl
  refine Body.intro (rs := [.tmp 4]) rfl rfl rfl ?_
  apply vc_run 1000 (stop := false) rfl; simp only [push_cast, reduceIte, Nat.reduceEqDiff, Nat.reduceAdd, Nat.reduceSub, Nat.reduceLT, Int.reduceNeg, Int.reduceLE, Int.reduceLT, Int.reduceToNat, Nat.reduceLeDiff, UInt8.reduceOfNat, UInt8.reduceOfNatLT, and_self, Nat.reduceMul, decide_true, decide_false, Bool.not_true, Bool.not_false, implies_true]
  refine ⟨⟨hd, hc⟩, fun h => ?_⟩
  obtain ⟨a1, a2, a3, a4⟩ := szR_le (of_decide_eq_false h) (by omega)
  refine ⟨⟨a1, a2, hd2, hc2⟩, fun h2 => ?_⟩
  obtain ⟨b1, b2, b3, b4⟩ := szR_le (of_decide_eq_false h2) a1
  have k : szL szDo ds ≤ 1048576 ∧ szL szCfg cs ≤ 1048576 := ⟨by omega, by omega⟩
  have k2 : szL szDo ds2 ≤ 1048576 ∧ szL szCfg cs2 ≤ 1048576 := ⟨by omega, by omega⟩
  rw [eqB_of rfl, eqB_of rfl, eqB_of rfl, eqB_of rfl]
  exact ⟨k, k2, ⟨k.1, k.2, k2⟩, k, k2, ⟨k.1, k.2, k2⟩, fun h => h.elim, k, k, (fun h => by cases h), fun _ => ⟨k2, k2, fun h => by cases h⟩⟩)
end Go.Ab
