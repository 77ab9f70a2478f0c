/- Copies of rules and configurations. -/
import Derived.Test.YtondigjbmieekaaFnE
set_option linter.all false
set_option linter.unusedSimpArgs false
set_option linter.unusedVariables false
set_option linter.unusedSectionVars false
set_option maxRecDepth 20000
set_option maxHeartbeats 1000000
namespace Go.Ab
open Go Go.Proofs.Try
noncomputable def sp_cloneS : Spec := ⟨[.sl .str], [.rd], false, fun
  | [.dat ⟨.str, l⟩] => some (some (l.length ≤ 1073741824), .own true ⟨.str, l⟩, [])
  | _ => none⟩
@[push_cast] theorem sp_cloneS_ps : sp_cloneS.ps = [.sl .str] := rfl
@[push_cast] theorem sp_cloneS_md : sp_cloneS.modes = [.rd] := rfl
@[push_cast] theorem sp_cloneS_pure : sp_cloneS.pure = false := rfl
@[push_cast] theorem sp_cloneS_run (l : List Str) : sp_cloneS.run [.dat ⟨.str, l⟩] = some (some (l.length ≤ 1073741824), .own true ⟨.str, l⟩, []) := rfl
noncomputable def e_cloneS : Env := mk [] [] [(2000000, [.nil .str 2])]
@[push_cast] theorem e_cloneS_gh : e_cloneS.gh = ghOf [(2000000, [.nil .str 2])] := rfl
@[push_cast] theorem e_cloneS_dr : e_cloneS.dr = drOf [] := rfl
@[push_cast] theorem e_cloneS_td : e_cloneS.td = td := rfl
@[push_cast] theorem e_cloneS_eqt : e_cloneS.eqt = eqt := rfl
@[push_cast] theorem e_cloneS_cal : e_cloneS.cal = calOf [] := rfl
theorem c_cloneS : CRow P0 ety0 95 sp_cloneS := CRow.of (E := e_cloneS) (mkOk (.nil)) func95 rfl rfl rfl (by
  intro args p r outs h hq
  simp only [sp_cloneS] at h; split at h <;> cases h
  rename_i l
  have hz := hq _ rfl
  cases l with
  | nil =>
    refine Body.intro (rs := [.tmp 2]) rfl rfl rfl ?_
    apply vc_run 1000 (stop := false) rfl; simp only [push_cast, reduceIte, Nat.reduceEqDiff, Nat.reduceAdd, Nat.reduceSub, Nat.reduceLT, Int.reduceNeg, Int.reduceLE, Int.reduceLT, Int.reduceToNat, Nat.reduceLeDiff, UInt8.reduceOfNat, UInt8.reduceOfNatLT, and_self, Nat.reduceMul, decide_true, decide_false, Bool.not_true, Bool.not_false, implies_true]
    unfold sizeOk
    omega
  | cons x r =>
    refine Body.intro (rs := [.tmp 2]) rfl rfl rfl ?_
    apply vc_run 1000 (stop := false) rfl; simp only [push_cast, reduceIte, Nat.reduceEqDiff, Nat.reduceAdd, Nat.reduceSub, Nat.reduceLT, Int.reduceNeg, Int.reduceLE, Int.reduceLT, Int.reduceToNat, Nat.reduceLeDiff, UInt8.reduceOfNat, UInt8.reduceOfNatLT, and_self, Nat.reduceMul, decide_true, decide_false, Bool.not_true, Bool.not_false, implies_true]
    refine ⟨fun h => h.elim, ?_⟩
    unfold sizeOk
    simp only [List.length_cons] at hz
    omega)
noncomputable def sp_cpRules : Spec := ⟨[.sl .rule], [.rd], false, fun
  | [.dat ⟨.rule, l⟩] => some (some (szL szRule l ≤ 1048576), .own true ⟨.rule, l⟩, [])
  | _ => none⟩
@[push_cast] theorem sp_cpRules_ps : sp_cpRules.ps = [.sl .rule] := rfl
@[push_cast] theorem sp_cpRules_md : sp_cpRules.modes = [.rd] := rfl
@[push_cast] theorem sp_cpRules_pure : sp_cpRules.pure = false := rfl
@[push_cast] theorem sp_cpRules_run (l : List Rule) : sp_cpRules.run [.dat ⟨.rule, l⟩] = some (some (szL szRule l ≤ 1048576), .own true ⟨.rule, l⟩, []) := rfl
noncomputable def e_clonedRules : Env := mk [(95, sp_cloneS)] [(5, [7, 9, 10], [[1, 2], [1], [1], [1], [1]])] []
@[push_cast] theorem e_clonedRules_gh : e_clonedRules.gh = ghOf [] := rfl
@[push_cast] theorem e_clonedRules_dr : e_clonedRules.dr = drOf [(5, [7, 9, 10], [[1, 2], [1], [1], [1], [1]])] := rfl
@[push_cast] theorem e_clonedRules_td : e_clonedRules.td = td := rfl
@[push_cast] theorem e_clonedRules_eqt : e_clonedRules.eqt = eqt := rfl
@[push_cast] theorem e_clonedRules_cal : e_clonedRules.cal = calOf [(95, sp_cloneS)] := rfl
theorem c_clonedRules : CRow P0 ety0 94 sp_cpRules := CRow.of (E := e_clonedRules) (mkOk (.cons c_cloneS (.nil))) func94 rfl rfl rfl (by
  intro args p r outs h hq
  simp only [sp_cpRules] at h; split at h <;> cases h
  rename_i l
  have hz := hq _ rfl
  have hl := szL_len szRule l
  refine Body.intro (rs := [.tmp 2]) rfl rfl rfl ?_
  apply vc_run 1000 (stop := false) rfl; simp only [push_cast, reduceIte, Nat.reduceEqDiff, Nat.reduceAdd, Nat.reduceSub, Nat.reduceLT, Int.reduceNeg, Int.reduceLE, Int.reduceLT, Int.reduceToNat, Nat.reduceLeDiff, UInt8.reduceOfNat, UInt8.reduceOfNatLT, and_self, Nat.reduceMul, decide_true, decide_false, Bool.not_true, Bool.not_false, implies_true]
  refine Run.loop [3, 9] [7, 8] [] rfl (fun n vs bs => ∃ j : Nat, vs = [.own true ⟨.rule, l.take j⟩, .int .i64 j] ∧ bs = [] ∧ j ≤ l.length ∧ n = l.length - j) l.length ?_ ?_
  · simp only [push_cast, reduceIte, Nat.reduceEqDiff, Nat.reduceAdd, Nat.reduceSub, Nat.reduceLT, Int.reduceNeg, Int.reduceLE, Int.reduceLT, Int.reduceToNat, Nat.reduceLeDiff, UInt8.reduceOfNat, UInt8.reduceOfNatLT, and_self, Nat.reduceMul, decide_true, decide_false, Bool.not_true, Bool.not_false, implies_true]
    exact ⟨0, rfl, by omega, by omega⟩
  rintro n vs bs ⟨j, rfl, rfl, hj, rfl⟩
  simp only [push_cast, reduceIte, Nat.reduceEqDiff, Nat.reduceAdd, Nat.reduceSub, Nat.reduceLT, Int.reduceNeg, Int.reduceLE, Int.reduceLT, Int.reduceToNat, Nat.reduceLeDiff, UInt8.reduceOfNat, UInt8.reduceOfNatLT, and_self, Nat.reduceMul, decide_true, decide_false, Bool.not_true, Bool.not_false, implies_true]
  apply vc_run 1000 (stop := false) rfl; simp only [push_cast, reduceIte, Nat.reduceEqDiff, Nat.reduceAdd, Nat.reduceSub, Nat.reduceLT, Int.reduceNeg, Int.reduceLE, Int.reduceLT, Int.reduceToNat, Nat.reduceLeDiff, UInt8.reduceOfNat, UInt8.reduceOfNatLT, and_self, Nat.reduceMul, decide_true, decide_false, Bool.not_true, Bool.not_false, implies_true]
  refine ⟨fun hlt => ?_, fun hge => ?_⟩
  · have hlt : j < l.length := Int.ofNat_lt.1 (of_decide_eq_true hlt)
    have hel := szL_at szRule ruleD hlt
    have hat := szL_len List.length (l.getD j ruleD).attrs
    have hsz : szRule (l.getD j ruleD) = (l.getD j ruleD).name.length + szL List.length (l.getD j ruleD).attrs := rfl
    have htk : l.take (j + 1) = l.take j ++ [l.getD j ruleD] := by
      rw [List.take_succ_eq_append_getElem hlt]; simp [List.getD, hlt]
    simp only [gd_nat]
    refine ⟨by omega, by omega, by unfold sizeOk; rw [List.length_take]; omega, by constructor <;> omega, _, ?_, j + 1, by rw [htk]; rfl, by omega, rfl⟩
    omega
  · have hge : j = l.length := by have := of_decide_eq_false hge; omega
    subst hge
    rw [List.take_length])
noncomputable def e_copyRules : Env := mk [] [] []
@[push_cast] theorem e_copyRules_gh : e_copyRules.gh = ghOf [] := rfl
@[push_cast] theorem e_copyRules_dr : e_copyRules.dr = drOf [] := rfl
@[push_cast] theorem e_copyRules_td : e_copyRules.td = td := rfl
@[push_cast] theorem e_copyRules_eqt : e_copyRules.eqt = eqt := rfl
@[push_cast] theorem e_copyRules_cal : e_copyRules.cal = calOf [] := rfl
theorem c_copyRules : CRow P0 ety0 122 sp_cpRules := CRow.of (E := e_copyRules) (mkOk (.nil)) func122 rfl rfl rfl (by
  intro args p r outs h hq
  simp only [sp_cpRules] at h; split at h <;> cases h
  rename_i l
  have hz := hq _ rfl
  have hl := szL_len szRule l
  refine Body.intro (rs := [.tmp 2]) rfl rfl rfl ?_
  apply vc_run 1000 (stop := false) rfl; simp only [push_cast, reduceIte, Nat.reduceEqDiff, Nat.reduceAdd, Nat.reduceSub, Nat.reduceLT, Int.reduceNeg, Int.reduceLE, Int.reduceLT, Int.reduceToNat, Nat.reduceLeDiff, UInt8.reduceOfNat, UInt8.reduceOfNatLT, and_self, Nat.reduceMul, decide_true, decide_false, Bool.not_true, Bool.not_false, implies_true]
  refine Run.loop [3, 4] [0] [] rfl (fun n vs bs => ∃ j : Nat, vs = [.own true ⟨.rule, l.take j⟩, .int .i64 j] ∧ bs = [] ∧ j ≤ l.length ∧ n = l.length - j) l.length ?_ ?_
  · simp only [push_cast, reduceIte, Nat.reduceEqDiff, Nat.reduceAdd, Nat.reduceSub, Nat.reduceLT, Int.reduceNeg, Int.reduceLE, Int.reduceLT, Int.reduceToNat, Nat.reduceLeDiff, UInt8.reduceOfNat, UInt8.reduceOfNatLT, and_self, Nat.reduceMul, decide_true, decide_false, Bool.not_true, Bool.not_false, implies_true]
    exact ⟨0, rfl, by omega, by omega⟩
  rintro n vs bs ⟨j, rfl, rfl, hj, rfl⟩
  simp only [push_cast, reduceIte, Nat.reduceEqDiff, Nat.reduceAdd, Nat.reduceSub, Nat.reduceLT, Int.reduceNeg, Int.reduceLE, Int.reduceLT, Int.reduceToNat, Nat.reduceLeDiff, UInt8.reduceOfNat, UInt8.reduceOfNatLT, and_self, Nat.reduceMul, decide_true, decide_false, Bool.not_true, Bool.not_false, implies_true]
  apply vc_run 1000 (stop := false) rfl; simp only [push_cast, reduceIte, Nat.reduceEqDiff, Nat.reduceAdd, Nat.reduceSub, Nat.reduceLT, Int.reduceNeg, Int.reduceLE, Int.reduceLT, Int.reduceToNat, Nat.reduceLeDiff, UInt8.reduceOfNat, UInt8.reduceOfNatLT, and_self, Nat.reduceMul, decide_true, decide_false, Bool.not_true, Bool.not_false, implies_true]
  refine ⟨fun hlt => ?_, fun hge => ?_⟩
  · have hlt : j < l.length := Int.ofNat_lt.1 (of_decide_eq_true hlt)
    have hel := szL_at szRule ruleD hlt
    have hat := szL_len List.length (l.getD j ruleD).attrs
    have hsz : szRule (l.getD j ruleD) = (l.getD j ruleD).name.length + szL List.length (l.getD j ruleD).attrs := rfl
    have htk : l.take (j + 1) = l.take j ++ [l.getD j ruleD] := by
      rw [List.take_succ_eq_append_getElem hlt]; simp [List.getD, hlt]
    simp only [gd_nat]
    refine ⟨by omega, by unfold sizeOk; omega, by unfold sizeOk; rw [List.length_take]; omega, by constructor <;> omega, _, ?_, j + 1, by rw [htk]; rfl, by omega, rfl⟩
    omega
  · have hge : j = l.length := by have := of_decide_eq_false hge; omega
    subst hge
    rw [List.take_length])
noncomputable def sp_cpCfg : Spec := ⟨[.st .cfg], [.rd], false, fun
  | [.agg [.bool ha, .bool ht, .dat ⟨.rule, al⟩, .dat ⟨.rule, re⟩, .dat ⟨.rule, un⟩, .dat ⟨.str, ns⟩, .dat ⟨.str, dr⟩, .bool co, .bool da]] => some (some (szCfg ⟨ha, ht, al, re, un, ns, dr, co, da⟩ ≤ 1048576), .agg [.bool ha, .bool ht, .own true ⟨.rule, al⟩, .own true ⟨.rule, re⟩, .own true ⟨.rule, un⟩, .own true ⟨.str, ns⟩, .own true ⟨.str, dr⟩, .bool co, .bool da], [])
  | _ => none⟩
@[push_cast] theorem sp_cpCfg_ps : sp_cpCfg.ps = [.st .cfg] := rfl
@[push_cast] theorem sp_cpCfg_md : sp_cpCfg.modes = [.rd] := rfl
@[push_cast] theorem sp_cpCfg_pure : sp_cpCfg.pure = false := rfl
@[push_cast] theorem sp_cpCfg_run (ha ht : Bool) (al re un : List Rule) (ns dr : List Str) (co da : Bool) : sp_cpCfg.run [.agg [.bool ha, .bool ht, .dat ⟨.rule, al⟩, .dat ⟨.rule, re⟩, .dat ⟨.rule, un⟩, .dat ⟨.str, ns⟩, .dat ⟨.str, dr⟩, .bool co, .bool da]] = some (some (szCfg ⟨ha, ht, al, re, un, ns, dr, co, da⟩ ≤ 1048576), .agg [.bool ha, .bool ht, .own true ⟨.rule, al⟩, .own true ⟨.rule, re⟩, .own true ⟨.rule, un⟩, .own true ⟨.str, ns⟩, .own true ⟨.str, dr⟩, .bool co, .bool da], []) := rfl
noncomputable def e_clonedCfg : Env := mk [(94, sp_cpRules), (95, sp_cloneS)] [(1, [2, 5, 8, 10, 12, 14], [[], [], [], [0], [0], [], [0, 1], [0, 1], [], [1, 2]]), (2, [2, 5, 7, 9], [[], [], [], [0], [0], [], [1]])] []
@[push_cast] theorem e_clonedCfg_gh : e_clonedCfg.gh = ghOf [] := rfl
@[push_cast] theorem e_clonedCfg_dr : e_clonedCfg.dr = drOf [(1, [2, 5, 8, 10, 12, 14], [[], [], [], [0], [0], [], [0, 1], [0, 1], [], [1, 2]]), (2, [2, 5, 7, 9], [[], [], [], [0], [0], [], [1]])] := rfl
@[push_cast] theorem e_clonedCfg_td : e_clonedCfg.td = td := rfl
@[push_cast] theorem e_clonedCfg_eqt : e_clonedCfg.eqt = eqt := rfl
@[push_cast] theorem e_clonedCfg_cal : e_clonedCfg.cal = calOf [(94, sp_cpRules), (95, sp_cloneS)] := rfl
theorem c_clonedCfg : CRow P0 ety0 47 sp_cpCfg := CRow.of (E := e_clonedCfg) (mkOk (.cons c_clonedRules (.cons c_cloneS (.nil)))) func47 rfl rfl rfl (by
  intro args p r outs h hq
  simp only [sp_cpCfg] at h; split at h <;> cases h
  rename_i ha ht al re un ns dr co da
  have hz := hq _ rfl
  have h4 := szL_len List.length ns
  have h5 := szL_len List.length dr
  simp only [szCfg] at hz
  refine Body.intro (rs := [.cell 2 81]) rfl rfl rfl ?_
  apply vc_run 1000 (stop := false) rfl; simp only [push_cast, reduceIte, Nat.reduceEqDiff, Nat.reduceAdd, Nat.reduceSub, Nat.reduceLT, Int.reduceNeg, Int.reduceLE, Int.reduceLT, Int.reduceToNat, Nat.reduceLeDiff, UInt8.reduceOfNat, UInt8.reduceOfNatLT, and_self, Nat.reduceMul, decide_true, decide_false, Bool.not_true, Bool.not_false, implies_true]
  exact ⟨by omega, by omega, by omega, by first | omega | (unfold sizeOk; omega), by first | omega | (unfold sizeOk; omega)⟩)
noncomputable def e_copyCfg : Env := mk [(122, sp_cpRules)] [] []
@[push_cast] theorem e_copyCfg_gh : e_copyCfg.gh = ghOf [] := rfl
@[push_cast] theorem e_copyCfg_dr : e_copyCfg.dr = drOf [] := rfl
@[push_cast] theorem e_copyCfg_td : e_copyCfg.td = td := rfl
@[push_cast] theorem e_copyCfg_eqt : e_copyCfg.eqt = eqt := rfl
@[push_cast] theorem e_copyCfg_cal : e_copyCfg.cal = calOf [(122, sp_cpRules)] := rfl
theorem c_copyCfg : CRow P0 ety0 87 sp_cpCfg := CRow.of (E := e_copyCfg) (mkOk (.cons c_copyRules (.nil))) func87 rfl rfl rfl (by
  intro args p r outs h hq
  simp only [sp_cpCfg] at h; split at h <;> cases h
  rename_i ha ht al re un ns dr co da
  have hz := hq _ rfl
  have h4 := szL_len List.length ns
  have h5 := szL_len List.length dr
  simp only [szCfg] at hz
  refine Body.intro (rs := [.cell 2 81]) rfl rfl rfl ?_
  apply vc_run 1000 (stop := false) rfl; simp only [push_cast, reduceIte, Nat.reduceEqDiff, Nat.reduceAdd, Nat.reduceSub, Nat.reduceLT, Int.reduceNeg, Int.reduceLE, Int.reduceLT, Int.reduceToNat, Nat.reduceLeDiff, UInt8.reduceOfNat, UInt8.reduceOfNatLT, and_self, Nat.reduceMul, decide_true, decide_false, Bool.not_true, Bool.not_false, implies_true]
  exact ⟨by omega, by omega, by omega, by first | omega | (unfold sizeOk; omega), by first | omega | (unfold sizeOk; omega)⟩)
end Go.Ab
