/- Rules and configurations: whether they are right, whether they contradict themselves. -/
import Derived.Test.YtnnbjffppfagkaaGreatFnD
set_option linter.all false
set_option linter.unusedSimpArgs false
set_option linter.unusedVariables false
set_option linter.unusedSectionVars false
set_option maxRecDepth 20000
set_option maxHeartbeats 1000000
namespace Go.Ab
open Go Go.Proofs.Tryz
def withAttrs (r : Rule) : Bool := decide (0 < r.attrs.length)
theorem fold_with (r : Rule) : decide ((0 : Int) < (r.attrs.length : Nat)) = withAttrs r := by simp [withAttrs]
noncomputable def sp_haveAttrs1 : Spec := ⟨[.st .rule], [.rd], true, fun
  | [.agg [.int .i64 a, .str b, .dat ⟨.str, c⟩]] => some (none, .bool (withAttrs ⟨a, b, c⟩), [])
  | _ => none⟩
@[push_cast] theorem sp_haveAttrs1_ps : sp_haveAttrs1.ps = [.st .rule] := rfl
@[push_cast] theorem sp_haveAttrs1_md : sp_haveAttrs1.modes = [.rd] := rfl
@[push_cast] theorem sp_haveAttrs1_pure : sp_haveAttrs1.pure = true := rfl
@[push_cast] theorem sp_haveAttrs1_run (a : Int) (b : Str) (c : List Str) : sp_haveAttrs1.run [.agg [.int .i64 a, .str b, .dat ⟨.str, c⟩]] = some (none, .bool (withAttrs ⟨a, b, c⟩), []) := rfl
noncomputable def e_haveAttrs1 : Env := mk [] [] [] [] none
@[push_cast] theorem e_haveAttrs1_in : e_haveAttrs1.inl = inlF [] := rfl
@[push_cast] theorem e_haveAttrs1_fn : e_haveAttrs1.fnd = fndF none := rfl
@[push_cast] theorem e_haveAttrs1_gh : e_haveAttrs1.gh = ghOf [] := rfl
@[push_cast] theorem e_haveAttrs1_dr : e_haveAttrs1.dr = drOf [] := rfl
@[push_cast] theorem e_haveAttrs1_td : e_haveAttrs1.td = td := rfl
@[push_cast] theorem e_haveAttrs1_eqt : e_haveAttrs1.eqt = eqt := rfl
@[push_cast] theorem e_haveAttrs1_cal : e_haveAttrs1.cal = calOf [] := rfl
theorem c_haveAttrs1 : CRow P0 ety0 126 sp_haveAttrs1 := CRow.of (E := e_haveAttrs1) (mkOk (.nil)) func126 rfl rfl rfl (by
  intro args p r outs h hq
  simp only [sp_haveAttrs1] at h; split at h <;> cases h
  rename_i a b c
  refine Body.intro (rs := [.tmp 2]) rfl rfl rfl ?_
  apply vc_run 1000 (stop := false) rfl; simp only [push_cast, reduceIte, Nat.reduceEqDiff, Nat.reduceAdd, Nat.reduceSub, Nat.reduceLT, Int.reduceNeg, Int.reduceLE, Int.reduceLT, Int.reduceToNat, Nat.reduceLeDiff, UInt8.reduceOfNat, UInt8.reduceOfNatLT, and_self, Nat.reduceMul, decide_true, decide_false, Bool.not_true, Bool.not_false, implies_true]
  exact congrArg AV.bool (fold_with ⟨a, b, c⟩))
noncomputable def sp_idxRuleB : Spec := ⟨[.sl .rule, .sc], [.rd, .rd], true, fun
  | [.dat ⟨.rule, l⟩, .fn 126 [] []] => some (some (l.length ≤ 1073741824), .int .i64 (idx (l.findIdx? (withAttrs))), [])
  | _ => none⟩
@[push_cast] theorem sp_idxRuleB_ps : sp_idxRuleB.ps = [.sl .rule, .sc] := rfl
@[push_cast] theorem sp_idxRuleB_md : sp_idxRuleB.modes = [.rd, .rd] := rfl
@[push_cast] theorem sp_idxRuleB_pure : sp_idxRuleB.pure = true := rfl
@[push_cast] theorem sp_idxRuleB_run (l : List Rule) : sp_idxRuleB.run [.dat ⟨.rule, l⟩, .fn 126 [] []] = some (some (l.length ≤ 1073741824), .int .i64 (idx (l.findIdx? (withAttrs))), []) := rfl
noncomputable def e_idxRuleB : Env := mk [(126, sp_haveAttrs1)] [] [] [] none
@[push_cast] theorem e_idxRuleB_in : e_idxRuleB.inl = inlF [] := rfl
@[push_cast] theorem e_idxRuleB_fn : e_idxRuleB.fnd = fndF none := rfl
@[push_cast] theorem e_idxRuleB_gh : e_idxRuleB.gh = ghOf [] := rfl
@[push_cast] theorem e_idxRuleB_dr : e_idxRuleB.dr = drOf [] := rfl
@[push_cast] theorem e_idxRuleB_td : e_idxRuleB.td = td := rfl
@[push_cast] theorem e_idxRuleB_eqt : e_idxRuleB.eqt = eqt := rfl
@[push_cast] theorem e_idxRuleB_cal : e_idxRuleB.cal = calOf [(126, sp_haveAttrs1)] := rfl
theorem c_idxRuleB : CRow P0 ety0 137 sp_idxRuleB := CRow.of (E := e_idxRuleB) (mkOk (.cons c_haveAttrs1 (.nil))) func137 rfl rfl rfl (by
  intro args p r outs h hq
  simp only [sp_idxRuleB] at h; split at h <;> cases h
  rename_i l 
  have hq0 := hq _ rfl
  have hl : l.length ≤ 1073741824 := by first | exact hq0 | exact hq0.1
  refine Body.intro (rs := [.tmp 4]) rfl rfl rfl ?_
  apply vc_run 1000 (stop := false) rfl; simp only [push_cast, reduceIte, Nat.reduceEqDiff, Nat.reduceAdd, Nat.reduceSub, Nat.reduceLT, Int.reduceNeg, Int.reduceLE, Int.reduceLT, Int.reduceToNat, Nat.reduceLeDiff, UInt8.reduceOfNat, UInt8.reduceOfNatLT, and_self, Nat.reduceMul, decide_true, decide_false, Bool.not_true, Bool.not_false, implies_true]
  refine Run.loop [8] [0, 1, 6, 7] [] rfl (fun n vs bs => ∃ k : Nat, vs = [.int .i64 k] ∧ bs = [] ∧ k ≤ l.length ∧ (∀ j < k, (withAttrs) (l.getD j ruleD) = false) ∧ n = l.length - k) l.length ?_ ?_
  · simp only [push_cast, reduceIte, Nat.reduceEqDiff, Nat.reduceAdd, Nat.reduceSub, Nat.reduceLT, Int.reduceNeg, Int.reduceLE, Int.reduceLT, Int.reduceToNat, Nat.reduceLeDiff, UInt8.reduceOfNat, UInt8.reduceOfNatLT, and_self, Nat.reduceMul, decide_true, decide_false, Bool.not_true, Bool.not_false, implies_true]
    exact ⟨0, rfl, by omega, by simp, by omega⟩
  rintro n vs bs ⟨k, rfl, rfl, hk, hb, rfl⟩
  simp only [push_cast, reduceIte, Nat.reduceEqDiff, Nat.reduceAdd, Nat.reduceSub, Nat.reduceLT, Int.reduceNeg, Int.reduceLE, Int.reduceLT, Int.reduceToNat, Nat.reduceLeDiff, UInt8.reduceOfNat, UInt8.reduceOfNatLT, and_self, Nat.reduceMul, decide_true, decide_false, Bool.not_true, Bool.not_false, implies_true]
  apply vc_run 1000 (stop := false) rfl; simp only [push_cast, reduceIte, Nat.reduceEqDiff, Nat.reduceAdd, Nat.reduceSub, Nat.reduceLT, Int.reduceNeg, Int.reduceLE, Int.reduceLT, Int.reduceToNat, Nat.reduceLeDiff, UInt8.reduceOfNat, UInt8.reduceOfNatLT, and_self, Nat.reduceMul, decide_true, decide_false, Bool.not_true, Bool.not_false, implies_true]
  refine ⟨fun hlt => ?_, fun hge => ?_⟩
  · have hlt : k < l.length := by simpa using hlt
    simp only [gd_nat]
    refine ⟨by omega, fun hy => ?_, fun hn => ⟨by constructor <;> omega, _, by omega, k + 1, rfl, by omega, below_step hb hn, rfl⟩⟩
    rw [findIdx_at (p := withAttrs) hlt hb hy]; rfl
  · have hge : k = l.length := by simp at hge; omega
    subst hge
    rw [findIdx_none (p := withAttrs) hb]; rfl)
noncomputable def sp_conRuleB : Spec := ⟨[.sl .rule, .sc], [.rd, .rd], true, fun
  | [.dat ⟨.rule, l⟩, .fn 126 [] []] => some (some (l.length ≤ 1073741824), .bool (l.any (withAttrs)), [])
  | _ => none⟩
@[push_cast] theorem sp_conRuleB_ps : sp_conRuleB.ps = [.sl .rule, .sc] := rfl
@[push_cast] theorem sp_conRuleB_md : sp_conRuleB.modes = [.rd, .rd] := rfl
@[push_cast] theorem sp_conRuleB_pure : sp_conRuleB.pure = true := rfl
@[push_cast] theorem sp_conRuleB_run (l : List Rule) : sp_conRuleB.run [.dat ⟨.rule, l⟩, .fn 126 [] []] = some (some (l.length ≤ 1073741824), .bool (l.any (withAttrs)), []) := rfl
noncomputable def e_conRuleB : Env := mk [(137, sp_idxRuleB)] [] [] [] none
@[push_cast] theorem e_conRuleB_in : e_conRuleB.inl = inlF [] := rfl
@[push_cast] theorem e_conRuleB_fn : e_conRuleB.fnd = fndF none := rfl
@[push_cast] theorem e_conRuleB_gh : e_conRuleB.gh = ghOf [] := rfl
@[push_cast] theorem e_conRuleB_dr : e_conRuleB.dr = drOf [] := rfl
@[push_cast] theorem e_conRuleB_td : e_conRuleB.td = td := rfl
@[push_cast] theorem e_conRuleB_eqt : e_conRuleB.eqt = eqt := rfl
@[push_cast] theorem e_conRuleB_cal : e_conRuleB.cal = calOf [(137, sp_idxRuleB)] := rfl
theorem c_conRuleB : CRow P0 ety0 125 sp_conRuleB := CRow.of (E := e_conRuleB) (mkOk (.cons c_idxRuleB (.nil))) func125 rfl rfl rfl (by
  intro args p r outs h hq
  simp only [sp_conRuleB] at h; split at h <;> cases h
  rename_i l 
  have hq0 := hq _ rfl
  refine Body.intro (rs := [.tmp 4]) rfl rfl rfl ?_
  apply vc_run 1000 (stop := false) rfl; simp only [push_cast, reduceIte, Nat.reduceEqDiff, Nat.reduceAdd, Nat.reduceSub, Nat.reduceLT, Int.reduceNeg, Int.reduceLE, Int.reduceLT, Int.reduceToNat, Nat.reduceLeDiff, UInt8.reduceOfNat, UInt8.reduceOfNatLT, and_self, Nat.reduceMul, decide_true, decide_false, Bool.not_true, Bool.not_false, implies_true]
  exact ⟨hq0, by rw [idx_any]⟩)
def haveAttrs (l : List Rule) : Bool := l.any withAttrs
noncomputable def sp_haveAttrs : Spec := ⟨[.sl .rule], [.rd], true, fun
  | [.dat ⟨.rule, l⟩] => some (some (l.length ≤ 1073741824), .bool (haveAttrs l), [])
  | _ => none⟩
@[push_cast] theorem sp_haveAttrs_ps : sp_haveAttrs.ps = [.sl .rule] := rfl
@[push_cast] theorem sp_haveAttrs_md : sp_haveAttrs.modes = [.rd] := rfl
@[push_cast] theorem sp_haveAttrs_pure : sp_haveAttrs.pure = true := rfl
@[push_cast] theorem sp_haveAttrs_run (l : List Rule) : sp_haveAttrs.run [.dat ⟨.rule, l⟩] = some (some (l.length ≤ 1073741824), .bool (haveAttrs l), []) := rfl
noncomputable def e_haveAttrs : Env := mk [(125, sp_conRuleB)] [] [] [] none
@[push_cast] theorem e_haveAttrs_in : e_haveAttrs.inl = inlF [] := rfl
@[push_cast] theorem e_haveAttrs_fn : e_haveAttrs.fnd = fndF none := rfl
@[push_cast] theorem e_haveAttrs_gh : e_haveAttrs.gh = ghOf [] := rfl
@[push_cast] theorem e_haveAttrs_dr : e_haveAttrs.dr = drOf [] := rfl
@[push_cast] theorem e_haveAttrs_td : e_haveAttrs.td = td := rfl
@[push_cast] theorem e_haveAttrs_eqt : e_haveAttrs.eqt = eqt := rfl
@[push_cast] theorem e_haveAttrs_cal : e_haveAttrs.cal = calOf [(125, sp_conRuleB)] := rfl
theorem c_haveAttrs : CRow P0 ety0 93 sp_haveAttrs := CRow.of (E := e_haveAttrs) (mkOk (.cons c_conRuleB (.nil))) func93 rfl rfl rfl (by
  intro args p r outs h hq
  simp only [sp_haveAttrs] at h; split at h <;> cases h
  rename_i l
  have hl := hq _ rfl
  refine Body.intro (rs := [.tmp 2]) rfl rfl rfl ?_
  apply vc_run 1000 (stop := false) rfl; simp only [push_cast, reduceIte, Nat.reduceEqDiff, Nat.reduceAdd, Nat.reduceSub, Nat.reduceLT, Int.reduceNeg, Int.reduceLE, Int.reduceLT, Int.reduceToNat, Nat.reduceLeDiff, UInt8.reduceOfNat, UInt8.reduceOfNatLT, and_self, Nat.reduceMul, decide_true, decide_false, Bool.not_true, Bool.not_false, implies_true]
  exact ⟨hl, rfl⟩)
/-- It stands in another list. -/
def inRules (b : List Rule) (r : Rule) : Bool := decide (0 ≤ ruleAt b r.space r.name)
theorem fold_in (b : List Rule) (r : Rule) : decide (0 ≤ ruleAt b r.space r.name) = inRules b r := rfl
noncomputable def sp_common1 : Spec := ⟨[.st .rule, .sc], [.rd, .rd], true, fun
  | [.agg [.int .i64 s, .str m, .dat ⟨.str, c⟩], .rbp [.dat ⟨.rule, b⟩] 0] => some (some (b.length ≤ 1073741824), .bool (inRules b ⟨s, m, c⟩), [])
  | _ => none⟩
@[push_cast] theorem sp_common1_ps : sp_common1.ps = [.st .rule, .sc] := rfl
@[push_cast] theorem sp_common1_md : sp_common1.modes = [.rd, .rd] := rfl
@[push_cast] theorem sp_common1_pure : sp_common1.pure = true := rfl
@[push_cast] theorem sp_common1_run (s : Int) (m : Str) (c : List Str) (b : List Rule) : sp_common1.run [.agg [.int .i64 s, .str m, .dat ⟨.str, c⟩], .rbp [.dat ⟨.rule, b⟩] 0] = some (some (b.length ≤ 1073741824), .bool (inRules b ⟨s, m, c⟩), []) := rfl
noncomputable def e_common1 : Env := mk [(104, sp_ruleAt)] [] [] [] none
@[push_cast] theorem e_common1_in : e_common1.inl = inlF [] := rfl
@[push_cast] theorem e_common1_fn : e_common1.fnd = fndF none := rfl
@[push_cast] theorem e_common1_gh : e_common1.gh = ghOf [] := rfl
@[push_cast] theorem e_common1_dr : e_common1.dr = drOf [] := rfl
@[push_cast] theorem e_common1_td : e_common1.td = td := rfl
@[push_cast] theorem e_common1_eqt : e_common1.eqt = eqt := rfl
@[push_cast] theorem e_common1_cal : e_common1.cal = calOf [(104, sp_ruleAt)] := rfl
theorem c_common1 : CRow P0 ety0 156 sp_common1 := CRow.of (E := e_common1) (mkOk (.cons c_ruleAt (.nil))) func156 rfl rfl rfl (by
  intro args p r outs h hq
  simp only [sp_common1] at h; split at h <;> cases h
  rename_i s m c b
  have hl := hq _ rfl
  refine Body.intro (rs := [.tmp 3]) rfl rfl rfl ?_
  apply vc_run 1000 (stop := false) rfl; simp only [push_cast, reduceIte, Nat.reduceEqDiff, Nat.reduceAdd, Nat.reduceSub, Nat.reduceLT, Int.reduceNeg, Int.reduceLE, Int.reduceLT, Int.reduceToNat, Nat.reduceLeDiff, UInt8.reduceOfNat, UInt8.reduceOfNatLT, and_self, Nat.reduceMul, decide_true, decide_false, Bool.not_true, Bool.not_false, implies_true]
  exact ⟨hl, rfl⟩)
noncomputable def sp_idxRuleC : Spec := ⟨[.sl .rule, .sc], [.rd, .rd], true, fun
  | [.dat ⟨.rule, l⟩, .fn 156 [] [.rbp [.dat ⟨.rule, b⟩] 0]] => some (some (l.length ≤ 1073741824 ∧ b.length ≤ 1073741824), .int .i64 (idx (l.findIdx? (inRules b))), [])
  | _ => none⟩
@[push_cast] theorem sp_idxRuleC_ps : sp_idxRuleC.ps = [.sl .rule, .sc] := rfl
@[push_cast] theorem sp_idxRuleC_md : sp_idxRuleC.modes = [.rd, .rd] := rfl
@[push_cast] theorem sp_idxRuleC_pure : sp_idxRuleC.pure = true := rfl
@[push_cast] theorem sp_idxRuleC_run (l : List Rule) (b : List Rule) : sp_idxRuleC.run [.dat ⟨.rule, l⟩, .fn 156 [] [.rbp [.dat ⟨.rule, b⟩] 0]] = some (some (l.length ≤ 1073741824 ∧ b.length ≤ 1073741824), .int .i64 (idx (l.findIdx? (inRules b))), []) := rfl
noncomputable def e_idxRuleC : Env := mk [(156, sp_common1)] [] [] [] none
@[push_cast] theorem e_idxRuleC_in : e_idxRuleC.inl = inlF [] := rfl
@[push_cast] theorem e_idxRuleC_fn : e_idxRuleC.fnd = fndF none := rfl
@[push_cast] theorem e_idxRuleC_gh : e_idxRuleC.gh = ghOf [] := rfl
@[push_cast] theorem e_idxRuleC_dr : e_idxRuleC.dr = drOf [] := rfl
@[push_cast] theorem e_idxRuleC_td : e_idxRuleC.td = td := rfl
@[push_cast] theorem e_idxRuleC_eqt : e_idxRuleC.eqt = eqt := rfl
@[push_cast] theorem e_idxRuleC_cal : e_idxRuleC.cal = calOf [(156, sp_common1)] := rfl
theorem c_idxRuleC : CRow P0 ety0 137 sp_idxRuleC := CRow.of (E := e_idxRuleC) (mkOk (.cons c_common1 (.nil))) func137 rfl rfl rfl (by
  intro args p r outs h hq
  simp only [sp_idxRuleC] at h; split at h <;> cases h
  rename_i l b
  have hq0 := hq _ rfl
  have hl : l.length ≤ 1073741824 := by first | exact hq0 | exact hq0.1
  refine Body.intro (rs := [.tmp 4]) rfl rfl rfl ?_
  apply vc_run 1000 (stop := false) rfl; simp only [push_cast, reduceIte, Nat.reduceEqDiff, Nat.reduceAdd, Nat.reduceSub, Nat.reduceLT, Int.reduceNeg, Int.reduceLE, Int.reduceLT, Int.reduceToNat, Nat.reduceLeDiff, UInt8.reduceOfNat, UInt8.reduceOfNatLT, and_self, Nat.reduceMul, decide_true, decide_false, Bool.not_true, Bool.not_false, implies_true]
  refine Run.loop [8] [0, 1, 6, 7] [] rfl (fun n vs bs => ∃ k : Nat, vs = [.int .i64 k] ∧ bs = [] ∧ k ≤ l.length ∧ (∀ j < k, (inRules b) (l.getD j ruleD) = false) ∧ n = l.length - k) l.length ?_ ?_
  · simp only [push_cast, reduceIte, Nat.reduceEqDiff, Nat.reduceAdd, Nat.reduceSub, Nat.reduceLT, Int.reduceNeg, Int.reduceLE, Int.reduceLT, Int.reduceToNat, Nat.reduceLeDiff, UInt8.reduceOfNat, UInt8.reduceOfNatLT, and_self, Nat.reduceMul, decide_true, decide_false, Bool.not_true, Bool.not_false, implies_true]
    exact ⟨0, rfl, by omega, by simp, by omega⟩
  rintro n vs bs ⟨k, rfl, rfl, hk, hb, rfl⟩
  simp only [push_cast, reduceIte, Nat.reduceEqDiff, Nat.reduceAdd, Nat.reduceSub, Nat.reduceLT, Int.reduceNeg, Int.reduceLE, Int.reduceLT, Int.reduceToNat, Nat.reduceLeDiff, UInt8.reduceOfNat, UInt8.reduceOfNatLT, and_self, Nat.reduceMul, decide_true, decide_false, Bool.not_true, Bool.not_false, implies_true]
  apply vc_run 1000 (stop := false) rfl; simp only [push_cast, reduceIte, Nat.reduceEqDiff, Nat.reduceAdd, Nat.reduceSub, Nat.reduceLT, Int.reduceNeg, Int.reduceLE, Int.reduceLT, Int.reduceToNat, Nat.reduceLeDiff, UInt8.reduceOfNat, UInt8.reduceOfNatLT, and_self, Nat.reduceMul, decide_true, decide_false, Bool.not_true, Bool.not_false, implies_true]
  refine ⟨fun hlt => ?_, fun hge => ?_⟩
  · have hlt : k < l.length := by simpa using hlt
    simp only [gd_nat]
    refine ⟨by omega, hq0.2, fun hy => ?_, fun hn => ⟨by constructor <;> omega, _, by omega, k + 1, rfl, by omega, below_step hb hn, rfl⟩⟩
    rw [findIdx_at (p := inRules b) hlt hb hy]; rfl
  · have hge : k = l.length := by simp at hge; omega
    subst hge
    rw [findIdx_none (p := inRules b) hb]; rfl)
noncomputable def sp_conRuleC : Spec := ⟨[.sl .rule, .sc], [.rd, .rd], true, fun
  | [.dat ⟨.rule, l⟩, .fn 156 [] [.rbp [.dat ⟨.rule, b⟩] 0]] => some (some (l.length ≤ 1073741824 ∧ b.length ≤ 1073741824), .bool (l.any (inRules b)), [])
  | _ => none⟩
@[push_cast] theorem sp_conRuleC_ps : sp_conRuleC.ps = [.sl .rule, .sc] := rfl
@[push_cast] theorem sp_conRuleC_md : sp_conRuleC.modes = [.rd, .rd] := rfl
@[push_cast] theorem sp_conRuleC_pure : sp_conRuleC.pure = true := rfl
@[push_cast] theorem sp_conRuleC_run (l : List Rule) (b : List Rule) : sp_conRuleC.run [.dat ⟨.rule, l⟩, .fn 156 [] [.rbp [.dat ⟨.rule, b⟩] 0]] = some (some (l.length ≤ 1073741824 ∧ b.length ≤ 1073741824), .bool (l.any (inRules b)), []) := rfl
noncomputable def e_conRuleC : Env := mk [(137, sp_idxRuleC)] [] [] [] none
@[push_cast] theorem e_conRuleC_in : e_conRuleC.inl = inlF [] := rfl
@[push_cast] theorem e_conRuleC_fn : e_conRuleC.fnd = fndF none := rfl
@[push_cast] theorem e_conRuleC_gh : e_conRuleC.gh = ghOf [] := rfl
@[push_cast] theorem e_conRuleC_dr : e_conRuleC.dr = drOf [] := rfl
@[push_cast] theorem e_conRuleC_td : e_conRuleC.td = td := rfl
@[push_cast] theorem e_conRuleC_eqt : e_conRuleC.eqt = eqt := rfl
@[push_cast] theorem e_conRuleC_cal : e_conRuleC.cal = calOf [(137, sp_idxRuleC)] := rfl
theorem c_conRuleC : CRow P0 ety0 125 sp_conRuleC := CRow.of (E := e_conRuleC) (mkOk (.cons c_idxRuleC (.nil))) func125 rfl rfl rfl (by
  intro args p r outs h hq
  simp only [sp_conRuleC] at h; split at h <;> cases h
  rename_i l b
  have hq0 := hq _ rfl
  refine Body.intro (rs := [.tmp 4]) rfl rfl rfl ?_
  apply vc_run 1000 (stop := false) rfl; simp only [push_cast, reduceIte, Nat.reduceEqDiff, Nat.reduceAdd, Nat.reduceSub, Nat.reduceLT, Int.reduceNeg, Int.reduceLE, Int.reduceLT, Int.reduceToNat, Nat.reduceLeDiff, UInt8.reduceOfNat, UInt8.reduceOfNatLT, and_self, Nat.reduceMul, decide_true, decide_false, Bool.not_true, Bool.not_false, implies_true]
  exact ⟨hq0, by rw [idx_any]⟩)
def haveCommon (a b : List Rule) : Bool := a.any (inRules b)
noncomputable def sp_haveCommon : Spec := ⟨[.sl .rule, .sl .rule], [.rd, .rd], true, fun
  | [.dat ⟨.rule, a⟩, .dat ⟨.rule, b⟩] => some (some (a.length ≤ 1073741824 ∧ b.length ≤ 1073741824), .bool (haveCommon a b), [])
  | _ => none⟩
@[push_cast] theorem sp_haveCommon_ps : sp_haveCommon.ps = [.sl .rule, .sl .rule] := rfl
@[push_cast] theorem sp_haveCommon_md : sp_haveCommon.modes = [.rd, .rd] := rfl
@[push_cast] theorem sp_haveCommon_pure : sp_haveCommon.pure = true := rfl
@[push_cast] theorem sp_haveCommon_run (a b : List Rule) : sp_haveCommon.run [.dat ⟨.rule, a⟩, .dat ⟨.rule, b⟩] = some (some (a.length ≤ 1073741824 ∧ b.length ≤ 1073741824), .bool (haveCommon a b), []) := rfl
noncomputable def e_haveCommon : Env := mk [(125, sp_conRuleC)] [] [] [] none
@[push_cast] theorem e_haveCommon_in : e_haveCommon.inl = inlF [] := rfl
@[push_cast] theorem e_haveCommon_fn : e_haveCommon.fnd = fndF none := rfl
@[push_cast] theorem e_haveCommon_gh : e_haveCommon.gh = ghOf [] := rfl
@[push_cast] theorem e_haveCommon_dr : e_haveCommon.dr = drOf [] := rfl
@[push_cast] theorem e_haveCommon_td : e_haveCommon.td = td := rfl
@[push_cast] theorem e_haveCommon_eqt : e_haveCommon.eqt = eqt := rfl
@[push_cast] theorem e_haveCommon_cal : e_haveCommon.cal = calOf [(125, sp_conRuleC)] := rfl
theorem c_haveCommon : CRow P0 ety0 128 sp_haveCommon := CRow.of (E := e_haveCommon) (mkOk (.cons c_conRuleC (.nil))) func128 rfl rfl rfl (by
  intro args p r outs h hq
  simp only [sp_haveCommon] at h; split at h <;> cases h
  rename_i a b
  have hl := hq _ rfl
  refine Body.intro (rs := [.tmp 4]) rfl rfl rfl ?_
  apply vc_run 1000 (stop := false) rfl; simp only [push_cast, reduceIte, Nat.reduceEqDiff, Nat.reduceAdd, Nat.reduceSub, Nat.reduceLT, Int.reduceNeg, Int.reduceLE, Int.reduceLT, Int.reduceToNat, Nat.reduceLeDiff, UInt8.reduceOfNat, UInt8.reduceOfNatLT, and_self, Nat.reduceMul, decide_true, decide_false, Bool.not_true, Bool.not_false, implies_true]
  exact ⟨hl, rfl⟩)
def ruleGood (l : List Rule) (i : Nat) : Bool := ruleOK (l.getD i ruleD) && !inRules (l.take i) (l.getD i ruleD)
def areRules (l : List Rule) : Bool := decide (l.length ≤ 10) && (List.range l.length).all (ruleGood l)
noncomputable def sp_areRules : Spec := ⟨[.sl .rule], [.rd], true, fun
  | [.dat ⟨.rule, l⟩] => some (some (szL szRule l ≤ 1048576), .bool (areRules l), [])
  | _ => none⟩
@[push_cast] theorem sp_areRules_ps : sp_areRules.ps = [.sl .rule] := rfl
@[push_cast] theorem sp_areRules_md : sp_areRules.modes = [.rd] := rfl
@[push_cast] theorem sp_areRules_pure : sp_areRules.pure = true := rfl
@[push_cast] theorem sp_areRules_run (l : List Rule) : sp_areRules.run [.dat ⟨.rule, l⟩] = some (some (szL szRule l ≤ 1048576), .bool (areRules l), []) := rfl
noncomputable def e_areRules : Env := mk [(124, sp_ruleOK), (104, sp_ruleAt)] [(4, [], [])] [] [] none
@[push_cast] theorem e_areRules_in : e_areRules.inl = inlF [] := rfl
@[push_cast] theorem e_areRules_fn : e_areRules.fnd = fndF none := rfl
@[push_cast] theorem e_areRules_gh : e_areRules.gh = ghOf [] := rfl
@[push_cast] theorem e_areRules_dr : e_areRules.dr = drOf [(4, [], [])] := rfl
@[push_cast] theorem e_areRules_td : e_areRules.td = td := rfl
@[push_cast] theorem e_areRules_eqt : e_areRules.eqt = eqt := rfl
@[push_cast] theorem e_areRules_cal : e_areRules.cal = calOf [(124, sp_ruleOK), (104, sp_ruleAt)] := rfl
theorem c_areRules : CRow P0 ety0 92 sp_areRules := CRow.of (E := e_areRules) (mkOk (.cons c_ruleOK (.cons c_ruleAt (.nil)))) func92 rfl rfl rfl (by
  intro args p r outs h hq
  simp only [sp_areRules] at h; split at h <;> cases h
  rename_i l
  have hz := hq _ rfl
  have hl : l.length ≤ 1048576 := Nat.le_trans (szL_len _ _) hz
  refine Body.intro (rs := [.tmp 2]) rfl rfl rfl ?_
  apply vc_run 1000 (stop := false) rfl; simp only [push_cast, reduceIte, Nat.reduceEqDiff, Nat.reduceAdd, Nat.reduceSub, Nat.reduceLT, Int.reduceNeg, Int.reduceLE, Int.reduceLT, Int.reduceToNat, Nat.reduceLeDiff, UInt8.reduceOfNat, UInt8.reduceOfNatLT, and_self, Nat.reduceMul, decide_true, decide_false, Bool.not_true, Bool.not_false, implies_true]
  refine Run.loop [7] [0, 5, 6] [] rfl (fun n vs bs => ∃ k : Nat, vs = [.int .i64 k] ∧ bs = [] ∧ k ≤ l.length ∧ k ≤ 10 ∧ (∀ j < k, ruleGood l j = true) ∧ n = l.length - k) l.length ?_ ?_
  · simp only [push_cast, reduceIte, Nat.reduceEqDiff, Nat.reduceAdd, Nat.reduceSub, Nat.reduceLT, Int.reduceNeg, Int.reduceLE, Int.reduceLT, Int.reduceToNat, Nat.reduceLeDiff, UInt8.reduceOfNat, UInt8.reduceOfNatLT, and_self, Nat.reduceMul, decide_true, decide_false, Bool.not_true, Bool.not_false, implies_true]
    exact ⟨0, rfl, by omega, by omega, by simp, by omega⟩
  rintro n vs bs ⟨k, rfl, rfl, hk, hk2, hb, rfl⟩
  simp only [push_cast, reduceIte, Nat.reduceEqDiff, Nat.reduceAdd, Nat.reduceSub, Nat.reduceLT, Int.reduceNeg, Int.reduceLE, Int.reduceLT, Int.reduceToNat, Nat.reduceLeDiff, UInt8.reduceOfNat, UInt8.reduceOfNatLT, and_self, Nat.reduceMul, decide_true, decide_false, Bool.not_true, Bool.not_false, implies_true]
  apply vc_run 1000 (stop := false) rfl; simp only [push_cast, reduceIte, Nat.reduceEqDiff, Nat.reduceAdd, Nat.reduceSub, Nat.reduceLT, Int.reduceNeg, Int.reduceLE, Int.reduceLT, Int.reduceToNat, Nat.reduceLeDiff, UInt8.reduceOfNat, UInt8.reduceOfNatLT, and_self, Nat.reduceMul, decide_true, decide_false, Bool.not_true, Bool.not_false, implies_true]
  refine ⟨fun hlt => ?_, fun hge => ?_⟩
  · have hlt : k < l.length := by simpa using hlt
    have hel : szRule (l.getD k ruleD) ≤ 1048576 := Nat.le_trans (szL_at _ _ hlt) hz
    have htk : (l.take k).length ≤ 1073741824 := by rw [List.length_take]; omega
    simp only [gd_nat, cut_take, fold_in]
    refine ⟨by omega, fun _ => hel, fun _ => by omega, fun _ => htk, fun hy => ?_, fun hn => ?_⟩
    · by_cases h10 : k = 10
      · rw [areRules, show decide (l.length ≤ 10) = false by simp; omega]; rfl
      · have hy : ruleGood l k = false := by
          unfold ruleGood
          rw [show decide ((k : Int) = 10) = false by simp; omega] at hy
          cases h1 : ruleOK (l.getD k ruleD) <;> simp_all
        rw [areRules, all_no hlt hy, Bool.and_false]
    · have h10 : ¬ k = 10 := by
        intro e; subst e; cases hn
      have hn : ruleGood l k = true := by
        unfold ruleGood
        rw [show decide ((k : Int) = 10) = false by simp; omega] at hn
        cases h1 : ruleOK (l.getD k ruleD) <;> simp_all
      exact ⟨by constructor <;> omega, _, by omega, k + 1, rfl, by omega, by omega, below_step hb hn, rfl⟩
  · have hge : k = l.length := by simp at hge; omega
    subst hge
    rw [areRules, all_yes hb, Bool.and_true]
    congr 1
    simp; omega)
theorem ruleAt_self {l : List Rule} {k : Nat} (h : k < l.length) : decide (ruleAt l (l.getD k ruleD).space (l.getD k ruleD).name = (k : Int)) = !inRules (l.take k) (l.getD k ruleD) := by
  have hself : isRule (l.getD k ruleD).space (l.getD k ruleD).name (l.getD k ruleD) = true := by simp [isRule]
  unfold inRules ruleAt
  generalize hr : l.getD k ruleD = r at *
  cases ht : (l.take k).findIdx? (isRule r.space r.name) with
  | none =>
    have hno : ∀ j < k, isRule r.space r.name (l.getD j ruleD) = false := by
      intro j hj
      have := List.findIdx?_eq_none_iff.1 ht (l.getD j ruleD) (by
        have hj' : j < l.length := by omega
        have e : l.getD j ruleD = l[j] := by simp [List.getD, hj']
        rw [e, List.mem_take_iff_getElem]
        exact ⟨j, by omega, rfl⟩)
      simpa using this
    rw [findIdx_at h hno (by rw [hr]; exact hself)]
    simp [idx]
  | some i =>
    obtain ⟨h1, h2, h3⟩ := List.findIdx?_eq_some_iff_getElem.1 ht
    rw [List.length_take] at h1
    have hi : l.findIdx? (isRule r.space r.name) = some i := by
      rw [List.findIdx?_eq_some_iff_getElem]
      refine ⟨(Nat.lt_min.1 h1).2, by simpa using h2, fun j hj => ?_⟩
      simpa using h3 j hj
    rw [hi]
    have hik : i < k := (Nat.lt_min.1 h1).1
    have e1 : decide (((i : Nat) : Int) = (k : Int)) = false := by simp; omega
    have e2 : decide ((0 : Int) ≤ ((i : Nat) : Int)) = true := by simp
    show decide (((i : Nat) : Int) = (k : Int)) = !decide ((0 : Int) ≤ ((i : Nat) : Int))
    rw [e1, e2]
    rfl
noncomputable def sp_l07Rules : Spec := ⟨[.sl .rule, .sc], [.rd, .rd], true, fun
  | [.dat ⟨.rule, l⟩, .bool g] => some (some (szL szRule l ≤ 1048576), .bool (areRules l && (g || !haveAttrs l)), [])
  | _ => none⟩
@[push_cast] theorem sp_l07Rules_ps : sp_l07Rules.ps = [.sl .rule, .sc] := rfl
@[push_cast] theorem sp_l07Rules_md : sp_l07Rules.modes = [.rd, .rd] := rfl
@[push_cast] theorem sp_l07Rules_pure : sp_l07Rules.pure = true := rfl
@[push_cast] theorem sp_l07Rules_run (l : List Rule) (g : Bool) : sp_l07Rules.run [.dat ⟨.rule, l⟩, .bool g] = some (some (szL szRule l ≤ 1048576), .bool (areRules l && (g || !haveAttrs l)), []) := rfl
noncomputable def e_l07Rules : Env := mk [(116, sp_ruleOK), (84, sp_ruleAt)] [(6, [], [])] [] [] none
@[push_cast] theorem e_l07Rules_in : e_l07Rules.inl = inlF [] := rfl
@[push_cast] theorem e_l07Rules_fn : e_l07Rules.fnd = fndF none := rfl
@[push_cast] theorem e_l07Rules_gh : e_l07Rules.gh = ghOf [] := rfl
@[push_cast] theorem e_l07Rules_dr : e_l07Rules.dr = drOf [(6, [], [])] := rfl
@[push_cast] theorem e_l07Rules_td : e_l07Rules.td = td := rfl
@[push_cast] theorem e_l07Rules_eqt : e_l07Rules.eqt = eqt := rfl
@[push_cast] theorem e_l07Rules_cal : e_l07Rules.cal = calOf [(116, sp_ruleOK), (84, sp_ruleAt)] := rfl
theorem c_l07Rules : CRow P0 ety0 82 sp_l07Rules := CRow.of (E := e_l07Rules) (mkOk (.cons c_ruleOK2 (.cons c_l07At (.nil)))) func82 rfl rfl rfl (by
  intro args p r outs h hq
  simp only [sp_l07Rules] at h; split at h <;> cases h
  rename_i l g
  have hz := hq _ rfl
  have hl : l.length ≤ 1048576 := Nat.le_trans (szL_len _ _) hz
  refine Body.intro (rs := [.tmp 4]) rfl rfl rfl ?_
  apply vc_run 1000 (stop := false) rfl; simp only [push_cast, reduceIte, Nat.reduceEqDiff, Nat.reduceAdd, Nat.reduceSub, Nat.reduceLT, Int.reduceNeg, Int.reduceLE, Int.reduceLT, Int.reduceToNat, Nat.reduceLeDiff, UInt8.reduceOfNat, UInt8.reduceOfNatLT, and_self, Nat.reduceMul, decide_true, decide_false, Bool.not_true, Bool.not_false, implies_true]
  refine ⟨fun h => ?_, fun h => ?_⟩
  · rw [areRules, show decide (l.length ≤ 10) = false by simp at h ⊢; omega]; rfl
  have h10 : l.length ≤ 10 := by simp at h; omega
  refine Run.loop [5] [0, 1] [] rfl (fun n vs bs => ∃ k : Nat, vs = [.int .i64 k] ∧ bs = [] ∧ k ≤ l.length ∧ (∀ j < k, ruleGood l j = true) ∧ (g = false → ∀ j < k, withAttrs (l.getD j ruleD) = false) ∧ n = l.length - k) l.length ?_ ?_
  · simp only [push_cast, reduceIte, Nat.reduceEqDiff, Nat.reduceAdd, Nat.reduceSub, Nat.reduceLT, Int.reduceNeg, Int.reduceLE, Int.reduceLT, Int.reduceToNat, Nat.reduceLeDiff, UInt8.reduceOfNat, UInt8.reduceOfNatLT, and_self, Nat.reduceMul, decide_true, decide_false, Bool.not_true, Bool.not_false, implies_true]
    exact ⟨0, rfl, by omega, by simp, by simp, by omega⟩
  rintro n vs bs ⟨k, rfl, rfl, hk, hb, hg, rfl⟩
  simp only [push_cast, reduceIte, Nat.reduceEqDiff, Nat.reduceAdd, Nat.reduceSub, Nat.reduceLT, Int.reduceNeg, Int.reduceLE, Int.reduceLT, Int.reduceToNat, Nat.reduceLeDiff, UInt8.reduceOfNat, UInt8.reduceOfNatLT, and_self, Nat.reduceMul, decide_true, decide_false, Bool.not_true, Bool.not_false, implies_true]
  apply vc_run 1000 (stop := false) rfl; simp only [push_cast, reduceIte, Nat.reduceEqDiff, Nat.reduceAdd, Nat.reduceSub, Nat.reduceLT, Int.reduceNeg, Int.reduceLE, Int.reduceLT, Int.reduceToNat, Nat.reduceLeDiff, UInt8.reduceOfNat, UInt8.reduceOfNatLT, and_self, Nat.reduceMul, decide_true, decide_false, Bool.not_true, Bool.not_false, implies_true]
  refine ⟨fun hlt => ?_, fun hge => ?_⟩
  · have hlt : k < l.length := by simpa using hlt
    have hel : szRule (l.getD k ruleD) ≤ 1048576 := Nat.le_trans (szL_at _ _ hlt) hz
    have hself := ruleAt_self hlt
    simp only [gd_nat, hself, fold_with]
    refine ⟨by omega, hel, fun _ => by omega, fun _ => by omega, fun _ => by omega, fun _ => by omega, fun hy => ?_, fun hn => ⟨by constructor <;> omega, _, by omega, k + 1, rfl, by omega, below_step hb ?_, fun hgf => below_step (hg hgf) ?_, rfl⟩⟩
    · cases hgd : ruleGood l k with
      | false => rw [areRules, all_no hlt hgd, Bool.and_false]; rfl
      | true =>
        have hga : g = false ∧ withAttrs (l.getD k ruleD) = true := by
          unfold ruleGood at hgd
          cases h1 : ruleOK (l.getD k ruleD) <;> cases h2 : inRules (l.take k) (l.getD k ruleD) <;> cases g <;> simp_all
        have : haveAttrs l = true := by
          rw [haveAttrs, List.any_eq_true]
          have e : l.getD k ruleD = l[k] := by simp [List.getD, hlt]
          exact ⟨_, List.getElem_mem hlt, by rw [← e]; exact hga.2⟩
        rw [this, hga.1]
        simp
    · unfold ruleGood
      cases h1 : ruleOK (l.getD k ruleD) <;> cases h2 : inRules (l.take k) (l.getD k ruleD) <;> simp_all
    · subst hgf
      cases h1 : ruleOK (l.getD k ruleD) <;> cases h2 : inRules (l.take k) (l.getD k ruleD) <;> simp_all
  · have hge : k = l.length := by simp at hge; omega
    subst hge
    rw [areRules, all_yes hb]
    have h10' : decide (l.length ≤ 10) = true := by simpa using h10
    rw [h10']
    cases g with
    | true => rfl
    | false =>
      have : haveAttrs l = false := by
        rw [haveAttrs, List.any_eq_false]
        intro x hx
        obtain ⟨j, hj, rfl⟩ := List.mem_iff_getElem.1 hx
        have := hg rfl j hj
        have e : l.getD j ruleD = l[j] := by simp [List.getD, hj]
        rw [e] at this
        rw [this]
        simp
      rw [this]
      rfl)
noncomputable def sp_against11 : Spec := ⟨[.sc, .sc], [.rd, .rd], true, fun
  | [.str x, .rbp [.bool ha, .bool ht, .dat ⟨.rule, al⟩, .dat ⟨.rule, re⟩, .dat ⟨.rule, un⟩, .dat ⟨.str, ns⟩, .dat ⟨.str, dr⟩, .bool co, .bool da] 0] => some (some (ns.length ≤ 1073741824), .bool (hasS ns x), [])
  | _ => none⟩
@[push_cast] theorem sp_against11_ps : sp_against11.ps = [.sc, .sc] := rfl
@[push_cast] theorem sp_against11_md : sp_against11.modes = [.rd, .rd] := rfl
@[push_cast] theorem sp_against11_pure : sp_against11.pure = true := rfl
@[push_cast] theorem sp_against11_run (x : Str) (ha ht : Bool) (al re un : List Rule) (ns dr : List Str) (co da : Bool) : sp_against11.run [.str x, .rbp [.bool ha, .bool ht, .dat ⟨.rule, al⟩, .dat ⟨.rule, re⟩, .dat ⟨.rule, un⟩, .dat ⟨.str, ns⟩, .dat ⟨.str, dr⟩, .bool co, .bool da] 0] = some (some (ns.length ≤ 1073741824), .bool (hasS ns x), []) := rfl
noncomputable def e_against11 : Env := mk [(79, sp_hasS)] [] [] [] none
@[push_cast] theorem e_against11_in : e_against11.inl = inlF [] := rfl
@[push_cast] theorem e_against11_fn : e_against11.fnd = fndF none := rfl
@[push_cast] theorem e_against11_gh : e_against11.gh = ghOf [] := rfl
@[push_cast] theorem e_against11_dr : e_against11.dr = drOf [] := rfl
@[push_cast] theorem e_against11_td : e_against11.td = td := rfl
@[push_cast] theorem e_against11_eqt : e_against11.eqt = eqt := rfl
@[push_cast] theorem e_against11_cal : e_against11.cal = calOf [(79, sp_hasS)] := rfl
theorem c_against11 : CRow P0 ety0 131 sp_against11 := CRow.of (E := e_against11) (mkOk (.cons c_hasS (.nil))) func131 rfl rfl rfl (by
  intro args p r outs h hq
  simp only [sp_against11] at h; split at h <;> cases h
  rename_i x ha ht al re un ns dr co da
  have hl := hq _ rfl
  refine Body.intro (rs := [.tmp 3]) rfl rfl rfl ?_
  apply vc_run 1000 (stop := false) rfl; simp only [push_cast, reduceIte, Nat.reduceEqDiff, Nat.reduceAdd, Nat.reduceSub, Nat.reduceLT, Int.reduceNeg, Int.reduceLE, Int.reduceLT, Int.reduceToNat, Nat.reduceLeDiff, UInt8.reduceOfNat, UInt8.reduceOfNatLT, and_self, Nat.reduceMul, decide_true, decide_false, Bool.not_true, Bool.not_false, implies_true]
  exact hl)
noncomputable def sp_idxStrB : Spec := ⟨[.sl .str, .sc], [.rd, .rd], true, fun
  | [.dat ⟨.str, l⟩, .fn 131 [] [.rbp [.bool ha, .bool ht, .dat ⟨.rule, al⟩, .dat ⟨.rule, re⟩, .dat ⟨.rule, un⟩, .dat ⟨.str, ns⟩, .dat ⟨.str, dr⟩, .bool co, .bool da] 0]] => some (some (l.length ≤ 1073741824 ∧ ns.length ≤ 1073741824), .int .i64 (idx (l.findIdx? (hasS ns))), [])
  | _ => none⟩
@[push_cast] theorem sp_idxStrB_ps : sp_idxStrB.ps = [.sl .str, .sc] := rfl
@[push_cast] theorem sp_idxStrB_md : sp_idxStrB.modes = [.rd, .rd] := rfl
@[push_cast] theorem sp_idxStrB_pure : sp_idxStrB.pure = true := rfl
@[push_cast] theorem sp_idxStrB_run (l : List Str) (ha ht : Bool) (al re un : List Rule) (ns dr : List Str) (co da : Bool) : sp_idxStrB.run [.dat ⟨.str, l⟩, .fn 131 [] [.rbp [.bool ha, .bool ht, .dat ⟨.rule, al⟩, .dat ⟨.rule, re⟩, .dat ⟨.rule, un⟩, .dat ⟨.str, ns⟩, .dat ⟨.str, dr⟩, .bool co, .bool da] 0]] = some (some (l.length ≤ 1073741824 ∧ ns.length ≤ 1073741824), .int .i64 (idx (l.findIdx? (hasS ns))), []) := rfl
noncomputable def e_idxStrB : Env := mk [(131, sp_against11)] [] [] [] none
@[push_cast] theorem e_idxStrB_in : e_idxStrB.inl = inlF [] := rfl
@[push_cast] theorem e_idxStrB_fn : e_idxStrB.fnd = fndF none := rfl
@[push_cast] theorem e_idxStrB_gh : e_idxStrB.gh = ghOf [] := rfl
@[push_cast] theorem e_idxStrB_dr : e_idxStrB.dr = drOf [] := rfl
@[push_cast] theorem e_idxStrB_td : e_idxStrB.td = td := rfl
@[push_cast] theorem e_idxStrB_eqt : e_idxStrB.eqt = eqt := rfl
@[push_cast] theorem e_idxStrB_cal : e_idxStrB.cal = calOf [(131, sp_against11)] := rfl
theorem c_idxStrB : CRow P0 ety0 157 sp_idxStrB := CRow.of (E := e_idxStrB) (mkOk (.cons c_against11 (.nil))) func157 rfl rfl rfl (by
  intro args p r outs h hq
  simp only [sp_idxStrB] at h; split at h <;> cases h
  rename_i l ha ht al re un ns dr co da
  have hq0 := hq _ rfl
  have hl : l.length ≤ 1073741824 := by first | exact hq0 | exact hq0.1
  refine Body.intro (rs := [.tmp 4]) rfl rfl rfl ?_
  apply vc_run 1000 (stop := false) rfl; simp only [push_cast, reduceIte, Nat.reduceEqDiff, Nat.reduceAdd, Nat.reduceSub, Nat.reduceLT, Int.reduceNeg, Int.reduceLE, Int.reduceLT, Int.reduceToNat, Nat.reduceLeDiff, UInt8.reduceOfNat, UInt8.reduceOfNatLT, and_self, Nat.reduceMul, decide_true, decide_false, Bool.not_true, Bool.not_false, implies_true]
  refine Run.loop [8] [0, 1, 6, 7] [] rfl (fun n vs bs => ∃ k : Nat, vs = [.int .i64 k] ∧ bs = [] ∧ k ≤ l.length ∧ (∀ j < k, (hasS ns) (l.getD j []) = false) ∧ n = l.length - k) l.length ?_ ?_
  · simp only [push_cast, reduceIte, Nat.reduceEqDiff, Nat.reduceAdd, Nat.reduceSub, Nat.reduceLT, Int.reduceNeg, Int.reduceLE, Int.reduceLT, Int.reduceToNat, Nat.reduceLeDiff, UInt8.reduceOfNat, UInt8.reduceOfNatLT, and_self, Nat.reduceMul, decide_true, decide_false, Bool.not_true, Bool.not_false, implies_true]
    exact ⟨0, rfl, by omega, by simp, by omega⟩
  rintro n vs bs ⟨k, rfl, rfl, hk, hb, rfl⟩
  simp only [push_cast, reduceIte, Nat.reduceEqDiff, Nat.reduceAdd, Nat.reduceSub, Nat.reduceLT, Int.reduceNeg, Int.reduceLE, Int.reduceLT, Int.reduceToNat, Nat.reduceLeDiff, UInt8.reduceOfNat, UInt8.reduceOfNatLT, and_self, Nat.reduceMul, decide_true, decide_false, Bool.not_true, Bool.not_false, implies_true]
  apply vc_run 1000 (stop := false) rfl; simp only [push_cast, reduceIte, Nat.reduceEqDiff, Nat.reduceAdd, Nat.reduceSub, Nat.reduceLT, Int.reduceNeg, Int.reduceLE, Int.reduceLT, Int.reduceToNat, Nat.reduceLeDiff, UInt8.reduceOfNat, UInt8.reduceOfNatLT, and_self, Nat.reduceMul, decide_true, decide_false, Bool.not_true, Bool.not_false, implies_true]
  refine ⟨fun hlt => ?_, fun hge => ?_⟩
  · have hlt : k < l.length := by simpa using hlt
    simp only [gd_nat]
    refine ⟨by omega, hq0.2, fun hy => ?_, fun hn => ⟨by constructor <;> omega, _, by omega, k + 1, rfl, by omega, below_step hb hn, rfl⟩⟩
    rw [findIdx_at (p := hasS ns) hlt hb hy]; rfl
  · have hge : k = l.length := by simp at hge; omega
    subst hge
    rw [findIdx_none (p := hasS ns) hb]; rfl)
noncomputable def sp_conStrB : Spec := ⟨[.sl .str, .sc], [.rd, .rd], true, fun
  | [.dat ⟨.str, l⟩, .fn 131 [] [.rbp [.bool ha, .bool ht, .dat ⟨.rule, al⟩, .dat ⟨.rule, re⟩, .dat ⟨.rule, un⟩, .dat ⟨.str, ns⟩, .dat ⟨.str, dr⟩, .bool co, .bool da] 0]] => some (some (l.length ≤ 1073741824 ∧ ns.length ≤ 1073741824), .bool (l.any (hasS ns)), [])
  | _ => none⟩
@[push_cast] theorem sp_conStrB_ps : sp_conStrB.ps = [.sl .str, .sc] := rfl
@[push_cast] theorem sp_conStrB_md : sp_conStrB.modes = [.rd, .rd] := rfl
@[push_cast] theorem sp_conStrB_pure : sp_conStrB.pure = true := rfl
@[push_cast] theorem sp_conStrB_run (l : List Str) (ha ht : Bool) (al re un : List Rule) (ns dr : List Str) (co da : Bool) : sp_conStrB.run [.dat ⟨.str, l⟩, .fn 131 [] [.rbp [.bool ha, .bool ht, .dat ⟨.rule, al⟩, .dat ⟨.rule, re⟩, .dat ⟨.rule, un⟩, .dat ⟨.str, ns⟩, .dat ⟨.str, dr⟩, .bool co, .bool da] 0]] = some (some (l.length ≤ 1073741824 ∧ ns.length ≤ 1073741824), .bool (l.any (hasS ns)), []) := rfl
noncomputable def e_conStrB : Env := mk [(157, sp_idxStrB)] [] [] [] none
@[push_cast] theorem e_conStrB_in : e_conStrB.inl = inlF [] := rfl
@[push_cast] theorem e_conStrB_fn : e_conStrB.fnd = fndF none := rfl
@[push_cast] theorem e_conStrB_gh : e_conStrB.gh = ghOf [] := rfl
@[push_cast] theorem e_conStrB_dr : e_conStrB.dr = drOf [] := rfl
@[push_cast] theorem e_conStrB_td : e_conStrB.td = td := rfl
@[push_cast] theorem e_conStrB_eqt : e_conStrB.eqt = eqt := rfl
@[push_cast] theorem e_conStrB_cal : e_conStrB.cal = calOf [(157, sp_idxStrB)] := rfl
theorem c_conStrB : CRow P0 ety0 130 sp_conStrB := CRow.of (E := e_conStrB) (mkOk (.cons c_idxStrB (.nil))) func130 rfl rfl rfl (by
  intro args p r outs h hq
  simp only [sp_conStrB] at h; split at h <;> cases h
  rename_i l ha ht al re un ns dr co da
  have hq0 := hq _ rfl
  refine Body.intro (rs := [.tmp 4]) rfl rfl rfl ?_
  apply vc_run 1000 (stop := false) rfl; simp only [push_cast, reduceIte, Nat.reduceEqDiff, Nat.reduceAdd, Nat.reduceSub, Nat.reduceLT, Int.reduceNeg, Int.reduceLE, Int.reduceLT, Int.reduceToNat, Nat.reduceLeDiff, UInt8.reduceOfNat, UInt8.reduceOfNatLT, and_self, Nat.reduceMul, decide_true, decide_false, Bool.not_true, Bool.not_false, implies_true]
  exact ⟨hq0, by rw [idx_any]⟩)
/-- Some attribute of it is among some names. -/
abbrev meets (ns : List Str) (r : Rule) : Bool := r.attrs.any (hasS ns)
noncomputable def sp_against1 : Spec := ⟨[.st .rule, .sc], [.rd, .rd], true, fun
  | [.agg [.int .i64 s, .str m, .dat ⟨.str, c⟩], .rbp [.bool ha, .bool ht, .dat ⟨.rule, al⟩, .dat ⟨.rule, re⟩, .dat ⟨.rule, un⟩, .dat ⟨.str, ns⟩, .dat ⟨.str, dr⟩, .bool co, .bool da] 0] => some (some (c.length ≤ 1073741824 ∧ ns.length ≤ 1073741824), .bool (meets ns ⟨s, m, c⟩), [])
  | _ => none⟩
@[push_cast] theorem sp_against1_ps : sp_against1.ps = [.st .rule, .sc] := rfl
@[push_cast] theorem sp_against1_md : sp_against1.modes = [.rd, .rd] := rfl
@[push_cast] theorem sp_against1_pure : sp_against1.pure = true := rfl
@[push_cast] theorem sp_against1_run (s : Int) (m : Str) (c : List Str) (ha ht : Bool) (al re un : List Rule) (ns dr : List Str) (co da : Bool) : sp_against1.run [.agg [.int .i64 s, .str m, .dat ⟨.str, c⟩], .rbp [.bool ha, .bool ht, .dat ⟨.rule, al⟩, .dat ⟨.rule, re⟩, .dat ⟨.rule, un⟩, .dat ⟨.str, ns⟩, .dat ⟨.str, dr⟩, .bool co, .bool da] 0] = some (some (c.length ≤ 1073741824 ∧ ns.length ≤ 1073741824), .bool (meets ns ⟨s, m, c⟩), []) := rfl
noncomputable def e_against1 : Env := mk [(130, sp_conStrB)] [] [] [] none
@[push_cast] theorem e_against1_in : e_against1.inl = inlF [] := rfl
@[push_cast] theorem e_against1_fn : e_against1.fnd = fndF none := rfl
@[push_cast] theorem e_against1_gh : e_against1.gh = ghOf [] := rfl
@[push_cast] theorem e_against1_dr : e_against1.dr = drOf [] := rfl
@[push_cast] theorem e_against1_td : e_against1.td = td := rfl
@[push_cast] theorem e_against1_eqt : e_against1.eqt = eqt := rfl
@[push_cast] theorem e_against1_cal : e_against1.cal = calOf [(130, sp_conStrB)] := rfl
theorem c_against1 : CRow P0 ety0 129 sp_against1 := CRow.of (E := e_against1) (mkOk (.cons c_conStrB (.nil))) func129 rfl rfl rfl (by
  intro args p r outs h hq
  simp only [sp_against1] at h; split at h <;> cases h
  rename_i s m c ha ht al re un ns dr co da
  have hl := hq _ rfl
  refine Body.intro (rs := [.tmp 3]) rfl rfl rfl ?_
  apply vc_run 1000 (stop := false) rfl; simp only [push_cast, reduceIte, Nat.reduceEqDiff, Nat.reduceAdd, Nat.reduceSub, Nat.reduceLT, Int.reduceNeg, Int.reduceLE, Int.reduceLT, Int.reduceToNat, Nat.reduceLeDiff, UInt8.reduceOfNat, UInt8.reduceOfNatLT, and_self, Nat.reduceMul, decide_true, decide_false, Bool.not_true, Bool.not_false, implies_true]
  exact hl)
noncomputable def sp_idxRuleD : Spec := ⟨[.sl .rule, .sc], [.rd, .rd], true, fun
  | [.dat ⟨.rule, l⟩, .fn 129 [] [.rbp [.bool ha, .bool ht, .dat ⟨.rule, al⟩, .dat ⟨.rule, re⟩, .dat ⟨.rule, un⟩, .dat ⟨.str, ns⟩, .dat ⟨.str, dr⟩, .bool co, .bool da] 0]] => some (some (l.length ≤ 1073741824 ∧ ns.length ≤ 1073741824 ∧ ∀ r ∈ l, r.attrs.length ≤ 1073741824), .int .i64 (idx (l.findIdx? (meets ns))), [])
  | _ => none⟩
@[push_cast] theorem sp_idxRuleD_ps : sp_idxRuleD.ps = [.sl .rule, .sc] := rfl
@[push_cast] theorem sp_idxRuleD_md : sp_idxRuleD.modes = [.rd, .rd] := rfl
@[push_cast] theorem sp_idxRuleD_pure : sp_idxRuleD.pure = true := rfl
@[push_cast] theorem sp_idxRuleD_run (l : List Rule) (ha ht : Bool) (al re un : List Rule) (ns dr : List Str) (co da : Bool) : sp_idxRuleD.run [.dat ⟨.rule, l⟩, .fn 129 [] [.rbp [.bool ha, .bool ht, .dat ⟨.rule, al⟩, .dat ⟨.rule, re⟩, .dat ⟨.rule, un⟩, .dat ⟨.str, ns⟩, .dat ⟨.str, dr⟩, .bool co, .bool da] 0]] = some (some (l.length ≤ 1073741824 ∧ ns.length ≤ 1073741824 ∧ ∀ r ∈ l, r.attrs.length ≤ 1073741824), .int .i64 (idx (l.findIdx? (meets ns))), []) := rfl
noncomputable def e_idxRuleD : Env := mk [(129, sp_against1)] [] [] [] none
@[push_cast] theorem e_idxRuleD_in : e_idxRuleD.inl = inlF [] := rfl
@[push_cast] theorem e_idxRuleD_fn : e_idxRuleD.fnd = fndF none := rfl
@[push_cast] theorem e_idxRuleD_gh : e_idxRuleD.gh = ghOf [] := rfl
@[push_cast] theorem e_idxRuleD_dr : e_idxRuleD.dr = drOf [] := rfl
@[push_cast] theorem e_idxRuleD_td : e_idxRuleD.td = td := rfl
@[push_cast] theorem e_idxRuleD_eqt : e_idxRuleD.eqt = eqt := rfl
@[push_cast] theorem e_idxRuleD_cal : e_idxRuleD.cal = calOf [(129, sp_against1)] := rfl
theorem c_idxRuleD : CRow P0 ety0 137 sp_idxRuleD := CRow.of (E := e_idxRuleD) (mkOk (.cons c_against1 (.nil))) func137 rfl rfl rfl (by
  intro args p r outs h hq
  simp only [sp_idxRuleD] at h; split at h <;> cases h
  rename_i l ha ht al re un ns dr co da
  have hq0 := hq _ rfl
  have hl : l.length ≤ 1073741824 := by first | exact hq0 | exact hq0.1
  refine Body.intro (rs := [.tmp 4]) rfl rfl rfl ?_
  apply vc_run 1000 (stop := false) rfl; simp only [push_cast, reduceIte, Nat.reduceEqDiff, Nat.reduceAdd, Nat.reduceSub, Nat.reduceLT, Int.reduceNeg, Int.reduceLE, Int.reduceLT, Int.reduceToNat, Nat.reduceLeDiff, UInt8.reduceOfNat, UInt8.reduceOfNatLT, and_self, Nat.reduceMul, decide_true, decide_false, Bool.not_true, Bool.not_false, implies_true]
  refine Run.loop [8] [0, 1, 6, 7] [] rfl (fun n vs bs => ∃ k : Nat, vs = [.int .i64 k] ∧ bs = [] ∧ k ≤ l.length ∧ (∀ j < k, (meets ns) (l.getD j ruleD) = false) ∧ n = l.length - k) l.length ?_ ?_
  · simp only [push_cast, reduceIte, Nat.reduceEqDiff, Nat.reduceAdd, Nat.reduceSub, Nat.reduceLT, Int.reduceNeg, Int.reduceLE, Int.reduceLT, Int.reduceToNat, Nat.reduceLeDiff, UInt8.reduceOfNat, UInt8.reduceOfNatLT, and_self, Nat.reduceMul, decide_true, decide_false, Bool.not_true, Bool.not_false, implies_true]
    exact ⟨0, rfl, by omega, by simp, by omega⟩
  rintro n vs bs ⟨k, rfl, rfl, hk, hb, rfl⟩
  simp only [push_cast, reduceIte, Nat.reduceEqDiff, Nat.reduceAdd, Nat.reduceSub, Nat.reduceLT, Int.reduceNeg, Int.reduceLE, Int.reduceLT, Int.reduceToNat, Nat.reduceLeDiff, UInt8.reduceOfNat, UInt8.reduceOfNatLT, and_self, Nat.reduceMul, decide_true, decide_false, Bool.not_true, Bool.not_false, implies_true]
  apply vc_run 1000 (stop := false) rfl; simp only [push_cast, reduceIte, Nat.reduceEqDiff, Nat.reduceAdd, Nat.reduceSub, Nat.reduceLT, Int.reduceNeg, Int.reduceLE, Int.reduceLT, Int.reduceToNat, Nat.reduceLeDiff, UInt8.reduceOfNat, UInt8.reduceOfNatLT, and_self, Nat.reduceMul, decide_true, decide_false, Bool.not_true, Bool.not_false, implies_true]
  refine ⟨fun hlt => ?_, fun hge => ?_⟩
  · have hlt : k < l.length := by simpa using hlt
    simp only [gd_nat]
    refine ⟨by omega, ⟨fit_at hq0.2.2 hlt, hq0.2.1⟩, fun hy => ?_, fun hn => ⟨by constructor <;> omega, _, by omega, k + 1, rfl, by omega, below_step hb hn, rfl⟩⟩
    rw [findIdx_at (p := meets ns) hlt hb hy]; rfl
  · have hge : k = l.length := by simp at hge; omega
    subst hge
    rw [findIdx_none (p := meets ns) hb]; rfl)
noncomputable def sp_conRuleD : Spec := ⟨[.sl .rule, .sc], [.rd, .rd], true, fun
  | [.dat ⟨.rule, l⟩, .fn 129 [] [.rbp [.bool ha, .bool ht, .dat ⟨.rule, al⟩, .dat ⟨.rule, re⟩, .dat ⟨.rule, un⟩, .dat ⟨.str, ns⟩, .dat ⟨.str, dr⟩, .bool co, .bool da] 0]] => some (some (l.length ≤ 1073741824 ∧ ns.length ≤ 1073741824 ∧ ∀ r ∈ l, r.attrs.length ≤ 1073741824), .bool (l.any (meets ns)), [])
  | _ => none⟩
@[push_cast] theorem sp_conRuleD_ps : sp_conRuleD.ps = [.sl .rule, .sc] := rfl
@[push_cast] theorem sp_conRuleD_md : sp_conRuleD.modes = [.rd, .rd] := rfl
@[push_cast] theorem sp_conRuleD_pure : sp_conRuleD.pure = true := rfl
@[push_cast] theorem sp_conRuleD_run (l : List Rule) (ha ht : Bool) (al re un : List Rule) (ns dr : List Str) (co da : Bool) : sp_conRuleD.run [.dat ⟨.rule, l⟩, .fn 129 [] [.rbp [.bool ha, .bool ht, .dat ⟨.rule, al⟩, .dat ⟨.rule, re⟩, .dat ⟨.rule, un⟩, .dat ⟨.str, ns⟩, .dat ⟨.str, dr⟩, .bool co, .bool da] 0]] = some (some (l.length ≤ 1073741824 ∧ ns.length ≤ 1073741824 ∧ ∀ r ∈ l, r.attrs.length ≤ 1073741824), .bool (l.any (meets ns)), []) := rfl
noncomputable def e_conRuleD : Env := mk [(137, sp_idxRuleD)] [] [] [] none
@[push_cast] theorem e_conRuleD_in : e_conRuleD.inl = inlF [] := rfl
@[push_cast] theorem e_conRuleD_fn : e_conRuleD.fnd = fndF none := rfl
@[push_cast] theorem e_conRuleD_gh : e_conRuleD.gh = ghOf [] := rfl
@[push_cast] theorem e_conRuleD_dr : e_conRuleD.dr = drOf [] := rfl
@[push_cast] theorem e_conRuleD_td : e_conRuleD.td = td := rfl
@[push_cast] theorem e_conRuleD_eqt : e_conRuleD.eqt = eqt := rfl
@[push_cast] theorem e_conRuleD_cal : e_conRuleD.cal = calOf [(137, sp_idxRuleD)] := rfl
theorem c_conRuleD : CRow P0 ety0 125 sp_conRuleD := CRow.of (E := e_conRuleD) (mkOk (.cons c_idxRuleD (.nil))) func125 rfl rfl rfl (by
  intro args p r outs h hq
  simp only [sp_conRuleD] at h; split at h <;> cases h
  rename_i l ha ht al re un ns dr co da
  have hq0 := hq _ rfl
  refine Body.intro (rs := [.tmp 4]) rfl rfl rfl ?_
  apply vc_run 1000 (stop := false) rfl; simp only [push_cast, reduceIte, Nat.reduceEqDiff, Nat.reduceAdd, Nat.reduceSub, Nat.reduceLT, Int.reduceNeg, Int.reduceLE, Int.reduceLT, Int.reduceToNat, Nat.reduceLeDiff, UInt8.reduceOfNat, UInt8.reduceOfNatLT, and_self, Nat.reduceMul, decide_true, decide_false, Bool.not_true, Bool.not_false, implies_true]
  exact ⟨hq0, by rw [idx_any]⟩)
def szCfg (c : Cfg) : Nat := szL szRule c.allow + szL szRule c.remove + szL szRule c.unwrap + szL List.length c.attrs + szL List.length c.drop
abbrev lenP {α : Type} (l : List α) : Bool := decide ((0 : Int) < (l.length : Nat))
def wrongKinds (c : Cfg) : Bool := (!c.hasAllow && lenP c.allow) || (c.hasAllow && lenP c.remove) || (!c.hasAttrs && (lenP c.attrs || c.data)) || (c.hasAttrs && lenP c.drop)
def isAgainst (c : Cfg) : Bool := wrongKinds c || (haveCommon c.unwrap c.allow || haveCommon c.unwrap c.remove || (!c.hasAttrs && haveAttrs c.allow)) || c.allow.any (meets c.attrs)
noncomputable def sp_isAgainst : Spec := ⟨[.st .cfg], [.rd], true, fun
  | [.agg [.bool ha, .bool ht, .dat ⟨.rule, al⟩, .dat ⟨.rule, re⟩, .dat ⟨.rule, un⟩, .dat ⟨.str, ns⟩, .dat ⟨.str, dr⟩, .bool co, .bool da]] => some (some (szCfg ⟨ha, ht, al, re, un, ns, dr, co, da⟩ ≤ 1048576), .bool (isAgainst ⟨ha, ht, al, re, un, ns, dr, co, da⟩), [])
  | _ => none⟩
@[push_cast] theorem sp_isAgainst_ps : sp_isAgainst.ps = [.st .cfg] := rfl
@[push_cast] theorem sp_isAgainst_md : sp_isAgainst.modes = [.rd] := rfl
@[push_cast] theorem sp_isAgainst_pure : sp_isAgainst.pure = true := rfl
@[push_cast] theorem sp_isAgainst_run (ha ht : Bool) (al re un : List Rule) (ns dr : List Str) (co da : Bool) : sp_isAgainst.run [.agg [.bool ha, .bool ht, .dat ⟨.rule, al⟩, .dat ⟨.rule, re⟩, .dat ⟨.rule, un⟩, .dat ⟨.str, ns⟩, .dat ⟨.str, dr⟩, .bool co, .bool da]] = some (some (szCfg ⟨ha, ht, al, re, un, ns, dr, co, da⟩ ≤ 1048576), .bool (isAgainst ⟨ha, ht, al, re, un, ns, dr, co, da⟩), []) := rfl
noncomputable def e_isAgainst : Env := mk [(128, sp_haveCommon), (93, sp_haveAttrs), (125, sp_conRuleD)] [] [] [] none
@[push_cast] theorem e_isAgainst_in : e_isAgainst.inl = inlF [] := rfl
@[push_cast] theorem e_isAgainst_fn : e_isAgainst.fnd = fndF none := rfl
@[push_cast] theorem e_isAgainst_gh : e_isAgainst.gh = ghOf [] := rfl
@[push_cast] theorem e_isAgainst_dr : e_isAgainst.dr = drOf [] := rfl
@[push_cast] theorem e_isAgainst_td : e_isAgainst.td = td := rfl
@[push_cast] theorem e_isAgainst_eqt : e_isAgainst.eqt = eqt := rfl
@[push_cast] theorem e_isAgainst_cal : e_isAgainst.cal = calOf [(128, sp_haveCommon), (93, sp_haveAttrs), (125, sp_conRuleD)] := rfl
theorem c_isAgainst : CRow P0 ety0 95 sp_isAgainst := CRow.of (E := e_isAgainst) (mkOk (.cons c_haveCommon (.cons c_haveAttrs (.cons c_conRuleD (.nil))))) func95 rfl rfl rfl (by
  intro args p r outs h hq
  simp only [sp_isAgainst] at h; split at h <;> cases h
  rename_i ha ht al re un ns dr co da
  have hz := hq _ rfl
  refine Body.intro (rs := [.tmp 2]) rfl rfl rfl ?_
  apply vc_run 1000 (stop := false) rfl; simp only [push_cast, reduceIte, Nat.reduceEqDiff, Nat.reduceAdd, Nat.reduceSub, Nat.reduceLT, Int.reduceNeg, Int.reduceLE, Int.reduceLT, Int.reduceToNat, Nat.reduceLeDiff, UInt8.reduceOfNat, UInt8.reduceOfNatLT, and_self, Nat.reduceMul, decide_true, decide_false, Bool.not_true, Bool.not_false, implies_true]
  simp only [szCfg] at hz
  have h1 := szL_len szRule al
  have h2 := szL_len szRule re
  have h3 := szL_len szRule un
  have h4 := szL_len List.length ns
  have hal : ∀ r ∈ al, r.attrs.length ≤ 1073741824 := fun r hr => by
    have h5 := szL_mem szRule hr
    have h6 := szL_len List.length r.attrs
    simp only [szRule] at h5
    omega
  simp only [Bool.cond_true_left, Bool.cond_false_right]
  refine ⟨fun h => ?_, fun h => ⟨by omega, fun _ => by omega, fun _ => by omega, fun h' => ?_, fun h' => ⟨⟨by omega, by omega, hal⟩, ?_⟩⟩⟩
  · rw [isAgainst, show wrongKinds (⟨ha, ht, al, re, un, ns, dr, co, da⟩ : Cfg) = true from h]; rfl
  · rw [isAgainst, show wrongKinds (⟨ha, ht, al, re, un, ns, dr, co, da⟩ : Cfg) = false from h, show (haveCommon un al || haveCommon un re || (!ht && haveAttrs al)) = true from h']; rfl
  · rw [isAgainst, show wrongKinds (⟨ha, ht, al, re, un, ns, dr, co, da⟩ : Cfg) = false from h, show (haveCommon un al || haveCommon un re || (!ht && haveAttrs al)) = false from h']; rfl)
theorem any_getD {α : Type} {l : List α} {p : α → Bool} {d : α} (h : ∀ j < l.length, p (l.getD j d) = false) : l.any p = false := by
  rw [List.any_eq_false]
  intro x hx
  obtain ⟨j, hj, rfl⟩ := List.mem_iff_getElem.1 hx
  have e : l.getD j d = l[j] := by simp [List.getD, hj]
  rw [← e, h j hj]; simp
theorem any_at {α : Type} {l : List α} {p : α → Bool} {d : α} {k : Nat} (hk : k < l.length) (h : p (l.getD k d) = true) : l.any p = true := by
  rw [List.any_eq_true]
  have e : l.getD k d = l[k] := by simp [List.getD, hk]
  exact ⟨l[k], List.getElem_mem hk, by rw [← e]; exact h⟩
theorem against_eq (al re un : List Rule) (ns : List Str) (ht : Bool) : (false || (haveCommon un al || haveCommon un re || (!ht && haveAttrs al)) || al.any (meets ns)) = ((un.any fun r => inRules al r || inRules re r) || al.any fun r => r.attrs.any fun x => !ht || hasS ns x) := by
  have h2 : (al.any fun r => r.attrs.any fun x => !ht || hasS ns x) = ((!ht && haveAttrs al) || al.any (meets ns)) := by
    unfold haveAttrs
    cases ht with
    | true => simp [meets]
    | false =>
      induction al with
      | nil => rfl
      | cons x l ih =>
        simp only [List.any_cons, ih]
        have hx : (x.attrs.any fun y => !false || hasS ns y) = withAttrs x := by cases h : x.attrs <;> simp [withAttrs, h]
        rw [hx]
        have hm : meets ns x = true → withAttrs x = true := by intro h; unfold meets at h; unfold withAttrs; cases h' : x.attrs with
          | nil => rw [h'] at h; simp at h
          | cons y r => simp
        cases h1 : withAttrs x <;> cases h2 : meets ns x <;> simp_all
  have h1 : (un.any fun r => inRules al r || inRules re r) = (haveCommon un al || haveCommon un re) := by
    unfold haveCommon
    induction un with
    | nil => rfl
    | cons x l ih => simp only [List.any_cons, ih]; cases inRules al x <;> cases inRules re x <;> simp
  rw [h1, h2]
  cases haveCommon un al <;> cases haveCommon un re <;> simp
def badCfg (c : Cfg) : Bool := !areRules c.allow || !areRules c.remove || !areRules c.unwrap || haveAttrs c.remove || haveAttrs c.unwrap || !namesOK c.attrs || !namesOK c.drop
def checkCfg (c : Cfg) : Int := bif badCfg c then 1 else bif isAgainst c then 13 else 0
noncomputable def sp_checkCfg : Spec := ⟨[.st .cfg], [.rd], true, fun
  | [.agg [.bool ha, .bool ht, .dat ⟨.rule, al⟩, .dat ⟨.rule, re⟩, .dat ⟨.rule, un⟩, .dat ⟨.str, ns⟩, .dat ⟨.str, dr⟩, .bool co, .bool da]] => some (some (szCfg ⟨ha, ht, al, re, un, ns, dr, co, da⟩ ≤ 1048576), .int .i64 (checkCfg ⟨ha, ht, al, re, un, ns, dr, co, da⟩), [])
  | _ => none⟩
@[push_cast] theorem sp_checkCfg_ps : sp_checkCfg.ps = [.st .cfg] := rfl
@[push_cast] theorem sp_checkCfg_md : sp_checkCfg.modes = [.rd] := rfl
@[push_cast] theorem sp_checkCfg_pure : sp_checkCfg.pure = true := rfl
@[push_cast] theorem sp_checkCfg_run (ha ht : Bool) (al re un : List Rule) (ns dr : List Str) (co da : Bool) : sp_checkCfg.run [.agg [.bool ha, .bool ht, .dat ⟨.rule, al⟩, .dat ⟨.rule, re⟩, .dat ⟨.rule, un⟩, .dat ⟨.str, ns⟩, .dat ⟨.str, dr⟩, .bool co, .bool da]] = some (some (szCfg ⟨ha, ht, al, re, un, ns, dr, co, da⟩ ≤ 1048576), .int .i64 (checkCfg ⟨ha, ht, al, re, un, ns, dr, co, da⟩), []) := rfl
noncomputable def e_checkCfg : Env := mk [(92, sp_areRules), (93, sp_haveAttrs), (94, sp_namesOK), (95, sp_isAgainst)] [] [] [] none
@[push_cast] theorem e_checkCfg_in : e_checkCfg.inl = inlF [] := rfl
@[push_cast] theorem e_checkCfg_fn : e_checkCfg.fnd = fndF none := rfl
@[push_cast] theorem e_checkCfg_gh : e_checkCfg.gh = ghOf [] := rfl
@[push_cast] theorem e_checkCfg_dr : e_checkCfg.dr = drOf [] := rfl
@[push_cast] theorem e_checkCfg_td : e_checkCfg.td = td := rfl
@[push_cast] theorem e_checkCfg_eqt : e_checkCfg.eqt = eqt := rfl
@[push_cast] theorem e_checkCfg_cal : e_checkCfg.cal = calOf [(92, sp_areRules), (93, sp_haveAttrs), (94, sp_namesOK), (95, sp_isAgainst)] := rfl
theorem c_checkCfg : CRow P0 ety0 61 sp_checkCfg := CRow.of (E := e_checkCfg) (mkOk (.cons c_areRules (.cons c_haveAttrs (.cons c_namesOK (.cons c_isAgainst (.nil)))))) func61 rfl rfl rfl (by
  intro args p r outs h hq
  simp only [sp_checkCfg] at h; split at h <;> cases h
  rename_i ha ht al re un ns dr co da
  have hz := hq _ rfl
  have hz2 := hz
  refine Body.intro (rs := [.tmp 2]) rfl rfl rfl ?_
  apply vc_run 1000 (stop := false) rfl; simp only [push_cast, reduceIte, Nat.reduceEqDiff, Nat.reduceAdd, Nat.reduceSub, Nat.reduceLT, Int.reduceNeg, Int.reduceLE, Int.reduceLT, Int.reduceToNat, Nat.reduceLeDiff, UInt8.reduceOfNat, UInt8.reduceOfNatLT, and_self, Nat.reduceMul, decide_true, decide_false, Bool.not_true, Bool.not_false, implies_true]
  simp only [szCfg] at hz
  have h1 := szL_len szRule al
  have h2 := szL_len szRule re
  have h3 := szL_len szRule un
  simp only [Bool.cond_true_left, Bool.cond_false_right]
  refine ⟨by omega, fun _ => by omega, fun _ => by omega, fun _ => by omega, fun _ => by omega, fun _ => by omega, fun _ => by omega, fun h => ?_, fun h => ⟨hz2, fun h' => ?_, fun h' => ?_⟩⟩
  · rw [checkCfg, show badCfg (⟨ha, ht, al, re, un, ns, dr, co, da⟩ : Cfg) = true from h]; rfl
  · rw [checkCfg, show badCfg (⟨ha, ht, al, re, un, ns, dr, co, da⟩ : Cfg) = false from h, h']; rfl
  · rw [checkCfg, show badCfg (⟨ha, ht, al, re, un, ns, dr, co, da⟩ : Cfg) = false from h, h']; rfl)
noncomputable def e_l07Check : Env := mk [(82, sp_l07Rules), (83, sp_namesOK), (84, sp_ruleAt), (77, sp_hasS)] [(17, [], [])] [] [] none
@[push_cast] theorem e_l07Check_in : e_l07Check.inl = inlF [] := rfl
@[push_cast] theorem e_l07Check_fn : e_l07Check.fnd = fndF none := rfl
@[push_cast] theorem e_l07Check_gh : e_l07Check.gh = ghOf [] := rfl
@[push_cast] theorem e_l07Check_dr : e_l07Check.dr = drOf [(17, [], [])] := rfl
@[push_cast] theorem e_l07Check_td : e_l07Check.td = td := rfl
@[push_cast] theorem e_l07Check_eqt : e_l07Check.eqt = eqt := rfl
@[push_cast] theorem e_l07Check_cal : e_l07Check.cal = calOf [(82, sp_l07Rules), (83, sp_namesOK), (84, sp_ruleAt), (77, sp_hasS)] := rfl
theorem c_l07Check : CRow P0 ety0 55 sp_checkCfg := CRow.of (E := e_l07Check) (mkOk (.cons c_l07Rules (.cons c_namesOK2 (.cons c_l07At (.cons c_hasS2 (.nil)))))) func55 rfl rfl rfl (by
  intro args p r outs h hq
  simp only [sp_checkCfg] at h; split at h <;> cases h
  rename_i ha ht al re un ns dr co da
  have hz := hq _ rfl
  have hz2 := hz
  refine Body.intro (rs := [.tmp 2]) rfl rfl rfl ?_
  apply vc_run 1000 (stop := false) rfl; simp only [push_cast, reduceIte, Nat.reduceEqDiff, Nat.reduceAdd, Nat.reduceSub, Nat.reduceLT, Int.reduceNeg, Int.reduceLE, Int.reduceLT, Int.reduceToNat, Nat.reduceLeDiff, UInt8.reduceOfNat, UInt8.reduceOfNatLT, and_self, Nat.reduceMul, decide_true, decide_false, Bool.not_true, Bool.not_false, implies_true]
  simp only [szCfg] at hz
  have h1 := szL_len szRule al
  have h2 := szL_len szRule re
  have h3 := szL_len szRule un
  simp only [Bool.cond_true_left, Bool.cond_false_right]
  have hbad : (!areRules al || !(areRules re && !haveAttrs re) || !(areRules un && !haveAttrs un) || !namesOK ns || !namesOK dr) = badCfg (⟨ha, ht, al, re, un, ns, dr, co, da⟩ : Cfg) := by
    unfold badCfg
    cases areRules al <;> cases areRules re <;> cases areRules un <;> cases haveAttrs re <;> cases haveAttrs un <;> rfl
  rw [hbad]
  refine ⟨by omega, fun _ => by omega, fun _ => by omega, fun _ => by omega, fun _ => by omega, fun h => ?_, fun h => ⟨fun h' => ?_, fun h' => ?_⟩⟩
  · rw [checkCfg, h]; rfl
  · rw [checkCfg, h, isAgainst, show wrongKinds (⟨ha, ht, al, re, un, ns, dr, co, da⟩ : Cfg) = true from h']; rfl
  have hw : wrongKinds (⟨ha, ht, al, re, un, ns, dr, co, da⟩ : Cfg) = false := h'
  have hag : isAgainst (⟨ha, ht, al, re, un, ns, dr, co, da⟩ : Cfg) = ((un.any fun r => inRules al r || inRules re r) || al.any fun r => r.attrs.any fun x => !ht || hasS ns x) := by
    rw [isAgainst, hw]
    exact against_eq _ _ _ _ _
  refine Run.loop [3] [1] [0] rfl (fun n vs bs => ∃ k : Nat, vs = [.int .i64 k] ∧ bs = [[.bool ha, .bool ht, .dat ⟨.rule, al⟩, .dat ⟨.rule, re⟩, .dat ⟨.rule, un⟩, .dat ⟨.str, ns⟩, .dat ⟨.str, dr⟩, .bool co, .bool da]] ∧ k ≤ un.length ∧ (∀ j < k, (inRules al (un.getD j ruleD) || inRules re (un.getD j ruleD)) = false) ∧ n = un.length - k) un.length ?_ ?_
  · simp only [push_cast, reduceIte, Nat.reduceEqDiff, Nat.reduceAdd, Nat.reduceSub, Nat.reduceLT, Int.reduceNeg, Int.reduceLE, Int.reduceLT, Int.reduceToNat, Nat.reduceLeDiff, UInt8.reduceOfNat, UInt8.reduceOfNatLT, and_self, Nat.reduceMul, decide_true, decide_false, Bool.not_true, Bool.not_false, implies_true]
    exact ⟨0, rfl, by omega, by simp, by omega⟩
  rintro n vs bs ⟨k, rfl, rfl, hk, hb, rfl⟩
  simp only [push_cast, reduceIte, Nat.reduceEqDiff, Nat.reduceAdd, Nat.reduceSub, Nat.reduceLT, Int.reduceNeg, Int.reduceLE, Int.reduceLT, Int.reduceToNat, Nat.reduceLeDiff, UInt8.reduceOfNat, UInt8.reduceOfNatLT, and_self, Nat.reduceMul, decide_true, decide_false, Bool.not_true, Bool.not_false, implies_true]
  apply vc_run 1000 (stop := false) rfl; simp only [push_cast, reduceIte, Nat.reduceEqDiff, Nat.reduceAdd, Nat.reduceSub, Nat.reduceLT, Int.reduceNeg, Int.reduceLE, Int.reduceLT, Int.reduceToNat, Nat.reduceLeDiff, UInt8.reduceOfNat, UInt8.reduceOfNatLT, and_self, Nat.reduceMul, decide_true, decide_false, Bool.not_true, Bool.not_false, implies_true]
  refine ⟨fun hlt => ?_, fun hge => ?_⟩
  · have hlt : k < un.length := by simpa using hlt
    simp only [gd_nat, fold_in]
    simp only [Bool.cond_true_left]
    refine ⟨by omega, by omega, fun _ => by omega, fun hy => ?_, fun hn => ⟨by constructor <;> omega, _, by omega, k + 1, rfl, by omega, below_step hb hn, rfl⟩⟩
    rw [checkCfg, h, hag, any_at (p := fun r => inRules al r || inRules re r) hlt hy]; rfl
  · have hge : k = un.length := by simp at hge; omega
    subst hge
    have hun := any_getD (p := fun r => inRules al r || inRules re r) hb
    rw [hun, Bool.false_or] at hag
    refine Run.loop [5] [1] [0] rfl (fun n vs bs => ∃ k : Nat, vs = [.int .i64 k] ∧ bs = [[.bool ha, .bool ht, .dat ⟨.rule, al⟩, .dat ⟨.rule, re⟩, .dat ⟨.rule, un⟩, .dat ⟨.str, ns⟩, .dat ⟨.str, dr⟩, .bool co, .bool da]] ∧ k ≤ al.length ∧ (∀ j < k, ((al.getD j ruleD).attrs.any fun x => !ht || hasS ns x) = false) ∧ n = al.length - k) al.length ?_ ?_
    · simp only [push_cast, reduceIte, Nat.reduceEqDiff, Nat.reduceAdd, Nat.reduceSub, Nat.reduceLT, Int.reduceNeg, Int.reduceLE, Int.reduceLT, Int.reduceToNat, Nat.reduceLeDiff, UInt8.reduceOfNat, UInt8.reduceOfNatLT, and_self, Nat.reduceMul, decide_true, decide_false, Bool.not_true, Bool.not_false, implies_true]
      exact ⟨0, rfl, by omega, by simp, by omega⟩
    rintro n vs bs ⟨k, rfl, rfl, hk, hb, rfl⟩
    simp only [push_cast, reduceIte, Nat.reduceEqDiff, Nat.reduceAdd, Nat.reduceSub, Nat.reduceLT, Int.reduceNeg, Int.reduceLE, Int.reduceLT, Int.reduceToNat, Nat.reduceLeDiff, UInt8.reduceOfNat, UInt8.reduceOfNatLT, and_self, Nat.reduceMul, decide_true, decide_false, Bool.not_true, Bool.not_false, implies_true]
    apply vc_run 1000 (stop := false) rfl; simp only [push_cast, reduceIte, Nat.reduceEqDiff, Nat.reduceAdd, Nat.reduceSub, Nat.reduceLT, Int.reduceNeg, Int.reduceLE, Int.reduceLT, Int.reduceToNat, Nat.reduceLeDiff, UInt8.reduceOfNat, UInt8.reduceOfNatLT, and_self, Nat.reduceMul, decide_true, decide_false, Bool.not_true, Bool.not_false, implies_true]
    refine ⟨fun hlt => ?_, fun hge => ?_⟩
    · have hlt : k < al.length := by simpa using hlt
      have hel := szL_at szRule ruleD hlt
      have hel2 := szL_len List.length (al.getD k ruleD).attrs
      simp only [szRule] at hel
      have h4 := szL_len List.length ns
      refine Run.loop [6] [1, 5] [0] rfl (fun n vs bs => ∃ i : Nat, vs = [.int .i64 i] ∧ bs = [[.bool ha, .bool ht, .dat ⟨.rule, al⟩, .dat ⟨.rule, re⟩, .dat ⟨.rule, un⟩, .dat ⟨.str, ns⟩, .dat ⟨.str, dr⟩, .bool co, .bool da]] ∧ i ≤ (al.getD k ruleD).attrs.length ∧ (∀ j < i, (!ht || hasS ns ((al.getD k ruleD).attrs.getD j [])) = false) ∧ n = (al.getD k ruleD).attrs.length - i) (al.getD k ruleD).attrs.length ?_ ?_
      · simp only [push_cast, reduceIte, Nat.reduceEqDiff, Nat.reduceAdd, Nat.reduceSub, Nat.reduceLT, Int.reduceNeg, Int.reduceLE, Int.reduceLT, Int.reduceToNat, Nat.reduceLeDiff, UInt8.reduceOfNat, UInt8.reduceOfNatLT, and_self, Nat.reduceMul, decide_true, decide_false, Bool.not_true, Bool.not_false, implies_true]
        exact ⟨0, rfl, by omega, by simp, by omega⟩
      rintro n vs bs ⟨i, rfl, rfl, hi, hib, rfl⟩
      simp only [push_cast, reduceIte, Nat.reduceEqDiff, Nat.reduceAdd, Nat.reduceSub, Nat.reduceLT, Int.reduceNeg, Int.reduceLE, Int.reduceLT, Int.reduceToNat, Nat.reduceLeDiff, UInt8.reduceOfNat, UInt8.reduceOfNatLT, and_self, Nat.reduceMul, decide_true, decide_false, Bool.not_true, Bool.not_false, implies_true]
      apply vc_run 1000 (stop := false) rfl; simp only [push_cast, reduceIte, Nat.reduceEqDiff, Nat.reduceAdd, Nat.reduceSub, Nat.reduceLT, Int.reduceNeg, Int.reduceLE, Int.reduceLT, Int.reduceToNat, Nat.reduceLeDiff, UInt8.reduceOfNat, UInt8.reduceOfNatLT, and_self, Nat.reduceMul, decide_true, decide_false, Bool.not_true, Bool.not_false, implies_true]
      simp only [gd_nat, Bool.cond_true_left]
      refine ⟨by omega, fun hlt2 => ?_, fun hge2 => ?_⟩
      · have hlt2 : i < (al.getD k ruleD).attrs.length := Int.ofNat_lt.1 (of_decide_eq_true hlt2)
        refine ⟨fun _ => by omega, fun _ => by omega, fun _ => by omega, fun hy => ?_, fun hn => ⟨by constructor <;> omega, _, by omega, i + 1, rfl, by omega, below_step hib hn, rfl⟩⟩
        rw [checkCfg, h, hag, any_at (p := fun r : Rule => r.attrs.any fun x => !ht || hasS ns x) hlt (any_at (p := fun x => !ht || hasS ns x) hlt2 hy)]; rfl
      · have hge2 : i = (al.getD k ruleD).attrs.length := by have := of_decide_eq_false hge2; omega
        subst hge2
        exact ⟨by constructor <;> omega, _, by omega, k + 1, rfl, by omega, below_step hb (any_getD (p := fun x => !ht || hasS ns x) hib), rfl⟩
    · have hge : k = al.length := by simp at hge; omega
      subst hge
      rw [checkCfg, h, hag, any_getD (p := fun r : Rule => r.attrs.any fun x => !ht || hasS ns x) hb]; rfl)
end Go.Ab
