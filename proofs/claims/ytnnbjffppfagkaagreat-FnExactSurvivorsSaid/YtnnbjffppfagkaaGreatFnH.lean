/- A law's work with configurations. -/
import Derived.Test.YtnnbjffppfagkaaGreatFnE
set_option linter.all false
set_option linter.unusedSimpArgs false
set_option linter.unusedVariables false
set_option linter.unusedSectionVars false
set_option maxRecDepth 20000
set_option maxHeartbeats 1000000
namespace Go.Ab
open Go Go.Proofs.Tryz
def fitCfg (c : Cfg) : Prop := fitL fitRule c.allow ∧ fitL fitRule c.remove ∧ fitL fitRule c.unwrap ∧ fitL fitStr c.attrs ∧ fitL fitStr c.drop
theorem szR_fold {n : Int} {a b : Nat} (h : 0 ≤ szR a n) (h0 : 0 ≤ n) : szR b (szR a n) = szR (a + b) n := szR_add (fun hn => by rw [← szR_lt h0] at hn; omega)
theorem szR_out {n : Int} {a b : Nat} (h : szR a n < 0) (h0 : 0 ≤ n) : -1 = szR (a + b) n := (szR_neg b h0 ((szR_lt h0).1 h)).symm
theorem szR_neg' {n : Int} {a c : Nat} (h : decide (szR a n < 0) = true) (h0 : 0 ≤ n) (hc : a ≤ c) : -1 = szR c n := by
  have h := (szR_lt h0).1 (of_decide_eq_true h)
  unfold szR; rw [if_pos (by omega)]
theorem szR_pos {n : Int} {a : Nat} (h : decide (szR a n < 0) = false) : 0 ≤ szR a n := by have := of_decide_eq_false h; omega
theorem szR_top {n : Int} {a : Nat} (h0 : 0 ≤ n) (h : 0 ≤ szR a n) : szR a n ≤ n := by unfold szR at *; split at h <;> (try rw [if_neg (by assumption)]) <;> omega
noncomputable def sp_szConfig : Spec := ⟨[.st .cfg, .sc], [.rd, .rd], true, fun
  | [.agg [.bool ha, .bool ht, .dat ⟨.rule, al⟩, .dat ⟨.rule, re⟩, .dat ⟨.rule, un⟩, .dat ⟨.str, ns⟩, .dat ⟨.str, dr⟩, .bool co, .bool da], .int .i64 n] => some (some (0 ≤ n ∧ n ≤ 1048576 ∧ fitCfg ⟨ha, ht, al, re, un, ns, dr, co, da⟩), .int .i64 (szR (szCfg ⟨ha, ht, al, re, un, ns, dr, co, da⟩) n), [])
  | _ => none⟩
@[push_cast] theorem sp_szConfig_ps : sp_szConfig.ps = [.st .cfg, .sc] := rfl
@[push_cast] theorem sp_szConfig_md : sp_szConfig.modes = [.rd, .rd] := rfl
@[push_cast] theorem sp_szConfig_pure : sp_szConfig.pure = true := rfl
@[push_cast] theorem sp_szConfig_run (ha ht : Bool) (al re un : List Rule) (ns dr : List Str) (co da : Bool) (n : Int) : sp_szConfig.run [.agg [.bool ha, .bool ht, .dat ⟨.rule, al⟩, .dat ⟨.rule, re⟩, .dat ⟨.rule, un⟩, .dat ⟨.str, ns⟩, .dat ⟨.str, dr⟩, .bool co, .bool da], .int .i64 n] = some (some (0 ≤ n ∧ n ≤ 1048576 ∧ fitCfg ⟨ha, ht, al, re, un, ns, dr, co, da⟩), .int .i64 (szR (szCfg ⟨ha, ht, al, re, un, ns, dr, co, da⟩) n), []) := rfl
noncomputable def e_szConfig : Env := mk [(31, sp_szRuleS), (32, sp_szStringS)] [] [] [] none
@[push_cast] theorem e_szConfig_in : e_szConfig.inl = inlF [] := rfl
@[push_cast] theorem e_szConfig_fn : e_szConfig.fnd = fndF none := rfl
@[push_cast] theorem e_szConfig_gh : e_szConfig.gh = ghOf [] := rfl
@[push_cast] theorem e_szConfig_dr : e_szConfig.dr = drOf [] := rfl
@[push_cast] theorem e_szConfig_td : e_szConfig.td = td := rfl
@[push_cast] theorem e_szConfig_eqt : e_szConfig.eqt = eqt := rfl
@[push_cast] theorem e_szConfig_cal : e_szConfig.cal = calOf [(31, sp_szRuleS), (32, sp_szStringS)] := rfl
theorem c_szConfig : CRow P0 ety0 9 sp_szConfig := CRow.of (E := e_szConfig) (mkOk (.cons c_szRuleS (.cons c_szStringS (.nil)))) func9 rfl rfl rfl (by
  intro args p r outs h hq
  simp only [sp_szConfig] at h; split at h <;> cases h
  rename_i ha ht al re un ns dr co da n
  obtain ⟨h0, h1, f1, f2, f3, f4, f5⟩ := hq _ rfl
  obtain ⟨m, hm⟩ : ∃ m, m = szCfg ⟨ha, ht, al, re, un, ns, dr, co, da⟩ := ⟨_, rfl⟩
  simp only [← hm]
  have hm' := hm
  simp only [szCfg] at hm'
  refine Body.intro (rs := [.tmp 4]) rfl rfl rfl ?_
  apply vc_run 1000 (stop := false) rfl; simp only [push_cast, reduceIte, Nat.reduceEqDiff, Nat.reduceAdd, Nat.reduceSub, Nat.reduceLT, Int.reduceNeg, Int.reduceLE, Int.reduceLT, Int.reduceToNat, Nat.reduceLeDiff, UInt8.reduceOfNat, UInt8.reduceOfNatLT, and_self, Nat.reduceMul, decide_true, decide_false, Bool.not_true, Bool.not_false, implies_true]
  refine ⟨⟨h0, h1, f1⟩, fun h => congrArg _ (szR_neg' h h0 (by omega)), fun h => ?_⟩
  have p := szR_pos h
  have t := szR_top h0 p
  simp only [szR_fold p h0]
  refine ⟨⟨p, by omega, f2⟩, fun h => congrArg _ (szR_neg' h h0 (by omega)), fun h => ?_⟩
  have p := szR_pos h
  have t := szR_top h0 p
  simp only [szR_fold p h0]
  refine ⟨⟨p, by omega, f3⟩, fun h => congrArg _ (szR_neg' h h0 (by omega)), fun h => ?_⟩
  have p := szR_pos h
  have t := szR_top h0 p
  simp only [szR_fold p h0]
  refine ⟨⟨p, by omega, f4⟩, fun h => congrArg _ (szR_neg' h h0 (by omega)), fun h => ?_⟩
  have p := szR_pos h
  have t := szR_top h0 p
  simp only [szR_fold p h0]
  refine ⟨⟨p, by omega, f5⟩, fun h => congrArg _ (szR_neg' h h0 (by omega)), fun h => ?_⟩
  rw [hm'])
noncomputable def sp_toConfig : Spec := ⟨[.st .cfg], [.rd], false, fun
  | [.agg [.bool ha, .bool ht, .dat ⟨.rule, al⟩, .dat ⟨.rule, re⟩, .dat ⟨.rule, un⟩, .dat ⟨.str, ns⟩, .dat ⟨.str, dr⟩, .bool co, .bool da]] => some (some (szCfg ⟨ha, ht, al, re, un, ns, dr, co, da⟩ ≤ 1048576), .agg [.bool ha, .bool ht, .own true ⟨.rule, al⟩, .own true ⟨.rule, re⟩, .own true ⟨.rule, un⟩, .own true ⟨.str, ns⟩, .own true ⟨.str, dr⟩, .bool co, .bool da], [])
  | _ => none⟩
@[push_cast] theorem sp_toConfig_ps : sp_toConfig.ps = [.st .cfg] := rfl
@[push_cast] theorem sp_toConfig_md : sp_toConfig.modes = [.rd] := rfl
@[push_cast] theorem sp_toConfig_pure : sp_toConfig.pure = false := rfl
@[push_cast] theorem sp_toConfig_run (ha ht : Bool) (al re un : List Rule) (ns dr : List Str) (co da : Bool) : sp_toConfig.run [.agg [.bool ha, .bool ht, .dat ⟨.rule, al⟩, .dat ⟨.rule, re⟩, .dat ⟨.rule, un⟩, .dat ⟨.str, ns⟩, .dat ⟨.str, dr⟩, .bool co, .bool da]] = some (some (szCfg ⟨ha, ht, al, re, un, ns, dr, co, da⟩ ≤ 1048576), .agg [.bool ha, .bool ht, .own true ⟨.rule, al⟩, .own true ⟨.rule, re⟩, .own true ⟨.rule, un⟩, .own true ⟨.str, ns⟩, .own true ⟨.str, dr⟩, .bool co, .bool da], []) := rfl
noncomputable def e_toConfig : Env := mk [(37, sp_toRuleS), (38, sp_toStringS)] [] [] [] none
@[push_cast] theorem e_toConfig_in : e_toConfig.inl = inlF [] := rfl
@[push_cast] theorem e_toConfig_fn : e_toConfig.fnd = fndF none := rfl
@[push_cast] theorem e_toConfig_gh : e_toConfig.gh = ghOf [] := rfl
@[push_cast] theorem e_toConfig_dr : e_toConfig.dr = drOf [] := rfl
@[push_cast] theorem e_toConfig_td : e_toConfig.td = td := rfl
@[push_cast] theorem e_toConfig_eqt : e_toConfig.eqt = eqt := rfl
@[push_cast] theorem e_toConfig_cal : e_toConfig.cal = calOf [(37, sp_toRuleS), (38, sp_toStringS)] := rfl
theorem c_toConfig : CRow P0 ety0 12 sp_toConfig := CRow.of (E := e_toConfig) (mkOk (.cons c_toRuleS (.cons c_toStringS (.nil)))) func12 rfl rfl rfl (by
  intro args p r outs h hq
  simp only [sp_toConfig] at h; split at h <;> cases h
  rename_i ha ht al re un ns dr co da
  have hz := hq _ rfl
  simp only [szCfg] at hz
  refine Body.intro (rs := [.cell 2 35]) rfl rfl rfl ?_
  apply vc_run 1000 (stop := false) rfl; simp only [push_cast, reduceIte, Nat.reduceEqDiff, Nat.reduceAdd, Nat.reduceSub, Nat.reduceLT, Int.reduceNeg, Int.reduceLE, Int.reduceLT, Int.reduceToNat, Nat.reduceLeDiff, UInt8.reduceOfNat, UInt8.reduceOfNatLT, and_self, Nat.reduceMul, decide_true, decide_false, Bool.not_true, Bool.not_false, implies_true]
  exact ⟨by omega, by omega, by omega, by omega, by omega⟩)
noncomputable def sp_eqConfig : Spec := ⟨[.st .cfg, .st .cfg], [.rd, .rd], true, fun
  | [.agg [.bool ha, .bool ht, .dat ⟨.rule, al⟩, .dat ⟨.rule, re⟩, .dat ⟨.rule, un⟩, .dat ⟨.str, ns⟩, .dat ⟨.str, dr⟩, .bool co, .bool da], .agg [.bool ha2, .bool ht2, .dat ⟨.rule, al2⟩, .dat ⟨.rule, re2⟩, .dat ⟨.rule, un2⟩, .dat ⟨.str, ns2⟩, .dat ⟨.str, dr2⟩, .bool co2, .bool da2]] => some (some (szCfg ⟨ha, ht, al, re, un, ns, dr, co, da⟩ ≤ 1048576), .bool (eqB (⟨ha, ht, al, re, un, ns, dr, co, da⟩ : Cfg) ⟨ha2, ht2, al2, re2, un2, ns2, dr2, co2, da2⟩), [])
  | _ => none⟩
@[push_cast] theorem sp_eqConfig_ps : sp_eqConfig.ps = [.st .cfg, .st .cfg] := rfl
@[push_cast] theorem sp_eqConfig_md : sp_eqConfig.modes = [.rd, .rd] := rfl
@[push_cast] theorem sp_eqConfig_pure : sp_eqConfig.pure = true := rfl
@[push_cast] theorem sp_eqConfig_run (ha ht ha2 ht2 : Bool) (al re un al2 re2 un2 : List Rule) (ns dr ns2 dr2 : List Str) (co da co2 da2 : Bool) : sp_eqConfig.run [.agg [.bool ha, .bool ht, .dat ⟨.rule, al⟩, .dat ⟨.rule, re⟩, .dat ⟨.rule, un⟩, .dat ⟨.str, ns⟩, .dat ⟨.str, dr⟩, .bool co, .bool da], .agg [.bool ha2, .bool ht2, .dat ⟨.rule, al2⟩, .dat ⟨.rule, re2⟩, .dat ⟨.rule, un2⟩, .dat ⟨.str, ns2⟩, .dat ⟨.str, dr2⟩, .bool co2, .bool da2]] = some (some (szCfg ⟨ha, ht, al, re, un, ns, dr, co, da⟩ ≤ 1048576), .bool (eqB (⟨ha, ht, al, re, un, ns, dr, co, da⟩ : Cfg) ⟨ha2, ht2, al2, re2, un2, ns2, dr2, co2, da2⟩), []) := rfl
noncomputable def e_eqConfig : Env := mk [(43, sp_eqRuleS), (27, sp_eqStringS)] [] [] [] none
@[push_cast] theorem e_eqConfig_in : e_eqConfig.inl = inlF [] := rfl
@[push_cast] theorem e_eqConfig_fn : e_eqConfig.fnd = fndF none := rfl
@[push_cast] theorem e_eqConfig_gh : e_eqConfig.gh = ghOf [] := rfl
@[push_cast] theorem e_eqConfig_dr : e_eqConfig.dr = drOf [] := rfl
@[push_cast] theorem e_eqConfig_td : e_eqConfig.td = td := rfl
@[push_cast] theorem e_eqConfig_eqt : e_eqConfig.eqt = eqt := rfl
@[push_cast] theorem e_eqConfig_cal : e_eqConfig.cal = calOf [(43, sp_eqRuleS), (27, sp_eqStringS)] := rfl
theorem c_eqConfig : CRow P0 ety0 15 sp_eqConfig := CRow.of (E := e_eqConfig) (mkOk (.cons c_eqRuleS (.cons c_eqStringS (.nil)))) func15 rfl rfl rfl (by
  intro args p r outs h hq
  simp only [sp_eqConfig] at h; split at h <;> cases h
  rename_i ha ht al re un ns dr co da ha2 ht2 al2 re2 un2 ns2 dr2 co2 da2
  have hz := hq _ rfl
  simp only [szCfg] at hz
  refine Body.intro (rs := [.tmp 4]) rfl rfl rfl ?_
  apply vc_run 1000 (stop := false) rfl; simp only [push_cast, reduceIte, Nat.reduceEqDiff, Nat.reduceAdd, Nat.reduceSub, Nat.reduceLT, Int.reduceNeg, Int.reduceLE, Int.reduceLT, Int.reduceToNat, Nat.reduceLeDiff, UInt8.reduceOfNat, UInt8.reduceOfNatLT, and_self, Nat.reduceMul, decide_true, decide_false, Bool.not_true, Bool.not_false, implies_true]
  refine ⟨fun h => ?_, fun h1 => ⟨fun h => ?_, fun h2 => ⟨by omega, fun h => ?_, fun h3 => ⟨by omega, fun h => ?_, fun h4 => ⟨by omega, fun h => ?_, fun h5 => ⟨by omega, fun h => ?_, fun h6 => ⟨by omega, fun h => ?_, fun h7 => ⟨fun h => ?_, fun h8 => ?_⟩⟩⟩⟩⟩⟩⟩⟩
  · rw [eqB_ne]; intro e; cases e; simp at h
  · rw [eqB_ne]; intro e; cases e; simp at h
  · rw [eqB_ne]; intro e; cases e; exact eqB_yes h rfl
  · rw [eqB_ne]; intro e; cases e; exact eqB_yes h rfl
  · rw [eqB_ne]; intro e; cases e; exact eqB_yes h rfl
  · rw [eqB_ne]; intro e; cases e; exact eqB_yes h rfl
  · rw [eqB_ne]; intro e; cases e; exact eqB_yes h rfl
  · rw [eqB_ne]; intro e; cases e; simp at h
  refine ⟨fun h => ?_, fun h9 => ?_⟩
  · rw [eqB_ne]; intro e; cases e; simp at h
  · simp at h1 h2 h8 h9
    rw [h1, h2, h8, h9, eqB_not h3, eqB_not h4, eqB_not h5, eqB_not h6, eqB_not h7, eqB_of rfl])
end Go.Ab
