/- The names of what is left. -/
import Derived.Test.YtnnbjffppfagkaaGreatFnLs
import Derived.Test.YtnnbjffppfagkaaGreatFnJ
set_option linter.all false
set_option linter.unusedSimpArgs false
set_option linter.unusedVariables false
set_option linter.unusedSectionVars false
set_option maxRecDepth 20000
set_option maxHeartbeats 1000000
namespace Go.Ab
open Go Go.Proofs.Tryz
def survR (l : List Node) (c : Cfg) : List Str := bif decide (askB l c = 0) then nmT (sanT c l) [] else []
theorem survR_sz {l : List Node} {c : Cfg} (h : szL szNd l ≤ 1048576) : szL List.length (survR l c) ≤ 1048576 := by
  unfold survR
  have h1 := nmT_szS (sanT c l) []
  have h3 := sanT_szL c l
  rw [szNds_eq] at h1
  have e : szL List.length ([] : List Str) = 0 := rfl
  cases decide (askB l c = 0) with
  | true => rw [cond_true]; omega
  | false => rw [cond_false, e]; omega
noncomputable def sp_surv : Spec := ⟨[.sl .node, .st .cfg], [.rd, .rd], false, fun
  | [.dat ⟨.node, l⟩, .agg [.bool ha, .bool ht, .dat ⟨.rule, al⟩, .dat ⟨.rule, re⟩, .dat ⟨.rule, un⟩, .dat ⟨.str, ns⟩, .dat ⟨.str, dr⟩, .bool co, .bool da]] => some (some (szL szNd l ≤ 1048576 ∧ szCfg ⟨ha, ht, al, re, un, ns, dr, co, da⟩ ≤ 1048576), .tup [.own true ⟨.str, survR l ⟨ha, ht, al, re, un, ns, dr, co, da⟩⟩, .int .i64 (askB l ⟨ha, ht, al, re, un, ns, dr, co, da⟩)], [])
  | _ => none⟩
@[push_cast] theorem sp_surv_ps : sp_surv.ps = [.sl .node, .st .cfg] := rfl
@[push_cast] theorem sp_surv_md : sp_surv.modes = [.rd, .rd] := rfl
@[push_cast] theorem sp_surv_pure : sp_surv.pure = false := rfl
@[push_cast] theorem sp_surv_run (l : List Node) (ha ht : Bool) (al re un : List Rule) (ns dr : List Str) (co da : Bool) : sp_surv.run [.dat ⟨.node, l⟩, .agg [.bool ha, .bool ht, .dat ⟨.rule, al⟩, .dat ⟨.rule, re⟩, .dat ⟨.rule, un⟩, .dat ⟨.str, ns⟩, .dat ⟨.str, dr⟩, .bool co, .bool da]] = some (some (szL szNd l ≤ 1048576 ∧ szCfg ⟨ha, ht, al, re, un, ns, dr, co, da⟩ ≤ 1048576), .tup [.own true ⟨.str, survR l ⟨ha, ht, al, re, un, ns, dr, co, da⟩⟩, .int .i64 (askB l ⟨ha, ht, al, re, un, ns, dr, co, da⟩)], []) := rfl
noncomputable def e_surv : Env := mk [(39, sp_askB), (41, sp_sanA), (51, sp_namesT)] [] [(2000000, [.nil .str 4])] [] none
@[push_cast] theorem e_surv_in : e_surv.inl = inlF [] := rfl
@[push_cast] theorem e_surv_fn : e_surv.fnd = fndF none := rfl
@[push_cast] theorem e_surv_gh : e_surv.gh = ghOf [(2000000, [.nil .str 4])] := rfl
@[push_cast] theorem e_surv_dr : e_surv.dr = drOf [] := rfl
@[push_cast] theorem e_surv_td : e_surv.td = td := rfl
@[push_cast] theorem e_surv_eqt : e_surv.eqt = eqt := rfl
@[push_cast] theorem e_surv_cal : e_surv.cal = calOf [(39, sp_askB), (41, sp_sanA), (51, sp_namesT)] := rfl
theorem c_surv : CRow P0 ety0 26 sp_surv := CRow.of (E := e_surv) (mkOk (.cons c_faultBoth (.cons c_sanitA (.cons c_names (.nil))))) func26 rfl rfl rfl (by
  intro args p r outs h hq
  simp only [sp_surv] at h; split at h <;> cases h
  rename_i l ha ht al re un ns dr co da
  obtain ⟨hz, hc⟩ := hq _ rfl
  have hsz := sanT_szL ⟨ha, ht, al, re, un, ns, dr, co, da⟩ l
  refine Body.intro (rs := [.tmp 4, .tmp 5]) rfl rfl rfl ?_
  apply vc_run 1000 (stop := false) rfl; simp only [push_cast, reduceIte, Nat.reduceEqDiff, Nat.reduceAdd, Nat.reduceSub, Nat.reduceLT, Int.reduceNeg, Int.reduceLE, Int.reduceLT, Int.reduceToNat, Nat.reduceLeDiff, UInt8.reduceOfNat, UInt8.reduceOfNatLT, and_self, Nat.reduceMul, decide_true, decide_false, Bool.not_true, Bool.not_false, implies_true]
  refine ⟨⟨hz, hc⟩, fun h => ?_, fun h => ?_⟩
  · rw [survR, show decide (askB l ⟨ha, ht, al, re, un, ns, dr, co, da⟩ = 0) = false by simpa using h]; rfl
  · have hA : askB l ⟨ha, ht, al, re, un, ns, dr, co, da⟩ = 0 := by simpa using h
    have hok := treeOK_ok (askT_0 (askB_0 hA)).2
    rw [survR, hA]
    exact ⟨⟨hz, hc, hok⟩, by omega, rfl⟩)
noncomputable def e_surv2 : Env := mk [(33, sp_askB), (35, sp_sanA), (50, sp_namesA)] [] [] [] none
@[push_cast] theorem e_surv2_in : e_surv2.inl = inlF [] := rfl
@[push_cast] theorem e_surv2_fn : e_surv2.fnd = fndF none := rfl
@[push_cast] theorem e_surv2_gh : e_surv2.gh = ghOf [] := rfl
@[push_cast] theorem e_surv2_dr : e_surv2.dr = drOf [] := rfl
@[push_cast] theorem e_surv2_td : e_surv2.td = td := rfl
@[push_cast] theorem e_surv2_eqt : e_surv2.eqt = eqt := rfl
@[push_cast] theorem e_surv2_cal : e_surv2.cal = calOf [(33, sp_askB), (35, sp_sanA), (50, sp_namesA)] := rfl
theorem c_surv2 : CRow P0 ety0 25 sp_surv := CRow.of (E := e_surv2) (mkOk (.cons c_l08Ask (.cons c_l08Tree (.cons c_l03Names (.nil))))) func25 rfl rfl rfl (by
  intro args p r outs h hq
  simp only [sp_surv] at h; split at h <;> cases h
  rename_i l ha ht al re un ns dr co da
  obtain ⟨hz, hc⟩ := hq _ rfl
  have hsz := sanT_szL ⟨ha, ht, al, re, un, ns, dr, co, da⟩ l
  refine Body.intro (rs := [.tmp 4, .tmp 5]) rfl rfl rfl ?_
  apply vc_run 1000 (stop := false) rfl; simp only [push_cast, reduceIte, Nat.reduceEqDiff, Nat.reduceAdd, Nat.reduceSub, Nat.reduceLT, Int.reduceNeg, Int.reduceLE, Int.reduceLT, Int.reduceToNat, Nat.reduceLeDiff, UInt8.reduceOfNat, UInt8.reduceOfNatLT, and_self, Nat.reduceMul, decide_true, decide_false, Bool.not_true, Bool.not_false, implies_true]
  rw [len_4096]
  refine ⟨fun h => ?_, fun _ => ⟨⟨hz, hc⟩, fun h => ?_, fun h => ?_⟩⟩
  · rw [survR, askB_long (of_decide_eq_true h)]; rfl
  · rw [survR, show decide (askB l ⟨ha, ht, al, re, un, ns, dr, co, da⟩ = 0) = false by simpa using h]; rfl
  · have hA : askB l ⟨ha, ht, al, re, un, ns, dr, co, da⟩ = 0 := by simpa using h
    have hok := treeOK_ok (askT_0 (askB_0 hA)).2
    rw [survR, hA]
    exact ⟨⟨hz, hc, hok⟩, by omega, rfl⟩)
noncomputable def sp_lawSurvivors : Spec := ⟨[.sl .node, .st .cfg], [.rd, .rd], true, fun
  | [.dat ⟨.node, l⟩, .agg [.bool ha, .bool ht, .dat ⟨.rule, al⟩, .dat ⟨.rule, re⟩, .dat ⟨.rule, un⟩, .dat ⟨.str, ns⟩, .dat ⟨.str, dr⟩, .bool co, .bool da]] => some (some (fitL fitNd l ∧ fitCfg ⟨ha, ht, al, re, un, ns, dr, co, da⟩), .bool true, [])
  | _ => none⟩
@[push_cast] theorem sp_lawSurvivors_ps : sp_lawSurvivors.ps = [.sl .node, .st .cfg] := rfl
@[push_cast] theorem sp_lawSurvivors_md : sp_lawSurvivors.modes = [.rd, .rd] := rfl
@[push_cast] theorem sp_lawSurvivors_pure : sp_lawSurvivors.pure = true := rfl
@[push_cast] theorem sp_lawSurvivors_run (l : List Node) (ha ht : Bool) (al re un : List Rule) (ns dr : List Str) (co da : Bool) : sp_lawSurvivors.run [.dat ⟨.node, l⟩, .agg [.bool ha, .bool ht, .dat ⟨.rule, al⟩, .dat ⟨.rule, re⟩, .dat ⟨.rule, un⟩, .dat ⟨.str, ns⟩, .dat ⟨.str, dr⟩, .bool co, .bool da]] = some (some (fitL fitNd l ∧ fitCfg ⟨ha, ht, al, re, un, ns, dr, co, da⟩), .bool true, []) := rfl
noncomputable def e_lawSurvivors : Env := mk [(8, sp_szNodeS), (9, sp_szConfig), (11, sp_toNodeS), (12, sp_toConfig), (14, sp_eqNodeS), (15, sp_eqConfig), (27, sp_eqStringS), (22, sp_mkNodes), (23, sp_mkCfg), (28, sp_mkStrs), (29, sp_hdStrs), (26, sp_surv), (25, sp_surv)] [(8, [1, 3, 4], [[], [], [0]]), (16, [2], [[1]]), (31, [1, 3, 4], [[], [], [0]])] [] [] none
@[push_cast] theorem e_lawSurvivors_in : e_lawSurvivors.inl = inlF [] := rfl
@[push_cast] theorem e_lawSurvivors_fn : e_lawSurvivors.fnd = fndF none := rfl
@[push_cast] theorem e_lawSurvivors_gh : e_lawSurvivors.gh = ghOf [] := rfl
@[push_cast] theorem e_lawSurvivors_dr : e_lawSurvivors.dr = drOf [(8, [1, 3, 4], [[], [], [0]]), (16, [2], [[1]]), (31, [1, 3, 4], [[], [], [0]])] := rfl
@[push_cast] theorem e_lawSurvivors_td : e_lawSurvivors.td = td := rfl
@[push_cast] theorem e_lawSurvivors_eqt : e_lawSurvivors.eqt = eqt := rfl
@[push_cast] theorem e_lawSurvivors_cal : e_lawSurvivors.cal = calOf [(8, sp_szNodeS), (9, sp_szConfig), (11, sp_toNodeS), (12, sp_toConfig), (14, sp_eqNodeS), (15, sp_eqConfig), (27, sp_eqStringS), (22, sp_mkNodes), (23, sp_mkCfg), (28, sp_mkStrs), (29, sp_hdStrs), (26, sp_surv), (25, sp_surv)] := rfl
theorem c_lawSurvivors : CRow P0 ety0 7 sp_lawSurvivors := CRow.of (E := e_lawSurvivors) (mkOk (.cons c_szNodeS (.cons c_szConfig (.cons c_toNodeS (.cons c_toConfig (.cons c_eqNodeS (.cons c_eqConfig (.cons c_eqStringS (.cons c_mkNodes (.cons c_mkCfg (.cons c_mkStrs (.cons c_hdStrs (.cons c_surv (.cons c_surv2 (.nil))))))))))))))) func7 rfl rfl rfl (by
  intro args p r outs h hq
  simp only [sp_lawSurvivors] at h; split at h <;> cases h
  rename_i l ha ht al re un ns dr co da
  obtain ⟨hl, hf⟩ := hq _ rfl
  refine Body.intro (rs := [.tmp 4]) rfl rfl rfl ?_
  apply vc_run 1000 (stop := false) rfl; simp only [push_cast, reduceIte, Nat.reduceEqDiff, Nat.reduceAdd, Nat.reduceSub, Nat.reduceLT, Int.reduceNeg, Int.reduceLE, Int.reduceLT, Int.reduceToNat, Nat.reduceLeDiff, UInt8.reduceOfNat, UInt8.reduceOfNatLT, and_self, Nat.reduceMul, decide_true, decide_false, Bool.not_true, Bool.not_false, implies_true]
  refine ⟨hl, fun h => ?_⟩
  obtain ⟨a1, a2, a3, a4⟩ := szR_le (of_decide_eq_false h) (by omega)
  refine ⟨⟨a1, a2, hf⟩, fun h2 => ?_⟩
  obtain ⟨b1, b2, b3, b4⟩ := szR_le (of_decide_eq_false h2) a1
  have k1 : szL szNd l ≤ 1048576 := by omega
  have k2 : szCfg ⟨ha, ht, al, re, un, ns, dr, co, da⟩ ≤ 1048576 := by omega
  have k3 := survR_sz (c := ⟨ha, ht, al, re, un, ns, dr, co, da⟩) k1
  have k7 := szL_len List.length (survR l ⟨ha, ht, al, re, un, ns, dr, co, da⟩)
  have k4 := sumNd_sz l
  have k5 := sum_one (survR l ⟨ha, ht, al, re, un, ns, dr, co, da⟩)
  have k6 := cCf_sz ⟨ha, ht, al, re, un, ns, dr, co, da⟩
  clear hq h h2 a1 a2 a3 a4 b1 b2 b3 b4
  simp only [eqB_self, Bool.not_true, cond_true, cond_false, decide_true, forall_const, reduceCtorEq, false_implies, implies_true, true_and, and_true]
  generalize survR l ⟨ha, ht, al, re, un, ns, dr, co, da⟩ = R at *
  generalize szCfg ⟨ha, ht, al, re, un, ns, dr, co, da⟩ = zc at *
  generalize cCf ⟨ha, ht, al, re, un, ns, dr, co, da⟩ = cc at *
  have n1 : decide ((1 : Int) + (sumL cNd l : Nat) + (cc : Nat) < 0) = false := decide_eq_false (by omega)
  have n2 : decide ((1 : Int) + (sumL one1 R : Nat) < 0) = false := decide_eq_false (by omega)
  have n3 : Mkd mkSt one1 (mkL mkSt one1 R 1) 1 := (mkL_idem mkSt one1 (fun _ _ => rfl) (fun _ _ => rfl) R 1).symm
  have ns : sumL one1 (mkL mkSt one1 R 1) = sumL one1 R := mkL_sum mkSt one1 (fun _ _ => rfl) R 1
  simp only [ns, n1, n2, n3, cond_false, decide_true, Bool.not_true, reduceCtorEq, false_implies, implies_true, forall_const, and_true, true_and]
  have n5 : (1 : Int) + (sumL cNd l : Nat) ≤ 1073741824 := by omega
  have n6 : (0 : Int) ≤ 1 + (sumL cNd l : Nat) ∧ (1 : Int) + (sumL cNd l : Nat) + (cc : Nat) ≤ 1073741824 := by omega
  have n7 : (1 : Int) + (sumL one1 R : Nat) ≤ 1073741824 := by omega
  simp only [k1, k2, k3, n5, n6, n7, and_self])
end Go.Ab
