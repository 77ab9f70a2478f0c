/- How many nodes fewer there are. -/
import Derived.Test.YtnnbjffppfagkaaGreatFnL
import Derived.Test.YtnnbjffppfagkaaGreatFnN
set_option linter.all false
set_option linter.unusedSimpArgs false
set_option linter.unusedVariables false
set_option linter.unusedSectionVars false
set_option maxRecDepth 20000
set_option maxHeartbeats 1000000
namespace Go.Ab
open Go Go.Proofs.Tryz
def fewer (l : List Node) (c : Cfg) : Int := bif decide (askB l c = 0) then (cntNds l : Int) - cntNds (sanT c l) else 0
noncomputable def sp_removed : Spec := ⟨[.sl .node, .st .cfg], [.rd, .rd], true, fun
  | [.dat ⟨.node, l⟩, .agg [.bool ha, .bool ht, .dat ⟨.rule, al⟩, .dat ⟨.rule, re⟩, .dat ⟨.rule, un⟩, .dat ⟨.str, ns⟩, .dat ⟨.str, dr⟩, .bool co, .bool da]] => some (some (szL szNd l ≤ 1048576 ∧ szCfg ⟨ha, ht, al, re, un, ns, dr, co, da⟩ ≤ 1048576), .tup [.int .i64 (fewer l ⟨ha, ht, al, re, un, ns, dr, co, da⟩), .int .i64 (askB l ⟨ha, ht, al, re, un, ns, dr, co, da⟩)], [])
  | _ => none⟩
@[push_cast] theorem sp_removed_ps : sp_removed.ps = [.sl .node, .st .cfg] := rfl
@[push_cast] theorem sp_removed_md : sp_removed.modes = [.rd, .rd] := rfl
@[push_cast] theorem sp_removed_pure : sp_removed.pure = true := rfl
@[push_cast] theorem sp_removed_run (l : List Node) (ha ht : Bool) (al re un : List Rule) (ns dr : List Str) (co da : Bool) : sp_removed.run [.dat ⟨.node, l⟩, .agg [.bool ha, .bool ht, .dat ⟨.rule, al⟩, .dat ⟨.rule, re⟩, .dat ⟨.rule, un⟩, .dat ⟨.str, ns⟩, .dat ⟨.str, dr⟩, .bool co, .bool da]] = some (some (szL szNd l ≤ 1048576 ∧ szCfg ⟨ha, ht, al, re, un, ns, dr, co, da⟩ ≤ 1048576), .tup [.int .i64 (fewer l ⟨ha, ht, al, re, un, ns, dr, co, da⟩), .int .i64 (askB l ⟨ha, ht, al, re, un, ns, dr, co, da⟩)], []) := rfl
noncomputable def e_removed : Env := mk [(39, sp_askB), (41, sp_sanA), (45, sp_countT)] [(4, [4], [])] [] [] none
@[push_cast] theorem e_removed_in : e_removed.inl = inlF [] := rfl
@[push_cast] theorem e_removed_fn : e_removed.fnd = fndF none := rfl
@[push_cast] theorem e_removed_gh : e_removed.gh = ghOf [] := rfl
@[push_cast] theorem e_removed_dr : e_removed.dr = drOf [(4, [4], [])] := rfl
@[push_cast] theorem e_removed_td : e_removed.td = td := rfl
@[push_cast] theorem e_removed_eqt : e_removed.eqt = eqt := rfl
@[push_cast] theorem e_removed_cal : e_removed.cal = calOf [(39, sp_askB), (41, sp_sanA), (45, sp_countT)] := rfl
theorem c_removed : CRow P0 ety0 19 sp_removed := CRow.of (E := e_removed) (mkOk (.cons c_faultBoth (.cons c_sanitA (.cons c_countT (.nil))))) func19 rfl rfl rfl (by
  intro args p r outs h hq
  simp only [sp_removed] at h; split at h <;> cases h
  rename_i l ha ht al re un ns dr co da
  obtain ⟨hz, hc⟩ := hq _ rfl
  have hsz := sanT_szL ⟨ha, ht, al, re, un, ns, dr, co, da⟩ l
  have hc1 := cntNds_sz l
  have hc2 := cntNds_sz (sanT ⟨ha, ht, al, re, un, ns, dr, co, da⟩ l)
  rw [szNds_eq] at hc1 hc2
  refine Body.intro (rs := [.tmp 4, .tmp 5]) rfl rfl rfl ?_
  apply vc_run 1000 (stop := false) rfl; simp only [push_cast, reduceIte, Nat.reduceEqDiff, Nat.reduceAdd, Nat.reduceSub, Nat.reduceLT, Int.reduceNeg, Int.reduceLE, Int.reduceLT, Int.reduceToNat, Nat.reduceLeDiff, UInt8.reduceOfNat, UInt8.reduceOfNatLT, and_self, Nat.reduceMul, decide_true, decide_false, Bool.not_true, Bool.not_false, implies_true]
  refine ⟨⟨hz, hc⟩, fun h => ?_, fun h => ?_⟩
  · rw [fewer, show decide (askB l ⟨ha, ht, al, re, un, ns, dr, co, da⟩ = 0) = false by simpa using h]; rfl
  · have hA : askB l ⟨ha, ht, al, re, un, ns, dr, co, da⟩ = 0 := by simpa using h
    have hok := treeOK_ok (askT_0 (askB_0 hA)).2
    rw [fewer, hA]
    exact ⟨hz, ⟨hz, hc, hok⟩, by omega, by constructor <;> omega, rfl⟩)
noncomputable def e_removed2 : Env := mk [(33, sp_askB), (35, sp_sanA), (44, sp_countT)] [(6, [4], [])] [] [] none
@[push_cast] theorem e_removed2_in : e_removed2.inl = inlF [] := rfl
@[push_cast] theorem e_removed2_fn : e_removed2.fnd = fndF none := rfl
@[push_cast] theorem e_removed2_gh : e_removed2.gh = ghOf [] := rfl
@[push_cast] theorem e_removed2_dr : e_removed2.dr = drOf [(6, [4], [])] := rfl
@[push_cast] theorem e_removed2_td : e_removed2.td = td := rfl
@[push_cast] theorem e_removed2_eqt : e_removed2.eqt = eqt := rfl
@[push_cast] theorem e_removed2_cal : e_removed2.cal = calOf [(33, sp_askB), (35, sp_sanA), (44, sp_countT)] := rfl
theorem c_removed2 : CRow P0 ety0 18 sp_removed := CRow.of (E := e_removed2) (mkOk (.cons c_l08Ask (.cons c_l08Tree (.cons c_l03Count (.nil))))) func18 rfl rfl rfl (by
  intro args p r outs h hq
  simp only [sp_removed] at h; split at h <;> cases h
  rename_i l ha ht al re un ns dr co da
  obtain ⟨hz, hc⟩ := hq _ rfl
  have hsz := sanT_szL ⟨ha, ht, al, re, un, ns, dr, co, da⟩ l
  have hc1 := cntNds_sz l
  have hc2 := cntNds_sz (sanT ⟨ha, ht, al, re, un, ns, dr, co, da⟩ l)
  rw [szNds_eq] at hc1 hc2
  refine Body.intro (rs := [.tmp 4, .tmp 5]) rfl rfl rfl ?_
  apply vc_run 1000 (stop := false) rfl; simp only [push_cast, reduceIte, Nat.reduceEqDiff, Nat.reduceAdd, Nat.reduceSub, Nat.reduceLT, Int.reduceNeg, Int.reduceLE, Int.reduceLT, Int.reduceToNat, Nat.reduceLeDiff, UInt8.reduceOfNat, UInt8.reduceOfNatLT, and_self, Nat.reduceMul, decide_true, decide_false, Bool.not_true, Bool.not_false, implies_true]
  rw [len_4096]
  refine ⟨fun h => ?_, fun _ => ⟨⟨hz, hc⟩, fun h => ?_, fun h => ?_⟩⟩
  · rw [fewer, askB_long (of_decide_eq_true h)]; rfl
  · rw [fewer, show decide (askB l ⟨ha, ht, al, re, un, ns, dr, co, da⟩ = 0) = false by simpa using h]; rfl
  · have hA : askB l ⟨ha, ht, al, re, un, ns, dr, co, da⟩ = 0 := by simpa using h
    have hok := treeOK_ok (askT_0 (askB_0 hA)).2
    rw [fewer, hA]
    exact ⟨hz, ⟨hz, hc, hok⟩, by omega, by constructor <;> omega, rfl⟩)
noncomputable def sp_lawRemoved : Spec := ⟨[.sl .node, .st .cfg], [.rd, .rd], true, fun
  | [.dat ⟨.node, l⟩, .agg [.bool ha, .bool ht, .dat ⟨.rule, al⟩, .dat ⟨.rule, re⟩, .dat ⟨.rule, un⟩, .dat ⟨.str, ns⟩, .dat ⟨.str, dr⟩, .bool co, .bool da]] => some (some (fitL fitNd l ∧ fitCfg ⟨ha, ht, al, re, un, ns, dr, co, da⟩), .bool true, [])
  | _ => none⟩
@[push_cast] theorem sp_lawRemoved_ps : sp_lawRemoved.ps = [.sl .node, .st .cfg] := rfl
@[push_cast] theorem sp_lawRemoved_md : sp_lawRemoved.modes = [.rd, .rd] := rfl
@[push_cast] theorem sp_lawRemoved_pure : sp_lawRemoved.pure = true := rfl
@[push_cast] theorem sp_lawRemoved_run (l : List Node) (ha ht : Bool) (al re un : List Rule) (ns dr : List Str) (co da : Bool) : sp_lawRemoved.run [.dat ⟨.node, l⟩, .agg [.bool ha, .bool ht, .dat ⟨.rule, al⟩, .dat ⟨.rule, re⟩, .dat ⟨.rule, un⟩, .dat ⟨.str, ns⟩, .dat ⟨.str, dr⟩, .bool co, .bool da]] = some (some (fitL fitNd l ∧ fitCfg ⟨ha, ht, al, re, un, ns, dr, co, da⟩), .bool true, []) := rfl
noncomputable def e_lawRemoved : Env := mk [(8, sp_szNodeS), (9, sp_szConfig), (11, sp_toNodeS), (12, sp_toConfig), (14, sp_eqNodeS), (15, sp_eqConfig), (19, sp_removed), (18, sp_removed)] [(8, [1, 3], [[], [], [0]]), (16, [2], [[1]])] [] [] none
@[push_cast] theorem e_lawRemoved_in : e_lawRemoved.inl = inlF [] := rfl
@[push_cast] theorem e_lawRemoved_fn : e_lawRemoved.fnd = fndF none := rfl
@[push_cast] theorem e_lawRemoved_gh : e_lawRemoved.gh = ghOf [] := rfl
@[push_cast] theorem e_lawRemoved_dr : e_lawRemoved.dr = drOf [(8, [1, 3], [[], [], [0]]), (16, [2], [[1]])] := rfl
@[push_cast] theorem e_lawRemoved_td : e_lawRemoved.td = td := rfl
@[push_cast] theorem e_lawRemoved_eqt : e_lawRemoved.eqt = eqt := rfl
@[push_cast] theorem e_lawRemoved_cal : e_lawRemoved.cal = calOf [(8, sp_szNodeS), (9, sp_szConfig), (11, sp_toNodeS), (12, sp_toConfig), (14, sp_eqNodeS), (15, sp_eqConfig), (19, sp_removed), (18, sp_removed)] := rfl
theorem c_lawRemoved : CRow P0 ety0 5 sp_lawRemoved := CRow.of (E := e_lawRemoved) (mkOk (.cons c_szNodeS (.cons c_szConfig (.cons c_toNodeS (.cons c_toConfig (.cons c_eqNodeS (.cons c_eqConfig (.cons c_removed (.cons c_removed2 (.nil)))))))))) func5 rfl rfl rfl (by
  intro args p r outs h hq
  simp only [sp_lawRemoved] at h; split at h <;> cases h
  rename_i l ha ht al re un ns dr co da
  obtain ⟨hl, hf⟩ := hq _ rfl
  refine Body.intro (rs := [.tmp 4]) rfl rfl rfl ?_
  apply vc_run 1000 (stop := false) rfl; simp only [push_cast, reduceIte, Nat.reduceEqDiff, Nat.reduceAdd, Nat.reduceSub, Nat.reduceLT, Int.reduceNeg, Int.reduceLE, Int.reduceLT, Int.reduceToNat, Nat.reduceLeDiff, UInt8.reduceOfNat, UInt8.reduceOfNatLT, and_self, Nat.reduceMul, decide_true, decide_false, Bool.not_true, Bool.not_false, implies_true]
  refine ⟨hl, fun h => ?_⟩
  obtain ⟨a1, a2, a3, a4⟩ := szR_le (of_decide_eq_false h) (by omega)
  refine ⟨⟨a1, a2, hf⟩, fun h2 => ?_⟩
  obtain ⟨b1, b2, b3, b4⟩ := szR_le (of_decide_eq_false h2) a1
  have k1 : szL szNd l ≤ 1048576 := by omega
  have k2 : szCfg ⟨ha, ht, al, re, un, ns, dr, co, da⟩ ≤ 1048576 := by omega
  rw [eqB_of rfl, eqB_of rfl]
  exact ⟨k1, k2, ⟨k1, k2⟩, k1, k2, ⟨k1, k2⟩, fun h => h.elim, k1, k1, (fun h => by cases h), fun _ => ⟨k2, k2, fun h => by cases h⟩⟩)
end Go.Ab
