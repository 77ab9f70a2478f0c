/- What a configuration leaves of a tree, and that it is a tree of its own. -/
import Derived.Test.YtnnbjffppfagkaaGreatFnL
import Derived.Test.YtnnbjffppfagkaaGreatFnMn
set_option linter.all false
set_option linter.unusedSimpArgs false
set_option linter.unusedVariables false
set_option linter.unusedSectionVars false
set_option maxRecDepth 20000
set_option maxHeartbeats 1000000
namespace Go.Ab
open Go Go.Proofs.Tryz
def sanR (l : List Node) (c : Cfg) : List Node := bif decide (askB l c = 0) then sanT c l else []
theorem sanR_szL (l : List Node) (c : Cfg) : szL szNd (sanR l c) ≤ szL szNd l := by
  unfold sanR
  cases decide (askB l c = 0) with
  | true => exact sanT_szL c l
  | false => simp [szL, sumL]
noncomputable def sp_sanz : Spec := ⟨[.sl .node, .st .cfg], [.rd, .rd], false, fun
  | [.dat ⟨.node, l⟩, .agg [.bool ha, .bool ht, .dat ⟨.rule, al⟩, .dat ⟨.rule, re⟩, .dat ⟨.rule, un⟩, .dat ⟨.str, ns⟩, .dat ⟨.str, dr⟩, .bool co, .bool da]] => some (some (szL szNd l ≤ 1048576 ∧ szCfg ⟨ha, ht, al, re, un, ns, dr, co, da⟩ ≤ 1048576), .tup [.own true ⟨.node, sanR l ⟨ha, ht, al, re, un, ns, dr, co, da⟩⟩, .int .i64 (askB l ⟨ha, ht, al, re, un, ns, dr, co, da⟩)], [])
  | _ => none⟩
@[push_cast] theorem sp_sanz_ps : sp_sanz.ps = [.sl .node, .st .cfg] := rfl
@[push_cast] theorem sp_sanz_md : sp_sanz.modes = [.rd, .rd] := rfl
@[push_cast] theorem sp_sanz_pure : sp_sanz.pure = false := rfl
@[push_cast] theorem sp_sanz_run (l : List Node) (ha ht : Bool) (al re un : List Rule) (ns dr : List Str) (co da : Bool) : sp_sanz.run [.dat ⟨.node, l⟩, .agg [.bool ha, .bool ht, .dat ⟨.rule, al⟩, .dat ⟨.rule, re⟩, .dat ⟨.rule, un⟩, .dat ⟨.str, ns⟩, .dat ⟨.str, dr⟩, .bool co, .bool da]] = some (some (szL szNd l ≤ 1048576 ∧ szCfg ⟨ha, ht, al, re, un, ns, dr, co, da⟩ ≤ 1048576), .tup [.own true ⟨.node, sanR l ⟨ha, ht, al, re, un, ns, dr, co, da⟩⟩, .int .i64 (askB l ⟨ha, ht, al, re, un, ns, dr, co, da⟩)], []) := rfl
noncomputable def e_sanz : Env := mk [(39, sp_askB), (41, sp_sanA)] [] [(2000000, [.nil .node 4])] [] none
@[push_cast] theorem e_sanz_in : e_sanz.inl = inlF [] := rfl
@[push_cast] theorem e_sanz_fn : e_sanz.fnd = fndF none := rfl
@[push_cast] theorem e_sanz_gh : e_sanz.gh = ghOf [(2000000, [.nil .node 4])] := rfl
@[push_cast] theorem e_sanz_dr : e_sanz.dr = drOf [] := rfl
@[push_cast] theorem e_sanz_td : e_sanz.td = td := rfl
@[push_cast] theorem e_sanz_eqt : e_sanz.eqt = eqt := rfl
@[push_cast] theorem e_sanz_cal : e_sanz.cal = calOf [(39, sp_askB), (41, sp_sanA)] := rfl
theorem c_sanz : CRow P0 ety0 21 sp_sanz := CRow.of (E := e_sanz) (mkOk (.cons c_faultBoth (.cons c_sanitA (.nil)))) func21 rfl rfl rfl (by
  intro args p r outs h hq
  simp only [sp_sanz] at h; split at h <;> cases h
  rename_i l ha ht al re un ns dr co da
  obtain ⟨hz, hc⟩ := hq _ rfl
  refine Body.intro (rs := [.tmp 4, .tmp 5]) rfl rfl rfl ?_
  apply vc_run 1000 (stop := false) rfl; simp only [push_cast, reduceIte, Nat.reduceEqDiff, Nat.reduceAdd, Nat.reduceSub, Nat.reduceLT, Int.reduceNeg, Int.reduceLE, Int.reduceLT, Int.reduceToNat, Nat.reduceLeDiff, UInt8.reduceOfNat, UInt8.reduceOfNatLT, and_self, Nat.reduceMul, decide_true, decide_false, Bool.not_true, Bool.not_false, implies_true]
  refine ⟨⟨hz, hc⟩, fun h => ?_, fun h => ?_⟩
  · rw [sanR, show decide (askB l ⟨ha, ht, al, re, un, ns, dr, co, da⟩ = 0) = false by simpa using h]; rfl
  · have hA : askB l ⟨ha, ht, al, re, un, ns, dr, co, da⟩ = 0 := by simpa using h
    have hok := treeOK_ok (askT_0 (askB_0 hA)).2
    rw [sanR, hA]
    exact ⟨⟨hz, hc, hok⟩, rfl⟩)
noncomputable def e_sanz2 : Env := mk [(33, sp_askB), (35, sp_sanA)] [] [] [] none
@[push_cast] theorem e_sanz2_in : e_sanz2.inl = inlF [] := rfl
@[push_cast] theorem e_sanz2_fn : e_sanz2.fnd = fndF none := rfl
@[push_cast] theorem e_sanz2_gh : e_sanz2.gh = ghOf [] := rfl
@[push_cast] theorem e_sanz2_dr : e_sanz2.dr = drOf [] := rfl
@[push_cast] theorem e_sanz2_td : e_sanz2.td = td := rfl
@[push_cast] theorem e_sanz2_eqt : e_sanz2.eqt = eqt := rfl
@[push_cast] theorem e_sanz2_cal : e_sanz2.cal = calOf [(33, sp_askB), (35, sp_sanA)] := rfl
theorem c_sanz2 : CRow P0 ety0 20 sp_sanz := CRow.of (E := e_sanz2) (mkOk (.cons c_l08Ask (.cons c_l08Tree (.nil)))) func20 rfl rfl rfl (by
  intro args p r outs h hq
  simp only [sp_sanz] at h; split at h <;> cases h
  rename_i l ha ht al re un ns dr co da
  obtain ⟨hz, hc⟩ := hq _ rfl
  refine Body.intro (rs := [.tmp 4, .tmp 5]) rfl rfl rfl ?_
  apply vc_run 1000 (stop := false) rfl; simp only [push_cast, reduceIte, Nat.reduceEqDiff, Nat.reduceAdd, Nat.reduceSub, Nat.reduceLT, Int.reduceNeg, Int.reduceLE, Int.reduceLT, Int.reduceToNat, Nat.reduceLeDiff, UInt8.reduceOfNat, UInt8.reduceOfNatLT, and_self, Nat.reduceMul, decide_true, decide_false, Bool.not_true, Bool.not_false, implies_true]
  rw [len_4096]
  refine ⟨fun h => ?_, fun _ => ⟨⟨hz, hc⟩, fun h => ?_, fun h => ?_⟩⟩
  · rw [sanR, askB_long (of_decide_eq_true h)]; rfl
  · rw [sanR, show decide (askB l ⟨ha, ht, al, re, un, ns, dr, co, da⟩ = 0) = false by simpa using h]; rfl
  · have hA : askB l ⟨ha, ht, al, re, un, ns, dr, co, da⟩ = 0 := by simpa using h
    have hok := treeOK_ok (askT_0 (askB_0 hA)).2
    rw [sanR, hA]
    exact ⟨⟨hz, hc, hok⟩, rfl⟩)
theorem mkdNodes (l : List Node) (k : Int) : Mkd mkNd cNd (mkL mkNd cNd l k) k := (mkL_idem mkNd cNd mkNd_id mkNd_c l k).symm
theorem sumNodes (l : List Node) (k : Int) : sumL cNd (mkL mkNd cNd l k) = sumL cNd l := mkL_sum mkNd cNd mkNd_c l k
theorem sumNd_sz (l : List Node) : sumL cNd l ≤ 4 * szL szNd l := by
  have := cNds_sz l
  rwa [cNds_eq, szNds_eq] at this
theorem sum_one (l : List Str) : sumL one1 l = l.length := by
  induction l with
  | nil => rfl
  | cons x l ih =>
    have e : sumL one1 (x :: l) = 1 + sumL one1 l := by simp [sumL, one1]
    rw [e, ih, List.length_cons]; omega
theorem sumRu_sz (l : List Rule) : sumL cRu l ≤ 2 * szL szRule l := by
  induction l with
  | nil => exact Nat.zero_le _
  | cons x l ih =>
    have e : sumL cRu (x :: l) = cRu x + sumL cRu l := by simp [sumL]
    have e2 : szL szRule (x :: l) = 1 + szRule x + szL szRule l := by simp [szL, sumL]; omega
    have e3 : cRu x = 2 + sumL one1 x.attrs := rfl
    have e4 := sum_one x.attrs
    have e5 : szRule x = x.name.length + szL List.length x.attrs := rfl
    have e6 := szL_len List.length x.attrs
    rw [e, e2]; omega
theorem cCf_sz (c : Cfg) : cCf c ≤ 2 * szCfg c := by
  have h1 := sumRu_sz c.allow
  have h2 := sumRu_sz c.remove
  have h3 := sumRu_sz c.unwrap
  have h4 := sum_one c.attrs
  have h5 := sum_one c.drop
  have h6 := szL_len List.length c.attrs
  have h7 := szL_len List.length c.drop
  unfold cCf szCfg; omega
noncomputable def sp_lawSanitize : Spec := ⟨[.sl .node, .st .cfg], [.rd, .rd], true, fun
  | [.dat ⟨.node, l⟩, .agg [.bool ha, .bool ht, .dat ⟨.rule, al⟩, .dat ⟨.rule, re⟩, .dat ⟨.rule, un⟩, .dat ⟨.str, ns⟩, .dat ⟨.str, dr⟩, .bool co, .bool da]] => some (some (fitL fitNd l ∧ fitCfg ⟨ha, ht, al, re, un, ns, dr, co, da⟩), .bool true, [])
  | _ => none⟩
@[push_cast] theorem sp_lawSanitize_ps : sp_lawSanitize.ps = [.sl .node, .st .cfg] := rfl
@[push_cast] theorem sp_lawSanitize_md : sp_lawSanitize.modes = [.rd, .rd] := rfl
@[push_cast] theorem sp_lawSanitize_pure : sp_lawSanitize.pure = true := rfl
@[push_cast] theorem sp_lawSanitize_run (l : List Node) (ha ht : Bool) (al re un : List Rule) (ns dr : List Str) (co da : Bool) : sp_lawSanitize.run [.dat ⟨.node, l⟩, .agg [.bool ha, .bool ht, .dat ⟨.rule, al⟩, .dat ⟨.rule, re⟩, .dat ⟨.rule, un⟩, .dat ⟨.str, ns⟩, .dat ⟨.str, dr⟩, .bool co, .bool da]] = some (some (fitL fitNd l ∧ fitCfg ⟨ha, ht, al, re, un, ns, dr, co, da⟩), .bool true, []) := rfl
noncomputable def e_lawSanitize : Env := mk [(8, sp_szNodeS), (9, sp_szConfig), (11, sp_toNodeS), (12, sp_toConfig), (14, sp_eqNodeS), (15, sp_eqConfig), (22, sp_mkNodes), (23, sp_mkCfg), (24, sp_hdNodes), (21, sp_sanz), (20, sp_sanz)] [(8, [1, 3, 4], [[], [], [0]]), (16, [2], [[1]]), (31, [1, 3, 4], [[], [], [0]])] [] [] none
@[push_cast] theorem e_lawSanitize_in : e_lawSanitize.inl = inlF [] := rfl
@[push_cast] theorem e_lawSanitize_fn : e_lawSanitize.fnd = fndF none := rfl
@[push_cast] theorem e_lawSanitize_gh : e_lawSanitize.gh = ghOf [] := rfl
@[push_cast] theorem e_lawSanitize_dr : e_lawSanitize.dr = drOf [(8, [1, 3, 4], [[], [], [0]]), (16, [2], [[1]]), (31, [1, 3, 4], [[], [], [0]])] := rfl
@[push_cast] theorem e_lawSanitize_td : e_lawSanitize.td = td := rfl
@[push_cast] theorem e_lawSanitize_eqt : e_lawSanitize.eqt = eqt := rfl
@[push_cast] theorem e_lawSanitize_cal : e_lawSanitize.cal = calOf [(8, sp_szNodeS), (9, sp_szConfig), (11, sp_toNodeS), (12, sp_toConfig), (14, sp_eqNodeS), (15, sp_eqConfig), (22, sp_mkNodes), (23, sp_mkCfg), (24, sp_hdNodes), (21, sp_sanz), (20, sp_sanz)] := rfl
theorem c_lawSanitize : CRow P0 ety0 6 sp_lawSanitize := CRow.of (E := e_lawSanitize) (mkOk (.cons c_szNodeS (.cons c_szConfig (.cons c_toNodeS (.cons c_toConfig (.cons c_eqNodeS (.cons c_eqConfig (.cons c_mkNodes (.cons c_mkCfg (.cons c_hdNodes (.cons c_sanz (.cons c_sanz2 (.nil))))))))))))) func6 rfl rfl rfl (by
  intro args p r outs h hq
  simp only [sp_lawSanitize] at h; split at h <;> cases h
  rename_i l ha ht al re un ns dr co da
  obtain ⟨hl, hf⟩ := hq _ rfl
  refine Body.intro (rs := [.tmp 4]) rfl rfl rfl ?_
  apply vc_run 1000 (stop := false) rfl; simp only [push_cast, reduceIte, Nat.reduceEqDiff, Nat.reduceAdd, Nat.reduceSub, Nat.reduceLT, Int.reduceNeg, Int.reduceLE, Int.reduceLT, Int.reduceToNat, Nat.reduceLeDiff, UInt8.reduceOfNat, UInt8.reduceOfNatLT, and_self, Nat.reduceMul, decide_true, decide_false, Bool.not_true, Bool.not_false, implies_true]
  refine ⟨hl, fun h => ?_⟩
  obtain ⟨a1, a2, a3, a4⟩ := szR_le (of_decide_eq_false h) (by omega)
  refine ⟨⟨a1, a2, hf⟩, fun h2 => ?_⟩
  obtain ⟨b1, b2, b3, b4⟩ := szR_le (of_decide_eq_false h2) a1
  have k1 : szL szNd l ≤ 1048576 := by omega
  have k2 : szCfg ⟨ha, ht, al, re, un, ns, dr, co, da⟩ ≤ 1048576 := by omega
  have k3 := sanR_szL l ⟨ha, ht, al, re, un, ns, dr, co, da⟩
  have k4 := sumNd_sz l
  have k5 := sumNd_sz (sanR l ⟨ha, ht, al, re, un, ns, dr, co, da⟩)
  have k6 := cCf_sz ⟨ha, ht, al, re, un, ns, dr, co, da⟩
  simp only [eqB_self, Bool.not_true, cond_true, cond_false, decide_true, forall_const, reduceCtorEq, false_implies, implies_true, true_and, and_true]
  clear hq h h2 a1 a2 a3 a4 b1 b2 b3 b4
  generalize sanR l ⟨ha, ht, al, re, un, ns, dr, co, da⟩ = R at *
  generalize szCfg ⟨ha, ht, al, re, un, ns, dr, co, da⟩ = zc at *
  generalize cCf ⟨ha, ht, al, re, un, ns, dr, co, da⟩ = cc at *
  have n1 : decide ((1 : Int) + (sumL cNd l : Nat) + (cc : Nat) < 0) = false := decide_eq_false (by omega)
  have n2 : decide ((1 : Int) + (sumL cNd R : Nat) < 0) = false := decide_eq_false (by omega)
  have n3 := mkdNodes R 1
  simp only [sumNodes, n1, n2, n3, cond_false, decide_true, Bool.not_true, reduceCtorEq, false_implies, implies_true, forall_const, and_true, true_and]
  have n4 : szL szNd R ≤ 1048576 := by omega
  have n5 : (1 : Int) + (sumL cNd l : Nat) ≤ 1073741824 := by omega
  have n6 : (0 : Int) ≤ 1 + (sumL cNd l : Nat) ∧ (1 : Int) + (sumL cNd l : Nat) + (cc : Nat) ≤ 1073741824 := by omega
  have n7 : (1 : Int) + (sumL cNd R : Nat) ≤ 1073741824 := by omega
  simp only [k1, k2, n4, n5, n6, n7, and_self])
end Go.Ab
