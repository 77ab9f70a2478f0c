/- What a configuration leaves of a tree, and that it is a tree of its own. -/
import Derived.Test.YtnnbjffppfagkaaGreatFnL
import Derived.Test.YtnnbjffppfagkaaGreatFnMn
set_option linter.all false
set_option linter.unusedSimpArgs false
set_option linter.unusedVariables false
set_option linter.unusedSectionVars false
set_option maxRecDepth 20000
set_option maxHeartbeats 1000000
namespace Go.Ab
open Go Go.Proofs.Tryz
def sanR (l : List Node) (c : Cfg) : List Node := bif decide (askB l c = 0) then sanT c l else []
theorem sanR_szL (l : List Node) (c : Cfg) : szL szNd (sanR l c) ≤ szL szNd l := by
  unfold sanR
  cases decide (askB l c = 0) with
  | true => exact sanT_szL c l
  | false => simp [szL, sumL]
noncomputable def sp_sanz : Spec := ⟨[.sl .node, .st .cfg], [.rd, .rd], false, fun
  | [.dat ⟨.node, l⟩, .agg [.bool ha, .bool ht, .dat ⟨.rule, al⟩, .dat ⟨.rule, re⟩, .dat ⟨.rule, un⟩, .dat ⟨.str, ns⟩, .dat ⟨.str, dr⟩, .bool co, .bool da]] => some (some (szL szNd l ≤ 1048576 ∧ szCfg ⟨ha, ht, al, re, un, ns, dr, co, da⟩ ≤ 1048576), .tup [.own true ⟨.node, sanR l ⟨ha, ht, al, re, un, ns, dr, co, da⟩⟩, .int .i64 (askB l ⟨ha, ht, al, re, un, ns, dr, co, da⟩)], [])
  | _ => none⟩
@[push_cast] theorem sp_sanz_ps : sp_sanz.ps = [.sl .node, .st .cfg] := rfl
@[push_cast] theorem sp_sanz_md : sp_sanz.modes = [.rd, .rd] := rfl
@[push_cast] theorem sp_sanz_pure : sp_sanz.pure = false := rfl
@[push_cast] theorem sp_sanz_run (l : List Node) (ha ht : Bool) (al re un : List Rule) (ns dr : List Str) (co da : Bool) : sp_sanz.run [.dat ⟨.node, l⟩, .agg [.bool ha, .bool ht, .dat ⟨.rule, al⟩, .dat ⟨.rule, re⟩, .dat ⟨.rule, un⟩, .dat ⟨.str, ns⟩, .dat ⟨.str, dr⟩, .bool co, .bool da]] = some (some (szL szNd l ≤ 1048576 ∧ szCfg ⟨ha, ht, al, re, un, ns, dr, co, da⟩ ≤ 1048576), .tup [.own true ⟨.node, sanR l ⟨ha, ht, al, re, un, ns, dr, co, da⟩⟩, .int .i64 (askB l ⟨ha, ht, al, re, un, ns, dr, co, da⟩)], []) := rfl
theorem mkdNodes (l : List Node) (k : Int) : Mkd mkNd cNd (mkL mkNd cNd l k) k := (mkL_idem mkNd cNd mkNd_id mkNd_c l k).symm
theorem sumNodes (l : List Node) (k : Int) : sumL cNd (mkL mkNd cNd l k) = sumL cNd l := mkL_sum mkNd cNd mkNd_c l k
theorem sumNd_sz (l : List Node) : sumL cNd l ≤ 4 * szL szNd l := by
  have := cNds_sz l
  rwa [cNds_eq, szNds_eq] at this
theorem sum_one (l : List Str) : sumL one1 l = l.length := by
  induction l with
  | nil => rfl
  | cons x l ih =>
    have e : sumL one1 (x :: l) = 1 + sumL one1 l := by simp [sumL, one1]
    rw [e, ih, List.length_cons]; omega
theorem sumRu_sz (l : List Rule) : sumL cRu l ≤ 2 * szL szRule l := by
  induction l with
  | nil => exact Nat.zero_le _
  | cons x l ih =>
    have e : sumL cRu (x :: l) = cRu x + sumL cRu l := by simp [sumL]
    have e2 : szL szRule (x :: l) = 1 + szRule x + szL szRule l := by simp [szL, sumL]; omega
    have e3 : cRu x = 2 + sumL one1 x.attrs := rfl
    have e4 := sum_one x.attrs
    have e5 : szRule x = x.name.length + szL List.length x.attrs := rfl
    have e6 := szL_len List.length x.attrs
    rw [e, e2]; omega
theorem cCf_sz (c : Cfg) : cCf c ≤ 2 * szCfg c := by
  have h1 := sumRu_sz c.allow
  have h2 := sumRu_sz c.remove
  have h3 := sumRu_sz c.unwrap
  have h4 := sum_one c.attrs
  have h5 := sum_one c.drop
  have h6 := szL_len List.length c.attrs
  have h7 := szL_len List.length c.drop
  unfold cCf szCfg; omega
noncomputable def sp_lawSanitize : Spec := ⟨[.sl .node, .st .cfg], [.rd, .rd], true, fun
  | [.dat ⟨.node, l⟩, .agg [.bool ha, .bool ht, .dat ⟨.rule, al⟩, .dat ⟨.rule, re⟩, .dat ⟨.rule, un⟩, .dat ⟨.str, ns⟩, .dat ⟨.str, dr⟩, .bool co, .bool da]] => some (some (fitL fitNd l ∧ fitCfg ⟨ha, ht, al, re, un, ns, dr, co, da⟩), .bool true, [])
  | _ => none⟩
@[push_cast] theorem sp_lawSanitize_ps : sp_lawSanitize.ps = [.sl .node, .st .cfg] := rfl
@[push_cast] theorem sp_lawSanitize_md : sp_lawSanitize.modes = [.rd, .rd] := rfl
@[push_cast] theorem sp_lawSanitize_pure : sp_lawSanitize.pure = true := rfl
@[push_cast] theorem sp_lawSanitize_run (l : List Node) (ha ht : Bool) (al re un : List Rule) (ns dr : List Str) (co da : Bool) : sp_lawSanitize.run [.dat ⟨.node, l⟩, .agg [.bool ha, .bool ht, .dat ⟨.rule, al⟩, .dat ⟨.rule, re⟩, .dat ⟨.rule, un⟩, .dat ⟨.str, ns⟩, .dat ⟨.str, dr⟩, .bool co, .bool da]] = some (some (fitL fitNd l ∧ fitCfg ⟨ha, ht, al, re, un, ns, dr, co, da⟩), .bool true, []) := rfl
end Go.Ab
