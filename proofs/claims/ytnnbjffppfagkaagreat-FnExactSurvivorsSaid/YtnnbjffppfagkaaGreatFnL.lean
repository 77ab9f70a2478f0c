/- What is asked of a tree and a configuration; what is permitted; what is sanitized twice. -/
import Derived.Test.YtnnbjffppfagkaaGreatFnK
import Derived.Test.YtnnbjffppfagkaaGreatFnW
import Derived.Test.YtnnbjffppfagkaaGreatFnAk
set_option linter.all false
set_option linter.unusedSimpArgs false
set_option linter.unusedVariables false
set_option linter.unusedSectionVars false
set_option maxRecDepth 20000
set_option maxHeartbeats 1000000
namespace Go.Ab
open Go Go.Proofs.Tryz
theorem attrsOK_at {l : List Attr} (h : attrsOK l = true) : ∀ x ∈ l, x.name.length ≤ 65536 ∧ x.value.length ≤ 65536 := fun x hx => by
  rw [attrsOK, Bool.and_eq_true] at h
  obtain ⟨i, hi, rfl⟩ := List.getElem_of_mem hx
  have h1 := List.all_eq_true.1 h.2 i (List.mem_range.2 hi)
  have e : l.getD i attrD = l[i] := by simp [List.getD, hi]
  rw [attrAtOK, Bool.and_eq_true, e, attrOK, Bool.and_eq_true] at h1
  have h2 := of_decide_eq_true h1.1.2
  have h3 := h1.1.1
  rw [tagOK, Bool.and_eq_true, within, Bool.and_eq_true] at h3
  have h4 := of_decide_eq_true h3.1.2
  exact ⟨by omega, by omega⟩
mutual
theorem good_ok : ∀ (x : Node) (d : Int), goodNd x d = true → okNd x
  | .mk k s m t a ks, d, h => by
    rw [goodNd, Bool.and_eq_true, Bool.and_eq_true, Bool.and_eq_true] at h
    obtain ⟨⟨_, ho, hh⟩, hk⟩ := h
    rw [okNd_mk]
    rw [ownNd_mk, Bool.or_eq_true] at ho
    rcases ho with ho | ho
    · simp only [Bool.and_eq_true, decide_eq_true_eq] at ho
      obtain ⟨hk1, ⟨⟨_, _⟩, hat⟩, ht⟩ := ho
      refine .inr ⟨hk1, ht, attrsOK_at hat, fun hr => ?_, goods_ok ks _ hk⟩
      rw [holdsNd_mk, decide_eq_true hk1, decide_eq_true hr.1, hr.2] at hh
      intro x hx
      have h2 : ks.any notText = false := by revert hh; cases ks.any notText <;> simp
      have h3 := List.any_eq_false.1 h2 x hx
      rw [notText] at h3
      simpa using h3
    · simp only [Bool.and_eq_true, Bool.or_eq_true, decide_eq_true_eq, List.isEmpty_iff] at ho
      obtain ⟨hk1, ⟨⟨⟨hw, hs⟩, hm⟩, ha⟩, hks⟩ := ho
      rw [within, Bool.and_eq_true] at hw
      have := of_decide_eq_true hw.2
      exact .inl ⟨hk1, hs, hm, ha, hks, by omega⟩
theorem goods_ok : ∀ (l : List Node) (d : Int), goodNds l d = true → okNds l
  | [], _, _ => trivial
  | x :: r, d, h => by
    rw [goodNds, Bool.and_eq_true] at h
    exact ⟨good_ok x d h.1, goods_ok r d h.2⟩
end
theorem treeOK_ok {l : List Node} (h : treeOK l = true) : okNds l := goods_ok l 1 (treeOK_good h).1
def askB (l : List Node) (c : Cfg) : Int := bif decide (askT l = 0) then checkCfg c else askT l
theorem askB_0 {l : List Node} {c : Cfg} (h : askB l c = 0) : askT l = 0 := by
  unfold askB at h
  by_cases h1 : askT l = 0
  · exact h1
  · rw [decide_eq_false h1] at h; exact absurd h h1
theorem askB_long {l : List Node} {c : Cfg} (h : 4096 < l.length) : askB l c = 2 := by
  have : askT l = 2 := by rw [askT, decide_eq_true h]; rfl
  rw [askB, this]; rfl
noncomputable def sp_askB : Spec := ⟨[.sl .node, .st .cfg], [.rd, .rd], true, fun
  | [.dat ⟨.node, l⟩, .agg [.bool ha, .bool ht, .dat ⟨.rule, al⟩, .dat ⟨.rule, re⟩, .dat ⟨.rule, un⟩, .dat ⟨.str, ns⟩, .dat ⟨.str, dr⟩, .bool co, .bool da]] => some (some (szL szNd l ≤ 1048576 ∧ szCfg ⟨ha, ht, al, re, un, ns, dr, co, da⟩ ≤ 1048576), .int .i64 (askB l ⟨ha, ht, al, re, un, ns, dr, co, da⟩), [])
  | _ => none⟩
@[push_cast] theorem sp_askB_ps : sp_askB.ps = [.sl .node, .st .cfg] := rfl
@[push_cast] theorem sp_askB_md : sp_askB.modes = [.rd, .rd] := rfl
@[push_cast] theorem sp_askB_pure : sp_askB.pure = true := rfl
@[push_cast] theorem sp_askB_run (l : List Node) (ha ht : Bool) (al re un : List Rule) (ns dr : List Str) (co da : Bool) : sp_askB.run [.dat ⟨.node, l⟩, .agg [.bool ha, .bool ht, .dat ⟨.rule, al⟩, .dat ⟨.rule, re⟩, .dat ⟨.rule, un⟩, .dat ⟨.str, ns⟩, .dat ⟨.str, dr⟩, .bool co, .bool da]] = some (some (szL szNd l ≤ 1048576 ∧ szCfg ⟨ha, ht, al, re, un, ns, dr, co, da⟩ ≤ 1048576), .int .i64 (askB l ⟨ha, ht, al, re, un, ns, dr, co, da⟩), []) := rfl
noncomputable def e_faultBoth : Env := mk [(60, sp_askT), (61, sp_checkCfg)] [] [] [] none
@[push_cast] theorem e_faultBoth_in : e_faultBoth.inl = inlF [] := rfl
@[push_cast] theorem e_faultBoth_fn : e_faultBoth.fnd = fndF none := rfl
@[push_cast] theorem e_faultBoth_gh : e_faultBoth.gh = ghOf [] := rfl
@[push_cast] theorem e_faultBoth_dr : e_faultBoth.dr = drOf [] := rfl
@[push_cast] theorem e_faultBoth_td : e_faultBoth.td = td := rfl
@[push_cast] theorem e_faultBoth_eqt : e_faultBoth.eqt = eqt := rfl
@[push_cast] theorem e_faultBoth_cal : e_faultBoth.cal = calOf [(60, sp_askT), (61, sp_checkCfg)] := rfl
theorem c_faultBoth : CRow P0 ety0 39 sp_askB := CRow.of (E := e_faultBoth) (mkOk (.cons c_fault (.cons c_checkCfg (.nil)))) func39 rfl rfl rfl (by
  intro args p r outs h hq
  simp only [sp_askB] at h; split at h <;> cases h
  rename_i l ha ht al re un ns dr co da
  have hz := hq _ rfl
  refine Body.intro (rs := [.tmp 4]) rfl rfl rfl ?_
  apply vc_run 1000 (stop := false) rfl; simp only [push_cast, reduceIte, Nat.reduceEqDiff, Nat.reduceAdd, Nat.reduceSub, Nat.reduceLT, Int.reduceNeg, Int.reduceLE, Int.reduceLT, Int.reduceToNat, Nat.reduceLeDiff, UInt8.reduceOfNat, UInt8.reduceOfNatLT, and_self, Nat.reduceMul, decide_true, decide_false, Bool.not_true, Bool.not_false, implies_true]
  refine ⟨hz.1, fun h => ?_, fun h => ⟨hz.2, ?_⟩⟩
  · rw [askB, show decide (askT l = 0) = false by simpa using h]; rfl
  · rw [askB, show decide (askT l = 0) = true by simpa using h]; rfl)
noncomputable def e_l08Ask : Env := mk [(54, sp_askT), (55, sp_checkCfg)] [] [] [] none
@[push_cast] theorem e_l08Ask_in : e_l08Ask.inl = inlF [] := rfl
@[push_cast] theorem e_l08Ask_fn : e_l08Ask.fnd = fndF none := rfl
@[push_cast] theorem e_l08Ask_gh : e_l08Ask.gh = ghOf [] := rfl
@[push_cast] theorem e_l08Ask_dr : e_l08Ask.dr = drOf [] := rfl
@[push_cast] theorem e_l08Ask_td : e_l08Ask.td = td := rfl
@[push_cast] theorem e_l08Ask_eqt : e_l08Ask.eqt = eqt := rfl
@[push_cast] theorem e_l08Ask_cal : e_l08Ask.cal = calOf [(54, sp_askT), (55, sp_checkCfg)] := rfl
theorem c_l08Ask : CRow P0 ety0 33 sp_askB := CRow.of (E := e_l08Ask) (mkOk (.cons c_l03Ask (.cons c_l07Check (.nil)))) func33 rfl rfl rfl (by
  intro args p r outs h hq
  simp only [sp_askB] at h; split at h <;> cases h
  rename_i l ha ht al re un ns dr co da
  have hz := hq _ rfl
  refine Body.intro (rs := [.tmp 4]) rfl rfl rfl ?_
  apply vc_run 1000 (stop := false) rfl; simp only [push_cast, reduceIte, Nat.reduceEqDiff, Nat.reduceAdd, Nat.reduceSub, Nat.reduceLT, Int.reduceNeg, Int.reduceLE, Int.reduceLT, Int.reduceToNat, Nat.reduceLeDiff, UInt8.reduceOfNat, UInt8.reduceOfNatLT, and_self, Nat.reduceMul, decide_true, decide_false, Bool.not_true, Bool.not_false, implies_true]
  refine ⟨hz.1, fun h => ?_, fun h => ⟨hz.2, ?_⟩⟩
  · rw [askB, show decide (askT l = 0) = false by simpa using h]; rfl
  · rw [askB, show decide (askT l = 0) = true by simpa using h]; rfl)
theorem sanT_szL (c : Cfg) (l : List Node) : szL szNd (sanT c l) ≤ szL szNd l := by
  have := sanT_sz c l
  rwa [szNds_eq, szNds_eq] at this
theorem eqB_comm {α : Type} (a b : α) : eqB a b = eqB b a := by
  by_cases h : a = b
  · subst h; rfl
  · rw [eqB_ne h, eqB_ne fun e => h e.symm]
noncomputable def sp_permitted : Spec := ⟨[.sl .node, .st .cfg], [.rd, .rd], true, fun
  | [.dat ⟨.node, l⟩, .agg [.bool ha, .bool ht, .dat ⟨.rule, al⟩, .dat ⟨.rule, re⟩, .dat ⟨.rule, un⟩, .dat ⟨.str, ns⟩, .dat ⟨.str, dr⟩, .bool co, .bool da]] => some (some (szL szNd l ≤ 1048576 ∧ szCfg ⟨ha, ht, al, re, un, ns, dr, co, da⟩ ≤ 1048576), .tup [.bool (decide (askB l ⟨ha, ht, al, re, un, ns, dr, co, da⟩ = 0) && eqB (sanT ⟨ha, ht, al, re, un, ns, dr, co, da⟩ l) l), .int .i64 (askB l ⟨ha, ht, al, re, un, ns, dr, co, da⟩)], [])
  | _ => none⟩
@[push_cast] theorem sp_permitted_ps : sp_permitted.ps = [.sl .node, .st .cfg] := rfl
@[push_cast] theorem sp_permitted_md : sp_permitted.modes = [.rd, .rd] := rfl
@[push_cast] theorem sp_permitted_pure : sp_permitted.pure = true := rfl
@[push_cast] theorem sp_permitted_run (l : List Node) (ha ht : Bool) (al re un : List Rule) (ns dr : List Str) (co da : Bool) : sp_permitted.run [.dat ⟨.node, l⟩, .agg [.bool ha, .bool ht, .dat ⟨.rule, al⟩, .dat ⟨.rule, re⟩, .dat ⟨.rule, un⟩, .dat ⟨.str, ns⟩, .dat ⟨.str, dr⟩, .bool co, .bool da]] = some (some (szL szNd l ≤ 1048576 ∧ szCfg ⟨ha, ht, al, re, un, ns, dr, co, da⟩ ≤ 1048576), .tup [.bool (decide (askB l ⟨ha, ht, al, re, un, ns, dr, co, da⟩ = 0) && eqB (sanT ⟨ha, ht, al, re, un, ns, dr, co, da⟩ l) l), .int .i64 (askB l ⟨ha, ht, al, re, un, ns, dr, co, da⟩)], []) := rfl
noncomputable def sp_twice : Spec := ⟨[.sl .node, .st .cfg], [.rd, .rd], true, fun
  | [.dat ⟨.node, l⟩, .agg [.bool ha, .bool ht, .dat ⟨.rule, al⟩, .dat ⟨.rule, re⟩, .dat ⟨.rule, un⟩, .dat ⟨.str, ns⟩, .dat ⟨.str, dr⟩, .bool co, .bool da]] => some (some (szL szNd l ≤ 1048576 ∧ szCfg ⟨ha, ht, al, re, un, ns, dr, co, da⟩ ≤ 1048576), .tup [.bool (decide (askB l ⟨ha, ht, al, re, un, ns, dr, co, da⟩ = 0) && eqB (sanT ⟨ha, ht, al, re, un, ns, dr, co, da⟩ (sanT ⟨ha, ht, al, re, un, ns, dr, co, da⟩ l)) (sanT ⟨ha, ht, al, re, un, ns, dr, co, da⟩ l)), .int .i64 (askB l ⟨ha, ht, al, re, un, ns, dr, co, da⟩)], [])
  | _ => none⟩
@[push_cast] theorem sp_twice_ps : sp_twice.ps = [.sl .node, .st .cfg] := rfl
@[push_cast] theorem sp_twice_md : sp_twice.modes = [.rd, .rd] := rfl
@[push_cast] theorem sp_twice_pure : sp_twice.pure = true := rfl
@[push_cast] theorem sp_twice_run (l : List Node) (ha ht : Bool) (al re un : List Rule) (ns dr : List Str) (co da : Bool) : sp_twice.run [.dat ⟨.node, l⟩, .agg [.bool ha, .bool ht, .dat ⟨.rule, al⟩, .dat ⟨.rule, re⟩, .dat ⟨.rule, un⟩, .dat ⟨.str, ns⟩, .dat ⟨.str, dr⟩, .bool co, .bool da]] = some (some (szL szNd l ≤ 1048576 ∧ szCfg ⟨ha, ht, al, re, un, ns, dr, co, da⟩ ≤ 1048576), .tup [.bool (decide (askB l ⟨ha, ht, al, re, un, ns, dr, co, da⟩ = 0) && eqB (sanT ⟨ha, ht, al, re, un, ns, dr, co, da⟩ (sanT ⟨ha, ht, al, re, un, ns, dr, co, da⟩ l)) (sanT ⟨ha, ht, al, re, un, ns, dr, co, da⟩ l)), .int .i64 (askB l ⟨ha, ht, al, re, un, ns, dr, co, da⟩)], []) := rfl
noncomputable def sp_lawPermitted : Spec := ⟨[.sl .node, .st .cfg], [.rd, .rd], true, fun
  | [.dat ⟨.node, l⟩, .agg [.bool ha, .bool ht, .dat ⟨.rule, al⟩, .dat ⟨.rule, re⟩, .dat ⟨.rule, un⟩, .dat ⟨.str, ns⟩, .dat ⟨.str, dr⟩, .bool co, .bool da]] => some (some (fitL fitNd l ∧ fitCfg ⟨ha, ht, al, re, un, ns, dr, co, da⟩), .bool true, [])
  | _ => none⟩
@[push_cast] theorem sp_lawPermitted_ps : sp_lawPermitted.ps = [.sl .node, .st .cfg] := rfl
@[push_cast] theorem sp_lawPermitted_md : sp_lawPermitted.modes = [.rd, .rd] := rfl
@[push_cast] theorem sp_lawPermitted_pure : sp_lawPermitted.pure = true := rfl
@[push_cast] theorem sp_lawPermitted_run (l : List Node) (ha ht : Bool) (al re un : List Rule) (ns dr : List Str) (co da : Bool) : sp_lawPermitted.run [.dat ⟨.node, l⟩, .agg [.bool ha, .bool ht, .dat ⟨.rule, al⟩, .dat ⟨.rule, re⟩, .dat ⟨.rule, un⟩, .dat ⟨.str, ns⟩, .dat ⟨.str, dr⟩, .bool co, .bool da]] = some (some (fitL fitNd l ∧ fitCfg ⟨ha, ht, al, re, un, ns, dr, co, da⟩), .bool true, []) := rfl
noncomputable def sp_lawSanitizedTwice : Spec := ⟨[.sl .node, .st .cfg], [.rd, .rd], true, fun
  | [.dat ⟨.node, l⟩, .agg [.bool ha, .bool ht, .dat ⟨.rule, al⟩, .dat ⟨.rule, re⟩, .dat ⟨.rule, un⟩, .dat ⟨.str, ns⟩, .dat ⟨.str, dr⟩, .bool co, .bool da]] => some (some (fitL fitNd l ∧ fitCfg ⟨ha, ht, al, re, un, ns, dr, co, da⟩), .bool true, [])
  | _ => none⟩
@[push_cast] theorem sp_lawSanitizedTwice_ps : sp_lawSanitizedTwice.ps = [.sl .node, .st .cfg] := rfl
@[push_cast] theorem sp_lawSanitizedTwice_md : sp_lawSanitizedTwice.modes = [.rd, .rd] := rfl
@[push_cast] theorem sp_lawSanitizedTwice_pure : sp_lawSanitizedTwice.pure = true := rfl
@[push_cast] theorem sp_lawSanitizedTwice_run (l : List Node) (ha ht : Bool) (al re un : List Rule) (ns dr : List Str) (co da : Bool) : sp_lawSanitizedTwice.run [.dat ⟨.node, l⟩, .agg [.bool ha, .bool ht, .dat ⟨.rule, al⟩, .dat ⟨.rule, re⟩, .dat ⟨.rule, un⟩, .dat ⟨.str, ns⟩, .dat ⟨.str, dr⟩, .bool co, .bool da]] = some (some (fitL fitNd l ∧ fitCfg ⟨ha, ht, al, re, un, ns, dr, co, da⟩), .bool true, []) := rfl
end Go.Ab
