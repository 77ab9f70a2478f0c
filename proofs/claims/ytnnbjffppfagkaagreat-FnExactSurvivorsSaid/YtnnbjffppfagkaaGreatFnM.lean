/- What a configuration permits: elements, attributes. -/
import Derived.Test.YtnnbjffppfagkaaGreatFnR
import Derived.Test.YtnnbjffppfagkaaGreatFnE
set_option linter.all false
set_option linter.unusedSimpArgs false
set_option linter.unusedVariables false
set_option linter.unusedSectionVars false
set_option maxRecDepth 20000
set_option maxHeartbeats 1000000
namespace Go.Ab
open Go Go.Proofs.Tryz
def unwB (c : Cfg) (s : Int) (m : Str) : Bool := !isBan m && decide (0 ≤ ruleAt c.unwrap s m)
def allB (c : Cfg) (s : Int) (m : Str) : Bool := !(isBan m || decide (0 ≤ ruleAt c.unwrap s m)) && (bif c.hasAllow then decide (0 ≤ ruleAt c.allow s m) else decide (ruleAt c.remove s m < 0))
def dataB (n : Str) : Bool := decide (5 < n.length) && preS n [100, 97, 116, 97, 45]
def keepA (c : Cfg) (s : Int) (m : Str) (a : Attr) : Bool := !(harmB a || hasS c.drop a.name) && (!c.hasAttrs || hasS c.attrs a.name || (c.data && dataB a.name) || (decide (0 ≤ ruleAt c.allow s m) && hasS (gd c.allow ruleD (ruleAt c.allow s m)).attrs a.name))
theorem ruleAt_lt {l : List Rule} {s : Int} {m : Str} (h : 0 ≤ ruleAt l s m) : ruleAt l s m < l.length := by
  unfold ruleAt at *
  cases hf : l.findIdx? (isRule s m) with
  | none => rw [hf] at h; exact absurd h (by decide)
  | some i =>
    have := (List.findIdx?_eq_some_iff_getElem.1 hf).1
    show (i : Int) < l.length
    omega
theorem szCfg_at (c : Cfg) : c.allow.length ≤ szCfg c ∧ c.remove.length ≤ szCfg c ∧ c.unwrap.length ≤ szCfg c ∧ c.attrs.length ≤ szCfg c ∧ c.drop.length ≤ szCfg c := by
  have h1 := szL_len szRule c.allow
  have h2 := szL_len szRule c.remove
  have h3 := szL_len szRule c.unwrap
  have h4 := szL_len List.length c.attrs
  have h5 := szL_len List.length c.drop
  unfold szCfg; omega
theorem szCfg_rule (c : Cfg) (i : Int) (h0 : 0 ≤ i) (h : i < c.allow.length) : (gd c.allow ruleD i).attrs.length ≤ szCfg c := by
  obtain ⟨k, rfl⟩ : ∃ k : Nat, i = k := ⟨i.toNat, by omega⟩
  rw [gd_nat]
  have h1 := szL_at szRule (l := c.allow) ruleD (k := k) (by omega)
  have h2 := szL_len List.length (c.allow.getD k ruleD).attrs
  have h3 : szRule (c.allow.getD k ruleD) = (c.allow.getD k ruleD).name.length + szL List.length (c.allow.getD k ruleD).attrs := rfl
  have h4 : szL szRule c.allow ≤ szCfg c := by unfold szCfg; omega
  omega
noncomputable def sp_unwB : Spec := ⟨[.st .cfg, .sc, .sc], [.rd, .rd, .rd], true, fun
  | [.agg [.bool ha, .bool ht, .dat ⟨.rule, al⟩, .dat ⟨.rule, re⟩, .dat ⟨.rule, un⟩, .dat ⟨.str, ns⟩, .dat ⟨.str, dr⟩, .bool co, .bool da], .int .i64 s, .str m] => some (some (szCfg ⟨ha, ht, al, re, un, ns, dr, co, da⟩ ≤ 1048576), .bool (unwB ⟨ha, ht, al, re, un, ns, dr, co, da⟩ s m), [])
  | _ => none⟩
@[push_cast] theorem sp_unwB_ps : sp_unwB.ps = [.st .cfg, .sc, .sc] := rfl
@[push_cast] theorem sp_unwB_md : sp_unwB.modes = [.rd, .rd, .rd] := rfl
@[push_cast] theorem sp_unwB_pure : sp_unwB.pure = true := rfl
@[push_cast] theorem sp_unwB_run (ha ht : Bool) (al re un : List Rule) (ns dr : List Str) (co da : Bool) (s : Int) (m : Str) : sp_unwB.run [.agg [.bool ha, .bool ht, .dat ⟨.rule, al⟩, .dat ⟨.rule, re⟩, .dat ⟨.rule, un⟩, .dat ⟨.str, ns⟩, .dat ⟨.str, dr⟩, .bool co, .bool da], .int .i64 s, .str m] = some (some (szCfg ⟨ha, ht, al, re, un, ns, dr, co, da⟩ ≤ 1048576), .bool (unwB ⟨ha, ht, al, re, un, ns, dr, co, da⟩ s m), []) := rfl
noncomputable def sp_allB : Spec := ⟨[.st .cfg, .sc, .sc], [.rd, .rd, .rd], true, fun
  | [.agg [.bool ha, .bool ht, .dat ⟨.rule, al⟩, .dat ⟨.rule, re⟩, .dat ⟨.rule, un⟩, .dat ⟨.str, ns⟩, .dat ⟨.str, dr⟩, .bool co, .bool da], .int .i64 s, .str m] => some (some (szCfg ⟨ha, ht, al, re, un, ns, dr, co, da⟩ ≤ 1048576), .bool (allB ⟨ha, ht, al, re, un, ns, dr, co, da⟩ s m), [])
  | _ => none⟩
@[push_cast] theorem sp_allB_ps : sp_allB.ps = [.st .cfg, .sc, .sc] := rfl
@[push_cast] theorem sp_allB_md : sp_allB.modes = [.rd, .rd, .rd] := rfl
@[push_cast] theorem sp_allB_pure : sp_allB.pure = true := rfl
@[push_cast] theorem sp_allB_run (ha ht : Bool) (al re un : List Rule) (ns dr : List Str) (co da : Bool) (s : Int) (m : Str) : sp_allB.run [.agg [.bool ha, .bool ht, .dat ⟨.rule, al⟩, .dat ⟨.rule, re⟩, .dat ⟨.rule, un⟩, .dat ⟨.str, ns⟩, .dat ⟨.str, dr⟩, .bool co, .bool da], .int .i64 s, .str m] = some (some (szCfg ⟨ha, ht, al, re, un, ns, dr, co, da⟩ ≤ 1048576), .bool (allB ⟨ha, ht, al, re, un, ns, dr, co, da⟩ s m), []) := rfl
noncomputable def e_unwB : Env := mk [(105, sp_isBan), (104, sp_ruleAt)] [] [] [] none
@[push_cast] theorem e_unwB_in : e_unwB.inl = inlF [] := rfl
@[push_cast] theorem e_unwB_fn : e_unwB.fnd = fndF none := rfl
@[push_cast] theorem e_unwB_gh : e_unwB.gh = ghOf [] := rfl
@[push_cast] theorem e_unwB_dr : e_unwB.dr = drOf [] := rfl
@[push_cast] theorem e_unwB_td : e_unwB.td = td := rfl
@[push_cast] theorem e_unwB_eqt : e_unwB.eqt = eqt := rfl
@[push_cast] theorem e_unwB_cal : e_unwB.cal = calOf [(105, sp_isBan), (104, sp_ruleAt)] := rfl
theorem c_unwB : CRow P0 ety0 66 sp_unwB := CRow.of (E := e_unwB) (mkOk (.cons c_isBan (.cons c_ruleAt (.nil)))) func66 rfl rfl rfl (by
  intro args p r outs h hq
  simp only [sp_unwB] at h; split at h <;> cases h
  rename_i ha ht al re un ns dr co da s m
  have hz := hq _ rfl
  have hc := szCfg_at ⟨ha, ht, al, re, un, ns, dr, co, da⟩
  simp only at hc
  refine Body.intro (rs := [.tmp 6]) rfl rfl rfl ?_
  apply vc_run 1000 (stop := false) rfl; simp only [push_cast, reduceIte, Nat.reduceEqDiff, Nat.reduceAdd, Nat.reduceSub, Nat.reduceLT, Int.reduceNeg, Int.reduceLE, Int.reduceLT, Int.reduceToNat, Nat.reduceLeDiff, UInt8.reduceOfNat, UInt8.reduceOfNatLT, and_self, Nat.reduceMul, decide_true, decide_false, Bool.not_true, Bool.not_false, implies_true]
  refine ⟨by omega, ?_⟩
  simp only [Bool.cond_false_right]
  rw [Bool.and_comm]; rfl)
noncomputable def e_unwB2 : Env := mk [(118, sp_isBan), (84, sp_ruleAt)] [] [] [] none
@[push_cast] theorem e_unwB2_in : e_unwB2.inl = inlF [] := rfl
@[push_cast] theorem e_unwB2_fn : e_unwB2.fnd = fndF none := rfl
@[push_cast] theorem e_unwB2_gh : e_unwB2.gh = ghOf [] := rfl
@[push_cast] theorem e_unwB2_dr : e_unwB2.dr = drOf [] := rfl
@[push_cast] theorem e_unwB2_td : e_unwB2.td = td := rfl
@[push_cast] theorem e_unwB2_eqt : e_unwB2.eqt = eqt := rfl
@[push_cast] theorem e_unwB2_cal : e_unwB2.cal = calOf [(118, sp_isBan), (84, sp_ruleAt)] := rfl
theorem c_unwB2 : CRow P0 ety0 86 sp_unwB := CRow.of (E := e_unwB2) (mkOk (.cons c_isBan2 (.cons c_l07At (.nil)))) func86 rfl rfl rfl (by
  intro args p r outs h hq
  simp only [sp_unwB] at h; split at h <;> cases h
  rename_i ha ht al re un ns dr co da s m
  have hz := hq _ rfl
  have hc := szCfg_at ⟨ha, ht, al, re, un, ns, dr, co, da⟩
  simp only at hc
  refine Body.intro (rs := [.tmp 6]) rfl rfl rfl ?_
  apply vc_run 1000 (stop := false) rfl; simp only [push_cast, reduceIte, Nat.reduceEqDiff, Nat.reduceAdd, Nat.reduceSub, Nat.reduceLT, Int.reduceNeg, Int.reduceLE, Int.reduceLT, Int.reduceToNat, Nat.reduceLeDiff, UInt8.reduceOfNat, UInt8.reduceOfNatLT, and_self, Nat.reduceMul, decide_true, decide_false, Bool.not_true, Bool.not_false, implies_true]
  refine ⟨fun _ => by omega, ?_⟩
  simp only [Bool.cond_false_right]
  rfl)
noncomputable def e_allB : Env := mk [(105, sp_isBan), (104, sp_ruleAt)] [] [] [] none
@[push_cast] theorem e_allB_in : e_allB.inl = inlF [] := rfl
@[push_cast] theorem e_allB_fn : e_allB.fnd = fndF none := rfl
@[push_cast] theorem e_allB_gh : e_allB.gh = ghOf [] := rfl
@[push_cast] theorem e_allB_dr : e_allB.dr = drOf [] := rfl
@[push_cast] theorem e_allB_td : e_allB.td = td := rfl
@[push_cast] theorem e_allB_eqt : e_allB.eqt = eqt := rfl
@[push_cast] theorem e_allB_cal : e_allB.cal = calOf [(105, sp_isBan), (104, sp_ruleAt)] := rfl
theorem c_allB : CRow P0 ety0 67 sp_allB := CRow.of (E := e_allB) (mkOk (.cons c_isBan (.cons c_ruleAt (.nil)))) func67 rfl rfl rfl (by
  intro args p r outs h hq
  simp only [sp_allB] at h; split at h <;> cases h
  rename_i ha ht al re un ns dr co da s m
  have hz := hq _ rfl
  have hc := szCfg_at ⟨ha, ht, al, re, un, ns, dr, co, da⟩
  simp only at hc
  refine Body.intro (rs := [.tmp 6]) rfl rfl rfl ?_
  apply vc_run 1000 (stop := false) rfl; simp only [push_cast, reduceIte, Nat.reduceEqDiff, Nat.reduceAdd, Nat.reduceSub, Nat.reduceLT, Int.reduceNeg, Int.reduceLE, Int.reduceLT, Int.reduceToNat, Nat.reduceLeDiff, UInt8.reduceOfNat, UInt8.reduceOfNatLT, and_self, Nat.reduceMul, decide_true, decide_false, Bool.not_true, Bool.not_false, implies_true]
  have e : ∀ b, (bif isBan m then true else decide (0 ≤ ruleAt un s m)) = b → (isBan m || decide (0 ≤ ruleAt un s m)) = b := by
    intro b h; rw [← h]; cases isBan m <;> rfl
  refine ⟨fun _ => by omega, fun h => ?_, fun h => ⟨fun h1 => ⟨by omega, ?_⟩, fun h1 => ⟨by omega, ?_⟩⟩⟩
  · rw [allB, e _ h]; rfl
  · rw [allB, e _ h, h1]; rfl
  · rw [allB, e _ h, h1]; rfl)
noncomputable def e_allB2 : Env := mk [(118, sp_isBan), (84, sp_ruleAt)] [] [] [] none
@[push_cast] theorem e_allB2_in : e_allB2.inl = inlF [] := rfl
@[push_cast] theorem e_allB2_fn : e_allB2.fnd = fndF none := rfl
@[push_cast] theorem e_allB2_gh : e_allB2.gh = ghOf [] := rfl
@[push_cast] theorem e_allB2_dr : e_allB2.dr = drOf [] := rfl
@[push_cast] theorem e_allB2_td : e_allB2.td = td := rfl
@[push_cast] theorem e_allB2_eqt : e_allB2.eqt = eqt := rfl
@[push_cast] theorem e_allB2_cal : e_allB2.cal = calOf [(118, sp_isBan), (84, sp_ruleAt)] := rfl
theorem c_allB2 : CRow P0 ety0 87 sp_allB := CRow.of (E := e_allB2) (mkOk (.cons c_isBan2 (.cons c_l07At (.nil)))) func87 rfl rfl rfl (by
  intro args p r outs h hq
  simp only [sp_allB] at h; split at h <;> cases h
  rename_i ha ht al re un ns dr co da s m
  have hz := hq _ rfl
  have hc := szCfg_at ⟨ha, ht, al, re, un, ns, dr, co, da⟩
  simp only at hc
  refine Body.intro (rs := [.tmp 6]) rfl rfl rfl ?_
  apply vc_run 1000 (stop := false) rfl; simp only [push_cast, reduceIte, Nat.reduceEqDiff, Nat.reduceAdd, Nat.reduceSub, Nat.reduceLT, Int.reduceNeg, Int.reduceLE, Int.reduceLT, Int.reduceToNat, Nat.reduceLeDiff, UInt8.reduceOfNat, UInt8.reduceOfNatLT, and_self, Nat.reduceMul, decide_true, decide_false, Bool.not_true, Bool.not_false, implies_true]
  have e : ∀ b, (bif isBan m then true else decide (0 ≤ ruleAt un s m)) = b → (isBan m || decide (0 ≤ ruleAt un s m)) = b := by
    intro b h; rw [← h]; cases isBan m <;> rfl
  refine ⟨fun _ => by omega, fun h => ?_, fun h => ⟨fun h1 => ⟨by omega, ?_⟩, fun h1 => ⟨by omega, ?_⟩⟩⟩
  · rw [allB, e _ h]; rfl
  · rw [allB, e _ h, h1]; rfl
  · rw [allB, e _ h, h1]; rfl)
noncomputable def sp_keepA : Spec := ⟨[.st .cfg, .sc, .sc, .st .attr], [.rd, .rd, .rd, .rd], true, fun
  | [.agg [.bool ha, .bool ht, .dat ⟨.rule, al⟩, .dat ⟨.rule, re⟩, .dat ⟨.rule, un⟩, .dat ⟨.str, ns⟩, .dat ⟨.str, dr⟩, .bool co, .bool da], .int .i64 s, .str m, .agg [.str x, .str y]] => some (some (szCfg ⟨ha, ht, al, re, un, ns, dr, co, da⟩ ≤ 1048576 ∧ x.length ≤ 65536 ∧ y.length ≤ 65536), .bool (keepA ⟨ha, ht, al, re, un, ns, dr, co, da⟩ s m ⟨x, y⟩), [])
  | _ => none⟩
@[push_cast] theorem sp_keepA_ps : sp_keepA.ps = [.st .cfg, .sc, .sc, .st .attr] := rfl
@[push_cast] theorem sp_keepA_md : sp_keepA.modes = [.rd, .rd, .rd, .rd] := rfl
@[push_cast] theorem sp_keepA_pure : sp_keepA.pure = true := rfl
@[push_cast] theorem sp_keepA_run (ha ht : Bool) (al re un : List Rule) (ns dr : List Str) (co da : Bool) (s : Int) (m x y : Str) : sp_keepA.run [.agg [.bool ha, .bool ht, .dat ⟨.rule, al⟩, .dat ⟨.rule, re⟩, .dat ⟨.rule, un⟩, .dat ⟨.str, ns⟩, .dat ⟨.str, dr⟩, .bool co, .bool da], .int .i64 s, .str m, .agg [.str x, .str y]] = some (some (szCfg ⟨ha, ht, al, re, un, ns, dr, co, da⟩ ≤ 1048576 ∧ x.length ≤ 65536 ∧ y.length ≤ 65536), .bool (keepA ⟨ha, ht, al, re, un, ns, dr, co, da⟩ s m ⟨x, y⟩), []) := rfl
noncomputable def e_keepA : Env := mk [(111, sp_harmB), (79, sp_hasS), (100, sp_preS), (104, sp_ruleAt)] [(8, [], [])] [] [] none
@[push_cast] theorem e_keepA_in : e_keepA.inl = inlF [] := rfl
@[push_cast] theorem e_keepA_fn : e_keepA.fnd = fndF none := rfl
@[push_cast] theorem e_keepA_gh : e_keepA.gh = ghOf [] := rfl
@[push_cast] theorem e_keepA_dr : e_keepA.dr = drOf [(8, [], [])] := rfl
@[push_cast] theorem e_keepA_td : e_keepA.td = td := rfl
@[push_cast] theorem e_keepA_eqt : e_keepA.eqt = eqt := rfl
@[push_cast] theorem e_keepA_cal : e_keepA.cal = calOf [(111, sp_harmB), (79, sp_hasS), (100, sp_preS), (104, sp_ruleAt)] := rfl
theorem c_keepA : CRow P0 ety0 72 sp_keepA := CRow.of (E := e_keepA) (mkOk (.cons c_harmB (.cons c_hasS (.cons c_hasPre (.cons c_ruleAt (.nil)))))) func72 rfl rfl rfl (by
  intro args p r outs h hq
  simp only [sp_keepA] at h; split at h <;> cases h
  rename_i ha ht al re un ns dr co da s m x y
  have hz := hq _ rfl
  have hc := szCfg_at ⟨ha, ht, al, re, un, ns, dr, co, da⟩
  simp only at hc
  refine Body.intro (rs := [.tmp 8]) rfl rfl rfl ?_
  apply vc_run 1000 (stop := false) rfl; simp only [push_cast, reduceIte, Nat.reduceEqDiff, Nat.reduceAdd, Nat.reduceSub, Nat.reduceLT, Int.reduceNeg, Int.reduceLE, Int.reduceLT, Int.reduceToNat, Nat.reduceLeDiff, UInt8.reduceOfNat, UInt8.reduceOfNatLT, and_self, Nat.reduceMul, decide_true, decide_false, Bool.not_true, Bool.not_false, implies_true]
  obtain ⟨hz, hx, hy⟩ := hz
  have hK : keepA ⟨ha, ht, al, re, un, ns, dr, co, da⟩ s m ⟨x, y⟩ = (!(harmB ⟨x, y⟩ || hasS dr x) && (!ht || hasS ns x || (da && dataB x) || (decide (0 ≤ ruleAt al s m) && hasS (gd al ruleD (ruleAt al s m)).attrs x))) := rfl
  have hA : (0 ≤ ruleAt al s m) → (gd al ruleD (ruleAt al s m)).attrs.length ≤ 1048576 := fun h => Nat.le_trans (szCfg_rule ⟨ha, ht, al, re, un, ns, dr, co, da⟩ _ h (ruleAt_lt h)) hz
  have e5 : decide ((5 : Int) < (x.length : Int)) = decide (5 < x.length) := decide_eq_decide.2 (by omega)
  have hD : dataB x = (decide (5 < x.length) && preS x [100, 97, 116, 97, 45]) := rfl
  simp only [Bool.cond_true_left, Bool.cond_false_right, hK, e5]
  refine ⟨⟨hx, hy⟩, fun _ => by omega, fun h => ?_, fun h => ⟨fun _ => by omega, fun h1 => ?_, fun h1 => ⟨fun _ => by omega, fun h2 => ?_, fun h2 => ⟨by omega, fun h3 => ⟨of_decide_eq_true h3, ruleAt_lt (of_decide_eq_true h3)⟩, fun h3 => by have := hA (of_decide_eq_true h3); omega, ?_⟩⟩⟩⟩
  · rw [h]; rfl
  · rw [h, h1]; rfl
  · have : (da && dataB x) = true := by rw [hD, ← h2]; cases da <;> cases decide (5 < x.length) <;> cases preS x [100, 97, 116, 97, 45] <;> rfl
    rw [h, h1, this]; rfl
  · have : (da && dataB x) = false := by rw [hD, ← h2]; cases da <;> cases decide (5 < x.length) <;> cases preS x [100, 97, 116, 97, 45] <;> rfl
    rw [h, h1, this]; rfl)
noncomputable def e_keepA2 : Env := mk [(147, sp_isHdl), (148, sp_isLnk), (149, sp_badS), (77, sp_hasS), (84, sp_ruleAt)] [(6, [], [])] [] [] none
@[push_cast] theorem e_keepA2_in : e_keepA2.inl = inlF [] := rfl
@[push_cast] theorem e_keepA2_fn : e_keepA2.fnd = fndF none := rfl
@[push_cast] theorem e_keepA2_gh : e_keepA2.gh = ghOf [] := rfl
@[push_cast] theorem e_keepA2_dr : e_keepA2.dr = drOf [(6, [], [])] := rfl
@[push_cast] theorem e_keepA2_td : e_keepA2.td = td := rfl
@[push_cast] theorem e_keepA2_eqt : e_keepA2.eqt = eqt := rfl
@[push_cast] theorem e_keepA2_cal : e_keepA2.cal = calOf [(147, sp_isHdl), (148, sp_isLnk), (149, sp_badS), (77, sp_hasS), (84, sp_ruleAt)] := rfl
theorem c_keepA2 : CRow P0 ety0 122 sp_keepA := CRow.of (E := e_keepA2) (mkOk (.cons c_isHdl2 (.cons c_isLnk2 (.cons c_l01Bad (.cons c_hasS2 (.cons c_l07At (.nil))))))) func122 rfl rfl rfl (by
  intro args p r outs h hq
  simp only [sp_keepA] at h; split at h <;> cases h
  rename_i ha ht al re un ns dr co da s m x y
  have hz := hq _ rfl
  have hc := szCfg_at ⟨ha, ht, al, re, un, ns, dr, co, da⟩
  simp only at hc
  refine Body.intro (rs := [.tmp 8]) rfl rfl rfl ?_
  apply vc_run 1000 (stop := false) rfl; simp only [push_cast, reduceIte, Nat.reduceEqDiff, Nat.reduceAdd, Nat.reduceSub, Nat.reduceLT, Int.reduceNeg, Int.reduceLE, Int.reduceLT, Int.reduceToNat, Nat.reduceLeDiff, UInt8.reduceOfNat, UInt8.reduceOfNatLT, and_self, Nat.reduceMul, decide_true, decide_false, Bool.not_true, Bool.not_false, implies_true]
  obtain ⟨hz, hx, hy⟩ := hz
  have hK : keepA ⟨ha, ht, al, re, un, ns, dr, co, da⟩ s m ⟨x, y⟩ = (!(harmB ⟨x, y⟩ || hasS dr x) && (!ht || hasS ns x || (da && dataB x) || (decide (0 ≤ ruleAt al s m) && hasS (gd al ruleD (ruleAt al s m)).attrs x))) := rfl
  have hA : (0 ≤ ruleAt al s m) → (gd al ruleD (ruleAt al s m)).attrs.length ≤ 1048576 := fun h => Nat.le_trans (szCfg_rule ⟨ha, ht, al, re, un, ns, dr, co, da⟩ _ h (ruleAt_lt h)) hz
  have e5 : decide ((5 : Int) < (x.length : Int)) = decide (5 < x.length) := decide_eq_decide.2 (by omega)
  have hD : dataB x = (decide (5 < x.length) && preS x [100, 97, 116, 97, 45]) := rfl
  simp only [Bool.cond_true_left, Bool.cond_false_right, hK, e5]
  have hH : harmB ⟨x, y⟩ = (isHdl x || (isLnk x && badS y)) := rfl
  have eP : decide (cut x 0 5 = [100, 97, 116, 97, 45]) = preS x [100, 97, 116, 97, 45] := by
    rw [show cut x 0 (5 : Int) = x.take 5 from cut_take x 5]; rfl
  rw [← hH, eP]
  refine ⟨hx, fun _ => hy, fun _ => by omega, fun h => ?_, fun h => ⟨fun _ => by omega, fun h1 => ?_, fun h2 => ?_, fun h2 => ⟨by omega, fun h3 => ⟨of_decide_eq_true h3, ruleAt_lt (of_decide_eq_true h3)⟩, fun h3 => by have := hA (of_decide_eq_true h3); omega, ?_⟩⟩⟩
  · rw [h]; rfl
  · have h1 := h1.2
    rw [Bool.and_eq_true] at h1
    have := of_decide_eq_true h1.2
    omega
  · have : (!ht || hasS ns x || (da && dataB x)) = true := by rw [hD, ← h2]; cases da <;> cases decide (5 < x.length) <;> cases preS x [100, 97, 116, 97, 45] <;> rfl
    rw [h, this]; rfl
  · have : (!ht || hasS ns x || (da && dataB x)) = false := by rw [hD, ← h2]; cases da <;> cases decide (5 < x.length) <;> cases preS x [100, 97, 116, 97, 45] <;> rfl
    rw [h, this]; rfl)
end Go.Ab
