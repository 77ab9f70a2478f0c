import Derived.Test.YtnnaepmjmpnimaaGreatDoorFnBz
import Derived.Test.YtnnaepmjmpnimaaGreatDoorFnCo
import Derived.Test.YtnnaepmjmpnimaaGreatDoorFnA
set_option linter.all false
set_option linter.unusedSimpArgs false
set_option linter.unusedVariables false
set_option linter.unusedSectionVars false
set_option maxRecDepth 20000
set_option maxHeartbeats 1000000
namespace Go.Ab
open Go Go.Proofs.Tryz
open Go.Lib
def buildF (t : Str) : List Node × Int := if 65536 < t.length then ([], 2) else buildP t
def buildT (t m : Str) : List Node × Int := if isVoidS m = true then ([], 0) else if isRawS m = true then (if t = [] then ([], 0) else if 120 < t.length then ([], 8) else ([.mk 2 0 [] t [] []], 0)) else buildR t
def buildH (t m : Str) : List Node × Int := if tagOK m = false then ([], 10) else if 4096 < t.length then ([], 8) else buildT t m
def buildG (t m : Str) : List Node × Int := if 65536 < t.length ∨ 65536 < m.length then ([], 2) else buildH t m
theorem buildP_sz (t : Str) : szL szNd (buildP t).1 ≤ 27511 := by
  unfold buildP
  split
  · exact Nat.zero_le _
  · exact build_sz t
theorem buildF_sz (t : Str) : szL szNd (buildF t).1 ≤ 27511 := by
  unfold buildF
  split
  · exact Nat.zero_le _
  · exact buildP_sz t
theorem buildT_sz (t m : Str) : szL szNd (buildT t m).1 ≤ 27511 := by
  unfold buildT
  split
  · exact Nat.zero_le _
  split
  · split
    · exact Nat.zero_le _
    split
    · exact Nat.zero_le _
    · show 1 + (szNd (Node.mk 2 0 [] t [] []) + 0) ≤ _
      rw [szNd_mk]
      show 1 + (0 + t.length + 0 + 0 + 0) ≤ _
      omega
  · exact build_sz t
theorem buildG_sz (t m : Str) : szL szNd (buildG t m).1 ≤ 27511 := by
  unfold buildG buildH
  repeat' split
  all_goals first | exact Nat.zero_le _ | exact buildT_sz t m
theorem isLong_two (t m : Str) : isLong [t, m] = true ↔ 65536 < t.length ∨ 65536 < m.length := by
  simp [isLong, big]
noncomputable def sp_buildF : Spec := ⟨[.sc], [.rd], false, fun
  | [.str t] => some (some (t.length ≤ 9223372036854775807), .tup [.own true ⟨.node, (buildF t).1⟩, .int .i64 (buildF t).2], [])
  | _ => none⟩
@[push_cast] theorem sp_buildF_ps : sp_buildF.ps = [.sc] := rfl
@[push_cast] theorem sp_buildF_md : sp_buildF.modes = [.rd] := rfl
@[push_cast] theorem sp_buildF_pure : sp_buildF.pure = false := rfl
@[push_cast] theorem sp_buildF_run (t : Str) : sp_buildF.run [.str t] = some (some (t.length ≤ 9223372036854775807), .tup [.own true ⟨.node, (buildF t).1⟩, .int .i64 (buildF t).2], []) := rfl
noncomputable def e_buildF : Env := mk [(28, sp_isLong), (29, sp_build)] [] [(2000000, [.nil .node 2])] [] none
@[push_cast] theorem e_buildF_in : e_buildF.inl = inlF [] := rfl
@[push_cast] theorem e_buildF_fn : e_buildF.fnd = fndF none := rfl
@[push_cast] theorem e_buildF_gh : e_buildF.gh = ghOf [(2000000, [.nil .node 2])] := rfl
@[push_cast] theorem e_buildF_dr : e_buildF.dr = drOf [] := rfl
@[push_cast] theorem e_buildF_td : e_buildF.td = td := rfl
@[push_cast] theorem e_buildF_eqt : e_buildF.eqt = eqt := rfl
@[push_cast] theorem e_buildF_cal : e_buildF.cal = calOf [(28, sp_isLong), (29, sp_build)] := rfl
theorem c_buildF : CRow P0 ety0 10 sp_buildF := CRow.of (E := e_buildF) (mkOk (.cons c_isLong (.cons c_build (.nil)))) func10 rfl rfl rfl (by
  intro args p r outs h hq
  simp only [sp_buildF] at h; split at h <;> cases h
  rename_i t
  have hs := hq _ rfl
  refine Body.intro (rs := [.tmp 2, .tmp 3]) rfl rfl rfl ?_
  apply vc_run 1000 (stop := false) rfl; simp only [push_cast, reduceIte, Nat.reduceEqDiff, Nat.reduceAdd, Nat.reduceSub, Nat.reduceLT, Int.reduceNeg, Int.reduceLE, Int.reduceLT, Int.reduceToNat, Nat.reduceLeDiff, UInt8.reduceOfNat, UInt8.reduceOfNatLT, and_self, Nat.reduceMul, decide_true, decide_false, Bool.not_true, Bool.not_false, implies_true]
  rw [isLong_one]
  refine ⟨fun h => ?_, fun h => ?_⟩
  · rw [buildF, if_pos (of_decide_eq_true h)]
  have h0 : ¬ 65536 < t.length := of_decide_eq_false h
  rw [buildF, if_neg h0]
  exact ⟨by omega, rfl⟩)
noncomputable def e_buildF2 : Env := mk [(26, sp_buildQ), (27, sp_clonedT)] [] [(5, [.frz 4])] [] none
@[push_cast] theorem e_buildF2_in : e_buildF2.inl = inlF [] := rfl
@[push_cast] theorem e_buildF2_fn : e_buildF2.fnd = fndF none := rfl
@[push_cast] theorem e_buildF2_gh : e_buildF2.gh = ghOf [(5, [.frz 4])] := rfl
@[push_cast] theorem e_buildF2_dr : e_buildF2.dr = drOf [] := rfl
@[push_cast] theorem e_buildF2_td : e_buildF2.td = td := rfl
@[push_cast] theorem e_buildF2_eqt : e_buildF2.eqt = eqt := rfl
@[push_cast] theorem e_buildF2_cal : e_buildF2.cal = calOf [(26, sp_buildQ), (27, sp_clonedT)] := rfl
theorem c_buildF2 : CRow P0 ety0 9 sp_buildF := CRow.of (E := e_buildF2) (mkOk (.cons c_buildQ (.cons c_l03Copy (.nil)))) func9 rfl rfl rfl (by
  intro args p r outs h hq
  simp only [sp_buildF] at h; split at h <;> cases h
  rename_i t
  have hs := hq _ rfl
  have hb := build_sz t
  refine Body.intro (rs := [.tmp 2, .tmp 3]) rfl rfl rfl ?_
  apply vc_run 1000 (stop := false) rfl; simp only [push_cast, reduceIte, Nat.reduceEqDiff, Nat.reduceAdd, Nat.reduceSub, Nat.reduceLT, Int.reduceNeg, Int.reduceLE, Int.reduceLT, Int.reduceToNat, Nat.reduceLeDiff, UInt8.reduceOfNat, UInt8.reduceOfNatLT, and_self, Nat.reduceMul, decide_true, decide_false, Bool.not_true, Bool.not_false, implies_true]
  refine ⟨fun h => ?_, fun h => ⟨fun h2 => ?_, fun h2 => ?_⟩⟩
  · rw [buildF, if_pos (by have := of_decide_eq_true h; omega)]
  · rw [buildF, if_neg (by have := of_decide_eq_false h; omega), buildP, if_pos (by have := of_decide_eq_true h2; omega)]
  · rw [buildF, if_neg (by have := of_decide_eq_false h; omega), buildP, if_neg (by have := of_decide_eq_false h2; omega)]
    exact ⟨by have := of_decide_eq_false h2; omega, by omega, rfl⟩)
noncomputable def sp_buildH : Spec := ⟨[.sc, .sc], [.rd, .rd], false, fun
  | [.str t, .str m] => some (some (t.length ≤ 524000 ∧ m.length ≤ 524000), .tup [.own true ⟨.node, (buildH t m).1⟩, .int .i64 (buildH t m).2], [])
  | _ => none⟩
@[push_cast] theorem sp_buildH_ps : sp_buildH.ps = [.sc, .sc] := rfl
@[push_cast] theorem sp_buildH_md : sp_buildH.modes = [.rd, .rd] := rfl
@[push_cast] theorem sp_buildH_pure : sp_buildH.pure = false := rfl
@[push_cast] theorem sp_buildH_run (t m : Str) : sp_buildH.run [.str t, .str m] = some (some (t.length ≤ 524000 ∧ m.length ≤ 524000), .tup [.own true ⟨.node, (buildH t m).1⟩, .int .i64 (buildH t m).2], []) := rfl
noncomputable def e_buildH : Env := mk [(65, sp_tagOK), (66, sp_isVoidS), (67, sp_isRawS), (29, sp_build)] [] [(2000000, [.nil .node 4])] [] none
@[push_cast] theorem e_buildH_in : e_buildH.inl = inlF [] := rfl
@[push_cast] theorem e_buildH_fn : e_buildH.fnd = fndF none := rfl
@[push_cast] theorem e_buildH_gh : e_buildH.gh = ghOf [(2000000, [.nil .node 4])] := rfl
@[push_cast] theorem e_buildH_dr : e_buildH.dr = drOf [] := rfl
@[push_cast] theorem e_buildH_td : e_buildH.td = td := rfl
@[push_cast] theorem e_buildH_eqt : e_buildH.eqt = eqt := rfl
@[push_cast] theorem e_buildH_cal : e_buildH.cal = calOf [(65, sp_tagOK), (66, sp_isVoidS), (67, sp_isRawS), (29, sp_build)] := rfl
theorem c_buildH : CRow P0 ety0 36 sp_buildH := CRow.of (E := e_buildH) (mkOk (.cons c_tagOK (.cons c_isVoidS (.cons c_isRawS (.cons c_build (.nil)))))) func36 rfl rfl rfl (by
  intro args p r outs h hq
  simp only [sp_buildH] at h; split at h <;> cases h
  rename_i t m
  obtain ⟨h1, h2⟩ := hq _ rfl
  refine Body.intro (rs := [.tmp 4, .tmp 5]) rfl rfl rfl ?_
  apply vc_run 1000 (stop := false) rfl; simp only [push_cast, reduceIte, Nat.reduceEqDiff, Nat.reduceAdd, Nat.reduceSub, Nat.reduceLT, Int.reduceNeg, Int.reduceLE, Int.reduceLT, Int.reduceToNat, Nat.reduceLeDiff, UInt8.reduceOfNat, UInt8.reduceOfNatLT, and_self, Nat.reduceMul, decide_true, decide_false, Bool.not_true, Bool.not_false, implies_true]
  unfold buildH buildT
  refine ⟨by omega, fun h => ?_, fun h => ?_⟩
  · rw [if_pos (by simpa using h)]
  rw [if_neg (by simpa using h)]
  refine ⟨fun h => ?_, fun h => ?_⟩
  · rw [if_pos (by have := of_decide_eq_true h; omega)]
  have h4 : ¬ 4096 < t.length := by have := of_decide_eq_false h; omega
  rw [if_neg h4]
  refine ⟨fun h => ?_, fun h => ?_⟩
  · rw [if_pos h]
  rw [if_neg (by rw [h]; simp)]
  refine ⟨fun h => ?_, fun h => ?_⟩
  · rw [if_neg (by simpa using h), buildP, if_neg h4]
    exact ⟨by omega, rfl⟩
  rw [if_pos (by simpa using h)]
  refine ⟨fun h => ?_, fun h => ⟨fun g => ?_, fun g => ?_⟩⟩
  · have h := of_decide_eq_true h
    rw [if_neg (fun e => by rw [e] at h; simp at h), if_pos (by omega)]
  · rw [if_pos (of_decide_eq_true g)]
  · rw [if_neg (of_decide_eq_false g), if_neg (by have := of_decide_eq_false h; omega)])
noncomputable def sp_buildT : Spec := ⟨[.sc, .sc], [.rd, .rd], false, fun
  | [.str t, .str m] => some (some (t.length ≤ 524000), .tup [.own true ⟨.node, (buildT t m).1⟩, .int .i64 (buildT t m).2], [])
  | _ => none⟩
@[push_cast] theorem sp_buildT_ps : sp_buildT.ps = [.sc, .sc] := rfl
@[push_cast] theorem sp_buildT_md : sp_buildT.modes = [.rd, .rd] := rfl
@[push_cast] theorem sp_buildT_pure : sp_buildT.pure = false := rfl
@[push_cast] theorem sp_buildT_run (t m : Str) : sp_buildT.run [.str t, .str m] = some (some (t.length ≤ 524000), .tup [.own true ⟨.node, (buildT t m).1⟩, .int .i64 (buildT t m).2], []) := rfl
noncomputable def e_buildT : Env := mk [(63, sp_isVoidS), (64, sp_isRawS), (26, sp_buildQ)] [] [] [] none
@[push_cast] theorem e_buildT_in : e_buildT.inl = inlF [] := rfl
@[push_cast] theorem e_buildT_fn : e_buildT.fnd = fndF none := rfl
@[push_cast] theorem e_buildT_gh : e_buildT.gh = ghOf [] := rfl
@[push_cast] theorem e_buildT_dr : e_buildT.dr = drOf [] := rfl
@[push_cast] theorem e_buildT_td : e_buildT.td = td := rfl
@[push_cast] theorem e_buildT_eqt : e_buildT.eqt = eqt := rfl
@[push_cast] theorem e_buildT_cal : e_buildT.cal = calOf [(63, sp_isVoidS), (64, sp_isRawS), (26, sp_buildQ)] := rfl
theorem c_buildT : CRow P0 ety0 35 sp_buildT := CRow.of (E := e_buildT) (mkOk (.cons c_isVoidS2 (.cons c_isRawS2 (.cons c_buildQ (.nil))))) func35 rfl rfl rfl (by
  intro args p r outs h hq
  simp only [sp_buildT] at h; split at h <;> cases h
  rename_i t m
  have hs := hq _ rfl
  refine Body.intro (rs := [.tmp 4, .tmp 5]) rfl rfl rfl ?_
  apply vc_run 1000 (stop := false) rfl; simp only [push_cast, reduceIte, Nat.reduceEqDiff, Nat.reduceAdd, Nat.reduceSub, Nat.reduceLT, Int.reduceNeg, Int.reduceLE, Int.reduceLT, Int.reduceToNat, Nat.reduceLeDiff, UInt8.reduceOfNat, UInt8.reduceOfNatLT, and_self, Nat.reduceMul, decide_true, decide_false, Bool.not_true, Bool.not_false, implies_true]
  unfold buildT
  refine ⟨fun h => ?_, fun h => ?_⟩
  · rw [if_pos h]
  rw [if_neg (by rw [h]; simp)]
  refine ⟨fun h => ?_, fun h => ?_⟩
  · rw [if_pos h]
    refine ⟨fun g => ?_, fun g => ⟨fun g2 => ?_, fun g2 => ?_⟩⟩
    · rw [if_pos (of_decide_eq_true g)]
    · rw [if_neg (of_decide_eq_false g), if_pos (by have := of_decide_eq_true g2; omega)]
    · rw [if_neg (of_decide_eq_false g), if_neg (by have := of_decide_eq_false g2; omega)]
  · rw [if_neg (by rw [h]; simp)]
    exact ⟨hs, rfl⟩)
noncomputable def sp_buildG : Spec := ⟨[.sc, .sc], [.rd, .rd], false, fun
  | [.str t, .str m] => some (some (t.length ≤ 9223372036854775807 ∧ m.length ≤ 9223372036854775807), .tup [.own true ⟨.node, (buildG t m).1⟩, .int .i64 (buildG t m).2], [])
  | _ => none⟩
@[push_cast] theorem sp_buildG_ps : sp_buildG.ps = [.sc, .sc] := rfl
@[push_cast] theorem sp_buildG_md : sp_buildG.modes = [.rd, .rd] := rfl
@[push_cast] theorem sp_buildG_pure : sp_buildG.pure = false := rfl
@[push_cast] theorem sp_buildG_run (t m : Str) : sp_buildG.run [.str t, .str m] = some (some (t.length ≤ 9223372036854775807 ∧ m.length ≤ 9223372036854775807), .tup [.own true ⟨.node, (buildG t m).1⟩, .int .i64 (buildG t m).2], []) := rfl
noncomputable def e_buildG : Env := mk [(28, sp_isLong), (36, sp_buildH)] [] [(2000000, [.nil .node 4])] [] none
@[push_cast] theorem e_buildG_in : e_buildG.inl = inlF [] := rfl
@[push_cast] theorem e_buildG_fn : e_buildG.fnd = fndF none := rfl
@[push_cast] theorem e_buildG_gh : e_buildG.gh = ghOf [(2000000, [.nil .node 4])] := rfl
@[push_cast] theorem e_buildG_dr : e_buildG.dr = drOf [] := rfl
@[push_cast] theorem e_buildG_td : e_buildG.td = td := rfl
@[push_cast] theorem e_buildG_eqt : e_buildG.eqt = eqt := rfl
@[push_cast] theorem e_buildG_cal : e_buildG.cal = calOf [(28, sp_isLong), (36, sp_buildH)] := rfl
theorem c_buildG : CRow P0 ety0 15 sp_buildG := CRow.of (E := e_buildG) (mkOk (.cons c_isLong (.cons c_buildH (.nil)))) func15 rfl rfl rfl (by
  intro args p r outs h hq
  simp only [sp_buildG] at h; split at h <;> cases h
  rename_i t m
  obtain ⟨h1, h2⟩ := hq _ rfl
  refine Body.intro (rs := [.tmp 4, .tmp 5]) rfl rfl rfl ?_
  apply vc_run 1000 (stop := false) rfl; simp only [push_cast, reduceIte, Nat.reduceEqDiff, Nat.reduceAdd, Nat.reduceSub, Nat.reduceLT, Int.reduceNeg, Int.reduceLE, Int.reduceLT, Int.reduceToNat, Nat.reduceLeDiff, UInt8.reduceOfNat, UInt8.reduceOfNatLT, and_self, Nat.reduceMul, decide_true, decide_false, Bool.not_true, Bool.not_false, implies_true]
  refine ⟨fun h => ?_, fun h => ?_⟩
  · rw [buildG, if_pos ((isLong_two t m).1 h)]
  have h0 : ¬ (65536 < t.length ∨ 65536 < m.length) := fun e => by rw [(isLong_two t m).2 e] at h; cases h
  rw [buildG, if_neg h0]
  exact ⟨by omega, rfl⟩)
noncomputable def e_buildG2 : Env := mk [(34, sp_tagOK), (35, sp_buildT), (27, sp_clonedT)] [] [(7, [.frz 6])] [] none
@[push_cast] theorem e_buildG2_in : e_buildG2.inl = inlF [] := rfl
@[push_cast] theorem e_buildG2_fn : e_buildG2.fnd = fndF none := rfl
@[push_cast] theorem e_buildG2_gh : e_buildG2.gh = ghOf [(7, [.frz 6])] := rfl
@[push_cast] theorem e_buildG2_dr : e_buildG2.dr = drOf [] := rfl
@[push_cast] theorem e_buildG2_td : e_buildG2.td = td := rfl
@[push_cast] theorem e_buildG2_eqt : e_buildG2.eqt = eqt := rfl
@[push_cast] theorem e_buildG2_cal : e_buildG2.cal = calOf [(34, sp_tagOK), (35, sp_buildT), (27, sp_clonedT)] := rfl
theorem c_buildG2 : CRow P0 ety0 14 sp_buildG := CRow.of (E := e_buildG2) (mkOk (.cons c_tagOK2 (.cons c_buildT (.cons c_l03Copy (.nil))))) func14 rfl rfl rfl (by
  intro args p r outs h hq
  simp only [sp_buildG] at h; split at h <;> cases h
  rename_i t m
  obtain ⟨h1, h2⟩ := hq _ rfl
  have hb := buildT_sz t m
  refine Body.intro (rs := [.tmp 4, .tmp 5]) rfl rfl rfl ?_
  apply vc_run 1000 (stop := false) rfl; simp only [push_cast, reduceIte, Nat.reduceEqDiff, Nat.reduceAdd, Nat.reduceSub, Nat.reduceLT, Int.reduceNeg, Int.reduceLE, Int.reduceLT, Int.reduceToNat, Nat.reduceLeDiff, UInt8.reduceOfNat, UInt8.reduceOfNatLT, and_self, Nat.reduceMul, decide_true, decide_false, Bool.not_true, Bool.not_false, implies_true]
  have hor : (bif decide (65536 < (t.length : Int)) then true else decide (65536 < (m.length : Int))) = decide (65536 < t.length ∨ 65536 < m.length) := by
    by_cases g : 65536 < t.length
    · rw [decide_eq_true (show 65536 < (t.length : Int) by omega), decide_eq_true (show 65536 < t.length ∨ 65536 < m.length from .inl g)]; rfl
    · rw [decide_eq_false (show ¬ 65536 < (t.length : Int) by omega)]
      exact decide_eq_decide.2 ⟨fun h => .inr (by omega), fun h => by omega⟩
  rw [hor]
  refine ⟨fun h => ?_, fun h => ?_⟩
  · rw [buildG, if_pos (of_decide_eq_true h)]
  have h0 := of_decide_eq_false h
  unfold buildG buildH
  rw [if_neg h0]
  refine ⟨h2, fun h => ?_, fun h => ⟨fun g => ?_, fun g => ?_⟩⟩
  · rw [if_pos (by simpa using h)]
  · rw [if_neg (by simpa using h), if_pos (by have := of_decide_eq_true g; omega)]
  · rw [if_neg (by simpa using h), if_neg (by have := of_decide_eq_false g; omega)]
    exact ⟨by have := of_decide_eq_false g; omega, by omega, rfl⟩)
noncomputable def sp_lawBuild : Spec := ⟨[.sc], [.rd], true, fun
  | [.str t] => some (some (t.length ≤ 9223372036854775807), .bool true, [])
  | _ => none⟩
@[push_cast] theorem sp_lawBuild_ps : sp_lawBuild.ps = [.sc] := rfl
@[push_cast] theorem sp_lawBuild_md : sp_lawBuild.modes = [.rd] := rfl
@[push_cast] theorem sp_lawBuild_pure : sp_lawBuild.pure = true := rfl
@[push_cast] theorem sp_lawBuild_run (t : Str) : sp_lawBuild.run [.str t] = some (some (t.length ≤ 9223372036854775807), .bool true, []) := rfl
noncomputable def e_lawBuild : Env := mk [(11, sp_eqNodeS), (12, sp_mkNodes), (13, sp_hdNodes), (10, sp_buildF), (9, sp_buildF)] [] [] [] none
@[push_cast] theorem e_lawBuild_in : e_lawBuild.inl = inlF [] := rfl
@[push_cast] theorem e_lawBuild_fn : e_lawBuild.fnd = fndF none := rfl
@[push_cast] theorem e_lawBuild_gh : e_lawBuild.gh = ghOf [] := rfl
@[push_cast] theorem e_lawBuild_dr : e_lawBuild.dr = drOf [] := rfl
@[push_cast] theorem e_lawBuild_td : e_lawBuild.td = td := rfl
@[push_cast] theorem e_lawBuild_eqt : e_lawBuild.eqt = eqt := rfl
@[push_cast] theorem e_lawBuild_cal : e_lawBuild.cal = calOf [(11, sp_eqNodeS), (12, sp_mkNodes), (13, sp_hdNodes), (10, sp_buildF), (9, sp_buildF)] := rfl
theorem c_lawBuild : CRow P0 ety0 3 sp_lawBuild := CRow.of (E := e_lawBuild) (mkOk (.cons c_eqNodeS (.cons c_mkNodes (.cons c_hdNodes (.cons c_buildF (.cons c_buildF2 (.nil))))))) func3 rfl rfl rfl (by
  intro args p r outs h hq
  simp only [sp_lawBuild] at h; split at h <;> cases h
  rename_i t
  have hs := hq _ rfl
  refine Body.intro (rs := [.tmp 2]) rfl rfl rfl ?_
  apply vc_run 1000 (stop := false) rfl; simp only [push_cast, reduceIte, Nat.reduceEqDiff, Nat.reduceAdd, Nat.reduceSub, Nat.reduceLT, Int.reduceNeg, Int.reduceLE, Int.reduceLT, Int.reduceToNat, Nat.reduceLeDiff, UInt8.reduceOfNat, UInt8.reduceOfNatLT, and_self, Nat.reduceMul, decide_true, decide_false, Bool.not_true, Bool.not_false, implies_true]
  intro h
  have k2 := buildF_sz t
  generalize (buildF t).1 = R at *
  have k3 : szL szNd R ≤ 1048576 := by omega
  have k4 := cNds_sz R
  rw [cNds_eq, szNds_eq] at k4
  have n3 : Mkd mkNd cNd (mkL mkNd cNd R 1) 1 := (mkL_idem mkNd cNd mkNd_id mkNd_c R 1).symm
  have n4 : sumL cNd (mkL mkNd cNd R 1) = sumL cNd R := mkL_sum mkNd cNd mkNd_c R 1
  have n1 : decide ((1 : Int) + (sumL cNd R : Nat) < 0) = false := decide_eq_false (by omega)
  have n5 : (1 : Int) + (sumL cNd R : Nat) ≤ 1073741824 := by omega
  simp only [n4, n1, n3, n5, hs, k3, eqB_self, Bool.not_true, cond_true, cond_false, decide_true, forall_const, reduceCtorEq, false_implies, implies_true, and_self, and_true, true_and])
noncomputable def sp_lawBuildIn : Spec := ⟨[.sc, .sc], [.rd, .rd], true, fun
  | [.str t, .str m] => some (some (t.length ≤ 9223372036854775807 ∧ m.length ≤ 9223372036854775807), .bool true, [])
  | _ => none⟩
@[push_cast] theorem sp_lawBuildIn_ps : sp_lawBuildIn.ps = [.sc, .sc] := rfl
@[push_cast] theorem sp_lawBuildIn_md : sp_lawBuildIn.modes = [.rd, .rd] := rfl
@[push_cast] theorem sp_lawBuildIn_pure : sp_lawBuildIn.pure = true := rfl
@[push_cast] theorem sp_lawBuildIn_run (t m : Str) : sp_lawBuildIn.run [.str t, .str m] = some (some (t.length ≤ 9223372036854775807 ∧ m.length ≤ 9223372036854775807), .bool true, []) := rfl
noncomputable def e_lawBuildIn : Env := mk [(11, sp_eqNodeS), (12, sp_mkNodes), (13, sp_hdNodes), (15, sp_buildG), (14, sp_buildG)] [] [] [] none
@[push_cast] theorem e_lawBuildIn_in : e_lawBuildIn.inl = inlF [] := rfl
@[push_cast] theorem e_lawBuildIn_fn : e_lawBuildIn.fnd = fndF none := rfl
@[push_cast] theorem e_lawBuildIn_gh : e_lawBuildIn.gh = ghOf [] := rfl
@[push_cast] theorem e_lawBuildIn_dr : e_lawBuildIn.dr = drOf [] := rfl
@[push_cast] theorem e_lawBuildIn_td : e_lawBuildIn.td = td := rfl
@[push_cast] theorem e_lawBuildIn_eqt : e_lawBuildIn.eqt = eqt := rfl
@[push_cast] theorem e_lawBuildIn_cal : e_lawBuildIn.cal = calOf [(11, sp_eqNodeS), (12, sp_mkNodes), (13, sp_hdNodes), (15, sp_buildG), (14, sp_buildG)] := rfl
theorem c_lawBuildIn : CRow P0 ety0 4 sp_lawBuildIn := CRow.of (E := e_lawBuildIn) (mkOk (.cons c_eqNodeS (.cons c_mkNodes (.cons c_hdNodes (.cons c_buildG (.cons c_buildG2 (.nil))))))) func4 rfl rfl rfl (by
  intro args p r outs h hq
  simp only [sp_lawBuildIn] at h; split at h <;> cases h
  rename_i t m
  obtain ⟨h1, h2⟩ := hq _ rfl
  refine Body.intro (rs := [.tmp 4]) rfl rfl rfl ?_
  apply vc_run 1000 (stop := false) rfl; simp only [push_cast, reduceIte, Nat.reduceEqDiff, Nat.reduceAdd, Nat.reduceSub, Nat.reduceLT, Int.reduceNeg, Int.reduceLE, Int.reduceLT, Int.reduceToNat, Nat.reduceLeDiff, UInt8.reduceOfNat, UInt8.reduceOfNatLT, and_self, Nat.reduceMul, decide_true, decide_false, Bool.not_true, Bool.not_false, implies_true]
  intro h h'
  have k2 := buildG_sz t m
  generalize (buildG t m).1 = R at *
  have k3 : szL szNd R ≤ 1048576 := by omega
  have k4 := cNds_sz R
  rw [cNds_eq, szNds_eq] at k4
  have n3 : Mkd mkNd cNd (mkL mkNd cNd R 1) 1 := (mkL_idem mkNd cNd mkNd_id mkNd_c R 1).symm
  have n4 : sumL cNd (mkL mkNd cNd R 1) = sumL cNd R := mkL_sum mkNd cNd mkNd_c R 1
  have n1 : decide ((1 : Int) + (sumL cNd R : Nat) < 0) = false := decide_eq_false (by omega)
  have n5 : (1 : Int) + (sumL cNd R : Nat) ≤ 1073741824 := by omega
  simp only [n4, n1, n3, n5, h1, h2, k3, eqB_self, Bool.not_true, cond_true, cond_false, decide_true, forall_const, reduceCtorEq, false_implies, implies_true, and_self, and_true, true_and])
end Go.Ab
