/- A new house. -/
import Derived.Test.YtondigjbmieekaaFnV
import Derived.Test.YtondigjbmieekaaFnCp
import Derived.Test.YtondigjbmieekaaFnMc
set_option linter.all false
set_option linter.unusedSimpArgs false
set_option linter.unusedVariables false
set_option linter.unusedSectionVars false
set_option maxRecDepth 20000
set_option maxHeartbeats 1000000
namespace Go.Ab
open Go Go.Proofs.Try
theorem lenC (l : List Cfg) (n : Nat) : decide ((n : Int) < (l.length : Int)) = decide (n < l.length) := decide_eq_decide.2 (by omega)
/-- The code of configurations: the first that is not right. -/
def cfgsC : List Cfg → Int
  | [] => 0
  | c :: r => bif decide (checkCfg c = 0) then cfgsC r else checkCfg c
def newC (l : List Cfg) : Int := bif decide (4096 < l.length) then 2 else bif decide (4 < l.length) then 6 else cfgsC l
theorem cfgsC_drop {l : List Cfg} {j : Nat} (h : j < l.length) : cfgsC (l.drop j) = bif decide (checkCfg (l.getD j cfgD) = 0) then cfgsC (l.drop (j + 1)) else checkCfg (l.getD j cfgD) := by
  rw [List.drop_eq_getElem_cons h]
  have e : l.getD j cfgD = l[j] := by simp [List.getD, h]
  rw [e, cfgsC]
def newL (l : List Cfg) : List Cfg := bif decide (newC l = 0) then l else []
noncomputable def sp_newHo : Spec := ⟨[.sl .cfg], [.rd], false, fun
  | [.dat ⟨.cfg, l⟩] => some (some (szL szCfg l ≤ 1048576), .tup [.agg [.own true ⟨.doc, []⟩, .own true ⟨.cfg, newL l⟩], .int .i64 (newC l)], [])
  | _ => none⟩
@[push_cast] theorem sp_newHo_ps : sp_newHo.ps = [.sl .cfg] := rfl
@[push_cast] theorem sp_newHo_md : sp_newHo.modes = [.rd] := rfl
@[push_cast] theorem sp_newHo_pure : sp_newHo.pure = false := rfl
@[push_cast] theorem sp_newHo_run (l : List Cfg) : sp_newHo.run [.dat ⟨.cfg, l⟩] = some (some (szL szCfg l ≤ 1048576), .tup [.agg [.own true ⟨.doc, []⟩, .own true ⟨.cfg, newL l⟩], .int .i64 (newC l)], []) := rfl
noncomputable def e_newHo : Env := mk [(46, sp_checkCfg), (47, sp_cpCfg)] [(12, [3, 4, 5, 7], [[1, 2], [1, 2]])] [(2000000, [.nib .doc 2 0, .nib .cfg 2 1]), (19, [.nib .cfg 4 1])]
@[push_cast] theorem e_newHo_gh : e_newHo.gh = ghOf [(2000000, [.nib .doc 2 0, .nib .cfg 2 1]), (19, [.nib .cfg 4 1])] := rfl
@[push_cast] theorem e_newHo_dr : e_newHo.dr = drOf [(12, [3, 4, 5, 7], [[1, 2], [1, 2]])] := rfl
@[push_cast] theorem e_newHo_td : e_newHo.td = td := rfl
@[push_cast] theorem e_newHo_eqt : e_newHo.eqt = eqt := rfl
@[push_cast] theorem e_newHo_cal : e_newHo.cal = calOf [(46, sp_checkCfg), (47, sp_cpCfg)] := rfl
theorem c_newHo : CRow P0 ety0 11 sp_newHo := CRow.of (E := e_newHo) (mkOk (.cons c_checkCfg (.cons c_clonedCfg (.nil)))) func11 rfl rfl rfl (by
  intro args p r outs h hq
  simp only [sp_newHo] at h; split at h <;> cases h
  rename_i l
  have hz := hq _ rfl
  have hl := szL_len szCfg l
  refine Body.intro (rs := [.cell 2 27, .tmp 3]) rfl rfl rfl ?_
  apply vc_run 1000 (stop := false) rfl; simp only [push_cast, reduceIte, Nat.reduceEqDiff, Nat.reduceAdd, Nat.reduceSub, Nat.reduceLT, Int.reduceNeg, Int.reduceLE, Int.reduceLT, Int.reduceToNat, Nat.reduceLeDiff, UInt8.reduceOfNat, UInt8.reduceOfNatLT, and_self, Nat.reduceMul, decide_true, decide_false, Bool.not_true, Bool.not_false, implies_true]
  have l1 : decide ((4096 : Int) < (l.length : Int)) = decide (4096 < l.length) := lenC l 4096
  have l2 : decide ((4 : Int) < (l.length : Int)) = decide (4 < l.length) := lenC l 4
  rw [l1, l2]
  refine ⟨fun h => ?_, fun h => ⟨fun h2 => ?_, fun h2 => ?_⟩⟩
  · rw [newL, newC, h]; rfl
  · rw [newL, newC, h, h2]; rfl
  have hN : newC l = cfgsC l := by rw [newC, h, h2]; rfl
  rw [newL, hN]
  refine Run.loop [19] [2, 4, 17, 18] [0, 1] rfl (fun n vs bs => ∃ j : Nat, vs = [.int .i64 j] ∧ bs = [[.nilS, .nilS], [.nilS, .own true ⟨.cfg, l.take j⟩]] ∧ j ≤ l.length ∧ cfgsC l = cfgsC (l.drop j) ∧ n = l.length - j) l.length ?_ ?_
  · simp only [push_cast, reduceIte, Nat.reduceEqDiff, Nat.reduceAdd, Nat.reduceSub, Nat.reduceLT, Int.reduceNeg, Int.reduceLE, Int.reduceLT, Int.reduceToNat, Nat.reduceLeDiff, UInt8.reduceOfNat, UInt8.reduceOfNatLT, and_self, Nat.reduceMul, decide_true, decide_false, Bool.not_true, Bool.not_false, implies_true]
    exact ⟨0, rfl, by simp, by omega, rfl, by omega⟩
  rintro n vs bs ⟨j, rfl, rfl, hj, hc, rfl⟩
  simp only [push_cast, reduceIte, Nat.reduceEqDiff, Nat.reduceAdd, Nat.reduceSub, Nat.reduceLT, Int.reduceNeg, Int.reduceLE, Int.reduceLT, Int.reduceToNat, Nat.reduceLeDiff, UInt8.reduceOfNat, UInt8.reduceOfNatLT, and_self, Nat.reduceMul, decide_true, decide_false, Bool.not_true, Bool.not_false, implies_true]
  apply vc_run 1000 (stop := false) rfl; simp only [push_cast, reduceIte, Nat.reduceEqDiff, Nat.reduceAdd, Nat.reduceSub, Nat.reduceLT, Int.reduceNeg, Int.reduceLE, Int.reduceLT, Int.reduceToNat, Nat.reduceLeDiff, UInt8.reduceOfNat, UInt8.reduceOfNatLT, and_self, Nat.reduceMul, decide_true, decide_false, Bool.not_true, Bool.not_false, implies_true]
  refine ⟨fun hlt => ?_, fun hge => ?_⟩
  · have hlt : j < l.length := Int.ofNat_lt.1 (of_decide_eq_true hlt)
    have hel := szL_at szCfg cfgD hlt
    have hd := cfgsC_drop hlt
    have htk : l.take (j + 1) = l.take j ++ [l.getD j cfgD] := by
      rw [List.take_succ_eq_append_getElem hlt]; simp [List.getD, hlt]
    simp only [gd_nat]
    refine ⟨by omega, by omega, fun hb => ?_, fun hg => ⟨by omega, by unfold sizeOk; rw [List.length_take]; omega, by constructor <;> omega, _, ?_, j + 1, rfl, by rw [htk], by omega, ?_, rfl⟩⟩
    · have hb : decide (checkCfg (l.getD j cfgD) = 0) = false := by simpa using hb
      rw [hb, cond_false] at hd
      rw [hc, hd, hb]; rfl
    · omega
    · rw [show decide (checkCfg (l.getD j cfgD) = 0) = true by simpa using hg, cond_true] at hd
      rw [hc, hd]
  · have hge : j = l.length := by have := of_decide_eq_false hge; omega
    subst hge
    rw [List.take_length, hc, List.drop_length]; rfl)
noncomputable def sp_ownHo : Spec := ⟨[.sc], [.rd], false, fun
  | [.agg [.nilS, .dat ⟨.cfg, l⟩]] => some (some (szL szCfg l ≤ 1048576), .agg [.own true ⟨.doc, []⟩, .own true ⟨.cfg, l⟩], [])
  | _ => none⟩
@[push_cast] theorem sp_ownHo_ps : sp_ownHo.ps = [.sc] := rfl
@[push_cast] theorem sp_ownHo_md : sp_ownHo.modes = [.rd] := rfl
@[push_cast] theorem sp_ownHo_pure : sp_ownHo.pure = false := rfl
@[push_cast] theorem sp_ownHo_run (l : List Cfg) : sp_ownHo.run [.agg [.nilS, .dat ⟨.cfg, l⟩]] = some (some (szL szCfg l ≤ 1048576), .agg [.own true ⟨.doc, []⟩, .own true ⟨.cfg, l⟩], []) := rfl
noncomputable def e_ownHo : Env := mk [(87, sp_cpCfg)] [(5, [16, 17, 19], [[1], [1]]), (9, [7, 8, 9, 11], [[1, 2], [1, 2]])] []
@[push_cast] theorem e_ownHo_gh : e_ownHo.gh = ghOf [] := rfl
@[push_cast] theorem e_ownHo_dr : e_ownHo.dr = drOf [(5, [16, 17, 19], [[1], [1]]), (9, [7, 8, 9, 11], [[1, 2], [1, 2]])] := rfl
@[push_cast] theorem e_ownHo_td : e_ownHo.td = td := rfl
@[push_cast] theorem e_ownHo_eqt : e_ownHo.eqt = eqt := rfl
@[push_cast] theorem e_ownHo_cal : e_ownHo.cal = calOf [(87, sp_cpCfg)] := rfl
theorem c_ownHo : CRow P0 ety0 44 sp_ownHo := CRow.of (E := e_ownHo) (mkOk (.cons c_copyCfg (.nil))) func44 rfl rfl rfl (by
  intro args p r outs h hq
  simp only [sp_ownHo] at h; split at h <;> cases h
  rename_i l
  have hz := hq _ rfl
  have hl := szL_len szCfg l
  refine Body.intro (rs := [.cell 2 27]) rfl rfl rfl ?_
  apply vc_run 1000 (stop := false) rfl; simp only [push_cast, reduceIte, Nat.reduceEqDiff, Nat.reduceAdd, Nat.reduceSub, Nat.reduceLT, Int.reduceNeg, Int.reduceLE, Int.reduceLT, Int.reduceToNat, Nat.reduceLeDiff, UInt8.reduceOfNat, UInt8.reduceOfNatLT, and_self, Nat.reduceMul, decide_true, decide_false, Bool.not_true, Bool.not_false, implies_true]
  refine Run.loop [4] [1, 2, 3] [0, 1, 4] rfl (fun n vs bs => vs = [.int .i64 0] ∧ bs = [[.nilS, .dat ⟨.cfg, l⟩], [.nilS, .nilS], [.own true ⟨.doc, []⟩, .own true ⟨.cfg, []⟩]] ∧ n = 0) 0 ?_ ?_
  · simp only [push_cast, reduceIte, Nat.reduceEqDiff, Nat.reduceAdd, Nat.reduceSub, Nat.reduceLT, Int.reduceNeg, Int.reduceLE, Int.reduceLT, Int.reduceToNat, Nat.reduceLeDiff, UInt8.reduceOfNat, UInt8.reduceOfNatLT, and_self, Nat.reduceMul, decide_true, decide_false, Bool.not_true, Bool.not_false, implies_true]
  rintro n vs bs ⟨rfl, rfl, rfl⟩
  simp only [push_cast, reduceIte, Nat.reduceEqDiff, Nat.reduceAdd, Nat.reduceSub, Nat.reduceLT, Int.reduceNeg, Int.reduceLE, Int.reduceLT, Int.reduceToNat, Nat.reduceLeDiff, UInt8.reduceOfNat, UInt8.reduceOfNatLT, and_self, Nat.reduceMul, decide_true, decide_false, Bool.not_true, Bool.not_false, implies_true]
  apply vc_run 1000 (stop := false) rfl; simp only [push_cast, reduceIte, Nat.reduceEqDiff, Nat.reduceAdd, Nat.reduceSub, Nat.reduceLT, Int.reduceNeg, Int.reduceLE, Int.reduceLT, Int.reduceToNat, Nat.reduceLeDiff, UInt8.reduceOfNat, UInt8.reduceOfNatLT, and_self, Nat.reduceMul, decide_true, decide_false, Bool.not_true, Bool.not_false, implies_true]
  refine Run.loop [5] [1, 2, 3] [0, 1, 4] rfl (fun n vs bs => ∃ j : Nat, vs = [.int .i64 j] ∧ bs = [[.nilS, .dat ⟨.cfg, l⟩], [.nilS, .nilS], [.own true ⟨.doc, []⟩, .own true ⟨.cfg, l.take j⟩]] ∧ j ≤ l.length ∧ n = l.length - j) l.length ?_ ?_
  · simp only [push_cast, reduceIte, Nat.reduceEqDiff, Nat.reduceAdd, Nat.reduceSub, Nat.reduceLT, Int.reduceNeg, Int.reduceLE, Int.reduceLT, Int.reduceToNat, Nat.reduceLeDiff, UInt8.reduceOfNat, UInt8.reduceOfNatLT, and_self, Nat.reduceMul, decide_true, decide_false, Bool.not_true, Bool.not_false, implies_true]
    exact ⟨0, rfl, by simp, by omega, by omega⟩
  rintro n vs bs ⟨j, rfl, rfl, hj, rfl⟩
  simp only [push_cast, reduceIte, Nat.reduceEqDiff, Nat.reduceAdd, Nat.reduceSub, Nat.reduceLT, Int.reduceNeg, Int.reduceLE, Int.reduceLT, Int.reduceToNat, Nat.reduceLeDiff, UInt8.reduceOfNat, UInt8.reduceOfNatLT, and_self, Nat.reduceMul, decide_true, decide_false, Bool.not_true, Bool.not_false, implies_true]
  apply vc_run 1000 (stop := false) rfl; simp only [push_cast, reduceIte, Nat.reduceEqDiff, Nat.reduceAdd, Nat.reduceSub, Nat.reduceLT, Int.reduceNeg, Int.reduceLE, Int.reduceLT, Int.reduceToNat, Nat.reduceLeDiff, UInt8.reduceOfNat, UInt8.reduceOfNatLT, and_self, Nat.reduceMul, decide_true, decide_false, Bool.not_true, Bool.not_false, implies_true]
  refine ⟨fun hlt => ?_, fun hge => ?_⟩
  · have hlt : j < l.length := Int.ofNat_lt.1 (of_decide_eq_true hlt)
    have hel := szL_at szCfg cfgD hlt
    have htk : l.take (j + 1) = l.take j ++ [l.getD j cfgD] := by
      rw [List.take_succ_eq_append_getElem hlt]; simp [List.getD, hlt]
    simp only [gd_nat]
    refine ⟨by omega, by omega, by unfold sizeOk; rw [List.length_take]; omega, by constructor <;> omega, _, ?_, j + 1, rfl, by rw [htk], by omega, rfl⟩
    omega
  · have hge : j = l.length := by have := of_decide_eq_false hge; omega
    subst hge
    rw [List.take_length])
theorem cfgsC_at {l : List Cfg} {j : Nat} (h : j < l.length) (h0 : cfgsC l = cfgsC (l.drop j)) (hc : decide (checkCfg (l.getD j cfgD) = 0) = false) : cfgsC l = checkCfg (l.getD j cfgD) := by
  rw [h0, cfgsC_drop h, hc]; rfl
noncomputable def e_newHo2 : Env := mk [(43, sp_checkCfg), (44, sp_ownHo)] [] [(2000000, [.nib .doc 2 0, .nib .cfg 2 1])]
@[push_cast] theorem e_newHo2_gh : e_newHo2.gh = ghOf [(2000000, [.nib .doc 2 0, .nib .cfg 2 1])] := rfl
@[push_cast] theorem e_newHo2_dr : e_newHo2.dr = drOf [] := rfl
@[push_cast] theorem e_newHo2_td : e_newHo2.td = td := rfl
@[push_cast] theorem e_newHo2_eqt : e_newHo2.eqt = eqt := rfl
@[push_cast] theorem e_newHo2_cal : e_newHo2.cal = calOf [(43, sp_checkCfg), (44, sp_ownHo)] := rfl
theorem c_newHo2 : CRow P0 ety0 9 sp_newHo := CRow.of (E := e_newHo2) (mkOk (.cons c_l07Check (.cons c_ownHo (.nil)))) func9 rfl rfl rfl (by
  intro args p r outs h hq
  simp only [sp_newHo] at h; split at h <;> cases h
  rename_i l
  have hz := hq _ rfl
  have hl := szL_len szCfg l
  refine Body.intro (rs := [.cell 2 27, .tmp 3]) rfl rfl rfl ?_
  apply vc_run 1000 (stop := false) rfl; simp only [push_cast, reduceIte, Nat.reduceEqDiff, Nat.reduceAdd, Nat.reduceSub, Nat.reduceLT, Int.reduceNeg, Int.reduceLE, Int.reduceLT, Int.reduceToNat, Nat.reduceLeDiff, UInt8.reduceOfNat, UInt8.reduceOfNatLT, and_self, Nat.reduceMul, decide_true, decide_false, Bool.not_true, Bool.not_false, implies_true]
  have l1 : decide ((4096 : Int) < (l.length : Int)) = decide (4096 < l.length) := lenC l 4096
  have l2 : decide ((4 : Int) < (l.length : Int)) = decide (4 < l.length) := lenC l 4
  rw [l1, l2]
  refine ⟨fun h => ?_, fun h => ⟨fun h2 => ?_, fun h2 => ?_⟩⟩
  · rw [newL, newC, h]; rfl
  · rw [newL, newC, h, h2]; rfl
  have hN : newC l = cfgsC l := by rw [newC, h, h2]; rfl
  rw [newL, hN]
  refine Run.loop [4] [0, 2] [0] rfl (fun n vs bs => ∃ j : Nat, vs = [.int .i64 j] ∧ bs = [[.nilS, .nilS]] ∧ j ≤ l.length ∧ cfgsC l = cfgsC (l.drop j) ∧ n = l.length - j) l.length ?_ ?_
  · simp only [push_cast, reduceIte, Nat.reduceEqDiff, Nat.reduceAdd, Nat.reduceSub, Nat.reduceLT, Int.reduceNeg, Int.reduceLE, Int.reduceLT, Int.reduceToNat, Nat.reduceLeDiff, UInt8.reduceOfNat, UInt8.reduceOfNatLT, and_self, Nat.reduceMul, decide_true, decide_false, Bool.not_true, Bool.not_false, implies_true]
    exact ⟨0, rfl, by omega, rfl, by omega⟩
  rintro n vs bs ⟨j, rfl, rfl, hj, hc, rfl⟩
  simp only [push_cast, reduceIte, Nat.reduceEqDiff, Nat.reduceAdd, Nat.reduceSub, Nat.reduceLT, Int.reduceNeg, Int.reduceLE, Int.reduceLT, Int.reduceToNat, Nat.reduceLeDiff, UInt8.reduceOfNat, UInt8.reduceOfNatLT, and_self, Nat.reduceMul, decide_true, decide_false, Bool.not_true, Bool.not_false, implies_true]
  apply vc_run 1000 (stop := false) rfl; simp only [push_cast, reduceIte, Nat.reduceEqDiff, Nat.reduceAdd, Nat.reduceSub, Nat.reduceLT, Int.reduceNeg, Int.reduceLE, Int.reduceLT, Int.reduceToNat, Nat.reduceLeDiff, UInt8.reduceOfNat, UInt8.reduceOfNatLT, and_self, Nat.reduceMul, decide_true, decide_false, Bool.not_true, Bool.not_false, implies_true]
  refine ⟨fun hlt => ?_, fun hge => ?_⟩
  · have hlt : j < l.length := Int.ofNat_lt.1 (of_decide_eq_true hlt)
    have hel := szL_at szCfg cfgD hlt
    have hd := cfgsC_drop hlt
    simp only [gd_nat]
    refine ⟨by omega, by omega, fun hb => ?_, fun hg => ⟨by constructor <;> omega, _, ?_, j + 1, rfl, by omega, ?_, rfl⟩⟩
    · have hb : decide (checkCfg (l.getD j cfgD) = 0) = false := by simpa using hb
      rw [hb, cond_false] at hd
      rw [hc, hd, hb]; rfl
    · omega
    · rw [show decide (checkCfg (l.getD j cfgD) = 0) = true by simpa using hg, cond_true] at hd
      rw [hc, hd]
  · have hge : j = l.length := by have := of_decide_eq_false hge; omega
    subst hge
    have h0 : cfgsC l = 0 := by rw [hc, List.drop_length]; rfl
    rw [h0]
    exact ⟨hz, rfl⟩)
noncomputable def sp_mkHo : Spec := ⟨[.sc, .sc], [.io, .rd], false, fun
  | [.agg [.own true ⟨.doc, ds⟩, .own true ⟨.cfg, l⟩], .int .i64 k] => some (some (0 ≤ k ∧ k + sumL cDo ds + sumL cCs l ≤ 1073741824), .int .i64 (k + sumL cDo ds + sumL cCs l), [.agg [.own true ⟨.doc, mkL mkDo cDo ds k⟩, .own true ⟨.cfg, mkL mkCs cCs l (k + sumL cDo ds)⟩]])
  | _ => none⟩
@[push_cast] theorem sp_mkHo_ps : sp_mkHo.ps = [.sc, .sc] := rfl
@[push_cast] theorem sp_mkHo_md : sp_mkHo.modes = [.io, .rd] := rfl
@[push_cast] theorem sp_mkHo_pure : sp_mkHo.pure = false := rfl
@[push_cast] theorem sp_mkHo_run (ds : List Docu) (l : List Cfg) (k : Int) : sp_mkHo.run [.agg [.own true ⟨.doc, ds⟩, .own true ⟨.cfg, l⟩], .int .i64 k] = some (some (0 ≤ k ∧ k + sumL cDo ds + sumL cCs l ≤ 1073741824), .int .i64 (k + sumL cDo ds + sumL cCs l), [.agg [.own true ⟨.doc, mkL mkDo cDo ds k⟩, .own true ⟨.cfg, mkL mkCs cCs l (k + sumL cDo ds)⟩]]) := rfl
noncomputable def e_mkHo : Env := mk [(51, sp_mkDocs), (14, sp_mkCfgs)] [] []
@[push_cast] theorem e_mkHo_gh : e_mkHo.gh = ghOf [] := rfl
@[push_cast] theorem e_mkHo_dr : e_mkHo.dr = drOf [] := rfl
@[push_cast] theorem e_mkHo_td : e_mkHo.td = td := rfl
@[push_cast] theorem e_mkHo_eqt : e_mkHo.eqt = eqt := rfl
@[push_cast] theorem e_mkHo_cal : e_mkHo.cal = calOf [(51, sp_mkDocs), (14, sp_mkCfgs)] := rfl
theorem c_mkHo : CRow P0 ety0 15 sp_mkHo := CRow.of (E := e_mkHo) (mkOk (.cons c_mkDocs (.cons c_mkCfgs (.nil)))) func15 rfl rfl rfl (by
  intro args p r outs h hq
  simp only [sp_mkHo] at h; split at h <;> cases h
  rename_i ds l k
  obtain ⟨h0, h1⟩ := hq _ rfl
  refine Body.intro (rs := [.tmp 4]) rfl rfl rfl ?_
  apply vc_run 1000 (stop := false) rfl; simp only [push_cast, reduceIte, Nat.reduceEqDiff, Nat.reduceAdd, Nat.reduceSub, Nat.reduceLT, Int.reduceNeg, Int.reduceLE, Int.reduceLT, Int.reduceToNat, Nat.reduceLeDiff, UInt8.reduceOfNat, UInt8.reduceOfNatLT, and_self, Nat.reduceMul, decide_true, decide_false, Bool.not_true, Bool.not_false, implies_true]
  exact ⟨by omega, by omega⟩)
noncomputable def sp_hdHo : Spec := ⟨[.sc, .sc], [.rd, .rd], true, fun
  | [.agg [.dat ⟨.doc, ds⟩, .dat ⟨.cfg, l⟩], .int .i64 k] => some (some (0 ≤ k ∧ k + sumL cDo ds + sumL cCs l ≤ 1073741824 ∧ Mkd mkDo cDo ds k ∧ Mkd mkCs cCs l (k + sumL cDo ds)), .int .i64 (k + sumL cDo ds + sumL cCs l), [])
  | _ => none⟩
@[push_cast] theorem sp_hdHo_ps : sp_hdHo.ps = [.sc, .sc] := rfl
@[push_cast] theorem sp_hdHo_md : sp_hdHo.modes = [.rd, .rd] := rfl
@[push_cast] theorem sp_hdHo_pure : sp_hdHo.pure = true := rfl
@[push_cast] theorem sp_hdHo_run (ds : List Docu) (l : List Cfg) (k : Int) : sp_hdHo.run [.agg [.dat ⟨.doc, ds⟩, .dat ⟨.cfg, l⟩], .int .i64 k] = some (some (0 ≤ k ∧ k + sumL cDo ds + sumL cCs l ≤ 1073741824 ∧ Mkd mkDo cDo ds k ∧ Mkd mkCs cCs l (k + sumL cDo ds)), .int .i64 (k + sumL cDo ds + sumL cCs l), []) := rfl
noncomputable def e_hdHo : Env := mk [(52, sp_hdDocs), (53, sp_hdCfgs)] [] []
@[push_cast] theorem e_hdHo_gh : e_hdHo.gh = ghOf [] := rfl
@[push_cast] theorem e_hdHo_dr : e_hdHo.dr = drOf [] := rfl
@[push_cast] theorem e_hdHo_td : e_hdHo.td = td := rfl
@[push_cast] theorem e_hdHo_eqt : e_hdHo.eqt = eqt := rfl
@[push_cast] theorem e_hdHo_cal : e_hdHo.cal = calOf [(52, sp_hdDocs), (53, sp_hdCfgs)] := rfl
theorem c_hdHo : CRow P0 ety0 16 sp_hdHo := CRow.of (E := e_hdHo) (mkOk (.cons c_hdDocs (.cons c_hdCfgs (.nil)))) func16 rfl rfl rfl (by
  intro args p r outs h hq
  simp only [sp_hdHo] at h; split at h <;> cases h
  rename_i ds l k
  obtain ⟨h0, h1, h2, h3⟩ := hq _ rfl
  refine Body.intro (rs := [.tmp 4]) rfl rfl rfl ?_
  apply vc_run 1000 (stop := false) rfl; simp only [push_cast, reduceIte, Nat.reduceEqDiff, Nat.reduceAdd, Nat.reduceSub, Nat.reduceLT, Int.reduceNeg, Int.reduceLE, Int.reduceLT, Int.reduceToNat, Nat.reduceLeDiff, UInt8.reduceOfNat, UInt8.reduceOfNatLT, and_self, Nat.reduceMul, decide_true, decide_false, Bool.not_true, Bool.not_false, implies_true]
  refine ⟨⟨by omega, by omega, h2⟩, fun h => ?_, fun h => ⟨⟨by omega, by omega, h3⟩, fun h => ?_⟩⟩
  · have := of_decide_eq_true h; omega
  · have := of_decide_eq_true h; omega)
end Go.Ab
