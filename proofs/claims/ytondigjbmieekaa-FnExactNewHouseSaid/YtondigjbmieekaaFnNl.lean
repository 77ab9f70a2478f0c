/- A new house: the law. -/
import Derived.Test.YtondigjbmieekaaFnNh
import Derived.Test.YtondigjbmieekaaFnMl
set_option linter.all false
set_option linter.unusedSimpArgs false
set_option linter.unusedVariables false
set_option linter.unusedSectionVars false
set_option maxRecDepth 20000
set_option maxHeartbeats 1000000
namespace Go.Ab
open Go Go.Proofs.Try
theorem newL_sz (l : List Cfg) : szL szCfg (newL l) ≤ szL szCfg l := by
  unfold newL
  cases decide (newC l = 0) with
  | true => exact Nat.le_refl _
  | false => simp [szL, sumL]
noncomputable def sp_lawNewHouse : Spec := ⟨[.sl .cfg], [.rd], true, fun
  | [.dat ⟨.cfg, l⟩] => some (some (fitL fitCfg l), .bool true, [])
  | _ => none⟩
@[push_cast] theorem sp_lawNewHouse_ps : sp_lawNewHouse.ps = [.sl .cfg] := rfl
@[push_cast] theorem sp_lawNewHouse_md : sp_lawNewHouse.modes = [.rd] := rfl
@[push_cast] theorem sp_lawNewHouse_pure : sp_lawNewHouse.pure = true := rfl
@[push_cast] theorem sp_lawNewHouse_run (l : List Cfg) : sp_lawNewHouse.run [.dat ⟨.cfg, l⟩] = some (some (fitL fitCfg l), .bool true, []) := rfl
noncomputable def e_lawNewHouse : Env := mk [(8, sp_szConfigS), (10, sp_toConfigS), (13, sp_eqConfigS), (12, sp_eqHouse), (14, sp_mkCfgs), (15, sp_mkHo), (16, sp_hdHo), (11, sp_newHo), (9, sp_newHo)] [] []
@[push_cast] theorem e_lawNewHouse_gh : e_lawNewHouse.gh = ghOf [] := rfl
@[push_cast] theorem e_lawNewHouse_dr : e_lawNewHouse.dr = drOf [] := rfl
@[push_cast] theorem e_lawNewHouse_td : e_lawNewHouse.td = td := rfl
@[push_cast] theorem e_lawNewHouse_eqt : e_lawNewHouse.eqt = eqt := rfl
@[push_cast] theorem e_lawNewHouse_cal : e_lawNewHouse.cal = calOf [(8, sp_szConfigS), (10, sp_toConfigS), (13, sp_eqConfigS), (12, sp_eqHouse), (14, sp_mkCfgs), (15, sp_mkHo), (16, sp_hdHo), (11, sp_newHo), (9, sp_newHo)] := rfl
theorem c_lawNewHouse : CRow P0 ety0 3 sp_lawNewHouse := CRow.of (E := e_lawNewHouse) (mkOk (.cons c_szConfigS (.cons c_toConfigS (.cons c_eqConfigS (.cons c_eqHouse (.cons c_mkCfgs (.cons c_mkHo (.cons c_hdHo (.cons c_newHo (.cons c_newHo2 (.nil))))))))))) func3 rfl rfl rfl (by
  intro args p r outs h hq
  simp only [sp_lawNewHouse] at h; split at h <;> cases h
  rename_i l
  have hl := hq _ rfl
  refine Body.intro (rs := [.tmp 2]) rfl rfl rfl ?_
  apply vc_run 1000 (stop := false) rfl; simp only [push_cast, reduceIte, Nat.reduceEqDiff, Nat.reduceAdd, Nat.reduceSub, Nat.reduceLT, Int.reduceNeg, Int.reduceLE, Int.reduceLT, Int.reduceToNat, Nat.reduceLeDiff, UInt8.reduceOfNat, UInt8.reduceOfNatLT, and_self, Nat.reduceMul, decide_true, decide_false, Bool.not_true, Bool.not_false, implies_true]
  refine ⟨hl, fun h => ?_⟩
  obtain ⟨a1, a2, a3, a4⟩ := szR_le (of_decide_eq_false h) (by omega)
  have k1 : szL szCfg l ≤ 1048576 := by omega
  have k2 := newL_sz l
  have k3 := sumC_sz l
  have k4 := sumC_sz (newL l)
  clear hq h a1 a2 a3 a4
  generalize newL l = R at *
  have z1 : szL szDo [] ≤ 1048576 := by simp [szL, sumL]
  have z2 : sumL cDo [] = 0 := rfl
  have z3 := mkDoL_id ([] : List Docu) 1
  have z4 := mkCsL_id R (1 + ((0 : Nat) : Int))
  have n1 : decide ((1 : Int) + (sumL cCs l : Nat) < 0) = false := decide_eq_false (by omega)
  have n2 : decide ((1 : Int) + ((0 : Nat) : Int) + (sumL cCs R : Nat) < 0) = false := decide_eq_false (by omega)
  simp only [eqB_self, mkDoL_c, mkCsL_c, z1, z2, z3, z4, n1, n2, Bool.and_self, Bool.not_true, cond_true, cond_false, decide_true, forall_const, reduceCtorEq, false_implies, implies_true, true_and, and_true]
  have n4 : szL szCfg R ≤ 1048576 := by omega
  have n5 : (1 : Int) + (sumL cCs l : Nat) ≤ 1073741824 := by omega
  have n6 : (1 : Int) + ((0 : Nat) : Int) + (sumL cCs R : Nat) ≤ 1073741824 := by omega
  simp only [k1, n4, n5, n6, and_self])
end Go.Ab
