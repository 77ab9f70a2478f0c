/- Paths: whether they are right. -/
import Derived.Test.YthncafnnekeogaaGreatDoorFnZi
set_option linter.all false
set_option linter.unusedSimpArgs false
set_option linter.unusedVariables false
set_option linter.unusedSectionVars false
set_option maxRecDepth 20000
set_option maxHeartbeats 1000000
namespace Go.Ab
open Go Go.Proofs.Tryz
abbrev inPath (n : Int) : Bool := within n 0 60
noncomputable def sp_isPath1 : Spec := ⟨[.sc], [.rd], true, fun
  | [.int .i64 n] => some (none, .bool (!inPath n), [])
  | _ => none⟩
@[push_cast] theorem sp_isPath1_ps : sp_isPath1.ps = [.sc] := rfl
@[push_cast] theorem sp_isPath1_md : sp_isPath1.modes = [.rd] := rfl
@[push_cast] theorem sp_isPath1_pure : sp_isPath1.pure = true := rfl
@[push_cast] theorem sp_isPath1_run (n : Int) : sp_isPath1.run [.int .i64 n] = some (none, .bool (!inPath n), []) := rfl
noncomputable def e_isPath1 : Env := mk [(116, sp_within)] [] [] [] none
@[push_cast] theorem e_isPath1_in : e_isPath1.inl = inlF [] := rfl
@[push_cast] theorem e_isPath1_fn : e_isPath1.fnd = fndF none := rfl
@[push_cast] theorem e_isPath1_gh : e_isPath1.gh = ghOf [] := rfl
@[push_cast] theorem e_isPath1_dr : e_isPath1.dr = drOf [] := rfl
@[push_cast] theorem e_isPath1_td : e_isPath1.td = td := rfl
@[push_cast] theorem e_isPath1_eqt : e_isPath1.eqt = eqt := rfl
@[push_cast] theorem e_isPath1_cal : e_isPath1.cal = calOf [(116, sp_within)] := rfl
theorem c_isPath1 : CRow P0 ety0 168 sp_isPath1 := CRow.of (E := e_isPath1) (mkOk (.cons c_within (.nil))) func168 rfl rfl rfl (by
  intro args p r outs h hq
  simp only [sp_isPath1] at h; split at h <;> cases h
  refine Body.intro (rs := [.tmp 2]) rfl rfl rfl ?_
  apply vc_run 1000 (stop := false) rfl; simp only [push_cast, reduceIte, Nat.reduceEqDiff, Nat.reduceAdd, Nat.reduceSub, Nat.reduceLT, Int.reduceNeg, Int.reduceLE, Int.reduceLT, Int.reduceToNat, Nat.reduceLeDiff, UInt8.reduceOfNat, UInt8.reduceOfNatLT, and_self, Nat.reduceMul, decide_true, decide_false, Bool.not_true, Bool.not_false, implies_true])
noncomputable def sp_idxIntA : Spec := ⟨[.sl .int, .sc], [.rd, .rd], true, fun
  | [.dat ⟨.int, l⟩, .fn 168 [] []] => some (some (l.length ≤ 1073741824), .int .i64 (idx (l.findIdx? (fun n => !inPath n))), [])
  | _ => none⟩
@[push_cast] theorem sp_idxIntA_ps : sp_idxIntA.ps = [.sl .int, .sc] := rfl
@[push_cast] theorem sp_idxIntA_md : sp_idxIntA.modes = [.rd, .rd] := rfl
@[push_cast] theorem sp_idxIntA_pure : sp_idxIntA.pure = true := rfl
@[push_cast] theorem sp_idxIntA_run (l : List Int) : sp_idxIntA.run [.dat ⟨.int, l⟩, .fn 168 [] []] = some (some (l.length ≤ 1073741824), .int .i64 (idx (l.findIdx? (fun n => !inPath n))), []) := rfl
noncomputable def e_idxIntA : Env := mk [(168, sp_isPath1)] [] [] [] none
@[push_cast] theorem e_idxIntA_in : e_idxIntA.inl = inlF [] := rfl
@[push_cast] theorem e_idxIntA_fn : e_idxIntA.fnd = fndF none := rfl
@[push_cast] theorem e_idxIntA_gh : e_idxIntA.gh = ghOf [] := rfl
@[push_cast] theorem e_idxIntA_dr : e_idxIntA.dr = drOf [] := rfl
@[push_cast] theorem e_idxIntA_td : e_idxIntA.td = td := rfl
@[push_cast] theorem e_idxIntA_eqt : e_idxIntA.eqt = eqt := rfl
@[push_cast] theorem e_idxIntA_cal : e_idxIntA.cal = calOf [(168, sp_isPath1)] := rfl
theorem c_idxIntA : CRow P0 ety0 200 sp_idxIntA := CRow.of (E := e_idxIntA) (mkOk (.cons c_isPath1 (.nil))) func200 rfl rfl rfl (by
  intro args p r outs h hq
  simp only [sp_idxIntA] at h; split at h <;> cases h
  rename_i l 
  have hq0 := hq _ rfl
  have hl : l.length ≤ 1073741824 := by first | exact hq0 | exact hq0.1
  refine Body.intro (rs := [.tmp 4]) rfl rfl rfl ?_
  apply vc_run 1000 (stop := false) rfl; simp only [push_cast, reduceIte, Nat.reduceEqDiff, Nat.reduceAdd, Nat.reduceSub, Nat.reduceLT, Int.reduceNeg, Int.reduceLE, Int.reduceLT, Int.reduceToNat, Nat.reduceLeDiff, UInt8.reduceOfNat, UInt8.reduceOfNatLT, and_self, Nat.reduceMul, decide_true, decide_false, Bool.not_true, Bool.not_false, implies_true]
  refine Run.loop [8] [0, 1, 6, 7] [] rfl (fun n vs bs => ∃ k : Nat, vs = [.int .i64 k] ∧ bs = [] ∧ k ≤ l.length ∧ (∀ j < k, (fun n => !inPath n) (l.getD j 0) = false) ∧ n = l.length - k) l.length ?_ ?_
  · simp only [push_cast, reduceIte, Nat.reduceEqDiff, Nat.reduceAdd, Nat.reduceSub, Nat.reduceLT, Int.reduceNeg, Int.reduceLE, Int.reduceLT, Int.reduceToNat, Nat.reduceLeDiff, UInt8.reduceOfNat, UInt8.reduceOfNatLT, and_self, Nat.reduceMul, decide_true, decide_false, Bool.not_true, Bool.not_false, implies_true]
    exact ⟨0, rfl, by omega, by simp, by omega⟩
  rintro n vs bs ⟨k, rfl, rfl, hk, hb, rfl⟩
  simp only [push_cast, reduceIte, Nat.reduceEqDiff, Nat.reduceAdd, Nat.reduceSub, Nat.reduceLT, Int.reduceNeg, Int.reduceLE, Int.reduceLT, Int.reduceToNat, Nat.reduceLeDiff, UInt8.reduceOfNat, UInt8.reduceOfNatLT, and_self, Nat.reduceMul, decide_true, decide_false, Bool.not_true, Bool.not_false, implies_true]
  apply vc_run 1000 (stop := false) rfl; simp only [push_cast, reduceIte, Nat.reduceEqDiff, Nat.reduceAdd, Nat.reduceSub, Nat.reduceLT, Int.reduceNeg, Int.reduceLE, Int.reduceLT, Int.reduceToNat, Nat.reduceLeDiff, UInt8.reduceOfNat, UInt8.reduceOfNatLT, and_self, Nat.reduceMul, decide_true, decide_false, Bool.not_true, Bool.not_false, implies_true]
  refine ⟨fun hlt => ?_, fun hge => ?_⟩
  · have hlt : k < l.length := by simpa using hlt
    simp only [gd_nat]
    refine ⟨by omega, fun hy => ?_, fun hn => ⟨by constructor <;> omega, _, by omega, k + 1, rfl, by omega, below_step hb hn, rfl⟩⟩
    rw [findIdx_at (p := fun n => !inPath n) hlt hb hy]; rfl
  · have hge : k = l.length := by simp at hge; omega
    subst hge
    rw [findIdx_none (p := fun n => !inPath n) hb]; rfl)
noncomputable def sp_conIntA : Spec := ⟨[.sl .int, .sc], [.rd, .rd], true, fun
  | [.dat ⟨.int, l⟩, .fn 168 [] []] => some (some (l.length ≤ 1073741824), .bool (l.any (fun n => !inPath n)), [])
  | _ => none⟩
@[push_cast] theorem sp_conIntA_ps : sp_conIntA.ps = [.sl .int, .sc] := rfl
@[push_cast] theorem sp_conIntA_md : sp_conIntA.modes = [.rd, .rd] := rfl
@[push_cast] theorem sp_conIntA_pure : sp_conIntA.pure = true := rfl
@[push_cast] theorem sp_conIntA_run (l : List Int) : sp_conIntA.run [.dat ⟨.int, l⟩, .fn 168 [] []] = some (some (l.length ≤ 1073741824), .bool (l.any (fun n => !inPath n)), []) := rfl
noncomputable def e_conIntA : Env := mk [(200, sp_idxIntA)] [] [] [] none
@[push_cast] theorem e_conIntA_in : e_conIntA.inl = inlF [] := rfl
@[push_cast] theorem e_conIntA_fn : e_conIntA.fnd = fndF none := rfl
@[push_cast] theorem e_conIntA_gh : e_conIntA.gh = ghOf [] := rfl
@[push_cast] theorem e_conIntA_dr : e_conIntA.dr = drOf [] := rfl
@[push_cast] theorem e_conIntA_td : e_conIntA.td = td := rfl
@[push_cast] theorem e_conIntA_eqt : e_conIntA.eqt = eqt := rfl
@[push_cast] theorem e_conIntA_cal : e_conIntA.cal = calOf [(200, sp_idxIntA)] := rfl
theorem c_conIntA : CRow P0 ety0 167 sp_conIntA := CRow.of (E := e_conIntA) (mkOk (.cons c_idxIntA (.nil))) func167 rfl rfl rfl (by
  intro args p r outs h hq
  simp only [sp_conIntA] at h; split at h <;> cases h
  rename_i l 
  have hq0 := hq _ rfl
  refine Body.intro (rs := [.tmp 4]) rfl rfl rfl ?_
  apply vc_run 1000 (stop := false) rfl; simp only [push_cast, reduceIte, Nat.reduceEqDiff, Nat.reduceAdd, Nat.reduceSub, Nat.reduceLT, Int.reduceNeg, Int.reduceLE, Int.reduceLT, Int.reduceToNat, Nat.reduceLeDiff, UInt8.reduceOfNat, UInt8.reduceOfNatLT, and_self, Nat.reduceMul, decide_true, decide_false, Bool.not_true, Bool.not_false, implies_true]
  exact ⟨hq0, by rw [idx_any]⟩)
theorem len10 {l : List Int} : decide ((l.length : Nat) ≤ (10 : Int)) = decide (l.length ≤ 10) := decide_eq_decide.2 (by omega)
def isPath (l : List Int) : Bool := decide (l.length ≤ 10) && l.all inPath
noncomputable def sp_isPath : Spec := ⟨[.sl .int], [.rd], true, fun
  | [.dat ⟨.int, l⟩] => some (some (l.length ≤ 1073741824), .bool (isPath l), [])
  | _ => none⟩
@[push_cast] theorem sp_isPath_ps : sp_isPath.ps = [.sl .int] := rfl
@[push_cast] theorem sp_isPath_md : sp_isPath.modes = [.rd] := rfl
@[push_cast] theorem sp_isPath_pure : sp_isPath.pure = true := rfl
@[push_cast] theorem sp_isPath_run (l : List Int) : sp_isPath.run [.dat ⟨.int, l⟩] = some (some (l.length ≤ 1073741824), .bool (isPath l), []) := rfl
noncomputable def e_isPath : Env := mk [(167, sp_conIntA)] [] [] [] none
@[push_cast] theorem e_isPath_in : e_isPath.inl = inlF [] := rfl
@[push_cast] theorem e_isPath_fn : e_isPath.fnd = fndF none := rfl
@[push_cast] theorem e_isPath_gh : e_isPath.gh = ghOf [] := rfl
@[push_cast] theorem e_isPath_dr : e_isPath.dr = drOf [] := rfl
@[push_cast] theorem e_isPath_td : e_isPath.td = td := rfl
@[push_cast] theorem e_isPath_eqt : e_isPath.eqt = eqt := rfl
@[push_cast] theorem e_isPath_cal : e_isPath.cal = calOf [(167, sp_conIntA)] := rfl
theorem c_isPath : CRow P0 ety0 125 sp_isPath := CRow.of (E := e_isPath) (mkOk (.cons c_conIntA (.nil))) func125 rfl rfl rfl (by
  intro args p r outs h hq
  simp only [sp_isPath] at h; split at h <;> cases h
  rename_i l
  have hl := hq _ rfl
  refine Body.intro (rs := [.tmp 2]) rfl rfl rfl ?_
  apply vc_run 1000 (stop := false) rfl; simp only [push_cast, reduceIte, Nat.reduceEqDiff, Nat.reduceAdd, Nat.reduceSub, Nat.reduceLT, Int.reduceNeg, Int.reduceLE, Int.reduceLT, Int.reduceToNat, Nat.reduceLeDiff, UInt8.reduceOfNat, UInt8.reduceOfNatLT, and_self, Nat.reduceMul, decide_true, decide_false, Bool.not_true, Bool.not_false, implies_true]
  refine ⟨fun _ => hl, ?_⟩
  have e : (!l.any fun n => !inPath n) = l.all inPath := by rw [List.all_eq_not_any_not]
  rw [e, len10]
  unfold isPath
  cases decide (l.length ≤ 10) <;> rfl)
noncomputable def e_isPath2 : Env := mk [(58, sp_within)] [] [] [] none
@[push_cast] theorem e_isPath2_in : e_isPath2.inl = inlF [] := rfl
@[push_cast] theorem e_isPath2_fn : e_isPath2.fnd = fndF none := rfl
@[push_cast] theorem e_isPath2_gh : e_isPath2.gh = ghOf [] := rfl
@[push_cast] theorem e_isPath2_dr : e_isPath2.dr = drOf [] := rfl
@[push_cast] theorem e_isPath2_td : e_isPath2.td = td := rfl
@[push_cast] theorem e_isPath2_eqt : e_isPath2.eqt = eqt := rfl
@[push_cast] theorem e_isPath2_cal : e_isPath2.cal = calOf [(58, sp_within)] := rfl
theorem c_isPath2 : CRow P0 ety0 119 sp_isPath := CRow.of (E := e_isPath2) (mkOk (.cons c_within2 (.nil))) func119 rfl rfl rfl (by
  intro args p r outs h hq
  simp only [sp_isPath] at h; split at h <;> cases h
  rename_i l
  have hl := hq _ rfl
  refine Body.intro (rs := [.tmp 2]) rfl rfl rfl ?_
  apply vc_run 1000 (stop := false) rfl; simp only [push_cast, reduceIte, Nat.reduceEqDiff, Nat.reduceAdd, Nat.reduceSub, Nat.reduceLT, Int.reduceNeg, Int.reduceLE, Int.reduceLT, Int.reduceToNat, Nat.reduceLeDiff, UInt8.reduceOfNat, UInt8.reduceOfNatLT, and_self, Nat.reduceMul, decide_true, decide_false, Bool.not_true, Bool.not_false, implies_true]
  refine ⟨fun h => ?_, fun h => ?_⟩
  · have h : ¬ l.length ≤ 10 := by have := of_decide_eq_true h; omega
    rw [isPath, decide_eq_false h]; rfl
  have h : l.length ≤ 10 := by have := of_decide_eq_false h; omega
  refine Run.loop [3] [0] [] rfl (fun n vs bs => ∃ k : Nat, vs = [.int .i64 k] ∧ bs = [] ∧ k ≤ l.length ∧ (∀ j < k, (!inPath (l.getD j 0)) = false) ∧ n = l.length - k) l.length ?_ ?_
  · simp only [push_cast, reduceIte, Nat.reduceEqDiff, Nat.reduceAdd, Nat.reduceSub, Nat.reduceLT, Int.reduceNeg, Int.reduceLE, Int.reduceLT, Int.reduceToNat, Nat.reduceLeDiff, UInt8.reduceOfNat, UInt8.reduceOfNatLT, and_self, Nat.reduceMul, decide_true, decide_false, Bool.not_true, Bool.not_false, implies_true]
    exact ⟨0, rfl, by omega, by simp, by omega⟩
  rintro n vs bs ⟨k, rfl, rfl, hk, hb, rfl⟩
  simp only [push_cast, reduceIte, Nat.reduceEqDiff, Nat.reduceAdd, Nat.reduceSub, Nat.reduceLT, Int.reduceNeg, Int.reduceLE, Int.reduceLT, Int.reduceToNat, Nat.reduceLeDiff, UInt8.reduceOfNat, UInt8.reduceOfNatLT, and_self, Nat.reduceMul, decide_true, decide_false, Bool.not_true, Bool.not_false, implies_true]
  apply vc_run 1000 (stop := false) rfl; simp only [push_cast, reduceIte, Nat.reduceEqDiff, Nat.reduceAdd, Nat.reduceSub, Nat.reduceLT, Int.reduceNeg, Int.reduceLE, Int.reduceLT, Int.reduceToNat, Nat.reduceLeDiff, UInt8.reduceOfNat, UInt8.reduceOfNatLT, and_self, Nat.reduceMul, decide_true, decide_false, Bool.not_true, Bool.not_false, implies_true]
  refine ⟨fun hlt => ?_, fun hge => ?_⟩
  · have hlt : k < l.length := Int.ofNat_lt.1 (of_decide_eq_true hlt)
    simp only [gd_nat]
    refine ⟨by omega, fun hy => ?_, fun hn => ⟨by constructor <;> omega, _, by omega, k + 1, rfl, by omega, below_step hb hn, rfl⟩⟩
    have : l.all inPath = false := by
      rw [List.all_eq_false]
      have e : l.getD k 0 = l[k] := by simp [List.getD, hlt]
      exact ⟨l[k], List.getElem_mem hlt, by rw [← e]; simpa using hy⟩
    rw [isPath, this, Bool.and_false]
  · have hge : k = l.length := by have := of_decide_eq_false hge; omega
    subst hge
    have : l.all inPath = true := by
      rw [List.all_eq_true]
      intro x hx
      obtain ⟨j, hj, rfl⟩ := List.getElem_of_mem hx
      have := hb j hj
      have e : l.getD j 0 = l[j] := by simp [List.getD, hj]
      rw [e] at this
      simpa using this
    rw [isPath, this, decide_eq_true h]; rfl)
theorem isPath_in {l : List Int} (h : isPath l = true) : l.length ≤ 10 ∧ ∀ x ∈ l, 0 ≤ x ∧ x ≤ 60 := by
  simp only [isPath, Bool.and_eq_true, decide_eq_true_eq, List.all_eq_true, within] at h
  exact h
end Go.Ab
