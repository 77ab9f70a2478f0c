/- Paths and their texts. -/
import Derived.Test.YtmofbeofijlofaaDoorFnD
import Derived.Test.YtmofbeofijlofaaDoorLibItoa
set_option linter.all false
set_option linter.unusedSimpArgs false
set_option linter.unusedVariables false
set_option linter.unusedSectionVars false
set_option maxRecDepth 20000
set_option maxHeartbeats 1000000
namespace Go.Ab
open Go Go.Proofs.Tryd
def z0 (_ : Int) : Nat := 0
theorem sum0 (l : List Int) : sumL z0 l = 0 := by
  induction l with
  | nil => rfl
  | cons x l ih =>
    have e : sumL z0 (x :: l) = 0 + sumL z0 l := by simp [sumL, z0]
    rw [e, ih]
theorem sz0 (l : List Int) : szL z0 l = l.length := by rw [szL, sum0]; rfl
noncomputable def sp_toIntS : Spec := ⟨[.sl .int], [.rd], false, fun
  | [.dat ⟨.int, l⟩] => some (some (szL z0 l ≤ 1048576), .own true ⟨.int, l⟩, [])
  | _ => none⟩
@[push_cast] theorem sp_toIntS_ps : sp_toIntS.ps = [.sl .int] := rfl
@[push_cast] theorem sp_toIntS_md : sp_toIntS.modes = [.rd] := rfl
@[push_cast] theorem sp_toIntS_pure : sp_toIntS.pure = false := rfl
@[push_cast] theorem sp_toIntS_run (l : List Int) : sp_toIntS.run [.dat ⟨.int, l⟩] = some (some (szL z0 l ≤ 1048576), .own true ⟨.int, l⟩, []) := rfl
noncomputable def e_toIntS : Env := mk [] []
@[push_cast] theorem e_toIntS_dr : e_toIntS.dr = drOf [] := rfl
@[push_cast] theorem e_toIntS_td : e_toIntS.td = td := rfl
@[push_cast] theorem e_toIntS_cal : e_toIntS.cal = calOf [] := rfl
theorem c_toIntS : CRow P0 ety0 6 sp_toIntS := CRow.of (E := e_toIntS) (mkOk (.nil)) func6 rfl rfl rfl (by
  intro args p r outs h hq
  simp only [sp_toIntS] at h; split at h <;> cases h
  rename_i l
  have hz := hq _ rfl
  have hl : l.length ≤ 1048576 := Nat.le_trans (szL_len _ _) hz
  refine Body.intro (rs := [.tmp 2]) rfl rfl rfl ?_
  apply vc_run 1000 (stop := false) rfl; simp only [push_cast, reduceIte, Nat.reduceEqDiff, Nat.reduceAdd, Nat.reduceSub, Nat.reduceLT, Int.reduceNeg, Int.reduceLE, Int.reduceLT, Int.reduceToNat, Nat.reduceLeDiff, UInt8.reduceOfNat, UInt8.reduceOfNatLT, and_self, Nat.reduceMul, decide_true, decide_false, Bool.not_true, Bool.not_false, implies_true]
  refine ⟨by omega, ?_⟩
  refine Run.loop [3, 4] [0] [] rfl (fun m vs bs => ∃ k : Nat, vs = [.own true ⟨.int, fillL l 0 k⟩, .int .i64 k] ∧ bs = [] ∧ k ≤ l.length ∧ m = l.length - k) l.length ?_ ?_
  · simp only [push_cast, reduceIte, Nat.reduceEqDiff, Nat.reduceAdd, Nat.reduceSub, Nat.reduceLT, Int.reduceNeg, Int.reduceLE, Int.reduceLT, Int.reduceToNat, Nat.reduceLeDiff, UInt8.reduceOfNat, UInt8.reduceOfNatLT, and_self, Nat.reduceMul, decide_true, decide_false, Bool.not_true, Bool.not_false, implies_true]
    exact ⟨0, by rw [fillL_0]; rfl, by omega, by omega⟩
  rintro m vs bs ⟨k, rfl, rfl, hk, rfl⟩
  simp only [push_cast, reduceIte, Nat.reduceEqDiff, Nat.reduceAdd, Nat.reduceSub, Nat.reduceLT, Int.reduceNeg, Int.reduceLE, Int.reduceLT, Int.reduceToNat, Nat.reduceLeDiff, UInt8.reduceOfNat, UInt8.reduceOfNatLT, and_self, Nat.reduceMul, decide_true, decide_false, Bool.not_true, Bool.not_false, implies_true]
  apply vc_run 1000 (stop := false) rfl; simp only [push_cast, reduceIte, Nat.reduceEqDiff, Nat.reduceAdd, Nat.reduceSub, Nat.reduceLT, Int.reduceNeg, Int.reduceLE, Int.reduceLT, Int.reduceToNat, Nat.reduceLeDiff, UInt8.reduceOfNat, UInt8.reduceOfNatLT, and_self, Nat.reduceMul, decide_true, decide_false, Bool.not_true, Bool.not_false, implies_true]
  rw [fillL_len _ _ _ hk]
  refine ⟨fun hlt => ?_, fun hge => ?_⟩
  · have hlt : k < l.length := by simpa using hlt
    have hel : z0 (l.getD k 0) ≤ 1048576 := Nat.le_trans (szL_at _ _ hlt) hz
    simp only [gd_nat, Int.toNat_natCast]
    refine ⟨by omega, by omega, by constructor <;> omega, _, by omega, k + 1, ?_, by omega, rfl⟩
    rw [← fillL_set _ _ hlt]
    first | rfl | (cases hc : l.getD k 0; rfl)
  · have hge : k = l.length := by simp at hge; omega
    subst hge
    rw [fillL_all])
noncomputable def sp_eqIntS : Spec := ⟨[.sl .int, .sl .int], [.rd, .rd], true, fun
  | [.dat ⟨.int, a⟩, .dat ⟨.int, b⟩] => some (some (szL z0 a ≤ 1048576), .bool (eqB a b), [])
  | _ => none⟩
@[push_cast] theorem sp_eqIntS_ps : sp_eqIntS.ps = [.sl .int, .sl .int] := rfl
@[push_cast] theorem sp_eqIntS_md : sp_eqIntS.modes = [.rd, .rd] := rfl
@[push_cast] theorem sp_eqIntS_pure : sp_eqIntS.pure = true := rfl
@[push_cast] theorem sp_eqIntS_run (a b : List Int) : sp_eqIntS.run [.dat ⟨.int, a⟩, .dat ⟨.int, b⟩] = some (some (szL z0 a ≤ 1048576), .bool (eqB a b), []) := rfl
noncomputable def e_eqIntS : Env := mk [] [(6, [], [])]
@[push_cast] theorem e_eqIntS_dr : e_eqIntS.dr = drOf [(6, [], [])] := rfl
@[push_cast] theorem e_eqIntS_td : e_eqIntS.td = td := rfl
@[push_cast] theorem e_eqIntS_cal : e_eqIntS.cal = calOf [] := rfl
theorem c_eqIntS : CRow P0 ety0 8 sp_eqIntS := CRow.of (E := e_eqIntS) (mkOk (.nil)) func8 rfl rfl rfl (by
  intro args p r outs h hq
  simp only [sp_eqIntS] at h; split at h <;> cases h
  rename_i a b
  have hz := hq _ rfl
  have hl : a.length ≤ 1048576 := Nat.le_trans (szL_len _ _) hz
  refine Body.intro (rs := [.tmp 4]) rfl rfl rfl ?_
  apply vc_run 1000 (stop := false) rfl; simp only [push_cast, reduceIte, Nat.reduceEqDiff, Nat.reduceAdd, Nat.reduceSub, Nat.reduceLT, Int.reduceNeg, Int.reduceLE, Int.reduceLT, Int.reduceToNat, Nat.reduceLeDiff, UInt8.reduceOfNat, UInt8.reduceOfNatLT, and_self, Nat.reduceMul, decide_true, decide_false, Bool.not_true, Bool.not_false, implies_true]
  refine ⟨fun h => ?_, fun h => ?_⟩
  · rw [eqB_ne]; intro e; subst e; simp at h
  have h : a.length = b.length := by simp at h; omega
  refine Run.loop [5] [0, 1] [] rfl (fun m vs bs => ∃ k : Nat, vs = [.int .i64 k] ∧ bs = [] ∧ k ≤ a.length ∧ (∀ j < k, a.getD j 0 = b.getD j 0) ∧ m = a.length - k) a.length ?_ ?_
  · simp only [push_cast, reduceIte, Nat.reduceEqDiff, Nat.reduceAdd, Nat.reduceSub, Nat.reduceLT, Int.reduceNeg, Int.reduceLE, Int.reduceLT, Int.reduceToNat, Nat.reduceLeDiff, UInt8.reduceOfNat, UInt8.reduceOfNatLT, and_self, Nat.reduceMul, decide_true, decide_false, Bool.not_true, Bool.not_false, implies_true]
    exact ⟨0, by simp, by omega, by simp, by omega⟩
  rintro m vs bs ⟨k, rfl, rfl, hk, hb, rfl⟩
  simp only [push_cast, reduceIte, Nat.reduceEqDiff, Nat.reduceAdd, Nat.reduceSub, Nat.reduceLT, Int.reduceNeg, Int.reduceLE, Int.reduceLT, Int.reduceToNat, Nat.reduceLeDiff, UInt8.reduceOfNat, UInt8.reduceOfNatLT, and_self, Nat.reduceMul, decide_true, decide_false, Bool.not_true, Bool.not_false, implies_true]
  apply vc_run 1000 (stop := false) rfl; simp only [push_cast, reduceIte, Nat.reduceEqDiff, Nat.reduceAdd, Nat.reduceSub, Nat.reduceLT, Int.reduceNeg, Int.reduceLE, Int.reduceLT, Int.reduceToNat, Nat.reduceLeDiff, UInt8.reduceOfNat, UInt8.reduceOfNatLT, and_self, Nat.reduceMul, decide_true, decide_false, Bool.not_true, Bool.not_false, implies_true]
  refine ⟨fun hlt => ?_, fun hge => ?_⟩
  · have hlt : k < a.length := by simpa using hlt
    have hel : z0 (a.getD k 0) ≤ 1048576 := Nat.le_trans (szL_at _ _ hlt) hz
    simp only [gd_nat]
    refine ⟨by omega, by omega, fun hne => ?_, fun heq => ⟨by constructor <;> omega, _, by omega, k + 1, rfl, by omega, fun j hj => ?_, rfl⟩⟩
    · rw [eqB_ne]; intro e; subst e; first | (simp at hne; done) | exact absurd hne (by simp [eqB_self])
    · rcases Nat.lt_or_eq_of_le (Nat.le_of_lt_succ hj) with h | rfl
      · exact hb j h
      · first | exact eqB_not heq | (simpa using heq; done) | exact eqK (eqB_not heq)
  · have hge : k = a.length := by simp at hge; omega
    subst hge
    rw [eqB_of (list_eq 0 h hb)])
abbrev inPath (n : Int) : Bool := within n 0 60
noncomputable def sp_isPath1 : Spec := ⟨[.sc], [.rd], true, fun
  | [.int .i64 n] => some (none, .bool (!inPath n), [])
  | _ => none⟩
@[push_cast] theorem sp_isPath1_ps : sp_isPath1.ps = [.sc] := rfl
@[push_cast] theorem sp_isPath1_md : sp_isPath1.modes = [.rd] := rfl
@[push_cast] theorem sp_isPath1_pure : sp_isPath1.pure = true := rfl
@[push_cast] theorem sp_isPath1_run (n : Int) : sp_isPath1.run [.int .i64 n] = some (none, .bool (!inPath n), []) := rfl
noncomputable def e_isPath1 : Env := mk [(27, sp_within)] []
@[push_cast] theorem e_isPath1_dr : e_isPath1.dr = drOf [] := rfl
@[push_cast] theorem e_isPath1_td : e_isPath1.td = td := rfl
@[push_cast] theorem e_isPath1_cal : e_isPath1.cal = calOf [(27, sp_within)] := rfl
theorem c_isPath1 : CRow P0 ety0 26 sp_isPath1 := CRow.of (E := e_isPath1) (mkOk (.cons c_within (.nil))) func26 rfl rfl rfl (by
  intro args p r outs h hq
  simp only [sp_isPath1] at h; split at h <;> cases h
  refine Body.intro (rs := [.tmp 2]) rfl rfl rfl ?_
  apply vc_run 1000 (stop := false) rfl; simp only [push_cast, reduceIte, Nat.reduceEqDiff, Nat.reduceAdd, Nat.reduceSub, Nat.reduceLT, Int.reduceNeg, Int.reduceLE, Int.reduceLT, Int.reduceToNat, Nat.reduceLeDiff, UInt8.reduceOfNat, UInt8.reduceOfNatLT, and_self, Nat.reduceMul, decide_true, decide_false, Bool.not_true, Bool.not_false, implies_true])
noncomputable def sp_idxIntA : Spec := ⟨[.sl .int, .sc], [.rd, .rd], true, fun
  | [.dat ⟨.int, l⟩, .fn 26 [] []] => some (some (l.length ≤ 1073741824), .int .i64 (idx (l.findIdx? (fun n => !inPath n))), [])
  | _ => none⟩
@[push_cast] theorem sp_idxIntA_ps : sp_idxIntA.ps = [.sl .int, .sc] := rfl
@[push_cast] theorem sp_idxIntA_md : sp_idxIntA.modes = [.rd, .rd] := rfl
@[push_cast] theorem sp_idxIntA_pure : sp_idxIntA.pure = true := rfl
@[push_cast] theorem sp_idxIntA_run (l : List Int) : sp_idxIntA.run [.dat ⟨.int, l⟩, .fn 26 [] []] = some (some (l.length ≤ 1073741824), .int .i64 (idx (l.findIdx? (fun n => !inPath n))), []) := rfl
noncomputable def e_idxIntA : Env := mk [(26, sp_isPath1)] []
@[push_cast] theorem e_idxIntA_dr : e_idxIntA.dr = drOf [] := rfl
@[push_cast] theorem e_idxIntA_td : e_idxIntA.td = td := rfl
@[push_cast] theorem e_idxIntA_cal : e_idxIntA.cal = calOf [(26, sp_isPath1)] := rfl
theorem c_idxIntA : CRow P0 ety0 39 sp_idxIntA := CRow.of (E := e_idxIntA) (mkOk (.cons c_isPath1 (.nil))) func39 rfl rfl rfl (by
  intro args p r outs h hq
  simp only [sp_idxIntA] at h; split at h <;> cases h
  rename_i l 
  have hq0 := hq _ rfl
  have hl : l.length ≤ 1073741824 := by first | exact hq0 | exact hq0.1
  refine Body.intro (rs := [.tmp 4]) rfl rfl rfl ?_
  apply vc_run 1000 (stop := false) rfl; simp only [push_cast, reduceIte, Nat.reduceEqDiff, Nat.reduceAdd, Nat.reduceSub, Nat.reduceLT, Int.reduceNeg, Int.reduceLE, Int.reduceLT, Int.reduceToNat, Nat.reduceLeDiff, UInt8.reduceOfNat, UInt8.reduceOfNatLT, and_self, Nat.reduceMul, decide_true, decide_false, Bool.not_true, Bool.not_false, implies_true]
  refine Run.loop [8] [0, 1, 6, 7] [] rfl (fun n vs bs => ∃ k : Nat, vs = [.int .i64 k] ∧ bs = [] ∧ k ≤ l.length ∧ (∀ j < k, (fun n => !inPath n) (l.getD j 0) = false) ∧ n = l.length - k) l.length ?_ ?_
  · simp only [push_cast, reduceIte, Nat.reduceEqDiff, Nat.reduceAdd, Nat.reduceSub, Nat.reduceLT, Int.reduceNeg, Int.reduceLE, Int.reduceLT, Int.reduceToNat, Nat.reduceLeDiff, UInt8.reduceOfNat, UInt8.reduceOfNatLT, and_self, Nat.reduceMul, decide_true, decide_false, Bool.not_true, Bool.not_false, implies_true]
    exact ⟨0, rfl, by omega, by simp, by omega⟩
  rintro n vs bs ⟨k, rfl, rfl, hk, hb, rfl⟩
  simp only [push_cast, reduceIte, Nat.reduceEqDiff, Nat.reduceAdd, Nat.reduceSub, Nat.reduceLT, Int.reduceNeg, Int.reduceLE, Int.reduceLT, Int.reduceToNat, Nat.reduceLeDiff, UInt8.reduceOfNat, UInt8.reduceOfNatLT, and_self, Nat.reduceMul, decide_true, decide_false, Bool.not_true, Bool.not_false, implies_true]
  apply vc_run 1000 (stop := false) rfl; simp only [push_cast, reduceIte, Nat.reduceEqDiff, Nat.reduceAdd, Nat.reduceSub, Nat.reduceLT, Int.reduceNeg, Int.reduceLE, Int.reduceLT, Int.reduceToNat, Nat.reduceLeDiff, UInt8.reduceOfNat, UInt8.reduceOfNatLT, and_self, Nat.reduceMul, decide_true, decide_false, Bool.not_true, Bool.not_false, implies_true]
  refine ⟨fun hlt => ?_, fun hge => ?_⟩
  · have hlt : k < l.length := by simpa using hlt
    simp only [gd_nat]
    refine ⟨by omega, fun hy => ?_, fun hn => ⟨by constructor <;> omega, _, by omega, k + 1, rfl, by omega, below_step hb hn, rfl⟩⟩
    rw [findIdx_at (p := fun n => !inPath n) hlt hb hy]; rfl
  · have hge : k = l.length := by simp at hge; omega
    subst hge
    rw [findIdx_none (p := fun n => !inPath n) hb]; rfl)
noncomputable def sp_conIntA : Spec := ⟨[.sl .int, .sc], [.rd, .rd], true, fun
  | [.dat ⟨.int, l⟩, .fn 26 [] []] => some (some (l.length ≤ 1073741824), .bool (l.any (fun n => !inPath n)), [])
  | _ => none⟩
@[push_cast] theorem sp_conIntA_ps : sp_conIntA.ps = [.sl .int, .sc] := rfl
@[push_cast] theorem sp_conIntA_md : sp_conIntA.modes = [.rd, .rd] := rfl
@[push_cast] theorem sp_conIntA_pure : sp_conIntA.pure = true := rfl
@[push_cast] theorem sp_conIntA_run (l : List Int) : sp_conIntA.run [.dat ⟨.int, l⟩, .fn 26 [] []] = some (some (l.length ≤ 1073741824), .bool (l.any (fun n => !inPath n)), []) := rfl
noncomputable def e_conIntA : Env := mk [(39, sp_idxIntA)] []
@[push_cast] theorem e_conIntA_dr : e_conIntA.dr = drOf [] := rfl
@[push_cast] theorem e_conIntA_td : e_conIntA.td = td := rfl
@[push_cast] theorem e_conIntA_cal : e_conIntA.cal = calOf [(39, sp_idxIntA)] := rfl
theorem c_conIntA : CRow P0 ety0 25 sp_conIntA := CRow.of (E := e_conIntA) (mkOk (.cons c_idxIntA (.nil))) func25 rfl rfl rfl (by
  intro args p r outs h hq
  simp only [sp_conIntA] at h; split at h <;> cases h
  rename_i l 
  have hq0 := hq _ rfl
  refine Body.intro (rs := [.tmp 4]) rfl rfl rfl ?_
  apply vc_run 1000 (stop := false) rfl; simp only [push_cast, reduceIte, Nat.reduceEqDiff, Nat.reduceAdd, Nat.reduceSub, Nat.reduceLT, Int.reduceNeg, Int.reduceLE, Int.reduceLT, Int.reduceToNat, Nat.reduceLeDiff, UInt8.reduceOfNat, UInt8.reduceOfNatLT, and_self, Nat.reduceMul, decide_true, decide_false, Bool.not_true, Bool.not_false, implies_true]
  exact ⟨hq0, by rw [idx_any]⟩)
theorem len10 {l : List Int} : decide ((l.length : Nat) ≤ (10 : Int)) = decide (l.length ≤ 10) := decide_eq_decide.2 (by omega)
def isPath (l : List Int) : Bool := decide (l.length ≤ 10) && l.all inPath
noncomputable def sp_isPath : Spec := ⟨[.sl .int], [.rd], true, fun
  | [.dat ⟨.int, l⟩] => some (some (l.length ≤ 1073741824), .bool (isPath l), [])
  | _ => none⟩
@[push_cast] theorem sp_isPath_ps : sp_isPath.ps = [.sl .int] := rfl
@[push_cast] theorem sp_isPath_md : sp_isPath.modes = [.rd] := rfl
@[push_cast] theorem sp_isPath_pure : sp_isPath.pure = true := rfl
@[push_cast] theorem sp_isPath_run (l : List Int) : sp_isPath.run [.dat ⟨.int, l⟩] = some (some (l.length ≤ 1073741824), .bool (isPath l), []) := rfl
noncomputable def e_isPath : Env := mk [(25, sp_conIntA)] []
@[push_cast] theorem e_isPath_dr : e_isPath.dr = drOf [] := rfl
@[push_cast] theorem e_isPath_td : e_isPath.td = td := rfl
@[push_cast] theorem e_isPath_cal : e_isPath.cal = calOf [(25, sp_conIntA)] := rfl
theorem c_isPath : CRow P0 ety0 16 sp_isPath := CRow.of (E := e_isPath) (mkOk (.cons c_conIntA (.nil))) func16 rfl rfl rfl (by
  intro args p r outs h hq
  simp only [sp_isPath] at h; split at h <;> cases h
  rename_i l
  have hl := hq _ rfl
  refine Body.intro (rs := [.tmp 2]) rfl rfl rfl ?_
  apply vc_run 1000 (stop := false) rfl; simp only [push_cast, reduceIte, Nat.reduceEqDiff, Nat.reduceAdd, Nat.reduceSub, Nat.reduceLT, Int.reduceNeg, Int.reduceLE, Int.reduceLT, Int.reduceToNat, Nat.reduceLeDiff, UInt8.reduceOfNat, UInt8.reduceOfNatLT, and_self, Nat.reduceMul, decide_true, decide_false, Bool.not_true, Bool.not_false, implies_true]
  refine ⟨fun _ => hl, ?_⟩
  have e : (!l.any fun n => !inPath n) = l.all inPath := by rw [List.all_eq_not_any_not]
  rw [e, len10]
  unfold isPath
  cases decide (l.length ≤ 10) <;> rfl)
noncomputable def e_isPath2 : Env := mk [(23, sp_within)] []
@[push_cast] theorem e_isPath2_dr : e_isPath2.dr = drOf [] := rfl
@[push_cast] theorem e_isPath2_td : e_isPath2.td = td := rfl
@[push_cast] theorem e_isPath2_cal : e_isPath2.cal = calOf [(23, sp_within)] := rfl
theorem c_isPath2 : CRow P0 ety0 14 sp_isPath := CRow.of (E := e_isPath2) (mkOk (.cons c_within2 (.nil))) func14 rfl rfl rfl (by
  intro args p r outs h hq
  simp only [sp_isPath] at h; split at h <;> cases h
  rename_i l
  have hl := hq _ rfl
  refine Body.intro (rs := [.tmp 2]) rfl rfl rfl ?_
  apply vc_run 1000 (stop := false) rfl; simp only [push_cast, reduceIte, Nat.reduceEqDiff, Nat.reduceAdd, Nat.reduceSub, Nat.reduceLT, Int.reduceNeg, Int.reduceLE, Int.reduceLT, Int.reduceToNat, Nat.reduceLeDiff, UInt8.reduceOfNat, UInt8.reduceOfNatLT, and_self, Nat.reduceMul, decide_true, decide_false, Bool.not_true, Bool.not_false, implies_true]
  refine ⟨fun h => ?_, fun h => ?_⟩
  · have h : ¬ l.length ≤ 10 := by have := of_decide_eq_true h; omega
    rw [isPath, decide_eq_false h]; rfl
  have h : l.length ≤ 10 := by have := of_decide_eq_false h; omega
  refine Run.loop [3] [0] [] rfl (fun n vs bs => ∃ k : Nat, vs = [.int .i64 k] ∧ bs = [] ∧ k ≤ l.length ∧ (∀ j < k, (!inPath (l.getD j 0)) = false) ∧ n = l.length - k) l.length ?_ ?_
  · simp only [push_cast, reduceIte, Nat.reduceEqDiff, Nat.reduceAdd, Nat.reduceSub, Nat.reduceLT, Int.reduceNeg, Int.reduceLE, Int.reduceLT, Int.reduceToNat, Nat.reduceLeDiff, UInt8.reduceOfNat, UInt8.reduceOfNatLT, and_self, Nat.reduceMul, decide_true, decide_false, Bool.not_true, Bool.not_false, implies_true]
    exact ⟨0, rfl, by omega, by simp, by omega⟩
  rintro n vs bs ⟨k, rfl, rfl, hk, hb, rfl⟩
  simp only [push_cast, reduceIte, Nat.reduceEqDiff, Nat.reduceAdd, Nat.reduceSub, Nat.reduceLT, Int.reduceNeg, Int.reduceLE, Int.reduceLT, Int.reduceToNat, Nat.reduceLeDiff, UInt8.reduceOfNat, UInt8.reduceOfNatLT, and_self, Nat.reduceMul, decide_true, decide_false, Bool.not_true, Bool.not_false, implies_true]
  apply vc_run 1000 (stop := false) rfl; simp only [push_cast, reduceIte, Nat.reduceEqDiff, Nat.reduceAdd, Nat.reduceSub, Nat.reduceLT, Int.reduceNeg, Int.reduceLE, Int.reduceLT, Int.reduceToNat, Nat.reduceLeDiff, UInt8.reduceOfNat, UInt8.reduceOfNatLT, and_self, Nat.reduceMul, decide_true, decide_false, Bool.not_true, Bool.not_false, implies_true]
  refine ⟨fun hlt => ?_, fun hge => ?_⟩
  · have hlt : k < l.length := Int.ofNat_lt.1 (of_decide_eq_true hlt)
    simp only [gd_nat]
    refine ⟨by omega, fun hy => ?_, fun hn => ⟨by constructor <;> omega, _, by omega, k + 1, rfl, by omega, below_step hb hn, rfl⟩⟩
    have : l.all inPath = false := by
      rw [List.all_eq_false]
      have e : l.getD k 0 = l[k] := by simp [List.getD, hlt]
      exact ⟨l[k], List.getElem_mem hlt, by rw [← e]; simpa using hy⟩
    rw [isPath, this, Bool.and_false]
  · have hge : k = l.length := by have := of_decide_eq_false hge; omega
    subst hge
    have : l.all inPath = true := by
      rw [List.all_eq_true]
      intro x hx
      obtain ⟨j, hj, rfl⟩ := List.getElem_of_mem hx
      have := hb j hj
      have e : l.getD j 0 = l[j] := by simp [List.getD, hj]
      rw [e] at this
      simpa using this
    rw [isPath, this, decide_eq_true h]; rfl)
theorem isPath_in {l : List Int} (h : isPath l = true) : l.length ≤ 10 ∧ ∀ x ∈ l, 0 ≤ x ∧ x ≤ 60 := by
  simp only [isPath, Bool.and_eq_true, decide_eq_true_eq, List.all_eq_true, within] at h
  exact h
def pathText (l : List Int) : Str := if l = [] then [45] else joinS (l.map dg) [46]
theorem len0 {l : List Int} (h : decide ((l.length : Int) = 0) = true) : l = [] := by
  have h : (l.length : Int) = 0 := of_decide_eq_true h
  exact List.length_eq_zero_iff.1 (by omega)
theorem len1 {l : List Int} (h : decide ((l.length : Int) = 0) = false) : l ≠ [] := by
  rintro rfl; simp at h
theorem path_step {l : List Int} {k : Nat} (h : k < l.length) : joinS ((l.take (k + 1)).map dg) [46] = (if 0 < k then joinS ((l.take k).map dg) [46] ++ [46] else []) ++ dg (l.getD k 0) := by
  rw [List.take_succ_eq_append_getElem h, List.map_append, List.map_singleton, joinS_snoc, List.length_map, List.length_take]
  have e : l.getD k 0 = l[k] := by simp [List.getD, h]
  rw [e, Nat.min_eq_left (by omega)]
theorem digits_le {l : List Int} (h : isPath l = true) (k : Nat) : (joinS ((l.take k).map dg) [46]).length ≤ 30 := by
  obtain ⟨h1, h2⟩ := isPath_in h
  have key : ∀ l : List Int, (∀ x ∈ l, x ≤ 60) → (joinS (l.map dg) [46]).length ≤ 3 * l.length := by
    intro l hl
    have h1 := joinS_le (l.map dg) [46]
    have h2 : sumL List.length (l.map dg) ≤ 2 * l.length := by
      clear h1
      induction l with
      | nil => simp [sumL]
      | cons x l ih =>
        have e1 : sumL List.length ((x :: l).map dg) = (dg x).length + sumL List.length (l.map dg) := by simp [sumL]
        have := dg_len x (by have := hl x List.mem_cons_self; omega)
        have := ih fun y hy => hl y (List.mem_cons_of_mem _ hy)
        rw [e1, List.length_cons]; omega
    rw [List.length_map] at h1
    simp only [List.length_cons, List.length_nil] at h1
    omega
  have := key (l.take k) fun x hx => (h2 x (List.mem_of_mem_take hx)).2
  rw [List.length_take] at this
  omega
noncomputable def sp_pathText : Spec := ⟨[.sl .int], [.rd], true, fun
  | [.dat ⟨.int, l⟩] => some (some (isPath l = true), .str (pathText l), [])
  | _ => none⟩
@[push_cast] theorem sp_pathText_ps : sp_pathText.ps = [.sl .int] := rfl
@[push_cast] theorem sp_pathText_md : sp_pathText.modes = [.rd] := rfl
@[push_cast] theorem sp_pathText_pure : sp_pathText.pure = true := rfl
@[push_cast] theorem sp_pathText_run (l : List Int) : sp_pathText.run [.dat ⟨.int, l⟩] = some (some (isPath l = true), .str (pathText l), []) := rfl
noncomputable def e_pathText : Env := mk [(28, sp_itoa), (29, sp_join)] []
@[push_cast] theorem e_pathText_dr : e_pathText.dr = drOf [] := rfl
@[push_cast] theorem e_pathText_td : e_pathText.td = td := rfl
@[push_cast] theorem e_pathText_cal : e_pathText.cal = calOf [(28, sp_itoa), (29, sp_join)] := rfl
theorem c_pathText : CRow P0 ety0 17 sp_pathText := CRow.of (E := e_pathText) (mkOk (.cons c_itoa (.cons c_join (.nil)))) func17 rfl rfl rfl (by
  intro args p r outs h hq
  simp only [sp_pathText] at h; split at h <;> cases h
  rename_i l
  have hp := hq _ rfl
  refine Body.intro (rs := [.tmp 2]) rfl rfl rfl ?_
  apply vc_run 1000 (stop := false) rfl; simp only [push_cast, reduceIte, Nat.reduceEqDiff, Nat.reduceAdd, Nat.reduceSub, Nat.reduceLT, Int.reduceNeg, Int.reduceLE, Int.reduceLT, Int.reduceToNat, Nat.reduceLeDiff, UInt8.reduceOfNat, UInt8.reduceOfNatLT, and_self, Nat.reduceMul, decide_true, decide_false, Bool.not_true, Bool.not_false, implies_true]
  obtain ⟨hp1, hp2⟩ := isPath_in hp
  have hj := digits_le hp l.length
  rw [List.take_length] at hj
  refine ⟨fun h => ?_, fun h => ?_⟩
  · rw [len0 h]; rfl
  have h := len1 h
  refine Run.loop [3, 12] [0, 10, 11] [] rfl (fun n vs bs => ∃ k : Nat, vs = [.own true ⟨.str, (l.take k).map dg⟩, .int .i64 k] ∧ bs = [] ∧ k ≤ l.length ∧ n = l.length - k) l.length ?_ ?_
  · simp only [push_cast, reduceIte, Nat.reduceEqDiff, Nat.reduceAdd, Nat.reduceSub, Nat.reduceLT, Int.reduceNeg, Int.reduceLE, Int.reduceLT, Int.reduceToNat, Nat.reduceLeDiff, UInt8.reduceOfNat, UInt8.reduceOfNatLT, and_self, Nat.reduceMul, decide_true, decide_false, Bool.not_true, Bool.not_false, implies_true]
    exact ⟨0, rfl, by omega, by omega⟩
  rintro n vs bs ⟨k, rfl, rfl, hk, rfl⟩
  simp only [push_cast, reduceIte, Nat.reduceEqDiff, Nat.reduceAdd, Nat.reduceSub, Nat.reduceLT, Int.reduceNeg, Int.reduceLE, Int.reduceLT, Int.reduceToNat, Nat.reduceLeDiff, UInt8.reduceOfNat, UInt8.reduceOfNatLT, and_self, Nat.reduceMul, decide_true, decide_false, Bool.not_true, Bool.not_false, implies_true]
  apply vc_run 1000 (stop := false) rfl; simp only [push_cast, reduceIte, Nat.reduceEqDiff, Nat.reduceAdd, Nat.reduceSub, Nat.reduceLT, Int.reduceNeg, Int.reduceLE, Int.reduceLT, Int.reduceToNat, Nat.reduceLeDiff, UInt8.reduceOfNat, UInt8.reduceOfNatLT, and_self, Nat.reduceMul, decide_true, decide_false, Bool.not_true, Bool.not_false, implies_true]
  refine ⟨fun hlt => ?_, fun hge => ?_⟩
  · have hlt : k < l.length := Int.ofNat_lt.1 (of_decide_eq_true hlt)
    have hx := fit_at (d := (0 : Int)) hp2 hlt
    simp only [gd_nat, List.length_map, List.length_take]
    refine ⟨by omega, by omega, by first | omega | (unfold sizeOk; omega) | (constructor <;> omega), by constructor <;> omega, _, by omega, k + 1, ?_, by omega, rfl⟩
    rw [List.take_succ_eq_append_getElem hlt, List.map_append]
    have e : l.getD k 0 = l[k] := by simp [List.getD, hlt]
    rw [e]; rfl
  · have hge : k = l.length := by have := of_decide_eq_false hge; omega
    subst hge
    rw [List.take_length, List.length_map, pathText, if_neg h]
    exact ⟨⟨by omega, by omega⟩, rfl⟩)
noncomputable def sp_dig1 : Spec := ⟨[.sc], [.rd], true, fun
  | [.int .i64 n] => some (some (0 ≤ n ∧ n < 10), .str (dg n), [])
  | _ => none⟩
@[push_cast] theorem sp_dig1_ps : sp_dig1.ps = [.sc] := rfl
@[push_cast] theorem sp_dig1_md : sp_dig1.modes = [.rd] := rfl
@[push_cast] theorem sp_dig1_pure : sp_dig1.pure = true := rfl
@[push_cast] theorem sp_dig1_run (n : Int) : sp_dig1.run [.int .i64 n] = some (some (0 ≤ n ∧ n < 10), .str (dg n), []) := rfl
noncomputable def e_dig1 : Env := mk [] [(7, [7], [[1], [1], [1]])]
@[push_cast] theorem e_dig1_dr : e_dig1.dr = drOf [(7, [7], [[1], [1], [1]])] := rfl
@[push_cast] theorem e_dig1_td : e_dig1.td = td := rfl
@[push_cast] theorem e_dig1_cal : e_dig1.cal = calOf [] := rfl
theorem c_dig1 : CRow P0 ety0 24 sp_dig1 := CRow.of (E := e_dig1) (mkOk (.nil)) func24 rfl rfl rfl (by
  intro args p r outs h hq
  simp only [sp_dig1] at h; split at h <;> cases h
  rename_i n
  obtain ⟨h0, h1⟩ := hq _ rfl
  refine Body.intro (rs := [.tmp 2]) rfl rfl rfl ?_
  apply vc_run 1000 (stop := false) rfl; simp only [push_cast, reduceIte, Nat.reduceEqDiff, Nat.reduceAdd, Nat.reduceSub, Nat.reduceLT, Int.reduceNeg, Int.reduceLE, Int.reduceLT, Int.reduceToNat, Nat.reduceLeDiff, UInt8.reduceOfNat, UInt8.reduceOfNatLT, and_self, Nat.reduceMul, decide_true, decide_false, Bool.not_true, Bool.not_false, implies_true]
  refine ⟨fun h => ?_, fun _ => ⟨fun h => ?_, fun _ => ⟨fun h => ?_, fun h => ?_⟩⟩⟩
  · have := of_decide_eq_true h; omega
  · have := of_decide_eq_true h; omega
  · rw [dg_one h0 h1]
    have e : (48 + n).toNat = 48 + n.toNat := by omega
    rw [e]
    exact ⟨by constructor <;> omega, by constructor <;> omega, rfl⟩
  · have := of_decide_eq_false h; omega)
noncomputable def e_dig2 : Env := mk [(24, sp_dig1)] [(7, [7], [[1], [1], [1]])]
@[push_cast] theorem e_dig2_dr : e_dig2.dr = drOf [(7, [7], [[1], [1], [1]])] := rfl
@[push_cast] theorem e_dig2_td : e_dig2.td = td := rfl
@[push_cast] theorem e_dig2_cal : e_dig2.cal = calOf [(24, sp_dig1)] := rfl
theorem c_dig2 : CRow P0 ety0 24 sp_itoa := CRow.of (E := e_dig2) (mkOk (.cons c_dig1 (.nil))) func24 rfl rfl rfl (by
  intro args p r outs h hq
  simp only [sp_itoa] at h; split at h <;> cases h
  rename_i n
  obtain ⟨h0, h1⟩ := hq _ rfl
  refine Body.intro (rs := [.tmp 2]) rfl rfl rfl ?_
  apply vc_run 1000 (stop := false) rfl; simp only [push_cast, reduceIte, Nat.reduceEqDiff, Nat.reduceAdd, Nat.reduceSub, Nat.reduceLT, Int.reduceNeg, Int.reduceLE, Int.reduceLT, Int.reduceToNat, Nat.reduceLeDiff, UInt8.reduceOfNat, UInt8.reduceOfNatLT, and_self, Nat.reduceMul, decide_true, decide_false, Bool.not_true, Bool.not_false, implies_true]
  refine ⟨fun h => ?_, fun _ => ⟨fun h => ?_, fun _ => ⟨fun h => ?_, fun h => ?_⟩⟩⟩
  · have := of_decide_eq_true h; omega
  · have := of_decide_eq_true h; omega
  · have h := of_decide_eq_true h
    rw [dg_one h0 h]
    have e : (48 + n).toNat = 48 + n.toNat := by omega
    rw [e]
    exact ⟨by constructor <;> omega, by constructor <;> omega, rfl⟩
  · have h := of_decide_eq_false h
    have hl := dg_len (n / 10) (by omega)
    refine ⟨by omega, by omega, h0, by constructor <;> omega, by constructor <;> omega, by omega, ?_⟩
    rw [dg_two (by omega) h1, dg_one (by omega) (by omega)]
    have e1 : (48 + n % 10).toNat = 48 + n.toNat % 10 := by omega
    have e2 : (n / 10).toNat = n.toNat / 10 := by omega
    rw [e1, e2]; rfl)
noncomputable def e_pathText2 : Env := mk [(24, sp_itoa)] []
@[push_cast] theorem e_pathText2_dr : e_pathText2.dr = drOf [] := rfl
@[push_cast] theorem e_pathText2_td : e_pathText2.td = td := rfl
@[push_cast] theorem e_pathText2_cal : e_pathText2.cal = calOf [(24, sp_itoa)] := rfl
theorem c_pathText2 : CRow P0 ety0 15 sp_pathText := CRow.of (E := e_pathText2) (mkOk (.cons c_dig2 (.nil))) func15 rfl rfl rfl (by
  intro args p r outs h hq
  simp only [sp_pathText] at h; split at h <;> cases h
  rename_i l
  have hp := hq _ rfl
  refine Body.intro (rs := [.tmp 2]) rfl rfl rfl ?_
  apply vc_run 1000 (stop := false) rfl; simp only [push_cast, reduceIte, Nat.reduceEqDiff, Nat.reduceAdd, Nat.reduceSub, Nat.reduceLT, Int.reduceNeg, Int.reduceLE, Int.reduceLT, Int.reduceToNat, Nat.reduceLeDiff, UInt8.reduceOfNat, UInt8.reduceOfNatLT, and_self, Nat.reduceMul, decide_true, decide_false, Bool.not_true, Bool.not_false, implies_true]
  obtain ⟨hp1, hp2⟩ := isPath_in hp
  refine ⟨fun h => ?_, fun h => ?_⟩
  · rw [len0 h]; rfl
  have h := len1 h
  refine Run.loop [3, 4] [0] [] rfl (fun n vs bs => ∃ k : Nat, vs = [.str (joinS ((l.take k).map dg) [46]), .int .i64 k] ∧ bs = [] ∧ k ≤ l.length ∧ n = l.length - k) l.length ?_ ?_
  · simp only [push_cast, reduceIte, Nat.reduceEqDiff, Nat.reduceAdd, Nat.reduceSub, Nat.reduceLT, Int.reduceNeg, Int.reduceLE, Int.reduceLT, Int.reduceToNat, Nat.reduceLeDiff, UInt8.reduceOfNat, UInt8.reduceOfNatLT, and_self, Nat.reduceMul, decide_true, decide_false, Bool.not_true, Bool.not_false, implies_true]
    exact ⟨0, rfl, by omega, by omega⟩
  rintro n vs bs ⟨k, rfl, rfl, hk, rfl⟩
  simp only [push_cast, reduceIte, Nat.reduceEqDiff, Nat.reduceAdd, Nat.reduceSub, Nat.reduceLT, Int.reduceNeg, Int.reduceLE, Int.reduceLT, Int.reduceToNat, Nat.reduceLeDiff, UInt8.reduceOfNat, UInt8.reduceOfNatLT, and_self, Nat.reduceMul, decide_true, decide_false, Bool.not_true, Bool.not_false, implies_true]
  apply vc_run 1000 (stop := false) rfl; simp only [push_cast, reduceIte, Nat.reduceEqDiff, Nat.reduceAdd, Nat.reduceSub, Nat.reduceLT, Int.reduceNeg, Int.reduceLE, Int.reduceLT, Int.reduceToNat, Nat.reduceLeDiff, UInt8.reduceOfNat, UInt8.reduceOfNatLT, and_self, Nat.reduceMul, decide_true, decide_false, Bool.not_true, Bool.not_false, implies_true]
  refine ⟨fun hlt => ?_, fun hge => ?_⟩
  · have hlt : k < l.length := Int.ofNat_lt.1 (of_decide_eq_true hlt)
    have hx := fit_at (d := (0 : Int)) hp2 hlt
    have hj := digits_le hp k
    have hd := dg_len (l.getD k 0) (by omega)
    have hs := path_step hlt
    simp only [gd_nat]
    refine ⟨fun h0 => ?_, fun h0 => ?_⟩
    · have h0 : 0 < k := by have := of_decide_eq_true h0; omega
      rw [if_pos h0] at hs
      refine ⟨by omega, by omega, by omega, by omega, by constructor <;> omega, _, by omega, k + 1, ?_, by omega, rfl⟩
      rw [hs]; simp
    · have h0 : k = 0 := by have := of_decide_eq_false h0; omega
      subst h0
      refine ⟨by omega, by omega, by omega, by constructor <;> omega, _, by omega, 0 + 1, ?_, by omega, rfl⟩
      rw [hs]; rfl
  · have hge : k = l.length := by have := of_decide_eq_false hge; omega
    subst hge
    rw [List.take_length, pathText, if_neg h])
def PathText (l : List Int) : Str × Int := if 4096 < l.length then ([], 2) else if isPath l then (pathText l, 0) else ([], 1)
noncomputable def sp_PathText : Spec := ⟨[.sl .int], [.rd], true, fun
  | [.dat ⟨.int, l⟩] => some (some (l.length ≤ 1048576), .tup [.str (PathText l).1, .int .i64 (PathText l).2], [])
  | _ => none⟩
@[push_cast] theorem sp_PathText_ps : sp_PathText.ps = [.sl .int] := rfl
@[push_cast] theorem sp_PathText_md : sp_PathText.modes = [.rd] := rfl
@[push_cast] theorem sp_PathText_pure : sp_PathText.pure = true := rfl
@[push_cast] theorem sp_PathText_run (l : List Int) : sp_PathText.run [.dat ⟨.int, l⟩] = some (some (l.length ≤ 1048576), .tup [.str (PathText l).1, .int .i64 (PathText l).2], []) := rfl
noncomputable def e_PathText : Env := mk [(16, sp_isPath), (17, sp_pathText)] []
@[push_cast] theorem e_PathText_dr : e_PathText.dr = drOf [] := rfl
@[push_cast] theorem e_PathText_td : e_PathText.td = td := rfl
@[push_cast] theorem e_PathText_cal : e_PathText.cal = calOf [(16, sp_isPath), (17, sp_pathText)] := rfl
theorem c_PathText : CRow P0 ety0 7 sp_PathText := CRow.of (E := e_PathText) (mkOk (.cons c_isPath (.cons c_pathText (.nil)))) func7 rfl rfl rfl (by
  intro args p r outs h hq
  simp only [sp_PathText] at h; split at h <;> cases h
  rename_i l
  have hl := hq _ rfl
  refine Body.intro (rs := [.tmp 2, .tmp 3]) rfl rfl rfl ?_
  apply vc_run 1000 (stop := false) rfl; simp only [push_cast, reduceIte, Nat.reduceEqDiff, Nat.reduceAdd, Nat.reduceSub, Nat.reduceLT, Int.reduceNeg, Int.reduceLE, Int.reduceLT, Int.reduceToNat, Nat.reduceLeDiff, UInt8.reduceOfNat, UInt8.reduceOfNatLT, and_self, Nat.reduceMul, decide_true, decide_false, Bool.not_true, Bool.not_false, implies_true]
  refine ⟨fun h => ?_, fun h => ?_⟩
  · have h : 4096 < l.length := by have := of_decide_eq_true h; omega
    rw [PathText, if_pos h]
  · have h : ¬ 4096 < l.length := by have := of_decide_eq_false h; omega
    rw [PathText, if_neg h]
    cases hp : isPath l
    · exact ⟨by omega, fun _ => rfl, fun h => by cases h⟩
    · exact ⟨by omega, fun h => (by simp at h), fun _ => ⟨rfl, rfl⟩⟩)
noncomputable def e_PathText2 : Env := mk [(14, sp_isPath), (15, sp_pathText)] []
@[push_cast] theorem e_PathText2_dr : e_PathText2.dr = drOf [] := rfl
@[push_cast] theorem e_PathText2_td : e_PathText2.td = td := rfl
@[push_cast] theorem e_PathText2_cal : e_PathText2.cal = calOf [(14, sp_isPath), (15, sp_pathText)] := rfl
theorem c_PathText2 : CRow P0 ety0 5 sp_PathText := CRow.of (E := e_PathText2) (mkOk (.cons c_isPath2 (.cons c_pathText2 (.nil)))) func5 rfl rfl rfl (by
  intro args p r outs h hq
  simp only [sp_PathText] at h; split at h <;> cases h
  rename_i l
  have hl := hq _ rfl
  refine Body.intro (rs := [.tmp 2, .tmp 3]) rfl rfl rfl ?_
  apply vc_run 1000 (stop := false) rfl; simp only [push_cast, reduceIte, Nat.reduceEqDiff, Nat.reduceAdd, Nat.reduceSub, Nat.reduceLT, Int.reduceNeg, Int.reduceLE, Int.reduceLT, Int.reduceToNat, Nat.reduceLeDiff, UInt8.reduceOfNat, UInt8.reduceOfNatLT, and_self, Nat.reduceMul, decide_true, decide_false, Bool.not_true, Bool.not_false, implies_true]
  refine ⟨fun h => ?_, fun h => ?_⟩
  · have h : 4096 < l.length := by have := of_decide_eq_true h; omega
    rw [PathText, if_pos h]
  · have h : ¬ 4096 < l.length := by have := of_decide_eq_false h; omega
    rw [PathText, if_neg h]
    cases hp : isPath l
    · exact ⟨by omega, fun _ => rfl, fun h => by cases h⟩
    · exact ⟨by omega, fun h => (by simp at h), fun _ => ⟨rfl, rfl⟩⟩)
noncomputable def sp_lawPathText : Spec := ⟨[.sl .int], [.rd], true, fun
  | [.dat ⟨.int, l⟩] => some (some (l.length ≤ 9223372036854775807), .bool true, [])
  | _ => none⟩
@[push_cast] theorem sp_lawPathText_ps : sp_lawPathText.ps = [.sl .int] := rfl
@[push_cast] theorem sp_lawPathText_md : sp_lawPathText.modes = [.rd] := rfl
@[push_cast] theorem sp_lawPathText_pure : sp_lawPathText.pure = true := rfl
@[push_cast] theorem sp_lawPathText_run (l : List Int) : sp_lawPathText.run [.dat ⟨.int, l⟩] = some (some (l.length ≤ 9223372036854775807), .bool true, []) := rfl
noncomputable def e_lawPathText : Env := mk [(6, sp_toIntS), (8, sp_eqIntS), (7, sp_PathText), (5, sp_PathText)] []
@[push_cast] theorem e_lawPathText_dr : e_lawPathText.dr = drOf [] := rfl
@[push_cast] theorem e_lawPathText_td : e_lawPathText.td = td := rfl
@[push_cast] theorem e_lawPathText_cal : e_lawPathText.cal = calOf [(6, sp_toIntS), (8, sp_eqIntS), (7, sp_PathText), (5, sp_PathText)] := rfl
theorem c_lawPathText : CRow P0 ety0 3 sp_lawPathText := CRow.of (E := e_lawPathText) (mkOk (.cons c_toIntS (.cons c_eqIntS (.cons c_PathText (.cons c_PathText2 (.nil)))))) func3 rfl rfl rfl (by
  intro args p r outs h hq
  simp only [sp_lawPathText] at h; split at h <;> cases h
  rename_i l
  have hl := hq _ rfl
  refine Body.intro (rs := [.tmp 2]) rfl rfl rfl ?_
  apply vc_run 1000 (stop := false) rfl; simp only [push_cast, reduceIte, Nat.reduceEqDiff, Nat.reduceAdd, Nat.reduceSub, Nat.reduceLT, Int.reduceNeg, Int.reduceLE, Int.reduceLT, Int.reduceToNat, Nat.reduceLeDiff, UInt8.reduceOfNat, UInt8.reduceOfNatLT, and_self, Nat.reduceMul, decide_true, decide_false, Bool.not_true, Bool.not_false, implies_true]
  intro h
  have h : l.length ≤ 1048576 := by have := of_decide_eq_false h; omega
  rw [sz0, eqB_of rfl]
  exact ⟨h, h, h, h, fun h => h.elim, h, h, fun h => by cases h⟩)
end Go.Ab
