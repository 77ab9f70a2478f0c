/- Lists of numbers: copies, whether two are alike. -/
import Derived.Test.YthncafnnekeogaaGreatDoorFnD
set_option linter.all false
set_option linter.unusedSimpArgs false
set_option linter.unusedVariables false
set_option linter.unusedSectionVars false
set_option maxRecDepth 20000
set_option maxHeartbeats 1000000
namespace Go.Ab
open Go Go.Proofs.Tryz
def z0 (_ : Int) : Nat := 0
theorem sum0 (l : List Int) : sumL z0 l = 0 := by
  induction l with
  | nil => rfl
  | cons x l ih =>
    have e : sumL z0 (x :: l) = 0 + sumL z0 l := by simp [sumL, z0]
    rw [e, ih]
theorem sz0 (l : List Int) : szL z0 l = l.length := by rw [szL, sum0]; rfl
noncomputable def sp_toIntS : Spec := ⟨[.sl .int], [.rd], false, fun
  | [.dat ⟨.int, l⟩] => some (some (szL z0 l ≤ 1048576), .own true ⟨.int, l⟩, [])
  | _ => none⟩
@[push_cast] theorem sp_toIntS_ps : sp_toIntS.ps = [.sl .int] := rfl
@[push_cast] theorem sp_toIntS_md : sp_toIntS.modes = [.rd] := rfl
@[push_cast] theorem sp_toIntS_pure : sp_toIntS.pure = false := rfl
@[push_cast] theorem sp_toIntS_run (l : List Int) : sp_toIntS.run [.dat ⟨.int, l⟩] = some (some (szL z0 l ≤ 1048576), .own true ⟨.int, l⟩, []) := rfl
noncomputable def sp_eqIntS : Spec := ⟨[.sl .int, .sl .int], [.rd, .rd], true, fun
  | [.dat ⟨.int, a⟩, .dat ⟨.int, b⟩] => some (some (szL z0 a ≤ 1048576), .bool (eqB a b), [])
  | _ => none⟩
@[push_cast] theorem sp_eqIntS_ps : sp_eqIntS.ps = [.sl .int, .sl .int] := rfl
@[push_cast] theorem sp_eqIntS_md : sp_eqIntS.modes = [.rd, .rd] := rfl
@[push_cast] theorem sp_eqIntS_pure : sp_eqIntS.pure = true := rfl
@[push_cast] theorem sp_eqIntS_run (a b : List Int) : sp_eqIntS.run [.dat ⟨.int, a⟩, .dat ⟨.int, b⟩] = some (some (szL z0 a ≤ 1048576), .bool (eqB a b), []) := rfl
noncomputable def e_eqIntS : Env := mk [] [(6, [], [])] [] [] none
@[push_cast] theorem e_eqIntS_in : e_eqIntS.inl = inlF [] := rfl
@[push_cast] theorem e_eqIntS_fn : e_eqIntS.fnd = fndF none := rfl
@[push_cast] theorem e_eqIntS_gh : e_eqIntS.gh = ghOf [] := rfl
@[push_cast] theorem e_eqIntS_dr : e_eqIntS.dr = drOf [(6, [], [])] := rfl
@[push_cast] theorem e_eqIntS_td : e_eqIntS.td = td := rfl
@[push_cast] theorem e_eqIntS_eqt : e_eqIntS.eqt = eqt := rfl
@[push_cast] theorem e_eqIntS_cal : e_eqIntS.cal = calOf [] := rfl
theorem c_eqIntS : CRow P0 ety0 36 sp_eqIntS := CRow.of (E := e_eqIntS) (mkOk (.nil)) func36 rfl rfl rfl (by
  intro args p r outs h hq
  simp only [sp_eqIntS] at h; split at h <;> cases h
  rename_i a b
  have hz := hq _ rfl
  have hl : a.length ≤ 1048576 := Nat.le_trans (szL_len _ _) hz
  refine Body.intro (rs := [.tmp 4]) rfl rfl rfl ?_
  apply vc_run 1000 (stop := false) rfl; simp only [push_cast, reduceIte, Nat.reduceEqDiff, Nat.reduceAdd, Nat.reduceSub, Nat.reduceLT, Int.reduceNeg, Int.reduceLE, Int.reduceLT, Int.reduceToNat, Nat.reduceLeDiff, UInt8.reduceOfNat, UInt8.reduceOfNatLT, and_self, Nat.reduceMul, decide_true, decide_false, Bool.not_true, Bool.not_false, implies_true]
  refine ⟨fun h => ?_, fun h => ?_⟩
  · rw [eqB_ne]; intro e; subst e; simp at h
  have h : a.length = b.length := by simp at h; omega
  refine Run.loop [5] [0, 1] [] rfl (fun m vs bs => ∃ k : Nat, vs = [.int .i64 k] ∧ bs = [] ∧ k ≤ a.length ∧ (∀ j < k, a.getD j 0 = b.getD j 0) ∧ m = a.length - k) a.length ?_ ?_
  · simp only [push_cast, reduceIte, Nat.reduceEqDiff, Nat.reduceAdd, Nat.reduceSub, Nat.reduceLT, Int.reduceNeg, Int.reduceLE, Int.reduceLT, Int.reduceToNat, Nat.reduceLeDiff, UInt8.reduceOfNat, UInt8.reduceOfNatLT, and_self, Nat.reduceMul, decide_true, decide_false, Bool.not_true, Bool.not_false, implies_true]
    exact ⟨0, by simp, by omega, by simp, by omega⟩
  rintro m vs bs ⟨k, rfl, rfl, hk, hb, rfl⟩
  simp only [push_cast, reduceIte, Nat.reduceEqDiff, Nat.reduceAdd, Nat.reduceSub, Nat.reduceLT, Int.reduceNeg, Int.reduceLE, Int.reduceLT, Int.reduceToNat, Nat.reduceLeDiff, UInt8.reduceOfNat, UInt8.reduceOfNatLT, and_self, Nat.reduceMul, decide_true, decide_false, Bool.not_true, Bool.not_false, implies_true]
  apply vc_run 1000 (stop := false) rfl; simp only [push_cast, reduceIte, Nat.reduceEqDiff, Nat.reduceAdd, Nat.reduceSub, Nat.reduceLT, Int.reduceNeg, Int.reduceLE, Int.reduceLT, Int.reduceToNat, Nat.reduceLeDiff, UInt8.reduceOfNat, UInt8.reduceOfNatLT, and_self, Nat.reduceMul, decide_true, decide_false, Bool.not_true, Bool.not_false, implies_true]
  refine ⟨fun hlt => ?_, fun hge => ?_⟩
  · have hlt : k < a.length := by simpa using hlt
    have hel : z0 (a.getD k 0) ≤ 1048576 := Nat.le_trans (szL_at _ _ hlt) hz
    simp only [gd_nat]
    refine ⟨by omega, by omega, fun hne => ?_, fun heq => ⟨by constructor <;> omega, _, by omega, k + 1, rfl, by omega, fun j hj => ?_, rfl⟩⟩
    · rw [eqB_ne]; intro e; subst e; first | (simp at hne; done) | exact absurd hne (by simp [eqB_self])
    · rcases Nat.lt_or_eq_of_le (Nat.le_of_lt_succ hj) with h | rfl
      · exact hb j h
      · first | exact eqB_not heq | (simpa using heq; done) | exact eqK (eqB_not heq)
  · have hge : k = a.length := by simp at hge; omega
    subst hge
    rw [eqB_of (list_eq 0 h hb)])
end Go.Ab
