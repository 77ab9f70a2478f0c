import Derived.Test.YtnnaepmjmpnimaaGreatDoorFnD
set_option linter.all false
set_option linter.unusedSimpArgs false
set_option linter.unusedVariables false
set_option linter.unusedSectionVars false
set_option maxRecDepth 20000
set_option maxHeartbeats 1000000
namespace Go.Ab
open Go Go.Proofs.Tryz
def preS (s p : Str) : Bool := decide (s.take p.length = p)
noncomputable def sp_preS : Spec := ⟨[.sc, .sc], [.rd, .rd], true, fun
  | [.str s, .str p] => some (some (s.length ≤ 1073741824 ∧ p.length ≤ 1073741824), .bool (preS s p), [])
  | _ => none⟩
@[push_cast] theorem sp_preS_ps : sp_preS.ps = [.sc, .sc] := rfl
@[push_cast] theorem sp_preS_md : sp_preS.modes = [.rd, .rd] := rfl
@[push_cast] theorem sp_preS_pure : sp_preS.pure = true := rfl
@[push_cast] theorem sp_preS_run (s p : Str) : sp_preS.run [.str s, .str p] = some (some (s.length ≤ 1073741824 ∧ p.length ≤ 1073741824), .bool (preS s p), []) := rfl
theorem pre_eq (s p : Str) : (bif decide ((p.length : Int) ≤ (s.length : Int)) then decide (cut s 0 (p.length : Int) = p) else false) = preS s p := by
  rw [cut_take]
  by_cases h : p.length ≤ s.length
  · rw [decide_eq_true (show (p.length : Int) ≤ s.length by omega)]; rfl
  · rw [decide_eq_false (show ¬ (p.length : Int) ≤ s.length by omega), preS, decide_eq_false]; · rfl
    intro e
    have := congrArg List.length e
    rw [List.length_take] at this; omega
noncomputable def e_hasPre0 : Env := mk [] [] [] [] none
@[push_cast] theorem e_hasPre0_in : e_hasPre0.inl = inlF [] := rfl
@[push_cast] theorem e_hasPre0_fn : e_hasPre0.fnd = fndF none := rfl
@[push_cast] theorem e_hasPre0_gh : e_hasPre0.gh = ghOf [] := rfl
@[push_cast] theorem e_hasPre0_dr : e_hasPre0.dr = drOf [] := rfl
@[push_cast] theorem e_hasPre0_td : e_hasPre0.td = td := rfl
@[push_cast] theorem e_hasPre0_eqt : e_hasPre0.eqt = eqt := rfl
@[push_cast] theorem e_hasPre0_cal : e_hasPre0.cal = calOf [] := rfl
theorem c_hasPre0 : CRow P0 ety0 136 sp_preS := CRow.of (E := e_hasPre0) (mkOk (.nil)) func136 rfl rfl rfl (by
  intro args p r outs h hq
  simp only [sp_preS] at h; split at h <;> cases h
  rename_i s p
  obtain ⟨hs, hp⟩ := hq _ rfl
  refine Body.intro (rs := [.tmp 4]) rfl rfl rfl ?_
  apply vc_run 1000 (stop := false) rfl; simp only [push_cast, reduceIte, Nat.reduceEqDiff, Nat.reduceAdd, Nat.reduceSub, Nat.reduceLT, Int.reduceNeg, Int.reduceLE, Int.reduceLT, Int.reduceToNat, Nat.reduceLeDiff, UInt8.reduceOfNat, UInt8.reduceOfNatLT, and_self, Nat.reduceMul, decide_true, decide_false, Bool.not_true, Bool.not_false, implies_true]
  refine ⟨fun h => ?_, ?_⟩
  · have := of_decide_eq_true h; omega
  · rw [pre_eq])
noncomputable def e_hasPre : Env := mk [(136, sp_preS)] [] [] [] none
@[push_cast] theorem e_hasPre_in : e_hasPre.inl = inlF [] := rfl
@[push_cast] theorem e_hasPre_fn : e_hasPre.fnd = fndF none := rfl
@[push_cast] theorem e_hasPre_gh : e_hasPre.gh = ghOf [] := rfl
@[push_cast] theorem e_hasPre_dr : e_hasPre.dr = drOf [] := rfl
@[push_cast] theorem e_hasPre_td : e_hasPre.td = td := rfl
@[push_cast] theorem e_hasPre_eqt : e_hasPre.eqt = eqt := rfl
@[push_cast] theorem e_hasPre_cal : e_hasPre.cal = calOf [(136, sp_preS)] := rfl
theorem c_hasPre : CRow P0 ety0 92 sp_preS := CRow.of (E := e_hasPre) (mkOk (.cons c_hasPre0 (.nil))) func92 rfl rfl rfl (by
  intro args p r outs h hq
  simp only [sp_preS] at h; split at h <;> cases h
  rename_i s p
  have hz := hq _ rfl
  refine Body.intro (rs := [.tmp 4]) rfl rfl rfl ?_
  apply vc_run 1000 (stop := false) rfl; simp only [push_cast, reduceIte, Nat.reduceEqDiff, Nat.reduceAdd, Nat.reduceSub, Nat.reduceLT, Int.reduceNeg, Int.reduceLE, Int.reduceLT, Int.reduceToNat, Nat.reduceLeDiff, UInt8.reduceOfNat, UInt8.reduceOfNatLT, and_self, Nat.reduceMul, decide_true, decide_false, Bool.not_true, Bool.not_false, implies_true]
  exact hz)
end Go.Ab
