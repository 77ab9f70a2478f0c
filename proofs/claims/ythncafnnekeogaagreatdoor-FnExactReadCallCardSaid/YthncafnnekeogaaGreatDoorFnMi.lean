/- Marks of numbers. -/
import Derived.Test.YthncafnnekeogaaGreatDoorFnMk
import Derived.Test.YthncafnnekeogaaGreatDoorFnZi
set_option linter.all false
set_option linter.unusedSimpArgs false
set_option linter.unusedVariables false
set_option linter.unusedSectionVars false
set_option maxRecDepth 20000
set_option maxHeartbeats 1000000
namespace Go.Ab
open Go Go.Proofs.Tryz
def mkIn (_ : Int) (k : Int) : Int := k
def oneI (_ : Int) : Nat := 1
theorem sumI_len (l : List Int) : sumL oneI l = l.length := by
  induction l with
  | nil => rfl
  | cons x l ih =>
    have e : sumL oneI (x :: l) = 1 + sumL oneI l := by simp [sumL, oneI]
    rw [e, ih, List.length_cons]; omega
noncomputable def sp_mkInts : Spec := ⟨[.sl .int, .sc], [.io, .rd], false, fun
  | [.own true ⟨.int, l⟩, .int .i64 k] => some (some (0 ≤ k ∧ k + sumL oneI l ≤ 1073741824), .int .i64 (k + sumL oneI l), [.own true ⟨.int, mkL mkIn oneI l k⟩])
  | _ => none⟩
@[push_cast] theorem sp_mkInts_ps : sp_mkInts.ps = [.sl .int, .sc] := rfl
@[push_cast] theorem sp_mkInts_md : sp_mkInts.modes = [.io, .rd] := rfl
@[push_cast] theorem sp_mkInts_pure : sp_mkInts.pure = false := rfl
@[push_cast] theorem sp_mkInts_run (l : List Int) (k : Int) : sp_mkInts.run [.own true ⟨.int, l⟩, .int .i64 k] = some (some (0 ≤ k ∧ k + sumL oneI l ≤ 1073741824), .int .i64 (k + sumL oneI l), [.own true ⟨.int, mkL mkIn oneI l k⟩]) := rfl
noncomputable def e_mkInts : Env := mk [] [] [] [] none
@[push_cast] theorem e_mkInts_in : e_mkInts.inl = inlF [] := rfl
@[push_cast] theorem e_mkInts_fn : e_mkInts.fnd = fndF none := rfl
@[push_cast] theorem e_mkInts_gh : e_mkInts.gh = ghOf [] := rfl
@[push_cast] theorem e_mkInts_dr : e_mkInts.dr = drOf [] := rfl
@[push_cast] theorem e_mkInts_td : e_mkInts.td = td := rfl
@[push_cast] theorem e_mkInts_eqt : e_mkInts.eqt = eqt := rfl
@[push_cast] theorem e_mkInts_cal : e_mkInts.cal = calOf [] := rfl
theorem c_mkInts : CRow P0 ety0 37 sp_mkInts := CRow.of (E := e_mkInts) (mkOk (.nil)) func37 rfl rfl rfl (by
  intro args p r outs h hq
  simp only [sp_mkInts] at h; split at h <;> cases h
  rename_i l k
  obtain ⟨h0, h1⟩ := hq _ rfl
  have hl := len_sum oneI (fun x => by simp only [oneI]; omega) l
  refine Body.intro (rs := [.tmp 4]) rfl rfl rfl ?_
  apply vc_run 1000 (stop := false) rfl; simp only [push_cast, reduceIte, Nat.reduceEqDiff, Nat.reduceAdd, Nat.reduceSub, Nat.reduceLT, Int.reduceNeg, Int.reduceLE, Int.reduceLT, Int.reduceToNat, Nat.reduceLeDiff, UInt8.reduceOfNat, UInt8.reduceOfNatLT, and_self, Nat.reduceMul, decide_true, decide_false, Bool.not_true, Bool.not_false, implies_true]
  refine Run.loop [1, 5] [0] [1000000] rfl (fun n vs bs => ∃ j : Nat, vs = [.int .i64 (k + sumL oneI (l.take j)), .int .i64 j] ∧ bs = [[.own true ⟨.int, mkP mkIn oneI l k j⟩]] ∧ j ≤ l.length ∧ n = l.length - j) l.length ?_ ?_
  · simp only [push_cast, reduceIte, Nat.reduceEqDiff, Nat.reduceAdd, Nat.reduceSub, Nat.reduceLT, Int.reduceNeg, Int.reduceLE, Int.reduceLT, Int.reduceToNat, Nat.reduceLeDiff, UInt8.reduceOfNat, UInt8.reduceOfNatLT, and_self, Nat.reduceMul, decide_true, decide_false, Bool.not_true, Bool.not_false, implies_true]
    exact ⟨0, by simp [sumL], by rw [mkP_0], by omega, by omega⟩
  rintro n vs bs ⟨j, rfl, rfl, hj, rfl⟩
  simp only [push_cast, reduceIte, Nat.reduceEqDiff, Nat.reduceAdd, Nat.reduceSub, Nat.reduceLT, Int.reduceNeg, Int.reduceLE, Int.reduceLT, Int.reduceToNat, Nat.reduceLeDiff, UInt8.reduceOfNat, UInt8.reduceOfNatLT, and_self, Nat.reduceMul, decide_true, decide_false, Bool.not_true, Bool.not_false, implies_true]
  apply vc_run 1000 (stop := false) rfl; simp only [push_cast, reduceIte, Nat.reduceEqDiff, Nat.reduceAdd, Nat.reduceSub, Nat.reduceLT, Int.reduceNeg, Int.reduceLE, Int.reduceLT, Int.reduceToNat, Nat.reduceLeDiff, UInt8.reduceOfNat, UInt8.reduceOfNatLT, and_self, Nat.reduceMul, decide_true, decide_false, Bool.not_true, Bool.not_false, implies_true]
  rw [mkP_len]
  refine ⟨fun hlt => ?_, fun hge => ?_⟩
  · have hlt : j < l.length := Int.ofNat_lt.1 (of_decide_eq_true hlt)
    have hset := mkP_set mkIn oneI k 0 hlt
    have hst := sumL_step oneI 0 hlt
    have htl := sumL_take_le oneI l (j + 1)
    simp only [Int.toNat_natCast]
    have e1 : oneI (l.getD j 0) = 1 := rfl
    refine ⟨by omega, by constructor <;> omega, by constructor <;> omega, _, ?_, j + 1, ?_, ?_, by omega, rfl⟩
    · omega
    · rw [hst, e1]; congr 2; omega
    · rw [← hset]; rfl
  · have hge : j = l.length := by have := of_decide_eq_false hge; omega
    subst hge
    rw [List.take_length, mkP_all]
    exact ⟨rfl, rfl⟩)
noncomputable def sp_hdInts : Spec := ⟨[.sl .int, .sc], [.rd, .rd], true, fun
  | [.dat ⟨.int, l⟩, .int .i64 k] => some (some (0 ≤ k ∧ k + sumL oneI l ≤ 1073741824 ∧ Mkd mkIn oneI l k), .int .i64 (k + sumL oneI l), [])
  | _ => none⟩
@[push_cast] theorem sp_hdInts_ps : sp_hdInts.ps = [.sl .int, .sc] := rfl
@[push_cast] theorem sp_hdInts_md : sp_hdInts.modes = [.rd, .rd] := rfl
@[push_cast] theorem sp_hdInts_pure : sp_hdInts.pure = true := rfl
@[push_cast] theorem sp_hdInts_run (l : List Int) (k : Int) : sp_hdInts.run [.dat ⟨.int, l⟩, .int .i64 k] = some (some (0 ≤ k ∧ k + sumL oneI l ≤ 1073741824 ∧ Mkd mkIn oneI l k), .int .i64 (k + sumL oneI l), []) := rfl
noncomputable def e_hdInts : Env := mk [] [] [] [] none
@[push_cast] theorem e_hdInts_in : e_hdInts.inl = inlF [] := rfl
@[push_cast] theorem e_hdInts_fn : e_hdInts.fnd = fndF none := rfl
@[push_cast] theorem e_hdInts_gh : e_hdInts.gh = ghOf [] := rfl
@[push_cast] theorem e_hdInts_dr : e_hdInts.dr = drOf [] := rfl
@[push_cast] theorem e_hdInts_td : e_hdInts.td = td := rfl
@[push_cast] theorem e_hdInts_eqt : e_hdInts.eqt = eqt := rfl
@[push_cast] theorem e_hdInts_cal : e_hdInts.cal = calOf [] := rfl
theorem c_hdInts : CRow P0 ety0 38 sp_hdInts := CRow.of (E := e_hdInts) (mkOk (.nil)) func38 rfl rfl rfl (by
  intro args p r outs h hq
  simp only [sp_hdInts] at h; split at h <;> cases h
  rename_i l k
  obtain ⟨h0, h1, hm⟩ := hq _ rfl
  have hl := len_sum oneI (fun x => by simp only [oneI]; omega) l
  refine Body.intro (rs := [.tmp 4]) rfl rfl rfl ?_
  apply vc_run 1000 (stop := false) rfl; simp only [push_cast, reduceIte, Nat.reduceEqDiff, Nat.reduceAdd, Nat.reduceSub, Nat.reduceLT, Int.reduceNeg, Int.reduceLE, Int.reduceLT, Int.reduceToNat, Nat.reduceLeDiff, UInt8.reduceOfNat, UInt8.reduceOfNatLT, and_self, Nat.reduceMul, decide_true, decide_false, Bool.not_true, Bool.not_false, implies_true]
  refine Run.loop [1, 4, 5] [0] [] rfl (fun n vs bs => ∃ j : Nat, vs = [.int .i64 (k + sumL oneI (l.take j)), .int .i64 0, .int .i64 j] ∧ bs = [] ∧ j ≤ l.length ∧ n = l.length - j) l.length ?_ ?_
  · simp only [push_cast, reduceIte, Nat.reduceEqDiff, Nat.reduceAdd, Nat.reduceSub, Nat.reduceLT, Int.reduceNeg, Int.reduceLE, Int.reduceLT, Int.reduceToNat, Nat.reduceLeDiff, UInt8.reduceOfNat, UInt8.reduceOfNatLT, and_self, Nat.reduceMul, decide_true, decide_false, Bool.not_true, Bool.not_false, implies_true]
    exact ⟨0, by simp [sumL], by omega, by omega⟩
  rintro n vs bs ⟨j, rfl, rfl, hj, rfl⟩
  simp only [push_cast, reduceIte, Nat.reduceEqDiff, Nat.reduceAdd, Nat.reduceSub, Nat.reduceLT, Int.reduceNeg, Int.reduceLE, Int.reduceLT, Int.reduceToNat, Nat.reduceLeDiff, UInt8.reduceOfNat, UInt8.reduceOfNatLT, and_self, Nat.reduceMul, decide_true, decide_false, Bool.not_true, Bool.not_false, implies_true]
  apply vc_run 1000 (stop := false) rfl; simp only [push_cast, reduceIte, Nat.reduceEqDiff, Nat.reduceAdd, Nat.reduceSub, Nat.reduceLT, Int.reduceNeg, Int.reduceLE, Int.reduceLT, Int.reduceToNat, Nat.reduceLeDiff, UInt8.reduceOfNat, UInt8.reduceOfNatLT, and_self, Nat.reduceMul, decide_true, decide_false, Bool.not_true, Bool.not_false, implies_true]
  refine ⟨fun hlt => ?_, fun hge => ?_⟩
  · have hlt : j < l.length := Int.ofNat_lt.1 (of_decide_eq_true hlt)
    have hat := hm.at 0 hlt
    have hst := sumL_step oneI 0 hlt
    have htl := sumL_take_le oneI l (j + 1)
    simp only [gd_nat]
    have e1 : oneI (l.getD j 0) = 1 := rfl
    have h1' : l.getD j 0 = k + sumL oneI (l.take j) := hat
    refine ⟨by omega, fun h => ?_, fun _ => ⟨by constructor <;> omega, by constructor <;> omega, _, ?_, j + 1, ?_, by omega, rfl⟩⟩
    · rw [← h1'] at h; simp at h
    · omega
    · rw [hst, e1]; congr 2; omega
  · have hge : j = l.length := by have := of_decide_eq_false hge; omega
    subst hge
    rw [List.take_length])
end Go.Ab
