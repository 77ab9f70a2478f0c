/- Names that do harm: banned names, handlers, links. -/
import Derived.Test.YtnnbjffppfagkaaGreatFnD
set_option linter.all false
set_option linter.unusedSimpArgs false
set_option linter.unusedVariables false
set_option linter.unusedSectionVars false
set_option maxRecDepth 20000
set_option maxHeartbeats 1000000
namespace Go.Ab
open Go Go.Proofs.Tryz
def preS (s p : Str) : Bool := decide (s.take p.length = p)
def sufS (s p : Str) : Bool := decide (s.drop (s.length - p.length) = p)
noncomputable def sp_preS : Spec := ⟨[.sc, .sc], [.rd, .rd], true, fun
  | [.str s, .str p] => some (some (s.length ≤ 1073741824 ∧ p.length ≤ 1073741824), .bool (preS s p), [])
  | _ => none⟩
@[push_cast] theorem sp_preS_ps : sp_preS.ps = [.sc, .sc] := rfl
@[push_cast] theorem sp_preS_md : sp_preS.modes = [.rd, .rd] := rfl
@[push_cast] theorem sp_preS_pure : sp_preS.pure = true := rfl
@[push_cast] theorem sp_preS_run (s p : Str) : sp_preS.run [.str s, .str p] = some (some (s.length ≤ 1073741824 ∧ p.length ≤ 1073741824), .bool (preS s p), []) := rfl
noncomputable def sp_sufS : Spec := ⟨[.sc, .sc], [.rd, .rd], true, fun
  | [.str s, .str p] => some (some (s.length ≤ 1073741824 ∧ p.length ≤ 1073741824), .bool (sufS s p), [])
  | _ => none⟩
@[push_cast] theorem sp_sufS_ps : sp_sufS.ps = [.sc, .sc] := rfl
@[push_cast] theorem sp_sufS_md : sp_sufS.modes = [.rd, .rd] := rfl
@[push_cast] theorem sp_sufS_pure : sp_sufS.pure = true := rfl
@[push_cast] theorem sp_sufS_run (s p : Str) : sp_sufS.run [.str s, .str p] = some (some (s.length ≤ 1073741824 ∧ p.length ≤ 1073741824), .bool (sufS s p), []) := rfl
theorem pre_eq (s p : Str) : (bif decide ((p.length : Int) ≤ (s.length : Int)) then decide (cut s 0 (p.length : Int) = p) else false) = preS s p := by
  rw [cut_take]
  by_cases h : p.length ≤ s.length
  · rw [decide_eq_true (show (p.length : Int) ≤ s.length by omega)]; rfl
  · rw [decide_eq_false (show ¬ (p.length : Int) ≤ s.length by omega), preS, decide_eq_false]; · rfl
    intro e
    have := congrArg List.length e
    rw [List.length_take] at this; omega
theorem suf_eq (s p : Str) : (bif decide ((p.length : Int) ≤ (s.length : Int)) then decide (cut s ((s.length : Int) - (p.length : Int)) (s.length : Int) = p) else false) = sufS s p := by
  by_cases h : p.length ≤ s.length
  · rw [decide_eq_true (show (p.length : Int) ≤ s.length by omega)]
    have e : ((s.length : Int) - (p.length : Int)).toNat = s.length - p.length := by omega
    unfold cut sufS
    rw [e, Int.toNat_natCast, List.take_length]; rfl
  · rw [decide_eq_false (show ¬ (p.length : Int) ≤ s.length by omega), sufS, cond_false, eq_comm, decide_eq_false]
    intro e
    have := congrArg List.length e
    rw [List.length_drop] at this; omega
noncomputable def e_hasPre0 : Env := mk [] [] [] [] none
@[push_cast] theorem e_hasPre0_in : e_hasPre0.inl = inlF [] := rfl
@[push_cast] theorem e_hasPre0_fn : e_hasPre0.fnd = fndF none := rfl
@[push_cast] theorem e_hasPre0_gh : e_hasPre0.gh = ghOf [] := rfl
@[push_cast] theorem e_hasPre0_dr : e_hasPre0.dr = drOf [] := rfl
@[push_cast] theorem e_hasPre0_td : e_hasPre0.td = td := rfl
@[push_cast] theorem e_hasPre0_eqt : e_hasPre0.eqt = eqt := rfl
@[push_cast] theorem e_hasPre0_cal : e_hasPre0.cal = calOf [] := rfl
theorem c_hasPre0 : CRow P0 ety0 135 sp_preS := CRow.of (E := e_hasPre0) (mkOk (.nil)) func135 rfl rfl rfl (by
  intro args p r outs h hq
  simp only [sp_preS] at h; split at h <;> cases h
  rename_i s p
  obtain ⟨hs, hp⟩ := hq _ rfl
  refine Body.intro (rs := [.tmp 4]) rfl rfl rfl ?_
  apply vc_run 1000 (stop := false) rfl; simp only [push_cast, reduceIte, Nat.reduceEqDiff, Nat.reduceAdd, Nat.reduceSub, Nat.reduceLT, Int.reduceNeg, Int.reduceLE, Int.reduceLT, Int.reduceToNat, Nat.reduceLeDiff, UInt8.reduceOfNat, UInt8.reduceOfNatLT, and_self, Nat.reduceMul, decide_true, decide_false, Bool.not_true, Bool.not_false, implies_true]
  refine ⟨fun h => ?_, ?_⟩
  · have := of_decide_eq_true h; omega
  · rw [pre_eq])
noncomputable def e_hasSuf0 : Env := mk [] [] [] [] none
@[push_cast] theorem e_hasSuf0_in : e_hasSuf0.inl = inlF [] := rfl
@[push_cast] theorem e_hasSuf0_fn : e_hasSuf0.fnd = fndF none := rfl
@[push_cast] theorem e_hasSuf0_gh : e_hasSuf0.gh = ghOf [] := rfl
@[push_cast] theorem e_hasSuf0_dr : e_hasSuf0.dr = drOf [] := rfl
@[push_cast] theorem e_hasSuf0_td : e_hasSuf0.td = td := rfl
@[push_cast] theorem e_hasSuf0_eqt : e_hasSuf0.eqt = eqt := rfl
@[push_cast] theorem e_hasSuf0_cal : e_hasSuf0.cal = calOf [] := rfl
theorem c_hasSuf0 : CRow P0 ety0 136 sp_sufS := CRow.of (E := e_hasSuf0) (mkOk (.nil)) func136 rfl rfl rfl (by
  intro args p r outs h hq
  simp only [sp_sufS] at h; split at h <;> cases h
  rename_i s p
  obtain ⟨hs, hp⟩ := hq _ rfl
  refine Body.intro (rs := [.tmp 4]) rfl rfl rfl ?_
  apply vc_run 1000 (stop := false) rfl; simp only [push_cast, reduceIte, Nat.reduceEqDiff, Nat.reduceAdd, Nat.reduceSub, Nat.reduceLT, Int.reduceNeg, Int.reduceLE, Int.reduceLT, Int.reduceToNat, Nat.reduceLeDiff, UInt8.reduceOfNat, UInt8.reduceOfNatLT, and_self, Nat.reduceMul, decide_true, decide_false, Bool.not_true, Bool.not_false, implies_true]
  refine ⟨fun h => ?_, fun h => ?_, ?_⟩
  · constructor <;> omega
  · have := of_decide_eq_true h; omega
  · rw [suf_eq])
noncomputable def e_hasPre : Env := mk [(135, sp_preS)] [] [] [] none
@[push_cast] theorem e_hasPre_in : e_hasPre.inl = inlF [] := rfl
@[push_cast] theorem e_hasPre_fn : e_hasPre.fnd = fndF none := rfl
@[push_cast] theorem e_hasPre_gh : e_hasPre.gh = ghOf [] := rfl
@[push_cast] theorem e_hasPre_dr : e_hasPre.dr = drOf [] := rfl
@[push_cast] theorem e_hasPre_td : e_hasPre.td = td := rfl
@[push_cast] theorem e_hasPre_eqt : e_hasPre.eqt = eqt := rfl
@[push_cast] theorem e_hasPre_cal : e_hasPre.cal = calOf [(135, sp_preS)] := rfl
theorem c_hasPre : CRow P0 ety0 100 sp_preS := CRow.of (E := e_hasPre) (mkOk (.cons c_hasPre0 (.nil))) func100 rfl rfl rfl (by
  intro args p r outs h hq
  simp only [sp_preS] at h; split at h <;> cases h
  rename_i s p
  have hz := hq _ rfl
  refine Body.intro (rs := [.tmp 4]) rfl rfl rfl ?_
  apply vc_run 1000 (stop := false) rfl; simp only [push_cast, reduceIte, Nat.reduceEqDiff, Nat.reduceAdd, Nat.reduceSub, Nat.reduceLT, Int.reduceNeg, Int.reduceLE, Int.reduceLT, Int.reduceToNat, Nat.reduceLeDiff, UInt8.reduceOfNat, UInt8.reduceOfNatLT, and_self, Nat.reduceMul, decide_true, decide_false, Bool.not_true, Bool.not_false, implies_true]
  exact hz)
noncomputable def e_hasSuf : Env := mk [(136, sp_sufS)] [] [] [] none
@[push_cast] theorem e_hasSuf_in : e_hasSuf.inl = inlF [] := rfl
@[push_cast] theorem e_hasSuf_fn : e_hasSuf.fnd = fndF none := rfl
@[push_cast] theorem e_hasSuf_gh : e_hasSuf.gh = ghOf [] := rfl
@[push_cast] theorem e_hasSuf_dr : e_hasSuf.dr = drOf [] := rfl
@[push_cast] theorem e_hasSuf_td : e_hasSuf.td = td := rfl
@[push_cast] theorem e_hasSuf_eqt : e_hasSuf.eqt = eqt := rfl
@[push_cast] theorem e_hasSuf_cal : e_hasSuf.cal = calOf [(136, sp_sufS)] := rfl
theorem c_hasSuf : CRow P0 ety0 101 sp_sufS := CRow.of (E := e_hasSuf) (mkOk (.cons c_hasSuf0 (.nil))) func101 rfl rfl rfl (by
  intro args p r outs h hq
  simp only [sp_sufS] at h; split at h <;> cases h
  rename_i s p
  have hz := hq _ rfl
  refine Body.intro (rs := [.tmp 4]) rfl rfl rfl ?_
  apply vc_run 1000 (stop := false) rfl; simp only [push_cast, reduceIte, Nat.reduceEqDiff, Nat.reduceAdd, Nat.reduceSub, Nat.reduceLT, Int.reduceNeg, Int.reduceLE, Int.reduceLT, Int.reduceToNat, Nat.reduceLeDiff, UInt8.reduceOfNat, UInt8.reduceOfNatLT, and_self, Nat.reduceMul, decide_true, decide_false, Bool.not_true, Bool.not_false, implies_true]
  exact hz)
def bannedL : List Str := [[115, 99, 114, 105, 112, 116], [105, 102, 114, 97, 109, 101], [111, 98, 106, 101, 99, 116], [101, 109, 98, 101, 100], [102, 114, 97, 109, 101], [98, 97, 115, 101], [117, 115, 101]]
def linkL : List Str := [[104, 114, 101, 102], [115, 114, 99], [97, 99, 116, 105, 111, 110], [102, 111, 114, 109, 97, 99, 116, 105, 111, 110], [120, 108, 105, 110, 107, 45, 104, 114, 101, 102]]
def isBan (m : Str) : Bool := hasS bannedL m
def isLnk (m : Str) : Bool := hasS linkL m
noncomputable def sp_isBan : Spec := ⟨[.sc], [.rd], true, fun
  | [.str m] => some (none, .bool (isBan m), [])
  | _ => none⟩
@[push_cast] theorem sp_isBan_ps : sp_isBan.ps = [.sc] := rfl
@[push_cast] theorem sp_isBan_md : sp_isBan.modes = [.rd] := rfl
@[push_cast] theorem sp_isBan_pure : sp_isBan.pure = true := rfl
@[push_cast] theorem sp_isBan_run (m : Str) : sp_isBan.run [.str m] = some (none, .bool (isBan m), []) := rfl
noncomputable def sp_isLnk : Spec := ⟨[.sc], [.rd], true, fun
  | [.str m] => some (none, .bool (isLnk m), [])
  | _ => none⟩
@[push_cast] theorem sp_isLnk_ps : sp_isLnk.ps = [.sc] := rfl
@[push_cast] theorem sp_isLnk_md : sp_isLnk.modes = [.rd] := rfl
@[push_cast] theorem sp_isLnk_pure : sp_isLnk.pure = true := rfl
@[push_cast] theorem sp_isLnk_run (m : Str) : sp_isLnk.run [.str m] = some (none, .bool (isLnk m), []) := rfl
noncomputable def e_isBan : Env := mk [(79, sp_hasS)] [] [] [] none
@[push_cast] theorem e_isBan_in : e_isBan.inl = inlF [] := rfl
@[push_cast] theorem e_isBan_fn : e_isBan.fnd = fndF none := rfl
@[push_cast] theorem e_isBan_gh : e_isBan.gh = ghOf [] := rfl
@[push_cast] theorem e_isBan_dr : e_isBan.dr = drOf [] := rfl
@[push_cast] theorem e_isBan_td : e_isBan.td = td := rfl
@[push_cast] theorem e_isBan_eqt : e_isBan.eqt = eqt := rfl
@[push_cast] theorem e_isBan_cal : e_isBan.cal = calOf [(79, sp_hasS)] := rfl
theorem c_isBan : CRow P0 ety0 105 sp_isBan := CRow.of (E := e_isBan) (mkOk (.cons c_hasS (.nil))) func105 rfl rfl rfl (by
  intro args p r outs h hq
  simp only [sp_isBan] at h; split at h <;> cases h
  refine Body.intro (rs := [.tmp 2]) rfl rfl rfl ?_
  apply vc_run 1000 (stop := false) rfl; simp only [push_cast, reduceIte, Nat.reduceEqDiff, Nat.reduceAdd, Nat.reduceSub, Nat.reduceLT, Int.reduceNeg, Int.reduceLE, Int.reduceLT, Int.reduceToNat, Nat.reduceLeDiff, UInt8.reduceOfNat, UInt8.reduceOfNatLT, and_self, Nat.reduceMul, decide_true, decide_false, Bool.not_true, Bool.not_false, implies_true]
  rfl)
noncomputable def e_isLnk : Env := mk [(79, sp_hasS)] [] [] [] none
@[push_cast] theorem e_isLnk_in : e_isLnk.inl = inlF [] := rfl
@[push_cast] theorem e_isLnk_fn : e_isLnk.fnd = fndF none := rfl
@[push_cast] theorem e_isLnk_gh : e_isLnk.gh = ghOf [] := rfl
@[push_cast] theorem e_isLnk_dr : e_isLnk.dr = drOf [] := rfl
@[push_cast] theorem e_isLnk_td : e_isLnk.td = td := rfl
@[push_cast] theorem e_isLnk_eqt : e_isLnk.eqt = eqt := rfl
@[push_cast] theorem e_isLnk_cal : e_isLnk.cal = calOf [(79, sp_hasS)] := rfl
theorem c_isLnk : CRow P0 ety0 141 sp_isLnk := CRow.of (E := e_isLnk) (mkOk (.cons c_hasS (.nil))) func141 rfl rfl rfl (by
  intro args p r outs h hq
  simp only [sp_isLnk] at h; split at h <;> cases h
  refine Body.intro (rs := [.tmp 2]) rfl rfl rfl ?_
  apply vc_run 1000 (stop := false) rfl; simp only [push_cast, reduceIte, Nat.reduceEqDiff, Nat.reduceAdd, Nat.reduceSub, Nat.reduceLT, Int.reduceNeg, Int.reduceLE, Int.reduceLT, Int.reduceToNat, Nat.reduceLeDiff, UInt8.reduceOfNat, UInt8.reduceOfNatLT, and_self, Nat.reduceMul, decide_true, decide_false, Bool.not_true, Bool.not_false, implies_true]
  rfl)
noncomputable def e_isBan2 : Env := mk [(77, sp_hasS)] [] [] [] none
@[push_cast] theorem e_isBan2_in : e_isBan2.inl = inlF [] := rfl
@[push_cast] theorem e_isBan2_fn : e_isBan2.fnd = fndF none := rfl
@[push_cast] theorem e_isBan2_gh : e_isBan2.gh = ghOf [] := rfl
@[push_cast] theorem e_isBan2_dr : e_isBan2.dr = drOf [] := rfl
@[push_cast] theorem e_isBan2_td : e_isBan2.td = td := rfl
@[push_cast] theorem e_isBan2_eqt : e_isBan2.eqt = eqt := rfl
@[push_cast] theorem e_isBan2_cal : e_isBan2.cal = calOf [(77, sp_hasS)] := rfl
theorem c_isBan2 : CRow P0 ety0 118 sp_isBan := CRow.of (E := e_isBan2) (mkOk (.cons c_hasS2 (.nil))) func118 rfl rfl rfl (by
  intro args p r outs h hq
  simp only [sp_isBan] at h; split at h <;> cases h
  refine Body.intro (rs := [.tmp 2]) rfl rfl rfl ?_
  apply vc_run 1000 (stop := false) rfl; simp only [push_cast, reduceIte, Nat.reduceEqDiff, Nat.reduceAdd, Nat.reduceSub, Nat.reduceLT, Int.reduceNeg, Int.reduceLE, Int.reduceLT, Int.reduceToNat, Nat.reduceLeDiff, UInt8.reduceOfNat, UInt8.reduceOfNatLT, and_self, Nat.reduceMul, decide_true, decide_false, Bool.not_true, Bool.not_false, implies_true]
  rfl)
noncomputable def e_isLnk2 : Env := mk [(77, sp_hasS)] [] [] [] none
@[push_cast] theorem e_isLnk2_in : e_isLnk2.inl = inlF [] := rfl
@[push_cast] theorem e_isLnk2_fn : e_isLnk2.fnd = fndF none := rfl
@[push_cast] theorem e_isLnk2_gh : e_isLnk2.gh = ghOf [] := rfl
@[push_cast] theorem e_isLnk2_dr : e_isLnk2.dr = drOf [] := rfl
@[push_cast] theorem e_isLnk2_td : e_isLnk2.td = td := rfl
@[push_cast] theorem e_isLnk2_eqt : e_isLnk2.eqt = eqt := rfl
@[push_cast] theorem e_isLnk2_cal : e_isLnk2.cal = calOf [(77, sp_hasS)] := rfl
theorem c_isLnk2 : CRow P0 ety0 148 sp_isLnk := CRow.of (E := e_isLnk2) (mkOk (.cons c_hasS2 (.nil))) func148 rfl rfl rfl (by
  intro args p r outs h hq
  simp only [sp_isLnk] at h; split at h <;> cases h
  refine Body.intro (rs := [.tmp 2]) rfl rfl rfl ?_
  apply vc_run 1000 (stop := false) rfl; simp only [push_cast, reduceIte, Nat.reduceEqDiff, Nat.reduceAdd, Nat.reduceSub, Nat.reduceLT, Int.reduceNeg, Int.reduceLE, Int.reduceLT, Int.reduceToNat, Nat.reduceLeDiff, UInt8.reduceOfNat, UInt8.reduceOfNatLT, and_self, Nat.reduceMul, decide_true, decide_false, Bool.not_true, Bool.not_false, implies_true]
  rfl)
def isHdl (m : Str) : Bool := decide (2 < m.length) && preS m [111, 110]
theorem short_isLong {m : Str} (h : m.length ≤ 65536) : isLong [m] = false := by
  simp [isLong, big]; omega
noncomputable def sp_isHdl : Spec := ⟨[.sc], [.rd], true, fun
  | [.str m] => some (some (m.length ≤ 65536), .bool (isHdl m), [])
  | _ => none⟩
@[push_cast] theorem sp_isHdl_ps : sp_isHdl.ps = [.sc] := rfl
@[push_cast] theorem sp_isHdl_md : sp_isHdl.modes = [.rd] := rfl
@[push_cast] theorem sp_isHdl_pure : sp_isHdl.pure = true := rfl
@[push_cast] theorem sp_isHdl_run (m : Str) : sp_isHdl.run [.str m] = some (some (m.length ≤ 65536), .bool (isHdl m), []) := rfl
noncomputable def e_isHdl : Env := mk [(97, sp_isLong), (100, sp_preS)] [] [] [] none
@[push_cast] theorem e_isHdl_in : e_isHdl.inl = inlF [] := rfl
@[push_cast] theorem e_isHdl_fn : e_isHdl.fnd = fndF none := rfl
@[push_cast] theorem e_isHdl_gh : e_isHdl.gh = ghOf [] := rfl
@[push_cast] theorem e_isHdl_dr : e_isHdl.dr = drOf [] := rfl
@[push_cast] theorem e_isHdl_td : e_isHdl.td = td := rfl
@[push_cast] theorem e_isHdl_eqt : e_isHdl.eqt = eqt := rfl
@[push_cast] theorem e_isHdl_cal : e_isHdl.cal = calOf [(97, sp_isLong), (100, sp_preS)] := rfl
theorem c_isHdl : CRow P0 ety0 140 sp_isHdl := CRow.of (E := e_isHdl) (mkOk (.cons c_isLong (.cons c_hasPre (.nil)))) func140 rfl rfl rfl (by
  intro args p r outs h hq
  simp only [sp_isHdl] at h; split at h <;> cases h
  rename_i m
  have hz := hq _ rfl
  refine Body.intro (rs := [.tmp 2]) rfl rfl rfl ?_
  apply vc_run 1000 (stop := false) rfl; simp only [push_cast, reduceIte, Nat.reduceEqDiff, Nat.reduceAdd, Nat.reduceSub, Nat.reduceLT, Int.reduceNeg, Int.reduceLE, Int.reduceLT, Int.reduceToNat, Nat.reduceLeDiff, UInt8.reduceOfNat, UInt8.reduceOfNatLT, and_self, Nat.reduceMul, decide_true, decide_false, Bool.not_true, Bool.not_false, implies_true]
  rw [short_isLong hz]
  refine ⟨fun _ => by omega, ?_⟩
  have e : decide ((2 : Int) < (m.length : Int)) = decide (2 < m.length) := decide_eq_decide.2 (by omega)
  rw [e]
  simp only [Bool.not_false, cond_true, Bool.cond_false_right]
  rfl)
noncomputable def e_isHdl2 : Env := mk [] [] [] [] none
@[push_cast] theorem e_isHdl2_in : e_isHdl2.inl = inlF [] := rfl
@[push_cast] theorem e_isHdl2_fn : e_isHdl2.fnd = fndF none := rfl
@[push_cast] theorem e_isHdl2_gh : e_isHdl2.gh = ghOf [] := rfl
@[push_cast] theorem e_isHdl2_dr : e_isHdl2.dr = drOf [] := rfl
@[push_cast] theorem e_isHdl2_td : e_isHdl2.td = td := rfl
@[push_cast] theorem e_isHdl2_eqt : e_isHdl2.eqt = eqt := rfl
@[push_cast] theorem e_isHdl2_cal : e_isHdl2.cal = calOf [] := rfl
theorem c_isHdl2 : CRow P0 ety0 147 sp_isHdl := CRow.of (E := e_isHdl2) (mkOk (.nil)) func147 rfl rfl rfl (by
  intro args p r outs h hq
  simp only [sp_isHdl] at h; split at h <;> cases h
  rename_i m
  have hz := hq _ rfl
  refine Body.intro (rs := [.tmp 2]) rfl rfl rfl ?_
  apply vc_run 1000 (stop := false) rfl; simp only [push_cast, reduceIte, Nat.reduceEqDiff, Nat.reduceAdd, Nat.reduceSub, Nat.reduceLT, Int.reduceNeg, Int.reduceLE, Int.reduceLT, Int.reduceToNat, Nat.reduceLeDiff, UInt8.reduceOfNat, UInt8.reduceOfNatLT, and_self, Nat.reduceMul, decide_true, decide_false, Bool.not_true, Bool.not_false, implies_true]
  refine ⟨fun h => by have := of_decide_eq_true h; omega, ?_⟩
  have e : decide ((2 : Int) < (m.length : Int)) = decide (2 < m.length) := decide_eq_decide.2 (by omega)
  have e2 : cut m 0 (2 : Int) = m.take 2 := cut_take m 2
  rw [e, e2]
  simp only [Bool.cond_false_right]
  rfl)
end Go.Ab
