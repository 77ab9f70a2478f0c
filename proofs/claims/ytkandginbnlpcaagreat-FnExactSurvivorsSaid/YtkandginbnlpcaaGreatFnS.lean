/- Names and texts that do harm: banned names, handlers, links, what a comment may hold. -/
import Derived.Test.YtkandginbnlpcaaGreatFnU
import Derived.Test.YtkandginbnlpcaaGreatLibAny
set_option linter.all false
set_option linter.unusedSimpArgs false
set_option linter.unusedVariables false
set_option linter.unusedSectionVars false
set_option maxRecDepth 20000
set_option maxHeartbeats 1000000
namespace Go.Ab
open Go Go.Proofs.Tryz
def preS (s p : Str) : Bool := decide (s.take p.length = p)
def sufS (s p : Str) : Bool := decide (s.drop (s.length - p.length) = p)
noncomputable def sp_preS : Spec := ⟨[.sc, .sc], [.rd, .rd], true, fun
  | [.str s, .str p] => some (some (s.length ≤ 1073741824 ∧ p.length ≤ 1073741824), .bool (preS s p), [])
  | _ => none⟩
@[push_cast] theorem sp_preS_ps : sp_preS.ps = [.sc, .sc] := rfl
@[push_cast] theorem sp_preS_md : sp_preS.modes = [.rd, .rd] := rfl
@[push_cast] theorem sp_preS_pure : sp_preS.pure = true := rfl
@[push_cast] theorem sp_preS_run (s p : Str) : sp_preS.run [.str s, .str p] = some (some (s.length ≤ 1073741824 ∧ p.length ≤ 1073741824), .bool (preS s p), []) := rfl
noncomputable def sp_sufS : Spec := ⟨[.sc, .sc], [.rd, .rd], true, fun
  | [.str s, .str p] => some (some (s.length ≤ 1073741824 ∧ p.length ≤ 1073741824), .bool (sufS s p), [])
  | _ => none⟩
@[push_cast] theorem sp_sufS_ps : sp_sufS.ps = [.sc, .sc] := rfl
@[push_cast] theorem sp_sufS_md : sp_sufS.modes = [.rd, .rd] := rfl
@[push_cast] theorem sp_sufS_pure : sp_sufS.pure = true := rfl
@[push_cast] theorem sp_sufS_run (s p : Str) : sp_sufS.run [.str s, .str p] = some (some (s.length ≤ 1073741824 ∧ p.length ≤ 1073741824), .bool (sufS s p), []) := rfl
theorem pre_eq (s p : Str) : (bif decide ((p.length : Int) ≤ (s.length : Int)) then decide (cut s 0 (p.length : Int) = p) else false) = preS s p := by
  rw [cut_take]
  by_cases h : p.length ≤ s.length
  · rw [decide_eq_true (show (p.length : Int) ≤ s.length by omega)]; rfl
  · rw [decide_eq_false (show ¬ (p.length : Int) ≤ s.length by omega), preS, decide_eq_false]; · rfl
    intro e
    have := congrArg List.length e
    rw [List.length_take] at this; omega
theorem suf_eq (s p : Str) : (bif decide ((p.length : Int) ≤ (s.length : Int)) then decide (cut s ((s.length : Int) - (p.length : Int)) (s.length : Int) = p) else false) = sufS s p := by
  by_cases h : p.length ≤ s.length
  · rw [decide_eq_true (show (p.length : Int) ≤ s.length by omega)]
    have e : ((s.length : Int) - (p.length : Int)).toNat = s.length - p.length := by omega
    unfold cut sufS
    rw [e, Int.toNat_natCast, List.take_length]; rfl
  · rw [decide_eq_false (show ¬ (p.length : Int) ≤ s.length by omega), sufS, cond_false, eq_comm, decide_eq_false]
    intro e
    have := congrArg List.length e
    rw [List.length_drop] at this; omega
noncomputable def e_hasPre0 : Env := mk [] [] []
@[push_cast] theorem e_hasPre0_gh : e_hasPre0.gh = ghOf [] := rfl
@[push_cast] theorem e_hasPre0_dr : e_hasPre0.dr = drOf [] := rfl
@[push_cast] theorem e_hasPre0_td : e_hasPre0.td = td := rfl
@[push_cast] theorem e_hasPre0_eqt : e_hasPre0.eqt = eqt := rfl
@[push_cast] theorem e_hasPre0_cal : e_hasPre0.cal = calOf [] := rfl
theorem c_hasPre0 : CRow P0 ety0 161 sp_preS := CRow.of (E := e_hasPre0) (mkOk (.nil)) func161 rfl rfl rfl (by
  intro args p r outs h hq
  simp only [sp_preS] at h; split at h <;> cases h
  rename_i s p
  obtain ⟨hs, hp⟩ := hq _ rfl
  refine Body.intro (rs := [.tmp 4]) rfl rfl rfl ?_
  apply vc_run 1000 (stop := false) rfl; simp only [push_cast, reduceIte, Nat.reduceEqDiff, Nat.reduceAdd, Nat.reduceSub, Nat.reduceLT, Int.reduceNeg, Int.reduceLE, Int.reduceLT, Int.reduceToNat, Nat.reduceLeDiff, UInt8.reduceOfNat, UInt8.reduceOfNatLT, and_self, Nat.reduceMul, decide_true, decide_false, Bool.not_true, Bool.not_false, implies_true]
  refine ⟨fun h => ?_, ?_⟩
  · have := of_decide_eq_true h; omega
  · rw [pre_eq])
noncomputable def e_hasSuf0 : Env := mk [] [] []
@[push_cast] theorem e_hasSuf0_gh : e_hasSuf0.gh = ghOf [] := rfl
@[push_cast] theorem e_hasSuf0_dr : e_hasSuf0.dr = drOf [] := rfl
@[push_cast] theorem e_hasSuf0_td : e_hasSuf0.td = td := rfl
@[push_cast] theorem e_hasSuf0_eqt : e_hasSuf0.eqt = eqt := rfl
@[push_cast] theorem e_hasSuf0_cal : e_hasSuf0.cal = calOf [] := rfl
theorem c_hasSuf0 : CRow P0 ety0 162 sp_sufS := CRow.of (E := e_hasSuf0) (mkOk (.nil)) func162 rfl rfl rfl (by
  intro args p r outs h hq
  simp only [sp_sufS] at h; split at h <;> cases h
  rename_i s p
  obtain ⟨hs, hp⟩ := hq _ rfl
  refine Body.intro (rs := [.tmp 4]) rfl rfl rfl ?_
  apply vc_run 1000 (stop := false) rfl; simp only [push_cast, reduceIte, Nat.reduceEqDiff, Nat.reduceAdd, Nat.reduceSub, Nat.reduceLT, Int.reduceNeg, Int.reduceLE, Int.reduceLT, Int.reduceToNat, Nat.reduceLeDiff, UInt8.reduceOfNat, UInt8.reduceOfNatLT, and_self, Nat.reduceMul, decide_true, decide_false, Bool.not_true, Bool.not_false, implies_true]
  refine ⟨fun h => ?_, fun h => ?_, ?_⟩
  · constructor <;> omega
  · have := of_decide_eq_true h; omega
  · rw [suf_eq])
noncomputable def e_hasPre : Env := mk [(161, sp_preS)] [] []
@[push_cast] theorem e_hasPre_gh : e_hasPre.gh = ghOf [] := rfl
@[push_cast] theorem e_hasPre_dr : e_hasPre.dr = drOf [] := rfl
@[push_cast] theorem e_hasPre_td : e_hasPre.td = td := rfl
@[push_cast] theorem e_hasPre_eqt : e_hasPre.eqt = eqt := rfl
@[push_cast] theorem e_hasPre_cal : e_hasPre.cal = calOf [(161, sp_preS)] := rfl
theorem c_hasPre : CRow P0 ety0 113 sp_preS := CRow.of (E := e_hasPre) (mkOk (.cons c_hasPre0 (.nil))) func113 rfl rfl rfl (by
  intro args p r outs h hq
  simp only [sp_preS] at h; split at h <;> cases h
  rename_i s p
  have hz := hq _ rfl
  refine Body.intro (rs := [.tmp 4]) rfl rfl rfl ?_
  apply vc_run 1000 (stop := false) rfl; simp only [push_cast, reduceIte, Nat.reduceEqDiff, Nat.reduceAdd, Nat.reduceSub, Nat.reduceLT, Int.reduceNeg, Int.reduceLE, Int.reduceLT, Int.reduceToNat, Nat.reduceLeDiff, UInt8.reduceOfNat, UInt8.reduceOfNatLT, and_self, Nat.reduceMul, decide_true, decide_false, Bool.not_true, Bool.not_false, implies_true]
  exact hz)
noncomputable def e_hasSuf : Env := mk [(162, sp_sufS)] [] []
@[push_cast] theorem e_hasSuf_gh : e_hasSuf.gh = ghOf [] := rfl
@[push_cast] theorem e_hasSuf_dr : e_hasSuf.dr = drOf [] := rfl
@[push_cast] theorem e_hasSuf_td : e_hasSuf.td = td := rfl
@[push_cast] theorem e_hasSuf_eqt : e_hasSuf.eqt = eqt := rfl
@[push_cast] theorem e_hasSuf_cal : e_hasSuf.cal = calOf [(162, sp_sufS)] := rfl
theorem c_hasSuf : CRow P0 ety0 114 sp_sufS := CRow.of (E := e_hasSuf) (mkOk (.cons c_hasSuf0 (.nil))) func114 rfl rfl rfl (by
  intro args p r outs h hq
  simp only [sp_sufS] at h; split at h <;> cases h
  rename_i s p
  have hz := hq _ rfl
  refine Body.intro (rs := [.tmp 4]) rfl rfl rfl ?_
  apply vc_run 1000 (stop := false) rfl; simp only [push_cast, reduceIte, Nat.reduceEqDiff, Nat.reduceAdd, Nat.reduceSub, Nat.reduceLT, Int.reduceNeg, Int.reduceLE, Int.reduceLT, Int.reduceToNat, Nat.reduceLeDiff, UInt8.reduceOfNat, UInt8.reduceOfNatLT, and_self, Nat.reduceMul, decide_true, decide_false, Bool.not_true, Bool.not_false, implies_true]
  exact hz)
def bannedL : List Str := [[115, 99, 114, 105, 112, 116], [105, 102, 114, 97, 109, 101], [111, 98, 106, 101, 99, 116], [101, 109, 98, 101, 100], [102, 114, 97, 109, 101], [98, 97, 115, 101], [117, 115, 101]]
def linkL : List Str := [[104, 114, 101, 102], [115, 114, 99], [97, 99, 116, 105, 111, 110], [102, 111, 114, 109, 97, 99, 116, 105, 111, 110], [120, 108, 105, 110, 107, 45, 104, 114, 101, 102]]
def isBan (m : Str) : Bool := hasS bannedL m
def isLnk (m : Str) : Bool := hasS linkL m
noncomputable def sp_isBan : Spec := ⟨[.sc], [.rd], true, fun
  | [.str m] => some (none, .bool (isBan m), [])
  | _ => none⟩
@[push_cast] theorem sp_isBan_ps : sp_isBan.ps = [.sc] := rfl
@[push_cast] theorem sp_isBan_md : sp_isBan.modes = [.rd] := rfl
@[push_cast] theorem sp_isBan_pure : sp_isBan.pure = true := rfl
@[push_cast] theorem sp_isBan_run (m : Str) : sp_isBan.run [.str m] = some (none, .bool (isBan m), []) := rfl
noncomputable def sp_isLnk : Spec := ⟨[.sc], [.rd], true, fun
  | [.str m] => some (none, .bool (isLnk m), [])
  | _ => none⟩
@[push_cast] theorem sp_isLnk_ps : sp_isLnk.ps = [.sc] := rfl
@[push_cast] theorem sp_isLnk_md : sp_isLnk.modes = [.rd] := rfl
@[push_cast] theorem sp_isLnk_pure : sp_isLnk.pure = true := rfl
@[push_cast] theorem sp_isLnk_run (m : Str) : sp_isLnk.run [.str m] = some (none, .bool (isLnk m), []) := rfl
noncomputable def e_isBan : Env := mk [(64, sp_hasS)] [] []
@[push_cast] theorem e_isBan_gh : e_isBan.gh = ghOf [] := rfl
@[push_cast] theorem e_isBan_dr : e_isBan.dr = drOf [] := rfl
@[push_cast] theorem e_isBan_td : e_isBan.td = td := rfl
@[push_cast] theorem e_isBan_eqt : e_isBan.eqt = eqt := rfl
@[push_cast] theorem e_isBan_cal : e_isBan.cal = calOf [(64, sp_hasS)] := rfl
theorem c_isBan : CRow P0 ety0 48 sp_isBan := CRow.of (E := e_isBan) (mkOk (.cons c_hasS (.nil))) func48 rfl rfl rfl (by
  intro args p r outs h hq
  simp only [sp_isBan] at h; split at h <;> cases h
  refine Body.intro (rs := [.tmp 2]) rfl rfl rfl ?_
  apply vc_run 1000 (stop := false) rfl; simp only [push_cast, reduceIte, Nat.reduceEqDiff, Nat.reduceAdd, Nat.reduceSub, Nat.reduceLT, Int.reduceNeg, Int.reduceLE, Int.reduceLT, Int.reduceToNat, Nat.reduceLeDiff, UInt8.reduceOfNat, UInt8.reduceOfNatLT, and_self, Nat.reduceMul, decide_true, decide_false, Bool.not_true, Bool.not_false, implies_true]
  rfl)
noncomputable def e_isLnk : Env := mk [(64, sp_hasS)] [] []
@[push_cast] theorem e_isLnk_gh : e_isLnk.gh = ghOf [] := rfl
@[push_cast] theorem e_isLnk_dr : e_isLnk.dr = drOf [] := rfl
@[push_cast] theorem e_isLnk_td : e_isLnk.td = td := rfl
@[push_cast] theorem e_isLnk_eqt : e_isLnk.eqt = eqt := rfl
@[push_cast] theorem e_isLnk_cal : e_isLnk.cal = calOf [(64, sp_hasS)] := rfl
theorem c_isLnk : CRow P0 ety0 165 sp_isLnk := CRow.of (E := e_isLnk) (mkOk (.cons c_hasS (.nil))) func165 rfl rfl rfl (by
  intro args p r outs h hq
  simp only [sp_isLnk] at h; split at h <;> cases h
  refine Body.intro (rs := [.tmp 2]) rfl rfl rfl ?_
  apply vc_run 1000 (stop := false) rfl; simp only [push_cast, reduceIte, Nat.reduceEqDiff, Nat.reduceAdd, Nat.reduceSub, Nat.reduceLT, Int.reduceNeg, Int.reduceLE, Int.reduceLT, Int.reduceToNat, Nat.reduceLeDiff, UInt8.reduceOfNat, UInt8.reduceOfNatLT, and_self, Nat.reduceMul, decide_true, decide_false, Bool.not_true, Bool.not_false, implies_true]
  rfl)
noncomputable def e_isBan2 : Env := mk [(57, sp_hasS)] [] []
@[push_cast] theorem e_isBan2_gh : e_isBan2.gh = ghOf [] := rfl
@[push_cast] theorem e_isBan2_dr : e_isBan2.dr = drOf [] := rfl
@[push_cast] theorem e_isBan2_td : e_isBan2.td = td := rfl
@[push_cast] theorem e_isBan2_eqt : e_isBan2.eqt = eqt := rfl
@[push_cast] theorem e_isBan2_cal : e_isBan2.cal = calOf [(57, sp_hasS)] := rfl
theorem c_isBan2 : CRow P0 ety0 79 sp_isBan := CRow.of (E := e_isBan2) (mkOk (.cons c_hasS2 (.nil))) func79 rfl rfl rfl (by
  intro args p r outs h hq
  simp only [sp_isBan] at h; split at h <;> cases h
  refine Body.intro (rs := [.tmp 2]) rfl rfl rfl ?_
  apply vc_run 1000 (stop := false) rfl; simp only [push_cast, reduceIte, Nat.reduceEqDiff, Nat.reduceAdd, Nat.reduceSub, Nat.reduceLT, Int.reduceNeg, Int.reduceLE, Int.reduceLT, Int.reduceToNat, Nat.reduceLeDiff, UInt8.reduceOfNat, UInt8.reduceOfNatLT, and_self, Nat.reduceMul, decide_true, decide_false, Bool.not_true, Bool.not_false, implies_true]
  rfl)
noncomputable def e_isLnk2 : Env := mk [(57, sp_hasS)] [] []
@[push_cast] theorem e_isLnk2_gh : e_isLnk2.gh = ghOf [] := rfl
@[push_cast] theorem e_isLnk2_dr : e_isLnk2.dr = drOf [] := rfl
@[push_cast] theorem e_isLnk2_td : e_isLnk2.td = td := rfl
@[push_cast] theorem e_isLnk2_eqt : e_isLnk2.eqt = eqt := rfl
@[push_cast] theorem e_isLnk2_cal : e_isLnk2.cal = calOf [(57, sp_hasS)] := rfl
theorem c_isLnk2 : CRow P0 ety0 190 sp_isLnk := CRow.of (E := e_isLnk2) (mkOk (.cons c_hasS2 (.nil))) func190 rfl rfl rfl (by
  intro args p r outs h hq
  simp only [sp_isLnk] at h; split at h <;> cases h
  refine Body.intro (rs := [.tmp 2]) rfl rfl rfl ?_
  apply vc_run 1000 (stop := false) rfl; simp only [push_cast, reduceIte, Nat.reduceEqDiff, Nat.reduceAdd, Nat.reduceSub, Nat.reduceLT, Int.reduceNeg, Int.reduceLE, Int.reduceLT, Int.reduceToNat, Nat.reduceLeDiff, UInt8.reduceOfNat, UInt8.reduceOfNatLT, and_self, Nat.reduceMul, decide_true, decide_false, Bool.not_true, Bool.not_false, implies_true]
  rfl)
def isHdl (m : Str) : Bool := decide (2 < m.length) && preS m [111, 110]
theorem short_isLong {m : Str} (h : m.length ≤ 65536) : isLong [m] = false := by
  simp [isLong, big]; omega
noncomputable def sp_isHdl : Spec := ⟨[.sc], [.rd], true, fun
  | [.str m] => some (some (m.length ≤ 65536), .bool (isHdl m), [])
  | _ => none⟩
@[push_cast] theorem sp_isHdl_ps : sp_isHdl.ps = [.sc] := rfl
@[push_cast] theorem sp_isHdl_md : sp_isHdl.modes = [.rd] := rfl
@[push_cast] theorem sp_isHdl_pure : sp_isHdl.pure = true := rfl
@[push_cast] theorem sp_isHdl_run (m : Str) : sp_isHdl.run [.str m] = some (some (m.length ≤ 65536), .bool (isHdl m), []) := rfl
noncomputable def e_isHdl : Env := mk [(110, sp_isLong), (113, sp_preS)] [] []
@[push_cast] theorem e_isHdl_gh : e_isHdl.gh = ghOf [] := rfl
@[push_cast] theorem e_isHdl_dr : e_isHdl.dr = drOf [] := rfl
@[push_cast] theorem e_isHdl_td : e_isHdl.td = td := rfl
@[push_cast] theorem e_isHdl_eqt : e_isHdl.eqt = eqt := rfl
@[push_cast] theorem e_isHdl_cal : e_isHdl.cal = calOf [(110, sp_isLong), (113, sp_preS)] := rfl
theorem c_isHdl : CRow P0 ety0 91 sp_isHdl := CRow.of (E := e_isHdl) (mkOk (.cons c_isLong (.cons c_hasPre (.nil)))) func91 rfl rfl rfl (by
  intro args p r outs h hq
  simp only [sp_isHdl] at h; split at h <;> cases h
  rename_i m
  have hz := hq _ rfl
  refine Body.intro (rs := [.tmp 2]) rfl rfl rfl ?_
  apply vc_run 1000 (stop := false) rfl; simp only [push_cast, reduceIte, Nat.reduceEqDiff, Nat.reduceAdd, Nat.reduceSub, Nat.reduceLT, Int.reduceNeg, Int.reduceLE, Int.reduceLT, Int.reduceToNat, Nat.reduceLeDiff, UInt8.reduceOfNat, UInt8.reduceOfNatLT, and_self, Nat.reduceMul, decide_true, decide_false, Bool.not_true, Bool.not_false, implies_true]
  rw [short_isLong hz]
  refine ⟨fun _ => by omega, ?_⟩
  have e : decide ((2 : Int) < (m.length : Int)) = decide (2 < m.length) := decide_eq_decide.2 (by omega)
  rw [e]
  simp only [Bool.not_false, cond_true, Bool.cond_false_right]
  rfl)
noncomputable def e_isHdl2 : Env := mk [] [] []
@[push_cast] theorem e_isHdl2_gh : e_isHdl2.gh = ghOf [] := rfl
@[push_cast] theorem e_isHdl2_dr : e_isHdl2.dr = drOf [] := rfl
@[push_cast] theorem e_isHdl2_td : e_isHdl2.td = td := rfl
@[push_cast] theorem e_isHdl2_eqt : e_isHdl2.eqt = eqt := rfl
@[push_cast] theorem e_isHdl2_cal : e_isHdl2.cal = calOf [] := rfl
theorem c_isHdl2 : CRow P0 ety0 127 sp_isHdl := CRow.of (E := e_isHdl2) (mkOk (.nil)) func127 rfl rfl rfl (by
  intro args p r outs h hq
  simp only [sp_isHdl] at h; split at h <;> cases h
  rename_i m
  have hz := hq _ rfl
  refine Body.intro (rs := [.tmp 2]) rfl rfl rfl ?_
  apply vc_run 1000 (stop := false) rfl; simp only [push_cast, reduceIte, Nat.reduceEqDiff, Nat.reduceAdd, Nat.reduceSub, Nat.reduceLT, Int.reduceNeg, Int.reduceLE, Int.reduceLT, Int.reduceToNat, Nat.reduceLeDiff, UInt8.reduceOfNat, UInt8.reduceOfNatLT, and_self, Nat.reduceMul, decide_true, decide_false, Bool.not_true, Bool.not_false, implies_true]
  refine ⟨fun h => by have := of_decide_eq_true h; omega, ?_⟩
  have e : decide ((2 : Int) < (m.length : Int)) = decide (2 < m.length) := decide_eq_decide.2 (by omega)
  have e2 : cut m 0 (2 : Int) = m.take 2 := cut_take m 2
  rw [e, e2]
  simp only [Bool.cond_false_right]
  rfl)
def lowB (c : UInt8) : UInt8 := bif rngB c 65 90 then c + 32 else c
def lowS (t : Str) : Str := t.map lowB
theorem low97 (c : UInt8) : c + 97 - 65 = c + 32 := by
  apply UInt8.toBitVec_inj.1
  simp only [UInt8.toBitVec_sub, UInt8.toBitVec_add]
  bv_decide
/-- A text of which the first k bytes are in small letters. -/
def lowT (t : Str) (k : Nat) : Str := (t.take k).map lowB ++ t.drop k
theorem lowT_len (t : Str) (k : Nat) : (lowT t k).length = t.length := by simp [lowT]; omega
theorem lowT_get {t : Str} {k : Nat} (h : k < t.length) : (lowT t k).getD k 0 = t.getD k 0 := by
  unfold lowT
  have e : ((t.take k).map lowB).length = k := by simp; omega
  rw [List.getD, List.getD, List.getElem?_append_right (by omega), e, Nat.sub_self, List.getElem?_drop, Nat.add_zero]
theorem lowT_step {t : Str} {k : Nat} (h : k < t.length) : (lowT t k).set k (lowB (t.getD k 0)) = lowT t (k + 1) := by
  unfold lowT
  rw [List.take_succ_eq_append_getElem h, List.drop_eq_getElem_cons h, List.set_append_right _ _ (by simp; omega)]
  have e : k - (List.map lowB (List.take k t)).length = 0 := by simp; omega
  rw [e, List.set_cons_zero, List.map_append, List.append_assoc]
  simp [List.getD, h]
theorem lowT_id {t : Str} {k : Nat} (h : k < t.length) (e : lowB (t.getD k 0) = t.getD k 0) : lowT t k = lowT t (k + 1) := by
  rw [← lowT_step h, e, ← lowT_get h]
  have hk : k < (lowT t k).length := by rw [lowT_len]; exact h
  have : (lowT t k).getD k 0 = (lowT t k)[k] := by simp [List.getD, hk]
  rw [this, List.set_getElem_self]
noncomputable def sp_lowS : Spec := ⟨[.sc], [.rd], true, fun
  | [.str t] => some (some (t.length ≤ 1073741824), .str (lowS t), [])
  | _ => none⟩
@[push_cast] theorem sp_lowS_ps : sp_lowS.ps = [.sc] := rfl
@[push_cast] theorem sp_lowS_md : sp_lowS.modes = [.rd] := rfl
@[push_cast] theorem sp_lowS_pure : sp_lowS.pure = true := rfl
@[push_cast] theorem sp_lowS_run (t : Str) : sp_lowS.run [.str t] = some (some (t.length ≤ 1073741824), .str (lowS t), []) := rfl
noncomputable def e_lowS : Env := mk [] [] []
@[push_cast] theorem e_lowS_gh : e_lowS.gh = ghOf [] := rfl
@[push_cast] theorem e_lowS_dr : e_lowS.dr = drOf [] := rfl
@[push_cast] theorem e_lowS_td : e_lowS.td = td := rfl
@[push_cast] theorem e_lowS_eqt : e_lowS.eqt = eqt := rfl
@[push_cast] theorem e_lowS_cal : e_lowS.cal = calOf [] := rfl
theorem c_lowS : CRow P0 ety0 200 sp_lowS := CRow.of (E := e_lowS) (mkOk (.nil)) func200 rfl rfl rfl (by
  intro args p r outs h hq
  simp only [sp_lowS] at h; split at h <;> cases h
  rename_i t
  have hz := hq _ rfl
  refine Body.intro (rs := [.tmp 2]) rfl rfl rfl ?_
  apply vc_run 1000 (stop := false) rfl; simp only [push_cast, reduceIte, Nat.reduceEqDiff, Nat.reduceAdd, Nat.reduceSub, Nat.reduceLT, Int.reduceNeg, Int.reduceLE, Int.reduceLT, Int.reduceToNat, Nat.reduceLeDiff, UInt8.reduceOfNat, UInt8.reduceOfNatLT, and_self, Nat.reduceMul, decide_true, decide_false, Bool.not_true, Bool.not_false, implies_true]
  refine ⟨by unfold sizeOk; omega, ?_⟩
  refine Run.loop [3, 10] [3, 8, 9] [] rfl (fun n vs bs => ∃ k : Nat, vs = [.own true ⟨.u8, lowT t k⟩, .int .i64 k] ∧ bs = [] ∧ k ≤ t.length ∧ n = t.length - k) t.length ?_ ?_
  · simp only [push_cast, reduceIte, Nat.reduceEqDiff, Nat.reduceAdd, Nat.reduceSub, Nat.reduceLT, Int.reduceNeg, Int.reduceLE, Int.reduceLT, Int.reduceToNat, Nat.reduceLeDiff, UInt8.reduceOfNat, UInt8.reduceOfNatLT, and_self, Nat.reduceMul, decide_true, decide_false, Bool.not_true, Bool.not_false, implies_true]
    exact ⟨0, rfl, by omega, by omega⟩
  rintro n vs bs ⟨k, rfl, rfl, hk, rfl⟩
  simp only [push_cast, reduceIte, Nat.reduceEqDiff, Nat.reduceAdd, Nat.reduceSub, Nat.reduceLT, Int.reduceNeg, Int.reduceLE, Int.reduceLT, Int.reduceToNat, Nat.reduceLeDiff, UInt8.reduceOfNat, UInt8.reduceOfNatLT, and_self, Nat.reduceMul, decide_true, decide_false, Bool.not_true, Bool.not_false, implies_true]
  apply vc_run 1000 (stop := false) rfl; simp only [push_cast, reduceIte, Nat.reduceEqDiff, Nat.reduceAdd, Nat.reduceSub, Nat.reduceLT, Int.reduceNeg, Int.reduceLE, Int.reduceLT, Int.reduceToNat, Nat.reduceLeDiff, UInt8.reduceOfNat, UInt8.reduceOfNatLT, and_self, Nat.reduceMul, decide_true, decide_false, Bool.not_true, Bool.not_false, implies_true]
  refine ⟨fun hlt => ?_, fun hge => ?_⟩
  · have hlt : k < t.length := Int.ofNat_lt.1 (of_decide_eq_true hlt)
    have hlen := lowT_len t k
    simp only [gd_nat, lowT_get hlt, low97, Int.toNat_natCast]
    refine ⟨by omega, fun hy => ⟨by omega, by constructor <;> omega, _, by omega, k + 1, ?_, by omega, rfl⟩, fun hn => ⟨by constructor <;> omega, _, by omega, k + 1, ?_, by omega, rfl⟩⟩
    · rw [← lowT_step hlt, lowB, rngB, hy]; rfl
    · rw [lowT_id hlt (by rw [lowB, rngB, hn]; rfl)]; rfl
  · have hge : k = t.length := by have := of_decide_eq_false hge; omega
    subst hge
    simp [lowT, lowS])
def brB (c : UInt8) : Bool := decide (c = 9) || decide (c = 10) || decide (c = 13)
def noBr (c : UInt8) : Bool := !brB c
def lowC (c : UInt8) : Bool := decide (c ≤ 32)
def jsL : Str := [106, 97, 118, 97, 115, 99, 114, 105, 112, 116, 58]
/-- A link that must not be: its beginning, without what is not seen. -/
def badS (v : Str) : Bool := preS (lowS ((v.dropWhile lowC).filter noBr)) jsL
/-- What is left to ask when k bytes are there. -/
def badK : Str → Nat → Bool
  | [], k => decide (k = 11)
  | c :: r, k => bif decide (k = 11) then true else bif brB c || (decide (k = 0) && lowC c) then badK r k else bif decide (lowB c = jsL.getD k 0) then badK r (k + 1) else false
theorem preS_cons (a b : UInt8) (s p : Str) : preS (a :: s) (b :: p) = (decide (a = b) && preS s p) := by
  simp [preS]
theorem preS_nil (s : Str) : preS s [] = true := by simp [preS]
theorem preS_no (b : UInt8) (p : Str) : preS [] (b :: p) = false := by simp [preS]
theorem jsL_drop {k : Nat} (h : k < 11) : jsL.drop k = jsL.getD k 0 :: jsL.drop (k + 1) := by
  have hk : k < jsL.length := h
  rw [List.drop_eq_getElem_cons hk]
  simp [List.getD, hk]
theorem br_low {c : UInt8} (h : brB c = true) : lowC c = true := by
  simp only [brB, Bool.or_eq_true, decide_eq_true_eq] at h
  rcases h with (h | h) | h <;> subst h <;> rfl
theorem badK_pos : ∀ (v : Str) (k : Nat), 0 < k → k ≤ 11 → badK v k = preS (lowS (v.filter noBr)) (jsL.drop k)
  | [], k, h0, h1 => by
    rw [badK]
    by_cases h : k = 11
    · subst h; rfl
    · rw [decide_eq_false h, jsL_drop (by omega)]
      exact (preS_no _ _).symm
  | c :: r, k, h0, h1 => by
    rw [badK]
    by_cases h : k = 11
    · subst h; rw [show jsL.drop 11 = [] from rfl, preS_nil]; rfl
    rw [decide_eq_false h, decide_eq_false (show ¬ k = 0 by omega), Bool.false_and, Bool.or_false, cond_false]
    cases hb : brB c with
    | true =>
      rw [cond_true, badK_pos r k h0 h1, List.filter_cons, show noBr c = false by rw [noBr, hb]; rfl]
      rfl
    | false =>
      rw [cond_false, List.filter_cons, show noBr c = true by rw [noBr, hb]; rfl, if_pos rfl, jsL_drop (by omega)]
      show _ = preS (lowB c :: lowS (r.filter noBr)) _
      rw [preS_cons, badK_pos r (k + 1) (by omega) (by omega)]
      cases decide (lowB c = jsL.getD k 0) <;> rfl
theorem badK_0 : ∀ v : Str, badK v 0 = badS v
  | [] => rfl
  | c :: r => by
    rw [badK, badS, List.dropWhile_cons]
    cases hl : lowC c with
    | true =>
      have := badK_0 r
      rw [badS] at this
      rw [if_pos rfl, ← this]
      simp
    | false =>
      have hb : brB c = false := by
        cases h : brB c with
        | false => rfl
        | true => rw [br_low h] at hl; cases hl
      rw [if_neg (by simp), hb, List.filter_cons, show noBr c = true by rw [noBr, hb]; rfl, if_pos rfl]
      show _ = preS (lowB c :: lowS (r.filter noBr)) (106 :: jsL.drop 1)
      rw [preS_cons, badK_pos r 1 (by omega) (by omega)]
      simp only [Bool.and_false, Bool.or_false, cond_false, show decide (0 = 11) = false from rfl, show jsL.getD 0 0 = 106 from rfl]
      cases decide (lowB c = 106) <;> rfl
theorem bad_skip (c : UInt8) (k : Nat) : (bif bif bif decide (c = 9) then true else decide (c = 10) then true else decide (c = 13) then true else bif decide ((k : Int) = 0) then decide (c ≤ 32) else false) = (brB c || (decide (k = 0) && lowC c)) := by
  have e : decide ((k : Int) = 0) = decide (k = 0) := decide_eq_decide.2 (by omega)
  unfold brB lowC
  rw [e]
  cases decide (c = 9) <;> cases decide (c = 10) <;> cases decide (c = 13) <;> cases decide (k = 0) <;> rfl
noncomputable def sp_badS : Spec := ⟨[.sc], [.rd], true, fun
  | [.str v] => some (some (v.length ≤ 65536), .bool (badS v), [])
  | _ => none⟩
@[push_cast] theorem sp_badS_ps : sp_badS.ps = [.sc] := rfl
@[push_cast] theorem sp_badS_md : sp_badS.modes = [.rd] := rfl
@[push_cast] theorem sp_badS_pure : sp_badS.pure = true := rfl
@[push_cast] theorem sp_badS_run (v : Str) : sp_badS.run [.str v] = some (some (v.length ≤ 65536), .bool (badS v), []) := rfl
theorem drop_str {t : Str} {k : Nat} (h : k < t.length) : t.drop k = t.getD k 0 :: t.drop (k + 1) := by
  rw [List.drop_eq_getElem_cons h]
  simp [List.getD, h]
noncomputable def e_l01Bad : Env := mk [] [] []
@[push_cast] theorem e_l01Bad_gh : e_l01Bad.gh = ghOf [] := rfl
@[push_cast] theorem e_l01Bad_dr : e_l01Bad.dr = drOf [] := rfl
@[push_cast] theorem e_l01Bad_td : e_l01Bad.td = td := rfl
@[push_cast] theorem e_l01Bad_eqt : e_l01Bad.eqt = eqt := rfl
@[push_cast] theorem e_l01Bad_cal : e_l01Bad.cal = calOf [] := rfl
theorem c_l01Bad : CRow P0 ety0 191 sp_badS := CRow.of (E := e_l01Bad) (mkOk (.nil)) func191 rfl rfl rfl (by
  intro args p r outs h hq
  simp only [sp_badS] at h; split at h <;> cases h
  rename_i v
  have hz := hq _ rfl
  refine Body.intro (rs := [.tmp 2]) rfl rfl rfl ?_
  apply vc_run 1000 (stop := false) rfl; simp only [push_cast, reduceIte, Nat.reduceEqDiff, Nat.reduceAdd, Nat.reduceSub, Nat.reduceLT, Int.reduceNeg, Int.reduceLE, Int.reduceLT, Int.reduceToNat, Nat.reduceLeDiff, UInt8.reduceOfNat, UInt8.reduceOfNatLT, and_self, Nat.reduceMul, decide_true, decide_false, Bool.not_true, Bool.not_false, implies_true]
  refine Run.loop [4, 5] [0, 3] [] rfl (fun n vs bs => ∃ k i : Nat, vs = [.int .i64 k, .int .i64 i] ∧ bs = [] ∧ i ≤ v.length ∧ k ≤ 11 ∧ badS v = badK (v.drop i) k ∧ n = v.length - i) v.length ?_ ?_
  · simp only [push_cast, reduceIte, Nat.reduceEqDiff, Nat.reduceAdd, Nat.reduceSub, Nat.reduceLT, Int.reduceNeg, Int.reduceLE, Int.reduceLT, Int.reduceToNat, Nat.reduceLeDiff, UInt8.reduceOfNat, UInt8.reduceOfNatLT, and_self, Nat.reduceMul, decide_true, decide_false, Bool.not_true, Bool.not_false, implies_true]
    exact ⟨0, 0, rfl, by omega, by omega, by rw [List.drop_zero, badK_0], by omega⟩
  rintro n vs bs ⟨k, i, rfl, rfl, hi, hk, hb, rfl⟩
  simp only [push_cast, reduceIte, Nat.reduceEqDiff, Nat.reduceAdd, Nat.reduceSub, Nat.reduceLT, Int.reduceNeg, Int.reduceLE, Int.reduceLT, Int.reduceToNat, Nat.reduceLeDiff, UInt8.reduceOfNat, UInt8.reduceOfNatLT, and_self, Nat.reduceMul, decide_true, decide_false, Bool.not_true, Bool.not_false, implies_true]
  apply vc_run 1000 (stop := false) rfl; simp only [push_cast, reduceIte, Nat.reduceEqDiff, Nat.reduceAdd, Nat.reduceSub, Nat.reduceLT, Int.reduceNeg, Int.reduceLE, Int.reduceLT, Int.reduceToNat, Nat.reduceLeDiff, UInt8.reduceOfNat, UInt8.reduceOfNatLT, and_self, Nat.reduceMul, decide_true, decide_false, Bool.not_true, Bool.not_false, implies_true]
  have ej : ([106, 97, 118, 97, 115, 99, 114, 105, 112, 116, 58] : Str) = jsL := rfl
  simp only [Int.reduceAdd, byteAt_k, bad_skip, ej]
  refine ⟨fun h => ?_, fun h => ?_⟩
  · have hlt : i < v.length ∧ k < 11 := by
      revert h
      by_cases h1 : i < v.length
      · by_cases h2 : k < 11
        · exact fun _ => ⟨h1, h2⟩
        · rw [decide_eq_false (show ¬ (k : Int) < 11 by omega)]; intro h; simp at h
      · rw [decide_eq_false (show ¬ (i : Int) < v.length by omega)]; intro h; cases h
    obtain ⟨hlt, hk1⟩ := hlt
    rw [hb, drop_str hlt, badK, decide_eq_false (show ¬ k = 11 by omega), cond_false]
    generalize v.getD i 0 = c
    generalize hsk : (brB c || (decide (k = 0) && lowC c)) = sk
    refine ⟨by omega, fun hy => ⟨by constructor <;> omega, _, by omega, k, i + 1, rfl, by omega, by omega, by rw [hy]; rfl, rfl⟩, fun hn => ?_⟩
    rw [hn, cond_false]
    have key : ∀ c', lowB c = c' → (0 ≤ (k : Int) ∧ (k : Int) < 11) ∧ ((!decide (c' = jsL.getD k 0)) = true → AV.bool false = AV.bool (bif decide (lowB c = jsL.getD k 0) then badK (v.drop (i + 1)) (k + 1) else false)) ∧
        ((!decide (c' = jsL.getD k 0)) = false → i64ok ((k : Int) + 1) ∧ i64ok ((i : Int) + 1) ∧ ∃ j, j < v.length - i ∧ ∃ k_1 i_1 : Nat, [AV.int .i64 ((k : Int) + 1), .int .i64 ((i : Int) + 1)] = [AV.int .i64 (k_1 : Nat), .int .i64 (i_1 : Nat)] ∧ i_1 ≤ v.length ∧ k_1 ≤ 11 ∧
          (bif decide (lowB c = jsL.getD k 0) then badK (v.drop (i + 1)) (k + 1) else false) = badK (v.drop i_1) k_1 ∧ j = v.length - i_1) := fun c' e => by
      subst e
      refine ⟨by omega, fun h => ?_, fun h => ⟨by constructor <;> omega, by constructor <;> omega, _, by omega, k + 1, i + 1, rfl, by omega, by omega, ?_, rfl⟩⟩
      · rw [show decide (lowB c = jsL.getD k 0) = false by simpa using h]; rfl
      · rw [show decide (lowB c = jsL.getD k 0) = true by simpa using h]; rfl
    exact ⟨fun hu => key _ (by rw [lowB, rngB, hu]; rfl), fun hu => key _ (by rw [lowB, rngB, hu]; rfl)⟩
  · rw [hb]
    by_cases h1 : i < v.length
    · have h2 : k = 11 := by
        revert h
        rw [decide_eq_true (show (i : Int) < v.length by omega)]
        intro h
        have := of_decide_eq_false h
        omega
      subst h2
      rw [drop_str h1, badK]; rfl
    · rw [List.drop_eq_nil_of_le (by omega), badK]
      congr 1
      exact decide_eq_decide.2 (by omega))
theorem dropW_id {u : Str} (h : ∀ c r, u = c :: r → lowC c = false) : u.dropWhile lowC = u := by
  cases u with
  | nil => rfl
  | cons c r => rw [List.dropWhile_cons, h c r rfl]; rfl
theorem filter_take {p : UInt8 → Bool} {t : Str} {k : Nat} (h : k < t.length) : (t.take (k + 1)).filter p = (t.take k).filter p ++ (bif p (t.getD k 0) then [t.getD k 0] else []) := by
  rw [List.take_succ_eq_append_getElem h, List.filter_append]
  have e : t.getD k 0 = t[k] := by simp [List.getD, h]
  rw [e]
  cases hp : p t[k] <;> simp [hp]
noncomputable def e_badLink : Env := mk [(110, sp_isLong), (200, sp_lowS), (113, sp_preS)] [] []
@[push_cast] theorem e_badLink_gh : e_badLink.gh = ghOf [] := rfl
@[push_cast] theorem e_badLink_dr : e_badLink.dr = drOf [] := rfl
@[push_cast] theorem e_badLink_td : e_badLink.td = td := rfl
@[push_cast] theorem e_badLink_eqt : e_badLink.eqt = eqt := rfl
@[push_cast] theorem e_badLink_cal : e_badLink.cal = calOf [(110, sp_isLong), (200, sp_lowS), (113, sp_preS)] := rfl
theorem c_badLink : CRow P0 ety0 166 sp_badS := CRow.of (E := e_badLink) (mkOk (.cons c_isLong (.cons c_lowS (.cons c_hasPre (.nil))))) func166 rfl rfl rfl (by
  intro args p r outs h hq
  simp only [sp_badS] at h; split at h <;> cases h
  rename_i v
  have hz := hq _ rfl
  refine Body.intro (rs := [.tmp 2]) rfl rfl rfl ?_
  apply vc_run 1000 (stop := false) rfl; simp only [push_cast, reduceIte, Nat.reduceEqDiff, Nat.reduceAdd, Nat.reduceSub, Nat.reduceLT, Int.reduceNeg, Int.reduceLE, Int.reduceLT, Int.reduceToNat, Nat.reduceLeDiff, UInt8.reduceOfNat, UInt8.reduceOfNatLT, and_self, Nat.reduceMul, decide_true, decide_false, Bool.not_true, Bool.not_false, implies_true]
  rw [short_isLong hz]
  refine ⟨fun h => (by cases h), fun _ => ?_⟩
  refine Run.loop [0] [] [] rfl (fun n vs bs => ∃ u : Str, vs = [.str u] ∧ bs = [] ∧ u.length ≤ 65536 ∧ u.dropWhile lowC = v.dropWhile lowC ∧ n = u.length) v.length ?_ ?_
  · simp only [push_cast, reduceIte, Nat.reduceEqDiff, Nat.reduceAdd, Nat.reduceSub, Nat.reduceLT, Int.reduceNeg, Int.reduceLE, Int.reduceLT, Int.reduceToNat, Nat.reduceLeDiff, UInt8.reduceOfNat, UInt8.reduceOfNatLT, and_self, Nat.reduceMul, decide_true, decide_false, Bool.not_true, Bool.not_false, implies_true]
    exact ⟨v, rfl, hz, rfl, rfl⟩
  rintro n vs bs ⟨u, rfl, rfl, hu, hd, rfl⟩
  simp only [push_cast, reduceIte, Nat.reduceEqDiff, Nat.reduceAdd, Nat.reduceSub, Nat.reduceLT, Int.reduceNeg, Int.reduceLE, Int.reduceLT, Int.reduceToNat, Nat.reduceLeDiff, UInt8.reduceOfNat, UInt8.reduceOfNatLT, and_self, Nat.reduceMul, decide_true, decide_false, Bool.not_true, Bool.not_false, implies_true]
  apply vc_run 1000 (stop := false) rfl; simp only [push_cast, reduceIte, Nat.reduceEqDiff, Nat.reduceAdd, Nat.reduceSub, Nat.reduceLT, Int.reduceNeg, Int.reduceLE, Int.reduceLT, Int.reduceToNat, Nat.reduceLeDiff, UInt8.reduceOfNat, UInt8.reduceOfNatLT, and_self, Nat.reduceMul, decide_true, decide_false, Bool.not_true, Bool.not_false, implies_true]
  refine ⟨fun h => ?_, fun h => ?_, fun h => ?_⟩
  · cases u with
    | nil => simp at h
    | cons c r => simp
  · cases u with
    | nil => simp at h
    | cons c r =>
      have hc : lowC c = true := by simpa [byteAt, lowC] using h
      have e : cut (c :: r) 1 ((c :: r).length : Int) = r := by simp [cut]
      rw [e]
      refine ⟨by simp only [List.length_cons]; omega, _, ?_, r, rfl, by simp only [List.length_cons] at hu; omega, ?_, rfl⟩
      · simp
      · rw [← hd, List.dropWhile_cons, hc]; rfl
  have hu2 : u.dropWhile lowC = u := by
    refine dropW_id ?_
    intro c r e
    subst e
    simpa [byteAt, lowC] using h
  have hbad : badS v = preS (lowS (u.filter noBr)) jsL := by rw [badS, ← hd, hu2]
  rw [hbad]
  clear h hd hbad hu2
  refine Run.loop [3, 21] [0, 20] [] rfl (fun n vs bs => ∃ i : Nat, vs = [.own true ⟨.u8, (u.take i).filter noBr⟩, .int .i64 i] ∧ bs = [] ∧ i ≤ u.length ∧ n = u.length - i) u.length ?_ ?_
  · simp only [push_cast, reduceIte, Nat.reduceEqDiff, Nat.reduceAdd, Nat.reduceSub, Nat.reduceLT, Int.reduceNeg, Int.reduceLE, Int.reduceLT, Int.reduceToNat, Nat.reduceLeDiff, UInt8.reduceOfNat, UInt8.reduceOfNatLT, and_self, Nat.reduceMul, decide_true, decide_false, Bool.not_true, Bool.not_false, implies_true]
    exact ⟨0, rfl, by omega, by omega⟩
  rintro n vs bs ⟨i, rfl, rfl, hi, rfl⟩
  simp only [push_cast, reduceIte, Nat.reduceEqDiff, Nat.reduceAdd, Nat.reduceSub, Nat.reduceLT, Int.reduceNeg, Int.reduceLE, Int.reduceLT, Int.reduceToNat, Nat.reduceLeDiff, UInt8.reduceOfNat, UInt8.reduceOfNatLT, and_self, Nat.reduceMul, decide_true, decide_false, Bool.not_true, Bool.not_false, implies_true]
  apply vc_run 1000 (stop := false) rfl; simp only [push_cast, reduceIte, Nat.reduceEqDiff, Nat.reduceAdd, Nat.reduceSub, Nat.reduceLT, Int.reduceNeg, Int.reduceLE, Int.reduceLT, Int.reduceToNat, Nat.reduceLeDiff, UInt8.reduceOfNat, UInt8.reduceOfNatLT, and_self, Nat.reduceMul, decide_true, decide_false, Bool.not_true, Bool.not_false, implies_true]
  have hfl : ((u.take i).filter noBr).length ≤ 65536 := Nat.le_trans (List.length_filter_le _ _) (by rw [List.length_take]; omega)
  refine ⟨fun hlt => ?_, fun hge => ?_⟩
  · have hlt : i < u.length := Int.ofNat_lt.1 (of_decide_eq_true hlt)
    have hs := filter_take (p := noBr) hlt
    simp only [byteAt_k]
    have en : (bif bif !decide (u.getD i 0 = 9) then !decide (u.getD i 0 = 10) else false then !decide (u.getD i 0 = 13) else false) = noBr (u.getD i 0) := by
      unfold noBr brB
      cases decide (u.getD i 0 = 9) <;> cases decide (u.getD i 0 = 10) <;> cases decide (u.getD i 0 = 13) <;> rfl
    rw [en]
    refine ⟨by omega, fun hy => ⟨by unfold sizeOk; omega, by constructor <;> omega, _, by omega, i + 1, ?_, by omega, rfl⟩, fun hn => ⟨by constructor <;> omega, _, by omega, i + 1, ?_, by omega, rfl⟩⟩
    · rw [hs, hy]; rfl
    · rw [hs, hn, cond_false, List.append_nil]; rfl
  · have hge : i = u.length := by have := of_decide_eq_false hge; omega
    subst hge
    rw [List.take_length] at hfl ⊢
    refine ⟨by omega, ?_, rfl⟩
    rw [lowS, List.length_map]; omega)
end Go.Ab
