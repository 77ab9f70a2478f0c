import Derived.Test.YtnnaepmjmpnimaaGreatDoorFnT
set_option linter.all false
set_option linter.unusedSimpArgs false
set_option linter.unusedVariables false
set_option linter.unusedSectionVars false
set_option maxRecDepth 20000
set_option maxHeartbeats 1000000
namespace Go.Ab
open Go Go.Proofs.Tryz
theorem any_take_yes {α : Type} {l : List α} {d : α} {p : α → Bool} {j k : Nat} (hj : j < k) (hk : k ≤ l.length) (h : p (l.getD j d) = true) : (l.take k).any p = true := by
  have e : l.getD j d = (l.take k)[j]'(by rw [List.length_take]; omega) := by
    rw [List.getElem_take]
    have : j < l.length := by omega
    simp [List.getD, this]
  rw [List.any_eq_true]
  exact ⟨_, List.getElem_mem _, by rw [← e]; exact h⟩
theorem any_take_no {α : Type} {l : List α} {d : α} {p : α → Bool} {k : Nat} (hk : k ≤ l.length) (h : ∀ j < k, p (l.getD j d) = false) : (l.take k).any p = false := by
  rw [List.any_eq_false]
  intro x hx
  obtain ⟨j, hj, rfl⟩ := List.getElem_of_mem hx
  rw [List.length_take] at hj
  have := h j (by omega)
  have hj' : j < l.length := by omega
  rw [List.getElem_take]
  have e : l.getD j d = l[j] := by simp [List.getD, hj']
  rw [← e, this]; simp
def voidS : List Str := [[98, 114], [104, 114], [105, 109, 103], [105, 110, 112, 117, 116], [109, 101, 116, 97], [108, 105, 110, 107], [98, 97, 115, 101], [101, 109, 98, 101, 100]]
def rawS : List Str := [[115, 116, 121, 108, 101], [115, 99, 114, 105, 112, 116], [120, 109, 112], [105, 102, 114, 97, 109, 101]]
def isVoidS (m : Str) : Bool := hasS voidS m
def isRawS (m : Str) : Bool := hasS rawS m
noncomputable def sp_isVoidS : Spec := ⟨[.sc], [.rd], true, fun
  | [.str m] => some (none, .bool (isVoidS m), [])
  | _ => none⟩
@[push_cast] theorem sp_isVoidS_ps : sp_isVoidS.ps = [.sc] := rfl
@[push_cast] theorem sp_isVoidS_md : sp_isVoidS.modes = [.rd] := rfl
@[push_cast] theorem sp_isVoidS_pure : sp_isVoidS.pure = true := rfl
@[push_cast] theorem sp_isVoidS_run (m : Str) : sp_isVoidS.run [.str m] = some (none, .bool (isVoidS m), []) := rfl
noncomputable def sp_isRawS : Spec := ⟨[.sc], [.rd], true, fun
  | [.str m] => some (none, .bool (isRawS m), [])
  | _ => none⟩
@[push_cast] theorem sp_isRawS_ps : sp_isRawS.ps = [.sc] := rfl
@[push_cast] theorem sp_isRawS_md : sp_isRawS.modes = [.rd] := rfl
@[push_cast] theorem sp_isRawS_pure : sp_isRawS.pure = true := rfl
@[push_cast] theorem sp_isRawS_run (m : Str) : sp_isRawS.run [.str m] = some (none, .bool (isRawS m), []) := rfl
noncomputable def e_isVoidS : Env := mk [(104, sp_hasS)] [] [] [] none
@[push_cast] theorem e_isVoidS_in : e_isVoidS.inl = inlF [] := rfl
@[push_cast] theorem e_isVoidS_fn : e_isVoidS.fnd = fndF none := rfl
@[push_cast] theorem e_isVoidS_gh : e_isVoidS.gh = ghOf [] := rfl
@[push_cast] theorem e_isVoidS_dr : e_isVoidS.dr = drOf [] := rfl
@[push_cast] theorem e_isVoidS_td : e_isVoidS.td = td := rfl
@[push_cast] theorem e_isVoidS_eqt : e_isVoidS.eqt = eqt := rfl
@[push_cast] theorem e_isVoidS_cal : e_isVoidS.cal = calOf [(104, sp_hasS)] := rfl
theorem c_isVoidS : CRow P0 ety0 66 sp_isVoidS := CRow.of (E := e_isVoidS) (mkOk (.cons c_hasS (.nil))) func66 rfl rfl rfl (by
  intro args p r outs h hq
  simp only [sp_isVoidS] at h; split at h <;> cases h
  refine Body.intro (rs := [.tmp 2]) rfl rfl rfl ?_
  apply vc_run 1000 (stop := false) rfl; simp only [push_cast, reduceIte, Nat.reduceEqDiff, Nat.reduceAdd, Nat.reduceSub, Nat.reduceLT, Int.reduceNeg, Int.reduceLE, Int.reduceLT, Int.reduceToNat, Nat.reduceLeDiff, UInt8.reduceOfNat, UInt8.reduceOfNatLT, and_self, Nat.reduceMul, decide_true, decide_false, Bool.not_true, Bool.not_false, implies_true]
  rfl)
noncomputable def e_isRawS : Env := mk [(104, sp_hasS)] [] [] [] none
@[push_cast] theorem e_isRawS_in : e_isRawS.inl = inlF [] := rfl
@[push_cast] theorem e_isRawS_fn : e_isRawS.fnd = fndF none := rfl
@[push_cast] theorem e_isRawS_gh : e_isRawS.gh = ghOf [] := rfl
@[push_cast] theorem e_isRawS_dr : e_isRawS.dr = drOf [] := rfl
@[push_cast] theorem e_isRawS_td : e_isRawS.td = td := rfl
@[push_cast] theorem e_isRawS_eqt : e_isRawS.eqt = eqt := rfl
@[push_cast] theorem e_isRawS_cal : e_isRawS.cal = calOf [(104, sp_hasS)] := rfl
theorem c_isRawS : CRow P0 ety0 67 sp_isRawS := CRow.of (E := e_isRawS) (mkOk (.cons c_hasS (.nil))) func67 rfl rfl rfl (by
  intro args p r outs h hq
  simp only [sp_isRawS] at h; split at h <;> cases h
  refine Body.intro (rs := [.tmp 2]) rfl rfl rfl ?_
  apply vc_run 1000 (stop := false) rfl; simp only [push_cast, reduceIte, Nat.reduceEqDiff, Nat.reduceAdd, Nat.reduceSub, Nat.reduceLT, Int.reduceNeg, Int.reduceLE, Int.reduceLT, Int.reduceToNat, Nat.reduceLeDiff, UInt8.reduceOfNat, UInt8.reduceOfNatLT, and_self, Nat.reduceMul, decide_true, decide_false, Bool.not_true, Bool.not_false, implies_true]
  rfl)
noncomputable def e_isVoidS2 : Env := mk [(101, sp_hasS)] [] [] [] none
@[push_cast] theorem e_isVoidS2_in : e_isVoidS2.inl = inlF [] := rfl
@[push_cast] theorem e_isVoidS2_fn : e_isVoidS2.fnd = fndF none := rfl
@[push_cast] theorem e_isVoidS2_gh : e_isVoidS2.gh = ghOf [] := rfl
@[push_cast] theorem e_isVoidS2_dr : e_isVoidS2.dr = drOf [] := rfl
@[push_cast] theorem e_isVoidS2_td : e_isVoidS2.td = td := rfl
@[push_cast] theorem e_isVoidS2_eqt : e_isVoidS2.eqt = eqt := rfl
@[push_cast] theorem e_isVoidS2_cal : e_isVoidS2.cal = calOf [(101, sp_hasS)] := rfl
theorem c_isVoidS2 : CRow P0 ety0 63 sp_isVoidS := CRow.of (E := e_isVoidS2) (mkOk (.cons c_hasS2 (.nil))) func63 rfl rfl rfl (by
  intro args p r outs h hq
  simp only [sp_isVoidS] at h; split at h <;> cases h
  refine Body.intro (rs := [.tmp 2]) rfl rfl rfl ?_
  apply vc_run 1000 (stop := false) rfl; simp only [push_cast, reduceIte, Nat.reduceEqDiff, Nat.reduceAdd, Nat.reduceSub, Nat.reduceLT, Int.reduceNeg, Int.reduceLE, Int.reduceLT, Int.reduceToNat, Nat.reduceLeDiff, UInt8.reduceOfNat, UInt8.reduceOfNatLT, and_self, Nat.reduceMul, decide_true, decide_false, Bool.not_true, Bool.not_false, implies_true]
  rfl)
noncomputable def e_isRawS2 : Env := mk [(101, sp_hasS)] [] [] [] none
@[push_cast] theorem e_isRawS2_in : e_isRawS2.inl = inlF [] := rfl
@[push_cast] theorem e_isRawS2_fn : e_isRawS2.fnd = fndF none := rfl
@[push_cast] theorem e_isRawS2_gh : e_isRawS2.gh = ghOf [] := rfl
@[push_cast] theorem e_isRawS2_dr : e_isRawS2.dr = drOf [] := rfl
@[push_cast] theorem e_isRawS2_td : e_isRawS2.td = td := rfl
@[push_cast] theorem e_isRawS2_eqt : e_isRawS2.eqt = eqt := rfl
@[push_cast] theorem e_isRawS2_cal : e_isRawS2.cal = calOf [(101, sp_hasS)] := rfl
theorem c_isRawS2 : CRow P0 ety0 64 sp_isRawS := CRow.of (E := e_isRawS2) (mkOk (.cons c_hasS2 (.nil))) func64 rfl rfl rfl (by
  intro args p r outs h hq
  simp only [sp_isRawS] at h; split at h <;> cases h
  refine Body.intro (rs := [.tmp 2]) rfl rfl rfl ?_
  apply vc_run 1000 (stop := false) rfl; simp only [push_cast, reduceIte, Nat.reduceEqDiff, Nat.reduceAdd, Nat.reduceSub, Nat.reduceLT, Int.reduceNeg, Int.reduceLE, Int.reduceLT, Int.reduceToNat, Nat.reduceLeDiff, UInt8.reduceOfNat, UInt8.reduceOfNatLT, and_self, Nat.reduceMul, decide_true, decide_false, Bool.not_true, Bool.not_false, implies_true]
  rfl)
def attrOK (a : Attr) : Bool := tagOK a.name && decide (a.value.length ≤ 40)
noncomputable def sp_attrOK : Spec := ⟨[.st .attr], [.rd], true, fun
  | [.agg [.str a, .str b]] => some (some (szAt ⟨a, b⟩ ≤ 1048576), .bool (attrOK ⟨a, b⟩), [])
  | _ => none⟩
@[push_cast] theorem sp_attrOK_ps : sp_attrOK.ps = [.st .attr] := rfl
@[push_cast] theorem sp_attrOK_md : sp_attrOK.modes = [.rd] := rfl
@[push_cast] theorem sp_attrOK_pure : sp_attrOK.pure = true := rfl
@[push_cast] theorem sp_attrOK_run (a b : Str) : sp_attrOK.run [.agg [.str a, .str b]] = some (some (szAt ⟨a, b⟩ ≤ 1048576), .bool (attrOK ⟨a, b⟩), []) := rfl
noncomputable def e_attrOK : Env := mk [(65, sp_tagOK)] [] [] [] none
@[push_cast] theorem e_attrOK_in : e_attrOK.inl = inlF [] := rfl
@[push_cast] theorem e_attrOK_fn : e_attrOK.fnd = fndF none := rfl
@[push_cast] theorem e_attrOK_gh : e_attrOK.gh = ghOf [] := rfl
@[push_cast] theorem e_attrOK_dr : e_attrOK.dr = drOf [] := rfl
@[push_cast] theorem e_attrOK_td : e_attrOK.td = td := rfl
@[push_cast] theorem e_attrOK_eqt : e_attrOK.eqt = eqt := rfl
@[push_cast] theorem e_attrOK_cal : e_attrOK.cal = calOf [(65, sp_tagOK)] := rfl
theorem c_attrOK : CRow P0 ety0 154 sp_attrOK := CRow.of (E := e_attrOK) (mkOk (.cons c_tagOK (.nil))) func154 rfl rfl rfl (by
  intro args p r outs h hq
  simp only [sp_attrOK] at h; split at h <;> cases h
  rename_i a b
  have hz := hq _ rfl
  simp only [szAt] at hz
  refine Body.intro (rs := [.tmp 2]) rfl rfl rfl ?_
  apply vc_run 1000 (stop := false) rfl; simp only [push_cast, reduceIte, Nat.reduceEqDiff, Nat.reduceAdd, Nat.reduceSub, Nat.reduceLT, Int.reduceNeg, Int.reduceLE, Int.reduceLT, Int.reduceToNat, Nat.reduceLeDiff, UInt8.reduceOfNat, UInt8.reduceOfNatLT, and_self, Nat.reduceMul, decide_true, decide_false, Bool.not_true, Bool.not_false, implies_true]
  refine ⟨by omega, ?_⟩
  have e : decide ((b.length : Int) ≤ 40) = decide (b.length ≤ 40) := len_le (n := 40)
  rw [e]
  simp only [Bool.cond_false_right]
  rfl)
def isNamed (m : Str) (a : Attr) : Bool := decide (a.name = m)
noncomputable def sp_named1 : Spec := ⟨[.st .attr, .sc], [.rd, .rd], true, fun
  | [.agg [.str a, .str b], .rbp [.str m, .str v] 0] => some (none, .bool (isNamed m ⟨a, b⟩), [])
  | _ => none⟩
@[push_cast] theorem sp_named1_ps : sp_named1.ps = [.st .attr, .sc] := rfl
@[push_cast] theorem sp_named1_md : sp_named1.modes = [.rd, .rd] := rfl
@[push_cast] theorem sp_named1_pure : sp_named1.pure = true := rfl
@[push_cast] theorem sp_named1_run (a b m v : Str) : sp_named1.run [.agg [.str a, .str b], .rbp [.str m, .str v] 0] = some (none, .bool (isNamed m ⟨a, b⟩), []) := rfl
noncomputable def e_named1 : Env := mk [] [] [] [] none
@[push_cast] theorem e_named1_in : e_named1.inl = inlF [] := rfl
@[push_cast] theorem e_named1_fn : e_named1.fnd = fndF none := rfl
@[push_cast] theorem e_named1_gh : e_named1.gh = ghOf [] := rfl
@[push_cast] theorem e_named1_dr : e_named1.dr = drOf [] := rfl
@[push_cast] theorem e_named1_td : e_named1.td = td := rfl
@[push_cast] theorem e_named1_eqt : e_named1.eqt = eqt := rfl
@[push_cast] theorem e_named1_cal : e_named1.cal = calOf [] := rfl
theorem c_named1 : CRow P0 ety0 156 sp_named1 := CRow.of (E := e_named1) (mkOk (.nil)) func156 rfl rfl rfl (by
  intro args p r outs h hq
  simp only [sp_named1] at h; split at h <;> cases h
  refine Body.intro (rs := [.tmp 3]) rfl rfl rfl ?_
  apply vc_run 1000 (stop := false) rfl; simp only [push_cast, reduceIte, Nat.reduceEqDiff, Nat.reduceAdd, Nat.reduceSub, Nat.reduceLT, Int.reduceNeg, Int.reduceLE, Int.reduceLT, Int.reduceToNat, Nat.reduceLeDiff, UInt8.reduceOfNat, UInt8.reduceOfNatLT, and_self, Nat.reduceMul, decide_true, decide_false, Bool.not_true, Bool.not_false, implies_true]
  rfl)
noncomputable def sp_idxAttrA : Spec := ⟨[.sl .attr, .sc], [.rd, .rd], true, fun
  | [.dat ⟨.attr, l⟩, .fn 156 [] [.rbp [.str m, .str v] 0]] => some (some (l.length ≤ 1073741824), .int .i64 (idx (l.findIdx? (isNamed m))), [])
  | _ => none⟩
@[push_cast] theorem sp_idxAttrA_ps : sp_idxAttrA.ps = [.sl .attr, .sc] := rfl
@[push_cast] theorem sp_idxAttrA_md : sp_idxAttrA.modes = [.rd, .rd] := rfl
@[push_cast] theorem sp_idxAttrA_pure : sp_idxAttrA.pure = true := rfl
@[push_cast] theorem sp_idxAttrA_run (l : List Attr) (m v : Str) : sp_idxAttrA.run [.dat ⟨.attr, l⟩, .fn 156 [] [.rbp [.str m, .str v] 0]] = some (some (l.length ≤ 1073741824), .int .i64 (idx (l.findIdx? (isNamed m))), []) := rfl
noncomputable def e_idxAttrA : Env := mk [(156, sp_named1)] [] [] [] none
@[push_cast] theorem e_idxAttrA_in : e_idxAttrA.inl = inlF [] := rfl
@[push_cast] theorem e_idxAttrA_fn : e_idxAttrA.fnd = fndF none := rfl
@[push_cast] theorem e_idxAttrA_gh : e_idxAttrA.gh = ghOf [] := rfl
@[push_cast] theorem e_idxAttrA_dr : e_idxAttrA.dr = drOf [] := rfl
@[push_cast] theorem e_idxAttrA_td : e_idxAttrA.td = td := rfl
@[push_cast] theorem e_idxAttrA_eqt : e_idxAttrA.eqt = eqt := rfl
@[push_cast] theorem e_idxAttrA_cal : e_idxAttrA.cal = calOf [(156, sp_named1)] := rfl
theorem c_idxAttrA : CRow P0 ety0 172 sp_idxAttrA := CRow.of (E := e_idxAttrA) (mkOk (.cons c_named1 (.nil))) func172 rfl rfl rfl (by
  intro args p r outs h hq
  simp only [sp_idxAttrA] at h; split at h <;> cases h
  rename_i l m v
  have hq0 := hq _ rfl
  have hl : l.length ≤ 1073741824 := by first | exact hq0 | exact hq0.1
  refine Body.intro (rs := [.tmp 4]) rfl rfl rfl ?_
  apply vc_run 1000 (stop := false) rfl; simp only [push_cast, reduceIte, Nat.reduceEqDiff, Nat.reduceAdd, Nat.reduceSub, Nat.reduceLT, Int.reduceNeg, Int.reduceLE, Int.reduceLT, Int.reduceToNat, Nat.reduceLeDiff, UInt8.reduceOfNat, UInt8.reduceOfNatLT, and_self, Nat.reduceMul, decide_true, decide_false, Bool.not_true, Bool.not_false, implies_true]
  refine Run.loop [8] [0, 1, 6, 7] [] rfl (fun n vs bs => ∃ k : Nat, vs = [.int .i64 k] ∧ bs = [] ∧ k ≤ l.length ∧ (∀ j < k, (isNamed m) (l.getD j attrD) = false) ∧ n = l.length - k) l.length ?_ ?_
  · simp only [push_cast, reduceIte, Nat.reduceEqDiff, Nat.reduceAdd, Nat.reduceSub, Nat.reduceLT, Int.reduceNeg, Int.reduceLE, Int.reduceLT, Int.reduceToNat, Nat.reduceLeDiff, UInt8.reduceOfNat, UInt8.reduceOfNatLT, and_self, Nat.reduceMul, decide_true, decide_false, Bool.not_true, Bool.not_false, implies_true]
    exact ⟨0, rfl, by omega, by simp, by omega⟩
  rintro n vs bs ⟨k, rfl, rfl, hk, hb, rfl⟩
  simp only [push_cast, reduceIte, Nat.reduceEqDiff, Nat.reduceAdd, Nat.reduceSub, Nat.reduceLT, Int.reduceNeg, Int.reduceLE, Int.reduceLT, Int.reduceToNat, Nat.reduceLeDiff, UInt8.reduceOfNat, UInt8.reduceOfNatLT, and_self, Nat.reduceMul, decide_true, decide_false, Bool.not_true, Bool.not_false, implies_true]
  apply vc_run 1000 (stop := false) rfl; simp only [push_cast, reduceIte, Nat.reduceEqDiff, Nat.reduceAdd, Nat.reduceSub, Nat.reduceLT, Int.reduceNeg, Int.reduceLE, Int.reduceLT, Int.reduceToNat, Nat.reduceLeDiff, UInt8.reduceOfNat, UInt8.reduceOfNatLT, and_self, Nat.reduceMul, decide_true, decide_false, Bool.not_true, Bool.not_false, implies_true]
  refine ⟨fun hlt => ?_, fun hge => ?_⟩
  · have hlt : k < l.length := by simpa using hlt
    simp only [gd_nat]
    refine ⟨by omega, fun hy => ?_, fun hn => ⟨by constructor <;> omega, _, by omega, k + 1, rfl, by omega, below_step hb hn, rfl⟩⟩
    rw [findIdx_at (p := isNamed m) hlt hb hy]; rfl
  · have hge : k = l.length := by simp at hge; omega
    subst hge
    rw [findIdx_none (p := isNamed m) hb]; rfl)
noncomputable def sp_conAttrA : Spec := ⟨[.sl .attr, .sc], [.rd, .rd], true, fun
  | [.dat ⟨.attr, l⟩, .fn 156 [] [.rbp [.str m, .str v] 0]] => some (some (l.length ≤ 1073741824), .bool (l.any (isNamed m)), [])
  | _ => none⟩
@[push_cast] theorem sp_conAttrA_ps : sp_conAttrA.ps = [.sl .attr, .sc] := rfl
@[push_cast] theorem sp_conAttrA_md : sp_conAttrA.modes = [.rd, .rd] := rfl
@[push_cast] theorem sp_conAttrA_pure : sp_conAttrA.pure = true := rfl
@[push_cast] theorem sp_conAttrA_run (l : List Attr) (m v : Str) : sp_conAttrA.run [.dat ⟨.attr, l⟩, .fn 156 [] [.rbp [.str m, .str v] 0]] = some (some (l.length ≤ 1073741824), .bool (l.any (isNamed m)), []) := rfl
noncomputable def e_conAttrA : Env := mk [(172, sp_idxAttrA)] [] [] [] none
@[push_cast] theorem e_conAttrA_in : e_conAttrA.inl = inlF [] := rfl
@[push_cast] theorem e_conAttrA_fn : e_conAttrA.fnd = fndF none := rfl
@[push_cast] theorem e_conAttrA_gh : e_conAttrA.gh = ghOf [] := rfl
@[push_cast] theorem e_conAttrA_dr : e_conAttrA.dr = drOf [] := rfl
@[push_cast] theorem e_conAttrA_td : e_conAttrA.td = td := rfl
@[push_cast] theorem e_conAttrA_eqt : e_conAttrA.eqt = eqt := rfl
@[push_cast] theorem e_conAttrA_cal : e_conAttrA.cal = calOf [(172, sp_idxAttrA)] := rfl
theorem c_conAttrA : CRow P0 ety0 155 sp_conAttrA := CRow.of (E := e_conAttrA) (mkOk (.cons c_idxAttrA (.nil))) func155 rfl rfl rfl (by
  intro args p r outs h hq
  simp only [sp_conAttrA] at h; split at h <;> cases h
  rename_i l m v
  have hq0 := hq _ rfl
  refine Body.intro (rs := [.tmp 4]) rfl rfl rfl ?_
  apply vc_run 1000 (stop := false) rfl; simp only [push_cast, reduceIte, Nat.reduceEqDiff, Nat.reduceAdd, Nat.reduceSub, Nat.reduceLT, Int.reduceNeg, Int.reduceLE, Int.reduceLT, Int.reduceToNat, Nat.reduceLeDiff, UInt8.reduceOfNat, UInt8.reduceOfNatLT, and_self, Nat.reduceMul, decide_true, decide_false, Bool.not_true, Bool.not_false, implies_true]
  exact ⟨hq0, by rw [idx_any]⟩)
def attrAtOK (l : List Attr) (i : Nat) : Bool := attrOK (l.getD i attrD) && !(l.take i).any (isNamed (l.getD i attrD).name)
def attrsOK (l : List Attr) : Bool := decide (l.length ≤ 6) && (List.range l.length).all (attrAtOK l)
theorem szL_at1 {α : Type} (f : α → Nat) {l : List α} (d : α) {k : Nat} (h : k < l.length) : f (l.getD k d) + 1 ≤ szL f l := by
  have h1 : f (l.getD k d) ≤ sumL f l := sumL_mem f (by
    have e : l.getD k d = l[k] := by simp [List.getD, h]
    rw [e]; exact List.getElem_mem h)
  have h2 : szL f l = l.length + sumL f l := rfl
  omega
noncomputable def sp_attrsOK : Spec := ⟨[.sl .attr], [.rd], true, fun
  | [.dat ⟨.attr, l⟩] => some (some (szL szAt l ≤ 1048577), .bool (attrsOK l), [])
  | _ => none⟩
@[push_cast] theorem sp_attrsOK_ps : sp_attrsOK.ps = [.sl .attr] := rfl
@[push_cast] theorem sp_attrsOK_md : sp_attrsOK.modes = [.rd] := rfl
@[push_cast] theorem sp_attrsOK_pure : sp_attrsOK.pure = true := rfl
@[push_cast] theorem sp_attrsOK_run (l : List Attr) : sp_attrsOK.run [.dat ⟨.attr, l⟩] = some (some (szL szAt l ≤ 1048577), .bool (attrsOK l), []) := rfl
noncomputable def e_attrsOK : Env := mk [(154, sp_attrOK), (155, sp_conAttrA)] [] [] [] none
@[push_cast] theorem e_attrsOK_in : e_attrsOK.inl = inlF [] := rfl
@[push_cast] theorem e_attrsOK_fn : e_attrsOK.fnd = fndF none := rfl
@[push_cast] theorem e_attrsOK_gh : e_attrsOK.gh = ghOf [] := rfl
@[push_cast] theorem e_attrsOK_dr : e_attrsOK.dr = drOf [] := rfl
@[push_cast] theorem e_attrsOK_td : e_attrsOK.td = td := rfl
@[push_cast] theorem e_attrsOK_eqt : e_attrsOK.eqt = eqt := rfl
@[push_cast] theorem e_attrsOK_cal : e_attrsOK.cal = calOf [(154, sp_attrOK), (155, sp_conAttrA)] := rfl
theorem c_attrsOK : CRow P0 ety0 134 sp_attrsOK := CRow.of (E := e_attrsOK) (mkOk (.cons c_attrOK (.cons c_conAttrA (.nil)))) func134 rfl rfl rfl (by
  intro args p r outs h hq
  simp only [sp_attrsOK] at h; split at h <;> cases h
  rename_i l
  have hz := hq _ rfl
  have hl : l.length ≤ 1048577 := Nat.le_trans (szL_len _ _) hz
  refine Body.intro (rs := [.tmp 2]) rfl rfl rfl ?_
  apply vc_run 1000 (stop := false) rfl; simp only [push_cast, reduceIte, Nat.reduceEqDiff, Nat.reduceAdd, Nat.reduceSub, Nat.reduceLT, Int.reduceNeg, Int.reduceLE, Int.reduceLT, Int.reduceToNat, Nat.reduceLeDiff, UInt8.reduceOfNat, UInt8.reduceOfNatLT, and_self, Nat.reduceMul, decide_true, decide_false, Bool.not_true, Bool.not_false, implies_true]
  refine Run.loop [7] [0, 5, 6] [] rfl (fun n vs bs => ∃ k : Nat, vs = [.int .i64 k] ∧ bs = [] ∧ k ≤ l.length ∧ (∀ j < k, attrAtOK l j = true) ∧ n = l.length - k) l.length ?_ ?_
  · simp only [push_cast, reduceIte, Nat.reduceEqDiff, Nat.reduceAdd, Nat.reduceSub, Nat.reduceLT, Int.reduceNeg, Int.reduceLE, Int.reduceLT, Int.reduceToNat, Nat.reduceLeDiff, UInt8.reduceOfNat, UInt8.reduceOfNatLT, and_self, Nat.reduceMul, decide_true, decide_false, Bool.not_true, Bool.not_false, implies_true]
    exact ⟨0, rfl, by omega, by simp, by omega⟩
  rintro n vs bs ⟨k, rfl, rfl, hk, hb, rfl⟩
  simp only [push_cast, reduceIte, Nat.reduceEqDiff, Nat.reduceAdd, Nat.reduceSub, Nat.reduceLT, Int.reduceNeg, Int.reduceLE, Int.reduceLT, Int.reduceToNat, Nat.reduceLeDiff, UInt8.reduceOfNat, UInt8.reduceOfNatLT, and_self, Nat.reduceMul, decide_true, decide_false, Bool.not_true, Bool.not_false, implies_true]
  apply vc_run 1000 (stop := false) rfl; simp only [push_cast, reduceIte, Nat.reduceEqDiff, Nat.reduceAdd, Nat.reduceSub, Nat.reduceLT, Int.reduceNeg, Int.reduceLE, Int.reduceLT, Int.reduceToNat, Nat.reduceLeDiff, UInt8.reduceOfNat, UInt8.reduceOfNatLT, and_self, Nat.reduceMul, decide_true, decide_false, Bool.not_true, Bool.not_false, implies_true]
  refine ⟨fun hlt => ?_, fun hge => ?_⟩
  · have hlt : k < l.length := Int.ofNat_lt.1 (of_decide_eq_true hlt)
    have hel : szAt (l.getD k attrD) ≤ 1048576 := by have := szL_at1 szAt attrD hlt; omega
    simp only [gd_nat, cut_take]
    have htk : (l.take k).length ≤ 1073741824 := by rw [List.length_take]; omega
    refine ⟨by omega, hel, fun _ => by omega, fun _ => htk, fun hy => ?_, fun hn => ⟨by constructor <;> omega, _, by omega, k + 1, rfl, by omega, below_step hb ?_, rfl⟩⟩
    · have hy : attrAtOK l k = false := by
        unfold attrAtOK; cases h1 : attrOK (l.getD k attrD) <;> simp_all
      rw [attrsOK, all_no hlt hy, Bool.and_false]
    · unfold attrAtOK; cases h1 : attrOK (l.getD k attrD) <;> simp_all
  · have hge : k = l.length := by have := of_decide_eq_false hge; omega
    subst hge
    have e : decide ((l.length : Int) ≤ 6) = decide (l.length ≤ 6) := len_le (n := 6)
    rw [attrsOK, all_yes hb, Bool.and_true, e])
noncomputable def e_attrsOK2 : Env := mk [(34, sp_tagOK)] [(11, [], [(true, [0, 1, 2, 3, 4, 5, 6, 7, 8, 9, 10], [])])] [] [] none
@[push_cast] theorem e_attrsOK2_in : e_attrsOK2.inl = inlF [] := rfl
@[push_cast] theorem e_attrsOK2_fn : e_attrsOK2.fnd = fndF none := rfl
@[push_cast] theorem e_attrsOK2_gh : e_attrsOK2.gh = ghOf [] := rfl
@[push_cast] theorem e_attrsOK2_dr : e_attrsOK2.dr = drOf [(11, [], [(true, [0, 1, 2, 3, 4, 5, 6, 7, 8, 9, 10], [])])] := rfl
@[push_cast] theorem e_attrsOK2_td : e_attrsOK2.td = td := rfl
@[push_cast] theorem e_attrsOK2_eqt : e_attrsOK2.eqt = eqt := rfl
@[push_cast] theorem e_attrsOK2_cal : e_attrsOK2.cal = calOf [(34, sp_tagOK)] := rfl
theorem c_attrsOK2 : CRow P0 ety0 153 sp_attrsOK := CRow.of (E := e_attrsOK2) (mkOk (.cons c_tagOK2 (.nil))) func153 rfl rfl rfl (by
  intro args p r outs h hq
  simp only [sp_attrsOK] at h; split at h <;> cases h
  rename_i l
  have hz := hq _ rfl
  have hl : l.length ≤ 1048577 := Nat.le_trans (szL_len _ _) hz
  refine Body.intro (rs := [.tmp 2]) rfl rfl rfl ?_
  apply vc_run 1000 (stop := false) rfl; simp only [push_cast, reduceIte, Nat.reduceEqDiff, Nat.reduceAdd, Nat.reduceSub, Nat.reduceLT, Int.reduceNeg, Int.reduceLE, Int.reduceLT, Int.reduceToNat, Nat.reduceLeDiff, UInt8.reduceOfNat, UInt8.reduceOfNatLT, and_self, Nat.reduceMul, decide_true, decide_false, Bool.not_true, Bool.not_false, implies_true]
  refine ⟨fun h => ?_, fun h => ?_⟩
  · rw [attrsOK, show decide (l.length ≤ 6) = false by simp at h ⊢; omega]; rfl
  refine Run.loop [3] [0] [] rfl (fun n vs bs => ∃ k : Nat, vs = [.int .i64 k] ∧ bs = [] ∧ k ≤ l.length ∧ (∀ j < k, attrAtOK l j = true) ∧ n = l.length - k) l.length ?_ ?_
  · simp only [push_cast, reduceIte, Nat.reduceEqDiff, Nat.reduceAdd, Nat.reduceSub, Nat.reduceLT, Int.reduceNeg, Int.reduceLE, Int.reduceLT, Int.reduceToNat, Nat.reduceLeDiff, UInt8.reduceOfNat, UInt8.reduceOfNatLT, and_self, Nat.reduceMul, decide_true, decide_false, Bool.not_true, Bool.not_false, implies_true]
    exact ⟨0, rfl, by omega, by simp, by omega⟩
  rintro n vs bs ⟨k, rfl, rfl, hk, hb, rfl⟩
  simp only [push_cast, reduceIte, Nat.reduceEqDiff, Nat.reduceAdd, Nat.reduceSub, Nat.reduceLT, Int.reduceNeg, Int.reduceLE, Int.reduceLT, Int.reduceToNat, Nat.reduceLeDiff, UInt8.reduceOfNat, UInt8.reduceOfNatLT, and_self, Nat.reduceMul, decide_true, decide_false, Bool.not_true, Bool.not_false, implies_true]
  apply vc_run 1000 (stop := false) rfl; simp only [push_cast, reduceIte, Nat.reduceEqDiff, Nat.reduceAdd, Nat.reduceSub, Nat.reduceLT, Int.reduceNeg, Int.reduceLE, Int.reduceLT, Int.reduceToNat, Nat.reduceLeDiff, UInt8.reduceOfNat, UInt8.reduceOfNatLT, and_self, Nat.reduceMul, decide_true, decide_false, Bool.not_true, Bool.not_false, implies_true]
  have e40 : ∀ x : Str, decide ((40 : Int) < (x.length : Nat)) = !decide (x.length ≤ 40) := fun x => len_gt (n := 40)
  have h6 : decide (l.length ≤ 6) = true := by have := of_decide_eq_false h; exact decide_eq_true (by omega)
  refine ⟨fun hlt => ?_, fun hge => ?_⟩
  rotate_left
  · have hge : k = l.length := by have := of_decide_eq_false hge; omega
    subst hge
    rw [attrsOK, all_yes hb, h6]; rfl
  have hlt : k < l.length := Int.ofNat_lt.1 (of_decide_eq_true hlt)
  have hel : szAt (l.getD k attrD) ≤ 1048576 := by have := szL_at1 szAt attrD hlt; omega
  have hel' : (l.getD k attrD).name.length + (l.getD k attrD).value.length ≤ 1048576 := hel
  simp only [gd_nat, e40]
  refine ⟨by omega, by omega, fun _ => by omega, fun hy => ?_, fun hok => ?_⟩
  · have hy : attrAtOK l k = false := by
      have : attrOK (l.getD k attrD) = false := by
        unfold attrOK; revert hy
        cases tagOK (l.getD k attrD).name <;> cases decide ((l.getD k attrD).value.length ≤ 40) <;> simp
      unfold attrAtOK; rw [this]; rfl
    rw [attrsOK, all_no hlt hy, Bool.and_false]
  have hok : attrOK (l.getD k attrD) = true := by
    unfold attrOK; cases h1 : tagOK (l.getD k attrD).name <;> simp_all
  refine Run.loop [4] [0, 3] [] rfl (fun n vs bs => ∃ j : Nat, vs = [.int .i64 j] ∧ bs = [] ∧ j ≤ k ∧ (∀ i < j, isNamed (l.getD k attrD).name (l.getD i attrD) = false) ∧ n = k - j) k ?_ ?_
  · simp only [push_cast, reduceIte, Nat.reduceEqDiff, Nat.reduceAdd, Nat.reduceSub, Nat.reduceLT, Int.reduceNeg, Int.reduceLE, Int.reduceLT, Int.reduceToNat, Nat.reduceLeDiff, UInt8.reduceOfNat, UInt8.reduceOfNatLT, and_self, Nat.reduceMul, decide_true, decide_false, Bool.not_true, Bool.not_false, implies_true]
    exact ⟨0, rfl, by omega, by simp, by omega⟩
  rintro n vs bs ⟨j, rfl, rfl, hj, hbj, rfl⟩
  simp only [push_cast, reduceIte, Nat.reduceEqDiff, Nat.reduceAdd, Nat.reduceSub, Nat.reduceLT, Int.reduceNeg, Int.reduceLE, Int.reduceLT, Int.reduceToNat, Nat.reduceLeDiff, UInt8.reduceOfNat, UInt8.reduceOfNatLT, and_self, Nat.reduceMul, decide_true, decide_false, Bool.not_true, Bool.not_false, implies_true]
  apply vc_run 1000 (stop := false) rfl; simp only [push_cast, reduceIte, Nat.reduceEqDiff, Nat.reduceAdd, Nat.reduceSub, Nat.reduceLT, Int.reduceNeg, Int.reduceLE, Int.reduceLT, Int.reduceToNat, Nat.reduceLeDiff, UInt8.reduceOfNat, UInt8.reduceOfNatLT, and_self, Nat.reduceMul, decide_true, decide_false, Bool.not_true, Bool.not_false, implies_true]
  refine ⟨fun hj2 => ?_, fun hj2 => ?_⟩
  · have hjk : j < k := Int.ofNat_lt.1 (of_decide_eq_true hj2)
    simp only [gd_nat]
    refine ⟨by omega, by omega, fun hy => ?_, fun hn => ⟨by constructor <;> omega, _, by omega, j + 1, rfl, by omega, below_step hbj hn, rfl⟩⟩
    have hy' : attrAtOK l k = false := by
      unfold attrAtOK
      rw [any_take_yes (p := isNamed (l.getD k attrD).name) hjk hk hy]; simp
    rw [attrsOK, all_no hlt hy', Bool.and_false]
  · have hge : j = k := by have := of_decide_eq_false hj2; omega
    subst hge
    refine ⟨by constructor <;> omega, _, by omega, j + 1, rfl, by omega, below_step hb ?_, rfl⟩
    unfold attrAtOK
    rw [hok, any_take_no hk hbj]; rfl)
end Go.Ab
