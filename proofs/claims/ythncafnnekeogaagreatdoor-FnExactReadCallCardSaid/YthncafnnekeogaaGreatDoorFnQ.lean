/- Calls and their texts. -/
import Derived.Test.YthncafnnekeogaaGreatDoorFnP
set_option linter.all false
set_option linter.unusedSimpArgs false
set_option linter.unusedVariables false
set_option linter.unusedSectionVars false
set_option maxRecDepth 20000
set_option maxHeartbeats 1000000
namespace Go.Ab
open Go Go.Proofs.Tryz
def hasConfig (k : Int) : Bool := decide (k = 6) || decide (k = 8)
noncomputable def sp_hasConfig : Spec := ⟨[.sc], [.rd], true, fun
  | [.int .i64 k] => some (none, .bool (hasConfig k), [])
  | _ => none⟩
@[push_cast] theorem sp_hasConfig_ps : sp_hasConfig.ps = [.sc] := rfl
@[push_cast] theorem sp_hasConfig_md : sp_hasConfig.modes = [.rd] := rfl
@[push_cast] theorem sp_hasConfig_pure : sp_hasConfig.pure = true := rfl
@[push_cast] theorem sp_hasConfig_run (k : Int) : sp_hasConfig.run [.int .i64 k] = some (none, .bool (hasConfig k), []) := rfl
noncomputable def e_hasConfig : Env := mk [] [] [] [] none
@[push_cast] theorem e_hasConfig_in : e_hasConfig.inl = inlF [] := rfl
@[push_cast] theorem e_hasConfig_fn : e_hasConfig.fnd = fndF none := rfl
@[push_cast] theorem e_hasConfig_gh : e_hasConfig.gh = ghOf [] := rfl
@[push_cast] theorem e_hasConfig_dr : e_hasConfig.dr = drOf [] := rfl
@[push_cast] theorem e_hasConfig_td : e_hasConfig.td = td := rfl
@[push_cast] theorem e_hasConfig_eqt : e_hasConfig.eqt = eqt := rfl
@[push_cast] theorem e_hasConfig_cal : e_hasConfig.cal = calOf [] := rfl
theorem c_hasConfig : CRow P0 ety0 79 sp_hasConfig := CRow.of (E := e_hasConfig) (mkOk (.nil)) func79 rfl rfl rfl (by
  intro args p r outs h hq
  simp only [sp_hasConfig] at h; split at h <;> cases h
  rename_i k
  refine Body.intro (rs := [.tmp 2]) rfl rfl rfl ?_
  apply vc_run 1000 (stop := false) rfl; simp only [push_cast, reduceIte, Nat.reduceEqDiff, Nat.reduceAdd, Nat.reduceSub, Nat.reduceLT, Int.reduceNeg, Int.reduceLE, Int.reduceLT, Int.reduceToNat, Nat.reduceLeDiff, UInt8.reduceOfNat, UInt8.reduceOfNatLT, and_self, Nat.reduceMul, decide_true, decide_false, Bool.not_true, Bool.not_false, implies_true]
  exact congrArg AV.bool (by simp only [Bool.cond_true_left]; rfl))
def hasName (k : Int) : Bool := decide (k = 1) || decide (k = 2) || decide (k = 4)
noncomputable def sp_hasName : Spec := ⟨[.sc], [.rd], true, fun
  | [.int .i64 k] => some (none, .bool (hasName k), [])
  | _ => none⟩
@[push_cast] theorem sp_hasName_ps : sp_hasName.ps = [.sc] := rfl
@[push_cast] theorem sp_hasName_md : sp_hasName.modes = [.rd] := rfl
@[push_cast] theorem sp_hasName_pure : sp_hasName.pure = true := rfl
@[push_cast] theorem sp_hasName_run (k : Int) : sp_hasName.run [.int .i64 k] = some (none, .bool (hasName k), []) := rfl
noncomputable def e_hasName : Env := mk [] [] [] [] none
@[push_cast] theorem e_hasName_in : e_hasName.inl = inlF [] := rfl
@[push_cast] theorem e_hasName_fn : e_hasName.fnd = fndF none := rfl
@[push_cast] theorem e_hasName_gh : e_hasName.gh = ghOf [] := rfl
@[push_cast] theorem e_hasName_dr : e_hasName.dr = drOf [] := rfl
@[push_cast] theorem e_hasName_td : e_hasName.td = td := rfl
@[push_cast] theorem e_hasName_eqt : e_hasName.eqt = eqt := rfl
@[push_cast] theorem e_hasName_cal : e_hasName.cal = calOf [] := rfl
theorem c_hasName : CRow P0 ety0 78 sp_hasName := CRow.of (E := e_hasName) (mkOk (.nil)) func78 rfl rfl rfl (by
  intro args p r outs h hq
  simp only [sp_hasName] at h; split at h <;> cases h
  rename_i k
  refine Body.intro (rs := [.tmp 2]) rfl rfl rfl ?_
  apply vc_run 1000 (stop := false) rfl; simp only [push_cast, reduceIte, Nat.reduceEqDiff, Nat.reduceAdd, Nat.reduceSub, Nat.reduceLT, Int.reduceNeg, Int.reduceLE, Int.reduceLT, Int.reduceToNat, Nat.reduceLeDiff, UInt8.reduceOfNat, UInt8.reduceOfNatLT, and_self, Nat.reduceMul, decide_true, decide_false, Bool.not_true, Bool.not_false, implies_true]
  exact congrArg AV.bool (by simp only [Bool.cond_true_left]; rfl))
def hasText (k : Int) : Bool := decide (k = 3) || decide (k = 4) || decide (k = 6) || decide (k = 7)
noncomputable def sp_hasText : Spec := ⟨[.sc], [.rd], true, fun
  | [.int .i64 k] => some (none, .bool (hasText k), [])
  | _ => none⟩
@[push_cast] theorem sp_hasText_ps : sp_hasText.ps = [.sc] := rfl
@[push_cast] theorem sp_hasText_md : sp_hasText.modes = [.rd] := rfl
@[push_cast] theorem sp_hasText_pure : sp_hasText.pure = true := rfl
@[push_cast] theorem sp_hasText_run (k : Int) : sp_hasText.run [.int .i64 k] = some (none, .bool (hasText k), []) := rfl
noncomputable def e_hasText : Env := mk [] [] [] [] none
@[push_cast] theorem e_hasText_in : e_hasText.inl = inlF [] := rfl
@[push_cast] theorem e_hasText_fn : e_hasText.fnd = fndF none := rfl
@[push_cast] theorem e_hasText_gh : e_hasText.gh = ghOf [] := rfl
@[push_cast] theorem e_hasText_dr : e_hasText.dr = drOf [] := rfl
@[push_cast] theorem e_hasText_td : e_hasText.td = td := rfl
@[push_cast] theorem e_hasText_eqt : e_hasText.eqt = eqt := rfl
@[push_cast] theorem e_hasText_cal : e_hasText.cal = calOf [] := rfl
theorem c_hasText : CRow P0 ety0 80 sp_hasText := CRow.of (E := e_hasText) (mkOk (.nil)) func80 rfl rfl rfl (by
  intro args p r outs h hq
  simp only [sp_hasText] at h; split at h <;> cases h
  rename_i k
  refine Body.intro (rs := [.tmp 2]) rfl rfl rfl ?_
  apply vc_run 1000 (stop := false) rfl; simp only [push_cast, reduceIte, Nat.reduceEqDiff, Nat.reduceAdd, Nat.reduceSub, Nat.reduceLT, Int.reduceNeg, Int.reduceLE, Int.reduceLT, Int.reduceToNat, Nat.reduceLeDiff, UInt8.reduceOfNat, UInt8.reduceOfNatLT, and_self, Nat.reduceMul, decide_true, decide_false, Bool.not_true, Bool.not_false, implies_true]
  exact congrArg AV.bool (by simp only [Bool.cond_true_left]; rfl))
def hasPath (k : Int) : Bool := within k 2 5
noncomputable def sp_hasPath : Spec := ⟨[.sc], [.rd], true, fun
  | [.int .i64 k] => some (none, .bool (hasPath k), [])
  | _ => none⟩
@[push_cast] theorem sp_hasPath_ps : sp_hasPath.ps = [.sc] := rfl
@[push_cast] theorem sp_hasPath_md : sp_hasPath.modes = [.rd] := rfl
@[push_cast] theorem sp_hasPath_pure : sp_hasPath.pure = true := rfl
@[push_cast] theorem sp_hasPath_run (k : Int) : sp_hasPath.run [.int .i64 k] = some (none, .bool (hasPath k), []) := rfl
noncomputable def e_hasPath : Env := mk [(116, sp_within)] [] [] [] none
@[push_cast] theorem e_hasPath_in : e_hasPath.inl = inlF [] := rfl
@[push_cast] theorem e_hasPath_fn : e_hasPath.fnd = fndF none := rfl
@[push_cast] theorem e_hasPath_gh : e_hasPath.gh = ghOf [] := rfl
@[push_cast] theorem e_hasPath_dr : e_hasPath.dr = drOf [] := rfl
@[push_cast] theorem e_hasPath_td : e_hasPath.td = td := rfl
@[push_cast] theorem e_hasPath_eqt : e_hasPath.eqt = eqt := rfl
@[push_cast] theorem e_hasPath_cal : e_hasPath.cal = calOf [(116, sp_within)] := rfl
theorem c_hasPath : CRow P0 ety0 76 sp_hasPath := CRow.of (E := e_hasPath) (mkOk (.cons c_within (.nil))) func76 rfl rfl rfl (by
  intro args p r outs h hq
  simp only [sp_hasPath] at h; split at h <;> cases h
  rename_i k
  refine Body.intro (rs := [.tmp 2]) rfl rfl rfl ?_
  apply vc_run 1000 (stop := false) rfl; simp only [push_cast, reduceIte, Nat.reduceEqDiff, Nat.reduceAdd, Nat.reduceSub, Nat.reduceLT, Int.reduceNeg, Int.reduceLE, Int.reduceLT, Int.reduceToNat, Nat.reduceLeDiff, UInt8.reduceOfNat, UInt8.reduceOfNatLT, and_self, Nat.reduceMul, decide_true, decide_false, Bool.not_true, Bool.not_false, implies_true]
  rfl)
def callOK (c : Kall) : Bool := within c.kind 1 9 && within c.doc 0 5 && (bif hasName c.kind then tagOK c.name else decide (c.name = [])) && (decide (c.text = []) || (hasText c.kind && decide (c.text.length ≤ 4096))) && (decide (c.path = []) || (hasPath c.kind && isPath c.path)) && (decide (c.config = 0) || (hasConfig c.kind && within c.config 0 3))
theorem ok_text (t : Str) (h : Bool) : (decide (t = []) || (h && decide (t.length ≤ 4096))) = (decide (t.length ≤ 4096) && (h || decide (t = []))) := by
  by_cases ht : t = []
  · subst ht; simp
  · rw [decide_eq_false ht]; cases h <;> simp
theorem ok_path (p : List Int) (h : Bool) : (decide (p = []) || (h && isPath p)) = (decide (p.length ≤ 10) && p.all inPath && (h || decide (p = []))) := by
  by_cases ht : p = []
  · subst ht; simp
  · rw [decide_eq_false ht]; cases h <;> simp [isPath]
theorem ok_cfg (g : Int) (h : Bool) : (decide (g = 0) || (h && within g 0 3)) = bif h then within g 0 3 else decide (g = 0) := by
  by_cases hg : g = 0
  · subst hg; cases h <;> rfl
  · rw [decide_eq_false hg]; cases h <;> rfl
theorem callOK_alt (c : Kall) : callOK c = (within c.kind 1 9 && within c.doc 0 5 && decide (c.path.length ≤ 10) && decide (c.text.length ≤ 4096) && (bif hasConfig c.kind then within c.config 0 3 else decide (c.config = 0)) && (hasPath c.kind || decide (c.path = [])) && (hasText c.kind || decide (c.text = [])) && c.path.all inPath && (bif hasName c.kind then tagOK c.name else decide (c.name = []))) := by
  rw [callOK, ok_text, ok_path, ok_cfg]
  generalize within c.kind 1 9 = a1
  generalize within c.doc 0 5 = a2
  generalize decide (c.path.length ≤ 10) = a3
  generalize decide (c.text.length ≤ 4096) = a4
  generalize (bif hasConfig c.kind then within c.config 0 3 else decide (c.config = 0)) = a5
  generalize (hasPath c.kind || decide (c.path = [])) = a6
  generalize (hasText c.kind || decide (c.text = [])) = a7
  generalize c.path.all inPath = a8
  generalize (bif hasName c.kind then tagOK c.name else decide (c.name = [])) = a9
  cases a1 <;> cases a2 <;> cases a3 <;> cases a4 <;> cases a5 <;> cases a6 <;> cases a7 <;> cases a8 <;> cases a9 <;> rfl
theorem tagOK_ne {m : Str} (h : tagOK m = true) : m ≠ [] := by
  rintro rfl; cases h
theorem call_facts {k d g : Int} {p : List Int} {m t : Str} (h : callOK ⟨k, d, g, p, m, t⟩ = true) : (1 ≤ k ∧ k ≤ 9) ∧ (0 ≤ d ∧ d ≤ 5) ∧ (hasName k = true → m ≠ []) ∧ (hasName k = false → m = []) ∧ (hasText k = false → t = []) ∧ isPath p = true ∧ (hasPath k = false → p = []) ∧ (hasConfig k = true → 0 ≤ g ∧ g ≤ 3) := by
  rw [callOK_alt] at h
  simp only [Bool.and_eq_true, Bool.or_eq_true, decide_eq_true_eq] at h
  obtain ⟨⟨⟨⟨⟨⟨⟨⟨h1, h2⟩, h3⟩, h4⟩, h5⟩, h6⟩, h7⟩, h8⟩, h9⟩ := h
  simp only [within, Bool.and_eq_true, decide_eq_true_eq] at h1 h2
  refine ⟨h1, h2, fun hn => ?_, fun hn => ?_, fun ht => ?_, ?_, fun hp => ?_, fun hg => ?_⟩
  · rw [hn] at h9; exact tagOK_ne h9
  · rw [hn] at h9; exact of_decide_eq_true h9
  · rw [ht] at h7; simpa using h7
  · simp [isPath, h3, h8]
  · rw [hp] at h6; simpa using h6
  · rw [hg] at h5; simpa [within] using h5
def szKall (c : Kall) : Nat := c.path.length + c.name.length + c.text.length
noncomputable def sp_callOK : Spec := ⟨[.st .call], [.rd], true, fun
  | [.agg [.int .i64 k, .int .i64 d, .int .i64 g, .dat ⟨.int, p⟩, .str m, .str t]] => some (some (szKall ⟨k, d, g, p, m, t⟩ ≤ 1048576), .bool (callOK ⟨k, d, g, p, m, t⟩), [])
  | _ => none⟩
@[push_cast] theorem sp_callOK_ps : sp_callOK.ps = [.st .call] := rfl
@[push_cast] theorem sp_callOK_md : sp_callOK.modes = [.rd] := rfl
@[push_cast] theorem sp_callOK_pure : sp_callOK.pure = true := rfl
@[push_cast] theorem sp_callOK_run (k d g : Int) (p : List Int) (m t : Str) : sp_callOK.run [.agg [.int .i64 k, .int .i64 d, .int .i64 g, .dat ⟨.int, p⟩, .str m, .str t]] = some (some (szKall ⟨k, d, g, p, m, t⟩ ≤ 1048576), .bool (callOK ⟨k, d, g, p, m, t⟩), []) := rfl
noncomputable def e_callOK : Env := mk [(116, sp_within), (78, sp_hasName), (62, sp_tagOK), (80, sp_hasText), (76, sp_hasPath), (125, sp_isPath), (79, sp_hasConfig)] [] [] [] none
@[push_cast] theorem e_callOK_in : e_callOK.inl = inlF [] := rfl
@[push_cast] theorem e_callOK_fn : e_callOK.fnd = fndF none := rfl
@[push_cast] theorem e_callOK_gh : e_callOK.gh = ghOf [] := rfl
@[push_cast] theorem e_callOK_dr : e_callOK.dr = drOf [] := rfl
@[push_cast] theorem e_callOK_td : e_callOK.td = td := rfl
@[push_cast] theorem e_callOK_eqt : e_callOK.eqt = eqt := rfl
@[push_cast] theorem e_callOK_cal : e_callOK.cal = calOf [(116, sp_within), (78, sp_hasName), (62, sp_tagOK), (80, sp_hasText), (76, sp_hasPath), (125, sp_isPath), (79, sp_hasConfig)] := rfl
theorem c_callOK : CRow P0 ety0 81 sp_callOK := CRow.of (E := e_callOK) (mkOk (.cons c_within (.cons c_hasName (.cons c_tagOK (.cons c_hasText (.cons c_hasPath (.cons c_isPath (.cons c_hasConfig (.nil))))))))) func81 rfl rfl rfl (by
  intro args p r outs h hq
  simp only [sp_callOK] at h; split at h <;> cases h
  rename_i k d g p m t
  have hz := hq _ rfl
  simp only [szKall] at hz
  refine Body.intro (rs := [.tmp 2]) rfl rfl rfl ?_
  apply vc_run 1000 (stop := false) rfl; simp only [push_cast, reduceIte, Nat.reduceEqDiff, Nat.reduceAdd, Nat.reduceSub, Nat.reduceLT, Int.reduceNeg, Int.reduceLE, Int.reduceLT, Int.reduceToNat, Nat.reduceLeDiff, UInt8.reduceOfNat, UInt8.reduceOfNatLT, and_self, Nat.reduceMul, decide_true, decide_false, Bool.not_true, Bool.not_false, implies_true]
  have e1 : decide ((t.length : Int) ≤ 4096) = decide (t.length ≤ 4096) := len_le (n := 4096)
  simp only [e1, len_0]
  refine ⟨fun h => ?_, fun h => ?_⟩
  · rw [callOK]
    revert h
    generalize within k 1 9 = a1
    generalize within d 0 5 = a2
    cases a1 <;> cases a2 <;> simp
  · have h1 : within k 1 9 = true := by cases h1 : within k 1 9 <;> simp [h1] at h ⊢
    have h2 : within d 0 5 = true := by cases h2 : within d 0 5 <;> simp [h1, h2] at h ⊢
    refine ⟨fun hn => ⟨by omega, fun _ => by omega, ?_⟩, fun hn => ⟨fun _ => by omega, ?_⟩⟩
    · rw [callOK, h1, h2, hn]
      simp only [Bool.cond_true_left, Bool.cond_false_right, cond_true, Bool.true_and]
    · rw [callOK, h1, h2, hn]
      simp only [Bool.cond_true_left, Bool.cond_false_right, cond_false, Bool.true_and])
noncomputable def e_callOK2 : Env := mk [(58, sp_within), (31, sp_tagOK)] [] [] [] none
@[push_cast] theorem e_callOK2_in : e_callOK2.inl = inlF [] := rfl
@[push_cast] theorem e_callOK2_fn : e_callOK2.fnd = fndF none := rfl
@[push_cast] theorem e_callOK2_gh : e_callOK2.gh = ghOf [] := rfl
@[push_cast] theorem e_callOK2_dr : e_callOK2.dr = drOf [] := rfl
@[push_cast] theorem e_callOK2_td : e_callOK2.td = td := rfl
@[push_cast] theorem e_callOK2_eqt : e_callOK2.eqt = eqt := rfl
@[push_cast] theorem e_callOK2_cal : e_callOK2.cal = calOf [(58, sp_within), (31, sp_tagOK)] := rfl
theorem c_callOK2 : CRow P0 ety0 70 sp_callOK := CRow.of (E := e_callOK2) (mkOk (.cons c_within2 (.cons c_tagOK2 (.nil)))) func70 rfl rfl rfl (by
  intro args p r outs h hq
  simp only [sp_callOK] at h; split at h <;> cases h
  rename_i k d g p m t
  have hz := hq _ rfl
  simp only [szKall] at hz
  refine Body.intro (rs := [.tmp 2]) rfl rfl rfl ?_
  apply vc_run 1000 (stop := false) rfl; simp only [push_cast, reduceIte, Nat.reduceEqDiff, Nat.reduceAdd, Nat.reduceSub, Nat.reduceLT, Int.reduceNeg, Int.reduceLE, Int.reduceLT, Int.reduceToNat, Nat.reduceLeDiff, UInt8.reduceOfNat, UInt8.reduceOfNatLT, and_self, Nat.reduceMul, decide_true, decide_false, Bool.not_true, Bool.not_false, implies_true]
  have e1 : decide ((4096 : Int) < (t.length : Nat)) = !decide (t.length ≤ 4096) := len_gt (n := 4096)
  have e2 : decide ((10 : Int) < (p.length : Nat)) = !decide (p.length ≤ 10) := len_gt (n := 10)
  have eC : (bif decide (k = 6) then true else decide (k = 8)) = hasConfig k := by simp only [Bool.cond_true_left]; rfl
  have eT : (bif bif bif decide (k = 3) then true else decide (k = 4) then true else decide (k = 6) then true else decide (k = 7)) = hasText k := by simp only [Bool.cond_true_left]; rfl
  have eN : (bif bif decide (k = 1) then true else decide (k = 2) then true else decide (k = 4)) = hasName k := by simp only [Bool.cond_true_left]; rfl
  have eP : (bif bif bif decide (k = 2) then true else decide (k = 3) then true else decide (k = 4) then true else decide (k = 5)) = hasPath k := by
    have : ∀ b, (b = hasPath k) ↔ (b = true ↔ 2 ≤ k ∧ k ≤ 5) := fun b => by cases b <;> simp [hasPath, within]
    rw [this]
    simp only [Bool.cond_true_left, Bool.or_eq_true, decide_eq_true_eq]
    omega
  simp only [e1, e2, eC, eT, eP, eN, len_p]
  rw [callOK_alt]
  simp only
  refine ⟨fun h => ?_, fun h0 => ⟨fun h => ?_, fun h => ?_⟩⟩
  · revert h
    generalize within k 1 9 = a1
    generalize within d 0 5 = a2
    generalize decide (p.length ≤ 10) = a3
    generalize decide (t.length ≤ 4096) = a4
    cases a1 <;> cases a2 <;> cases a3 <;> cases a4 <;> simp
  · revert h
    generalize hasConfig k = b1
    generalize hasPath k = b2
    generalize hasText k = b3
    generalize decide (g = 0) = a1
    generalize within g 0 3 = a2
    generalize decide (p = []) = a3
    generalize decide (t = []) = a4
    cases b1 <;> cases b2 <;> cases b3 <;> cases a1 <;> cases a2 <;> cases a3 <;> cases a4 <;> simp
  have hA : (within k 1 9 && within d 0 5 && decide (p.length ≤ 10) && decide (t.length ≤ 4096)) = true := by
    revert h0
    generalize within k 1 9 = a1
    generalize within d 0 5 = a2
    generalize decide (p.length ≤ 10) = a3
    generalize decide (t.length ≤ 4096) = a4
    cases a1 <;> cases a2 <;> cases a3 <;> cases a4 <;> simp
  have hB : ((bif hasConfig k then within g 0 3 else decide (g = 0)) && (hasPath k || decide (p = [])) && (hasText k || decide (t = []))) = true := by
    revert h
    generalize hasConfig k = b1
    generalize hasPath k = b2
    generalize hasText k = b3
    generalize decide (g = 0) = a1
    generalize within g 0 3 = a2
    generalize decide (p = []) = a3
    generalize decide (t = []) = a4
    cases b1 <;> cases b2 <;> cases b3 <;> cases a1 <;> cases a2 <;> cases a3 <;> cases a4 <;> simp
  have hres : ∀ x y : Bool, (within k 1 9 && within d 0 5 && decide (p.length ≤ 10) && decide (t.length ≤ 4096) && (bif hasConfig k then within g 0 3 else decide (g = 0)) && (hasPath k || decide (p = [])) && (hasText k || decide (t = [])) && x && y) = (x && y) := by
    intro x y
    rw [hA]
    revert hB
    generalize (bif hasConfig k then within g 0 3 else decide (g = 0)) = a1
    generalize (hasPath k || decide (p = [])) = a2
    generalize (hasText k || decide (t = [])) = a3
    cases a1 <;> cases a2 <;> cases a3 <;> simp
  simp only [hres]
  clear h h0
  refine Run.loop [7] [1, 5] [0] rfl (fun n vs bs => ∃ j : Nat, vs = [.int .i64 j] ∧ bs = [[.int .i64 k, .int .i64 d, .int .i64 g, .dat ⟨.int, p⟩, .str m, .str t]] ∧ j ≤ p.length ∧ (∀ i < j, (!inPath (p.getD i 0)) = false) ∧ n = p.length - j) p.length ?_ ?_
  · simp only [push_cast, reduceIte, Nat.reduceEqDiff, Nat.reduceAdd, Nat.reduceSub, Nat.reduceLT, Int.reduceNeg, Int.reduceLE, Int.reduceLT, Int.reduceToNat, Nat.reduceLeDiff, UInt8.reduceOfNat, UInt8.reduceOfNatLT, and_self, Nat.reduceMul, decide_true, decide_false, Bool.not_true, Bool.not_false, implies_true]
    exact ⟨0, rfl, by omega, by simp, by omega⟩
  rintro n vs bs ⟨j, rfl, rfl, hk, hb, rfl⟩
  simp only [push_cast, reduceIte, Nat.reduceEqDiff, Nat.reduceAdd, Nat.reduceSub, Nat.reduceLT, Int.reduceNeg, Int.reduceLE, Int.reduceLT, Int.reduceToNat, Nat.reduceLeDiff, UInt8.reduceOfNat, UInt8.reduceOfNatLT, and_self, Nat.reduceMul, decide_true, decide_false, Bool.not_true, Bool.not_false, implies_true]
  apply vc_run 1000 (stop := false) rfl; simp only [push_cast, reduceIte, Nat.reduceEqDiff, Nat.reduceAdd, Nat.reduceSub, Nat.reduceLT, Int.reduceNeg, Int.reduceLE, Int.reduceLT, Int.reduceToNat, Nat.reduceLeDiff, UInt8.reduceOfNat, UInt8.reduceOfNatLT, and_self, Nat.reduceMul, decide_true, decide_false, Bool.not_true, Bool.not_false, implies_true]
  refine ⟨fun hlt => ?_, fun hge => ?_⟩
  · have hlt : j < p.length := Int.ofNat_lt.1 (of_decide_eq_true hlt)
    simp only [gd_nat]
    refine ⟨by omega, fun hy => ?_, fun hn => ⟨by constructor <;> omega, _, by omega, j + 1, rfl, by omega, below_step hb hn, rfl⟩⟩
    have : p.all inPath = false := by
      rw [List.all_eq_false]
      have e : p.getD j 0 = p[j] := by simp [List.getD, hlt]
      exact ⟨p[j], List.getElem_mem hlt, by rw [← e]; simpa using hy⟩
    rw [this, Bool.false_and]
  · have hge : j = p.length := by have := of_decide_eq_false hge; omega
    subst hge
    have : p.all inPath = true := by
      rw [List.all_eq_true]
      intro x hx
      obtain ⟨i, hi, rfl⟩ := List.getElem_of_mem hx
      have := hb i hi
      have e : p.getD i 0 = p[i] := by simp [List.getD, hi]
      rw [e] at this
      simpa using this
    rw [this, Bool.true_and]
    refine ⟨fun _ => by omega, ?_⟩
    cases hasName k <;> cases tagOK m <;> rfl)
theorem pathText_le {l : List Int} (h : isPath l = true) : (pathText l).length ≤ 30 := by
  unfold pathText
  split
  · simp
  · have := digits_le h l.length
    rwa [List.take_length] at this
def callWordS : List Str := [[], [99, 114, 101, 97, 116, 101], [101, 108, 101, 109, 101, 110, 116], [119, 111, 114, 100, 115], [97, 116, 116, 114], [114, 101, 109, 111, 118, 101], [115, 101, 116], [117, 110, 115, 97, 102, 101], [115, 97, 110, 105, 116, 105, 122, 101], [103, 101, 116]]
def callWordT : List Str := [[99, 114, 101, 97, 116, 101], [101, 108, 101, 109, 101, 110, 116], [119, 111, 114, 100, 115], [97, 116, 116, 114], [114, 101, 109, 111, 118, 101], [115, 101, 116], [117, 110, 115, 97, 102, 101], [115, 97, 110, 105, 116, 105, 122, 101], [103, 101, 116]]
noncomputable def sp_callWords : Spec := ⟨[], [], false, fun
  | [] => some (none, .own true ⟨.str, [[], [99, 114, 101, 97, 116, 101], [101, 108, 101, 109, 101, 110, 116], [119, 111, 114, 100, 115], [97, 116, 116, 114], [114, 101, 109, 111, 118, 101], [115, 101, 116], [117, 110, 115, 97, 102, 101], [115, 97, 110, 105, 116, 105, 122, 101], [103, 101, 116]]⟩, [])
  | _ => none⟩
@[push_cast] theorem sp_callWords_ps : sp_callWords.ps = [] := rfl
@[push_cast] theorem sp_callWords_md : sp_callWords.modes = [] := rfl
@[push_cast] theorem sp_callWords_pure : sp_callWords.pure = false := rfl
@[push_cast] theorem sp_callWords_run : sp_callWords.run [] = some (none, .own true ⟨.str, [[], [99, 114, 101, 97, 116, 101], [101, 108, 101, 109, 101, 110, 116], [119, 111, 114, 100, 115], [97, 116, 116, 114], [114, 101, 109, 111, 118, 101], [115, 101, 116], [117, 110, 115, 97, 102, 101], [115, 97, 110, 105, 116, 105, 122, 101], [103, 101, 116]]⟩, []) := rfl
noncomputable def e_callWords : Env := mk [] [] [] [] none
@[push_cast] theorem e_callWords_in : e_callWords.inl = inlF [] := rfl
@[push_cast] theorem e_callWords_fn : e_callWords.fnd = fndF none := rfl
@[push_cast] theorem e_callWords_gh : e_callWords.gh = ghOf [] := rfl
@[push_cast] theorem e_callWords_dr : e_callWords.dr = drOf [] := rfl
@[push_cast] theorem e_callWords_td : e_callWords.td = td := rfl
@[push_cast] theorem e_callWords_eqt : e_callWords.eqt = eqt := rfl
@[push_cast] theorem e_callWords_cal : e_callWords.cal = calOf [] := rfl
theorem c_callWords : CRow P0 ety0 73 sp_callWords := CRow.of (E := e_callWords) (mkOk (.nil)) func73 rfl rfl rfl (by
  intro args p r outs h hq
  simp only [sp_callWords] at h; split at h <;> cases h
  refine Body.intro (rs := [.tmp 0]) rfl rfl rfl ?_
  apply vc_run 1000 (stop := false) rfl; simp only [push_cast, reduceIte, Nat.reduceEqDiff, Nat.reduceAdd, Nat.reduceSub, Nat.reduceLT, Int.reduceNeg, Int.reduceLE, Int.reduceLT, Int.reduceToNat, Nat.reduceLeDiff, UInt8.reduceOfNat, UInt8.reduceOfNatLT, and_self, Nat.reduceMul, decide_true, decide_false, Bool.not_true, Bool.not_false, implies_true])
noncomputable def sp_callWords2 : Spec := ⟨[], [], false, fun
  | [] => some (none, .own true ⟨.str, [[99, 114, 101, 97, 116, 101], [101, 108, 101, 109, 101, 110, 116], [119, 111, 114, 100, 115], [97, 116, 116, 114], [114, 101, 109, 111, 118, 101], [115, 101, 116], [117, 110, 115, 97, 102, 101], [115, 97, 110, 105, 116, 105, 122, 101], [103, 101, 116]]⟩, [])
  | _ => none⟩
@[push_cast] theorem sp_callWords2_ps : sp_callWords2.ps = [] := rfl
@[push_cast] theorem sp_callWords2_md : sp_callWords2.modes = [] := rfl
@[push_cast] theorem sp_callWords2_pure : sp_callWords2.pure = false := rfl
@[push_cast] theorem sp_callWords2_run : sp_callWords2.run [] = some (none, .own true ⟨.str, [[99, 114, 101, 97, 116, 101], [101, 108, 101, 109, 101, 110, 116], [119, 111, 114, 100, 115], [97, 116, 116, 114], [114, 101, 109, 111, 118, 101], [115, 101, 116], [117, 110, 115, 97, 102, 101], [115, 97, 110, 105, 116, 105, 122, 101], [103, 101, 116]]⟩, []) := rfl
noncomputable def e_callWords2 : Env := mk [] [] [] [] none
@[push_cast] theorem e_callWords2_in : e_callWords2.inl = inlF [] := rfl
@[push_cast] theorem e_callWords2_fn : e_callWords2.fnd = fndF none := rfl
@[push_cast] theorem e_callWords2_gh : e_callWords2.gh = ghOf [] := rfl
@[push_cast] theorem e_callWords2_dr : e_callWords2.dr = drOf [] := rfl
@[push_cast] theorem e_callWords2_td : e_callWords2.td = td := rfl
@[push_cast] theorem e_callWords2_eqt : e_callWords2.eqt = eqt := rfl
@[push_cast] theorem e_callWords2_cal : e_callWords2.cal = calOf [] := rfl
theorem c_callWords2 : CRow P0 ety0 65 sp_callWords2 := CRow.of (E := e_callWords2) (mkOk (.nil)) func65 rfl rfl rfl (by
  intro args p r outs h hq
  simp only [sp_callWords2] at h; split at h <;> cases h
  refine Body.intro (rs := [.tmp 0]) rfl rfl rfl ?_
  apply vc_run 1000 (stop := false) rfl; simp only [push_cast, reduceIte, Nat.reduceEqDiff, Nat.reduceAdd, Nat.reduceSub, Nat.reduceLT, Int.reduceNeg, Int.reduceLE, Int.reduceLT, Int.reduceToNat, Nat.reduceLeDiff, UInt8.reduceOfNat, UInt8.reduceOfNatLT, and_self, Nat.reduceMul, decide_true, decide_false, Bool.not_true, Bool.not_false, implies_true])
def callText (c : Kall) : Str := gd callWordS [] c.kind ++ 32 :: dg c.doc ++ pt (hasPath c.kind) (pathText c.path) ++ pt (hasName c.kind) c.name ++ pt (hasConfig c.kind) (dg c.config) ++ pt (hasText c.kind) c.text
noncomputable def sp_callText : Spec := ⟨[.st .call], [.rd], true, fun
  | [.agg [.int .i64 k, .int .i64 d, .int .i64 g, .dat ⟨.int, p⟩, .str m, .str t]] => some (some (szKall ⟨k, d, g, p, m, t⟩ ≤ 1048576 ∧ callOK ⟨k, d, g, p, m, t⟩ = true), .str (callText ⟨k, d, g, p, m, t⟩), [])
  | _ => none⟩
@[push_cast] theorem sp_callText_ps : sp_callText.ps = [.st .call] := rfl
@[push_cast] theorem sp_callText_md : sp_callText.modes = [.rd] := rfl
@[push_cast] theorem sp_callText_pure : sp_callText.pure = true := rfl
@[push_cast] theorem sp_callText_run (k d g : Int) (p : List Int) (m t : Str) : sp_callText.run [.agg [.int .i64 k, .int .i64 d, .int .i64 g, .dat ⟨.int, p⟩, .str m, .str t]] = some (some (szKall ⟨k, d, g, p, m, t⟩ ≤ 1048576 ∧ callOK ⟨k, d, g, p, m, t⟩ = true), .str (callText ⟨k, d, g, p, m, t⟩), []) := rfl
noncomputable def e_callText : Env := mk [(73, sp_callWords), (122, sp_itoa), (76, sp_hasPath), (126, sp_pathText), (78, sp_hasName), (79, sp_hasConfig), (80, sp_hasText)] [(1, [0], [[], [0], [0], [], [], [], [0], [0]])] [] [] none
@[push_cast] theorem e_callText_in : e_callText.inl = inlF [] := rfl
@[push_cast] theorem e_callText_fn : e_callText.fnd = fndF none := rfl
@[push_cast] theorem e_callText_gh : e_callText.gh = ghOf [] := rfl
@[push_cast] theorem e_callText_dr : e_callText.dr = drOf [(1, [0], [[], [0], [0], [], [], [], [0], [0]])] := rfl
@[push_cast] theorem e_callText_td : e_callText.td = td := rfl
@[push_cast] theorem e_callText_eqt : e_callText.eqt = eqt := rfl
@[push_cast] theorem e_callText_cal : e_callText.cal = calOf [(73, sp_callWords), (122, sp_itoa), (76, sp_hasPath), (126, sp_pathText), (78, sp_hasName), (79, sp_hasConfig), (80, sp_hasText)] := rfl
theorem c_callText : CRow P0 ety0 82 sp_callText := CRow.of (E := e_callText) (mkOk (.cons c_callWords (.cons c_itoa (.cons c_hasPath (.cons c_pathText (.cons c_hasName (.cons c_hasConfig (.cons c_hasText (.nil))))))))) func82 rfl rfl rfl (by
  intro args p r outs h hq
  simp only [sp_callText] at h; split at h <;> cases h
  rename_i k d g p m t
  obtain ⟨hz, hc⟩ := hq _ rfl
  simp only [szKall] at hz
  obtain ⟨⟨k1, k2⟩, ⟨d1, d2⟩, fn, fn0, ft, fp, fp0, fg⟩ := call_facts hc
  have hd := dg_len d (by omega)
  have hp := pathText_le fp
  have hk : k = 1 ∨ k = 2 ∨ k = 3 ∨ k = 4 ∨ k = 5 ∨ k = 6 ∨ k = 7 ∨ k = 8 ∨ k = 9 := by omega
  refine Body.intro (rs := [.tmp 2]) rfl rfl rfl ?_
  apply vc_run 1000 (stop := false) rfl; simp only [push_cast, reduceIte, Nat.reduceEqDiff, Nat.reduceAdd, Nat.reduceSub, Nat.reduceLT, Int.reduceNeg, Int.reduceLE, Int.reduceLT, Int.reduceToNat, Nat.reduceLeDiff, UInt8.reduceOfNat, UInt8.reduceOfNatLT, and_self, Nat.reduceMul, decide_true, decide_false, Bool.not_true, Bool.not_false, implies_true]
  clear hq hc
  rcases hk with rfl | rfl | rfl | rfl | rfl | rfl | rfl | rfl | rfl
  all_goals
    (try (obtain rfl := fn0 rfl)); (try (obtain rfl := ft rfl)); (try (obtain rfl := fp0 rfl)); (try (have fg := fg rfl)); (try (have fn := fn rfl)); (try (have hg := dg_len g (by omega)))
    simp [show hasConfig 1 = false from rfl, show hasConfig 2 = false from rfl, show hasConfig 3 = false from rfl, show hasConfig 4 = false from rfl, show hasConfig 5 = false from rfl, show hasConfig 6 = true from rfl, show hasConfig 7 = false from rfl, show hasConfig 8 = true from rfl, show hasConfig 9 = false from rfl, show hasName 1 = true from rfl, show hasName 2 = true from rfl, show hasName 3 = false from rfl, show hasName 4 = true from rfl, show hasName 5 = false from rfl, show hasName 6 = false from rfl, show hasName 7 = false from rfl, show hasName 8 = false from rfl, show hasName 9 = false from rfl, show hasText 1 = false from rfl, show hasText 2 = false from rfl, show hasText 3 = true from rfl, show hasText 4 = true from rfl, show hasText 5 = false from rfl, show hasText 6 = true from rfl, show hasText 7 = true from rfl, show hasText 8 = false from rfl, show hasText 9 = false from rfl, show hasPath 1 = false from rfl, show hasPath 2 = true from rfl, show hasPath 3 = true from rfl, show hasPath 4 = true from rfl, show hasPath 5 = true from rfl, show hasPath 6 = false from rfl, show hasPath 7 = false from rfl, show hasPath 8 = false from rfl, show hasPath 9 = false from rfl, callText, pt, gd, callWordS, fn]
  all_goals repeat' apply And.intro
  all_goals first | omega | trace_state)
def partN : List Int := [3, 4, 3, 4, 3, 3, 2, 3, 2]
noncomputable def sp_parts : Spec := ⟨[.sc], [.rd], true, fun
  | [.int .i64 k] => some (some (1 ≤ k ∧ k ≤ 9), .tup [.int .i64 (gd partN 0 (k - 1)), .bool (hasText k)], [])
  | _ => none⟩
@[push_cast] theorem sp_parts_ps : sp_parts.ps = [.sc] := rfl
@[push_cast] theorem sp_parts_md : sp_parts.modes = [.rd] := rfl
@[push_cast] theorem sp_parts_pure : sp_parts.pure = true := rfl
@[push_cast] theorem sp_parts_run (k : Int) : sp_parts.run [.int .i64 k] = some (some (1 ≤ k ∧ k ≤ 9), .tup [.int .i64 (gd partN 0 (k - 1)), .bool (hasText k)], []) := rfl
noncomputable def e_parts : Env := mk [] [] [] [] none
@[push_cast] theorem e_parts_in : e_parts.inl = inlF [] := rfl
@[push_cast] theorem e_parts_fn : e_parts.fnd = fndF none := rfl
@[push_cast] theorem e_parts_gh : e_parts.gh = ghOf [] := rfl
@[push_cast] theorem e_parts_dr : e_parts.dr = drOf [] := rfl
@[push_cast] theorem e_parts_td : e_parts.td = td := rfl
@[push_cast] theorem e_parts_eqt : e_parts.eqt = eqt := rfl
@[push_cast] theorem e_parts_cal : e_parts.cal = calOf [] := rfl
theorem c_parts : CRow P0 ety0 66 sp_parts := CRow.of (E := e_parts) (mkOk (.nil)) func66 rfl rfl rfl (by
  intro args p r outs h hq
  simp only [sp_parts] at h; split at h <;> cases h
  rename_i k
  obtain ⟨h0, h1⟩ := hq _ rfl
  refine Body.intro (rs := [.tmp 2, .tmp 3]) rfl rfl rfl ?_
  apply vc_run 1000 (stop := false) rfl; simp only [push_cast, reduceIte, Nat.reduceEqDiff, Nat.reduceAdd, Nat.reduceSub, Nat.reduceLT, Int.reduceNeg, Int.reduceLE, Int.reduceLT, Int.reduceToNat, Nat.reduceLeDiff, UInt8.reduceOfNat, UInt8.reduceOfNatLT, and_self, Nat.reduceMul, decide_true, decide_false, Bool.not_true, Bool.not_false, implies_true]
  refine ⟨by constructor <;> omega, by omega, ?_⟩
  simp only [Bool.cond_true_left]
  rfl)
def CallText (c : Kall) : Str × Int := if callOK c then (callText c, 0) else ([], 1)
noncomputable def sp_CallText : Spec := ⟨[.st .call], [.rd], true, fun
  | [.agg [.int .i64 k, .int .i64 d, .int .i64 g, .dat ⟨.int, p⟩, .str m, .str t]] => some (some (szKall ⟨k, d, g, p, m, t⟩ ≤ 1048576), .tup [.str (CallText ⟨k, d, g, p, m, t⟩).1, .int .i64 (CallText ⟨k, d, g, p, m, t⟩).2], [])
  | _ => none⟩
@[push_cast] theorem sp_CallText_ps : sp_CallText.ps = [.st .call] := rfl
@[push_cast] theorem sp_CallText_md : sp_CallText.modes = [.rd] := rfl
@[push_cast] theorem sp_CallText_pure : sp_CallText.pure = true := rfl
@[push_cast] theorem sp_CallText_run (k d g : Int) (p : List Int) (m t : Str) : sp_CallText.run [.agg [.int .i64 k, .int .i64 d, .int .i64 g, .dat ⟨.int, p⟩, .str m, .str t]] = some (some (szKall ⟨k, d, g, p, m, t⟩ ≤ 1048576), .tup [.str (CallText ⟨k, d, g, p, m, t⟩).1, .int .i64 (CallText ⟨k, d, g, p, m, t⟩).2], []) := rfl
noncomputable def sp_szIntS : Spec := ⟨[.sl .int, .sc], [.rd, .rd], true, fun
  | [.dat ⟨.int, l⟩, .int .i64 n] => some (some (0 ≤ n ∧ n ≤ 1048576 ∧ l.length ≤ 9223372036854775807), .int .i64 (szR l.length n), [])
  | _ => none⟩
@[push_cast] theorem sp_szIntS_ps : sp_szIntS.ps = [.sl .int, .sc] := rfl
@[push_cast] theorem sp_szIntS_md : sp_szIntS.modes = [.rd, .rd] := rfl
@[push_cast] theorem sp_szIntS_pure : sp_szIntS.pure = true := rfl
@[push_cast] theorem sp_szIntS_run (l : List Int) (n : Int) : sp_szIntS.run [.dat ⟨.int, l⟩, .int .i64 n] = some (some (0 ≤ n ∧ n ≤ 1048576 ∧ l.length ≤ 9223372036854775807), .int .i64 (szR l.length n), []) := rfl
noncomputable def sp_szCall : Spec := ⟨[.st .call, .sc], [.rd, .rd], true, fun
  | [.agg [.int .i64 k, .int .i64 d, .int .i64 g, .dat ⟨.int, p⟩, .str m, .str t], .int .i64 n] => some (some (0 ≤ n ∧ n ≤ 1048576 ∧ p.length ≤ 9223372036854775807 ∧ m.length ≤ 9223372036854775807 ∧ t.length ≤ 9223372036854775807), .int .i64 (szR (szKall ⟨k, d, g, p, m, t⟩) n), [])
  | _ => none⟩
@[push_cast] theorem sp_szCall_ps : sp_szCall.ps = [.st .call, .sc] := rfl
@[push_cast] theorem sp_szCall_md : sp_szCall.modes = [.rd, .rd] := rfl
@[push_cast] theorem sp_szCall_pure : sp_szCall.pure = true := rfl
@[push_cast] theorem sp_szCall_run (k d g : Int) (p : List Int) (m t : Str) (n : Int) : sp_szCall.run [.agg [.int .i64 k, .int .i64 d, .int .i64 g, .dat ⟨.int, p⟩, .str m, .str t], .int .i64 n] = some (some (0 ≤ n ∧ n ≤ 1048576 ∧ p.length ≤ 9223372036854775807 ∧ m.length ≤ 9223372036854775807 ∧ t.length ≤ 9223372036854775807), .int .i64 (szR (szKall ⟨k, d, g, p, m, t⟩) n), []) := rfl
noncomputable def sp_toCall : Spec := ⟨[.st .call], [.rd], false, fun
  | [.agg [.int .i64 k, .int .i64 d, .int .i64 g, .dat ⟨.int, p⟩, .str m, .str t]] => some (some (p.length ≤ 1048576), .agg [.int .i64 k, .int .i64 d, .int .i64 g, .own true ⟨.int, p⟩, .str m, .str t], [])
  | _ => none⟩
@[push_cast] theorem sp_toCall_ps : sp_toCall.ps = [.st .call] := rfl
@[push_cast] theorem sp_toCall_md : sp_toCall.modes = [.rd] := rfl
@[push_cast] theorem sp_toCall_pure : sp_toCall.pure = false := rfl
@[push_cast] theorem sp_toCall_run (k d g : Int) (p : List Int) (m t : Str) : sp_toCall.run [.agg [.int .i64 k, .int .i64 d, .int .i64 g, .dat ⟨.int, p⟩, .str m, .str t]] = some (some (p.length ≤ 1048576), .agg [.int .i64 k, .int .i64 d, .int .i64 g, .own true ⟨.int, p⟩, .str m, .str t], []) := rfl
noncomputable def sp_eqCall : Spec := ⟨[.st .call, .st .call], [.rd, .rd], true, fun
  | [.agg [.int .i64 k, .int .i64 d, .int .i64 g, .dat ⟨.int, p⟩, .str m, .str t], .agg [.int .i64 k2, .int .i64 d2, .int .i64 g2, .dat ⟨.int, p2⟩, .str m2, .str t2]] => some (some (p.length ≤ 1048576), .bool (eqB (⟨k, d, g, p, m, t⟩ : Kall) ⟨k2, d2, g2, p2, m2, t2⟩), [])
  | _ => none⟩
@[push_cast] theorem sp_eqCall_ps : sp_eqCall.ps = [.st .call, .st .call] := rfl
@[push_cast] theorem sp_eqCall_md : sp_eqCall.modes = [.rd, .rd] := rfl
@[push_cast] theorem sp_eqCall_pure : sp_eqCall.pure = true := rfl
@[push_cast] theorem sp_eqCall_run (k d g k2 d2 g2 : Int) (p p2 : List Int) (m t m2 t2 : Str) : sp_eqCall.run [.agg [.int .i64 k, .int .i64 d, .int .i64 g, .dat ⟨.int, p⟩, .str m, .str t], .agg [.int .i64 k2, .int .i64 d2, .int .i64 g2, .dat ⟨.int, p2⟩, .str m2, .str t2]] = some (some (p.length ≤ 1048576), .bool (eqB (⟨k, d, g, p, m, t⟩ : Kall) ⟨k2, d2, g2, p2, m2, t2⟩), []) := rfl
noncomputable def e_eqCall : Env := mk [(36, sp_eqIntS)] [] [] [] none
@[push_cast] theorem e_eqCall_in : e_eqCall.inl = inlF [] := rfl
@[push_cast] theorem e_eqCall_fn : e_eqCall.fnd = fndF none := rfl
@[push_cast] theorem e_eqCall_gh : e_eqCall.gh = ghOf [] := rfl
@[push_cast] theorem e_eqCall_dr : e_eqCall.dr = drOf [] := rfl
@[push_cast] theorem e_eqCall_td : e_eqCall.td = td := rfl
@[push_cast] theorem e_eqCall_eqt : e_eqCall.eqt = eqt := rfl
@[push_cast] theorem e_eqCall_cal : e_eqCall.cal = calOf [(36, sp_eqIntS)] := rfl
theorem c_eqCall : CRow P0 ety0 16 sp_eqCall := CRow.of (E := e_eqCall) (mkOk (.cons c_eqIntS (.nil))) func16 rfl rfl rfl (by
  intro args p r outs h hq
  simp only [sp_eqCall] at h; split at h <;> cases h
  rename_i k d g p m t k2 d2 g2 p2 m2 t2
  have hz := hq _ rfl
  refine Body.intro (rs := [.tmp 4]) rfl rfl rfl ?_
  apply vc_run 1000 (stop := false) rfl; simp only [push_cast, reduceIte, Nat.reduceEqDiff, Nat.reduceAdd, Nat.reduceSub, Nat.reduceLT, Int.reduceNeg, Int.reduceLE, Int.reduceLT, Int.reduceToNat, Nat.reduceLeDiff, UInt8.reduceOfNat, UInt8.reduceOfNatLT, and_self, Nat.reduceMul, decide_true, decide_false, Bool.not_true, Bool.not_false, implies_true]
  rw [sz0]
  refine ⟨fun h => ?_, fun h1 => ⟨fun h => ?_, fun h2 => ⟨fun h => ?_, fun h3 => ⟨hz, fun h => ?_, fun h4 => ⟨fun h => ?_, fun h5 => ⟨fun h => ?_, fun h6 => ?_⟩⟩⟩⟩⟩⟩
  · rw [eqB_ne]; intro e; cases e; simp at h
  · rw [eqB_ne]; intro e; cases e; simp at h
  · rw [eqB_ne]; intro e; cases e; simp at h
  · rw [eqB_ne]; intro e; cases e; exact eqB_yes h rfl
  · rw [eqB_ne]; intro e; cases e; simp at h
  · rw [eqB_ne]; intro e; cases e; simp at h
  · simp at h1 h2 h3 h5 h6
    rw [h1, h2, h3, eqB_not h4, h5, h6, eqB_of rfl])
noncomputable def sp_lawCallText : Spec := ⟨[.st .call], [.rd], true, fun
  | [.agg [.int .i64 k, .int .i64 d, .int .i64 g, .dat ⟨.int, p⟩, .str m, .str t]] => some (some (p.length ≤ 9223372036854775807 ∧ m.length ≤ 9223372036854775807 ∧ t.length ≤ 9223372036854775807), .bool true, [])
  | _ => none⟩
@[push_cast] theorem sp_lawCallText_ps : sp_lawCallText.ps = [.st .call] := rfl
@[push_cast] theorem sp_lawCallText_md : sp_lawCallText.modes = [.rd] := rfl
@[push_cast] theorem sp_lawCallText_pure : sp_lawCallText.pure = true := rfl
@[push_cast] theorem sp_lawCallText_run (k d g : Int) (p : List Int) (m t : Str) : sp_lawCallText.run [.agg [.int .i64 k, .int .i64 d, .int .i64 g, .dat ⟨.int, p⟩, .str m, .str t]] = some (some (p.length ≤ 9223372036854775807 ∧ m.length ≤ 9223372036854775807 ∧ t.length ≤ 9223372036854775807), .bool true, []) := rfl
end Go.Ab
