/- Names, rules, configurations: whether they are right. -/
import Derived.Test.YtnnbjffppfagkaaGreatFnC
set_option linter.all false
set_option linter.unusedSimpArgs false
set_option linter.unusedVariables false
set_option linter.unusedSectionVars false
set_option maxRecDepth 20000
set_option maxHeartbeats 1000000
namespace Go.Ab
open Go Go.Proofs.Tryz
def rngB (c a b : UInt8) : Bool := bif decide (a ≤ c) then decide (c ≤ b) else false
abbrev smallB (c : UInt8) : Bool := rngB c 97 122
abbrev digitB (c : UInt8) : Bool := rngB c 48 57
noncomputable def sp_isSmall : Spec := ⟨[.sc], [.rd], true, fun
  | [.u8 c] => some (none, .bool (smallB c), [])
  | _ => none⟩
@[push_cast] theorem sp_isSmall_ps : sp_isSmall.ps = [.sc] := rfl
@[push_cast] theorem sp_isSmall_md : sp_isSmall.modes = [.rd] := rfl
@[push_cast] theorem sp_isSmall_pure : sp_isSmall.pure = true := rfl
@[push_cast] theorem sp_isSmall_run (c : UInt8) : sp_isSmall.run [.u8 c] = some (none, .bool (smallB c), []) := rfl
noncomputable def e_isSmall : Env := mk [] [] [] [] none
@[push_cast] theorem e_isSmall_in : e_isSmall.inl = inlF [] := rfl
@[push_cast] theorem e_isSmall_fn : e_isSmall.fnd = fndF none := rfl
@[push_cast] theorem e_isSmall_gh : e_isSmall.gh = ghOf [] := rfl
@[push_cast] theorem e_isSmall_dr : e_isSmall.dr = drOf [] := rfl
@[push_cast] theorem e_isSmall_td : e_isSmall.td = td := rfl
@[push_cast] theorem e_isSmall_eqt : e_isSmall.eqt = eqt := rfl
@[push_cast] theorem e_isSmall_cal : e_isSmall.cal = calOf [] := rfl
theorem c_isSmall : CRow P0 ety0 154 sp_isSmall := CRow.of (E := e_isSmall) (mkOk (.nil)) func154 rfl rfl rfl (by
  intro args p r outs h hq
  simp only [sp_isSmall] at h; split at h <;> cases h
  refine Body.intro (rs := [.tmp 2]) rfl rfl rfl ?_
  apply vc_run 1000 (stop := false) rfl; simp only [push_cast, reduceIte, Nat.reduceEqDiff, Nat.reduceAdd, Nat.reduceSub, Nat.reduceLT, Int.reduceNeg, Int.reduceLE, Int.reduceLT, Int.reduceToNat, Nat.reduceLeDiff, UInt8.reduceOfNat, UInt8.reduceOfNatLT, and_self, Nat.reduceMul, decide_true, decide_false, Bool.not_true, Bool.not_false, implies_true]
  rfl)
noncomputable def sp_isDigit : Spec := ⟨[.sc], [.rd], true, fun
  | [.u8 c] => some (none, .bool (digitB c), [])
  | _ => none⟩
@[push_cast] theorem sp_isDigit_ps : sp_isDigit.ps = [.sc] := rfl
@[push_cast] theorem sp_isDigit_md : sp_isDigit.modes = [.rd] := rfl
@[push_cast] theorem sp_isDigit_pure : sp_isDigit.pure = true := rfl
@[push_cast] theorem sp_isDigit_run (c : UInt8) : sp_isDigit.run [.u8 c] = some (none, .bool (digitB c), []) := rfl
noncomputable def e_isDigit : Env := mk [] [] [] [] none
@[push_cast] theorem e_isDigit_in : e_isDigit.inl = inlF [] := rfl
@[push_cast] theorem e_isDigit_fn : e_isDigit.fnd = fndF none := rfl
@[push_cast] theorem e_isDigit_gh : e_isDigit.gh = ghOf [] := rfl
@[push_cast] theorem e_isDigit_dr : e_isDigit.dr = drOf [] := rfl
@[push_cast] theorem e_isDigit_td : e_isDigit.td = td := rfl
@[push_cast] theorem e_isDigit_eqt : e_isDigit.eqt = eqt := rfl
@[push_cast] theorem e_isDigit_cal : e_isDigit.cal = calOf [] := rfl
theorem c_isDigit : CRow P0 ety0 155 sp_isDigit := CRow.of (E := e_isDigit) (mkOk (.nil)) func155 rfl rfl rfl (by
  intro args p r outs h hq
  simp only [sp_isDigit] at h; split at h <;> cases h
  refine Body.intro (rs := [.tmp 2]) rfl rfl rfl ?_
  apply vc_run 1000 (stop := false) rfl; simp only [push_cast, reduceIte, Nat.reduceEqDiff, Nat.reduceAdd, Nat.reduceSub, Nat.reduceLT, Int.reduceNeg, Int.reduceLE, Int.reduceLT, Int.reduceToNat, Nat.reduceLeDiff, UInt8.reduceOfNat, UInt8.reduceOfNatLT, and_self, Nat.reduceMul, decide_true, decide_false, Bool.not_true, Bool.not_false, implies_true]
  rfl)
noncomputable def e_isDigit2 : Env := mk [] [] [] [] none
@[push_cast] theorem e_isDigit2_in : e_isDigit2.inl = inlF [] := rfl
@[push_cast] theorem e_isDigit2_fn : e_isDigit2.fnd = fndF none := rfl
@[push_cast] theorem e_isDigit2_gh : e_isDigit2.gh = ghOf [] := rfl
@[push_cast] theorem e_isDigit2_dr : e_isDigit2.dr = drOf [] := rfl
@[push_cast] theorem e_isDigit2_td : e_isDigit2.td = td := rfl
@[push_cast] theorem e_isDigit2_eqt : e_isDigit2.eqt = eqt := rfl
@[push_cast] theorem e_isDigit2_cal : e_isDigit2.cal = calOf [] := rfl
theorem c_isDigit2 : CRow P0 ety0 146 sp_isDigit := CRow.of (E := e_isDigit2) (mkOk (.nil)) func146 rfl rfl rfl (by
  intro args p r outs h hq
  simp only [sp_isDigit] at h; split at h <;> cases h
  refine Body.intro (rs := [.tmp 2]) rfl rfl rfl ?_
  apply vc_run 1000 (stop := false) rfl; simp only [push_cast, reduceIte, Nat.reduceEqDiff, Nat.reduceAdd, Nat.reduceSub, Nat.reduceLT, Int.reduceNeg, Int.reduceLE, Int.reduceLT, Int.reduceToNat, Nat.reduceLeDiff, UInt8.reduceOfNat, UInt8.reduceOfNatLT, and_self, Nat.reduceMul, decide_true, decide_false, Bool.not_true, Bool.not_false, implies_true]
  rfl)
/-- A byte of a tag's name at a place. -/
def tagB (c : UInt8) (i : Nat) : Bool := smallB c || (!decide (i = 0) && (digitB c || decide (c = 45)))
def tagAt (t : Str) (i : Nat) : Bool := tagB (t.getD i 0) i
theorem tag_bad (c : UInt8) (k : Nat) : (bif !smallB c then bif decide ((k : Int) = 0) then true else bif !digitB c then !decide (c = 45) else false else false) = !tagB c k := by
  unfold tagB
  cases smallB c <;> cases digitB c <;> by_cases h : k = 0 <;> simp [h]
theorem fold_small (c : UInt8) : (bif decide (97 ≤ c) then decide (c ≤ 122) else false) = smallB c := rfl
theorem byteAt_k (l : Str) (n : Nat) : byteAt l (n : Int) = l.getD n 0 := by simp [byteAt]
def tagOK (t : Str) : Bool := within t.length 1 12 && (List.range t.length).all (tagAt t)
theorem all_no {p : Nat → Bool} {n i : Nat} (h : i < n) (hp : p i = false) : (List.range n).all p = false := by
  rw [List.all_eq_false]; exact ⟨i, List.mem_range.2 h, by rw [hp]; simp⟩
theorem all_yes {p : Nat → Bool} {n : Nat} (h : ∀ j < n, p j = true) : (List.range n).all p = true := by
  rw [List.all_eq_true]; exact fun j hj => h j (List.mem_range.1 hj)
theorem below_step {P : Nat → Prop} {k : Nat} (h : ∀ j < k, P j) (hk : P k) : ∀ j < k + 1, P j := fun j hj => by
  rcases Nat.lt_or_eq_of_le (Nat.le_of_lt_succ hj) with h' | rfl
  · exact h j h'
  · exact hk
noncomputable def sp_tagOK : Spec := ⟨[.sc], [.rd], true, fun
  | [.str t] => some (some (t.length ≤ 9223372036854775807), .bool (tagOK t), [])
  | _ => none⟩
@[push_cast] theorem sp_tagOK_ps : sp_tagOK.ps = [.sc] := rfl
@[push_cast] theorem sp_tagOK_md : sp_tagOK.modes = [.rd] := rfl
@[push_cast] theorem sp_tagOK_pure : sp_tagOK.pure = true := rfl
@[push_cast] theorem sp_tagOK_run (t : Str) : sp_tagOK.run [.str t] = some (some (t.length ≤ 9223372036854775807), .bool (tagOK t), []) := rfl
noncomputable def e_tagOK : Env := mk [(154, sp_isSmall), (155, sp_isDigit), (153, sp_within)] [] [] [] none
@[push_cast] theorem e_tagOK_in : e_tagOK.inl = inlF [] := rfl
@[push_cast] theorem e_tagOK_fn : e_tagOK.fnd = fndF none := rfl
@[push_cast] theorem e_tagOK_gh : e_tagOK.gh = ghOf [] := rfl
@[push_cast] theorem e_tagOK_dr : e_tagOK.dr = drOf [] := rfl
@[push_cast] theorem e_tagOK_td : e_tagOK.td = td := rfl
@[push_cast] theorem e_tagOK_eqt : e_tagOK.eqt = eqt := rfl
@[push_cast] theorem e_tagOK_cal : e_tagOK.cal = calOf [(154, sp_isSmall), (155, sp_isDigit), (153, sp_within)] := rfl
theorem c_tagOK : CRow P0 ety0 127 sp_tagOK := CRow.of (E := e_tagOK) (mkOk (.cons c_isSmall (.cons c_isDigit (.cons c_within (.nil))))) func127 rfl rfl rfl (by
  intro args p r outs h hq
  simp only [sp_tagOK] at h; split at h <;> cases h
  rename_i t
  have hl := hq _ rfl
  refine Body.intro (rs := [.tmp 2]) rfl rfl rfl ?_
  apply vc_run 1000 (stop := false) rfl; simp only [push_cast, reduceIte, Nat.reduceEqDiff, Nat.reduceAdd, Nat.reduceSub, Nat.reduceLT, Int.reduceNeg, Int.reduceLE, Int.reduceLT, Int.reduceToNat, Nat.reduceLeDiff, UInt8.reduceOfNat, UInt8.reduceOfNatLT, and_self, Nat.reduceMul, decide_true, decide_false, Bool.not_true, Bool.not_false, implies_true]
  refine Run.loop [7] [0, 6] [] rfl (fun m vs bs => ∃ k : Nat, vs = [.int .i64 k] ∧ bs = [] ∧ k ≤ t.length ∧ (∀ j < k, tagAt t j = true) ∧ m = t.length - k) t.length ?_ ?_
  · simp only [push_cast, reduceIte, Nat.reduceEqDiff, Nat.reduceAdd, Nat.reduceSub, Nat.reduceLT, Int.reduceNeg, Int.reduceLE, Int.reduceLT, Int.reduceToNat, Nat.reduceLeDiff, UInt8.reduceOfNat, UInt8.reduceOfNatLT, and_self, Nat.reduceMul, decide_true, decide_false, Bool.not_true, Bool.not_false, implies_true]
    exact ⟨0, rfl, by omega, by simp, by omega⟩
  rintro m vs bs ⟨k, rfl, rfl, hk, hb, rfl⟩
  simp only [push_cast, reduceIte, Nat.reduceEqDiff, Nat.reduceAdd, Nat.reduceSub, Nat.reduceLT, Int.reduceNeg, Int.reduceLE, Int.reduceLT, Int.reduceToNat, Nat.reduceLeDiff, UInt8.reduceOfNat, UInt8.reduceOfNatLT, and_self, Nat.reduceMul, decide_true, decide_false, Bool.not_true, Bool.not_false, implies_true]
  apply vc_run 1000 (stop := false) rfl; simp only [push_cast, reduceIte, Nat.reduceEqDiff, Nat.reduceAdd, Nat.reduceSub, Nat.reduceLT, Int.reduceNeg, Int.reduceLE, Int.reduceLT, Int.reduceToNat, Nat.reduceLeDiff, UInt8.reduceOfNat, UInt8.reduceOfNatLT, and_self, Nat.reduceMul, decide_true, decide_false, Bool.not_true, Bool.not_false, implies_true]
  refine ⟨fun hlt => ?_, fun hge => ?_⟩
  · have hlt : k < t.length := by simpa using hlt
    rw [byteAt_k, tag_bad]
    refine ⟨by omega, fun hy => ?_, fun hn => ⟨by constructor <;> omega, _, by omega, k + 1, rfl, by omega, below_step hb ?_, rfl⟩⟩
    · have hy : tagAt t k = false := by simpa [tagAt] using hy
      rw [tagOK, all_no hlt hy, Bool.and_false]
    · simpa [tagAt] using hn
  · have hge : k = t.length := by simp at hge; omega
    subst hge
    rw [tagOK, all_yes hb, Bool.and_true])
noncomputable def e_tagOK2 : Env := mk [(145, sp_within), (146, sp_isDigit)] [] [] [] none
@[push_cast] theorem e_tagOK2_in : e_tagOK2.inl = inlF [] := rfl
@[push_cast] theorem e_tagOK2_fn : e_tagOK2.fnd = fndF none := rfl
@[push_cast] theorem e_tagOK2_gh : e_tagOK2.gh = ghOf [] := rfl
@[push_cast] theorem e_tagOK2_dr : e_tagOK2.dr = drOf [] := rfl
@[push_cast] theorem e_tagOK2_td : e_tagOK2.td = td := rfl
@[push_cast] theorem e_tagOK2_eqt : e_tagOK2.eqt = eqt := rfl
@[push_cast] theorem e_tagOK2_cal : e_tagOK2.cal = calOf [(145, sp_within), (146, sp_isDigit)] := rfl
theorem c_tagOK2 : CRow P0 ety0 117 sp_tagOK := CRow.of (E := e_tagOK2) (mkOk (.cons c_within2 (.cons c_isDigit2 (.nil)))) func117 rfl rfl rfl (by
  intro args p r outs h hq
  simp only [sp_tagOK] at h; split at h <;> cases h
  rename_i t
  have hl := hq _ rfl
  refine Body.intro (rs := [.tmp 2]) rfl rfl rfl ?_
  apply vc_run 1000 (stop := false) rfl; simp only [push_cast, reduceIte, Nat.reduceEqDiff, Nat.reduceAdd, Nat.reduceSub, Nat.reduceLT, Int.reduceNeg, Int.reduceLE, Int.reduceLT, Int.reduceToNat, Nat.reduceLeDiff, UInt8.reduceOfNat, UInt8.reduceOfNatLT, and_self, Nat.reduceMul, decide_true, decide_false, Bool.not_true, Bool.not_false, implies_true]
  refine ⟨fun h => ?_, fun h => ?_⟩
  · have h : within t.length 1 12 = false := by simpa using h
    rw [tagOK, h]; rfl
  have h : within t.length 1 12 = true := by simpa using h
  refine Run.loop [3] [0] [] rfl (fun m vs bs => ∃ k : Nat, vs = [.int .i64 k] ∧ bs = [] ∧ k ≤ t.length ∧ (∀ j < k, tagAt t j = true) ∧ m = t.length - k) t.length ?_ ?_
  · simp only [push_cast, reduceIte, Nat.reduceEqDiff, Nat.reduceAdd, Nat.reduceSub, Nat.reduceLT, Int.reduceNeg, Int.reduceLE, Int.reduceLT, Int.reduceToNat, Nat.reduceLeDiff, UInt8.reduceOfNat, UInt8.reduceOfNatLT, and_self, Nat.reduceMul, decide_true, decide_false, Bool.not_true, Bool.not_false, implies_true]
    exact ⟨0, rfl, by omega, by simp, by omega⟩
  rintro m vs bs ⟨k, rfl, rfl, hk, hb, rfl⟩
  simp only [push_cast, reduceIte, Nat.reduceEqDiff, Nat.reduceAdd, Nat.reduceSub, Nat.reduceLT, Int.reduceNeg, Int.reduceLE, Int.reduceLT, Int.reduceToNat, Nat.reduceLeDiff, UInt8.reduceOfNat, UInt8.reduceOfNatLT, and_self, Nat.reduceMul, decide_true, decide_false, Bool.not_true, Bool.not_false, implies_true]
  apply vc_run 1000 (stop := false) rfl; simp only [push_cast, reduceIte, Nat.reduceEqDiff, Nat.reduceAdd, Nat.reduceSub, Nat.reduceLT, Int.reduceNeg, Int.reduceLE, Int.reduceLT, Int.reduceToNat, Nat.reduceLeDiff, UInt8.reduceOfNat, UInt8.reduceOfNatLT, and_self, Nat.reduceMul, decide_true, decide_false, Bool.not_true, Bool.not_false, implies_true]
  simp only [fold_small]
  refine ⟨fun hlt => ?_, fun hge => ?_⟩
  · have hlt : k < t.length := by simpa using hlt
    rw [byteAt_k, tag_bad]
    refine ⟨by omega, fun _ => by omega, fun _ => by omega, fun _ => by omega, fun hy => ?_, fun hn => ⟨by constructor <;> omega, _, by omega, k + 1, rfl, by omega, below_step hb ?_, rfl⟩⟩
    · have hy : tagAt t k = false := by simpa [tagAt] using hy
      rw [tagOK, all_no hlt hy, Bool.and_false]
    · simpa [tagAt] using hn
  · have hge : k = t.length := by simp at hge; omega
    subst hge
    rw [tagOK, all_yes hb, h]; rfl)
def hasS (l : List Str) (x : Str) : Bool := l.contains x
noncomputable def sp_hasS : Spec := ⟨[.sl .str, .sc], [.rd, .rd], true, fun
  | [.dat ⟨.str, l⟩, .str x] => some (some (l.length ≤ 1073741824), .bool (hasS l x), [])
  | _ => none⟩
@[push_cast] theorem sp_hasS_ps : sp_hasS.ps = [.sl .str, .sc] := rfl
@[push_cast] theorem sp_hasS_md : sp_hasS.modes = [.rd, .rd] := rfl
@[push_cast] theorem sp_hasS_pure : sp_hasS.pure = true := rfl
@[push_cast] theorem sp_hasS_run (l : List Str) (x : Str) : sp_hasS.run [.dat ⟨.str, l⟩, .str x] = some (some (l.length ≤ 1073741824), .bool (hasS l x), []) := rfl
theorem has_yes {l : List Str} {x : Str} {k : Nat} (h : k < l.length) (e : l.getD k [] = x) : hasS l x = true := by
  unfold hasS; rw [List.contains_iff_mem, ← e]
  have : l.getD k [] = l[k] := by simp [List.getD, h]
  rw [this]; exact List.getElem_mem h
theorem has_no {l : List Str} {x : Str} (h : ∀ j < l.length, ¬ l.getD j [] = x) : hasS l x = false := by
  unfold hasS
  rw [Bool.eq_false_iff]; intro hc
  rw [List.contains_iff_mem] at hc
  obtain ⟨j, hj, e⟩ := List.mem_iff_getElem.1 hc
  exact h j hj (by simp [List.getD, hj, e])
noncomputable def e_hasS2 : Env := mk [] [] [] [] none
@[push_cast] theorem e_hasS2_in : e_hasS2.inl = inlF [] := rfl
@[push_cast] theorem e_hasS2_fn : e_hasS2.fnd = fndF none := rfl
@[push_cast] theorem e_hasS2_gh : e_hasS2.gh = ghOf [] := rfl
@[push_cast] theorem e_hasS2_dr : e_hasS2.dr = drOf [] := rfl
@[push_cast] theorem e_hasS2_td : e_hasS2.td = td := rfl
@[push_cast] theorem e_hasS2_eqt : e_hasS2.eqt = eqt := rfl
@[push_cast] theorem e_hasS2_cal : e_hasS2.cal = calOf [] := rfl
theorem c_hasS2 : CRow P0 ety0 77 sp_hasS := CRow.of (E := e_hasS2) (mkOk (.nil)) func77 rfl rfl rfl (by
  intro args p r outs h hq
  simp only [sp_hasS] at h; split at h <;> cases h
  rename_i l x
  have hl := hq _ rfl
  refine Body.intro (rs := [.tmp 4]) rfl rfl rfl ?_
  apply vc_run 1000 (stop := false) rfl; simp only [push_cast, reduceIte, Nat.reduceEqDiff, Nat.reduceAdd, Nat.reduceSub, Nat.reduceLT, Int.reduceNeg, Int.reduceLE, Int.reduceLT, Int.reduceToNat, Nat.reduceLeDiff, UInt8.reduceOfNat, UInt8.reduceOfNatLT, and_self, Nat.reduceMul, decide_true, decide_false, Bool.not_true, Bool.not_false, implies_true]
  refine Run.loop [5] [0, 1] [] rfl (fun m vs bs => ∃ k : Nat, vs = [.int .i64 k] ∧ bs = [] ∧ k ≤ l.length ∧ (∀ j < k, ¬ l.getD j [] = x) ∧ m = l.length - k) l.length ?_ ?_
  · simp only [push_cast, reduceIte, Nat.reduceEqDiff, Nat.reduceAdd, Nat.reduceSub, Nat.reduceLT, Int.reduceNeg, Int.reduceLE, Int.reduceLT, Int.reduceToNat, Nat.reduceLeDiff, UInt8.reduceOfNat, UInt8.reduceOfNatLT, and_self, Nat.reduceMul, decide_true, decide_false, Bool.not_true, Bool.not_false, implies_true]
    exact ⟨0, rfl, by omega, by simp, by omega⟩
  rintro m vs bs ⟨k, rfl, rfl, hk, hb, rfl⟩
  simp only [push_cast, reduceIte, Nat.reduceEqDiff, Nat.reduceAdd, Nat.reduceSub, Nat.reduceLT, Int.reduceNeg, Int.reduceLE, Int.reduceLT, Int.reduceToNat, Nat.reduceLeDiff, UInt8.reduceOfNat, UInt8.reduceOfNatLT, and_self, Nat.reduceMul, decide_true, decide_false, Bool.not_true, Bool.not_false, implies_true]
  apply vc_run 1000 (stop := false) rfl; simp only [push_cast, reduceIte, Nat.reduceEqDiff, Nat.reduceAdd, Nat.reduceSub, Nat.reduceLT, Int.reduceNeg, Int.reduceLE, Int.reduceLT, Int.reduceToNat, Nat.reduceLeDiff, UInt8.reduceOfNat, UInt8.reduceOfNatLT, and_self, Nat.reduceMul, decide_true, decide_false, Bool.not_true, Bool.not_false, implies_true]
  refine ⟨fun hlt => ?_, fun hge => ?_⟩
  · have hlt : k < l.length := by simpa using hlt
    simp only [gd_nat]
    refine ⟨by omega, fun hy => ?_, fun hn => ⟨by constructor <;> omega, _, by omega, k + 1, rfl, by omega, below_step hb (by simpa using hn), rfl⟩⟩
    rw [has_yes hlt (by simpa using hy)]
  · have hge : k = l.length := by simp at hge; omega
    subst hge
    rw [has_no hb])
noncomputable def sp_indexS : Spec := ⟨[.sl .str, .sc], [.rd, .rd], true, fun
  | [.dat ⟨.str, l⟩, .str x] => some (some (l.length ≤ 1073741824), .int .i64 (idx (l.findIdx? fun y => decide (y = x))), [])
  | _ => none⟩
@[push_cast] theorem sp_indexS_ps : sp_indexS.ps = [.sl .str, .sc] := rfl
@[push_cast] theorem sp_indexS_md : sp_indexS.modes = [.rd, .rd] := rfl
@[push_cast] theorem sp_indexS_pure : sp_indexS.pure = true := rfl
@[push_cast] theorem sp_indexS_run (l : List Str) (x : Str) : sp_indexS.run [.dat ⟨.str, l⟩, .str x] = some (some (l.length ≤ 1073741824), .int .i64 (idx (l.findIdx? fun y => decide (y = x))), []) := rfl
noncomputable def e_indexS : Env := mk [] [] [] [] none
@[push_cast] theorem e_indexS_in : e_indexS.inl = inlF [] := rfl
@[push_cast] theorem e_indexS_fn : e_indexS.fnd = fndF none := rfl
@[push_cast] theorem e_indexS_gh : e_indexS.gh = ghOf [] := rfl
@[push_cast] theorem e_indexS_dr : e_indexS.dr = drOf [] := rfl
@[push_cast] theorem e_indexS_td : e_indexS.td = td := rfl
@[push_cast] theorem e_indexS_eqt : e_indexS.eqt = eqt := rfl
@[push_cast] theorem e_indexS_cal : e_indexS.cal = calOf [] := rfl
theorem c_indexS : CRow P0 ety0 114 sp_indexS := CRow.of (E := e_indexS) (mkOk (.nil)) func114 rfl rfl rfl (by
  intro args p r outs h hq
  simp only [sp_indexS] at h; split at h <;> cases h
  rename_i l x
  have hl := hq _ rfl
  refine Body.intro (rs := [.tmp 4]) rfl rfl rfl ?_
  apply vc_run 1000 (stop := false) rfl; simp only [push_cast, reduceIte, Nat.reduceEqDiff, Nat.reduceAdd, Nat.reduceSub, Nat.reduceLT, Int.reduceNeg, Int.reduceLE, Int.reduceLT, Int.reduceToNat, Nat.reduceLeDiff, UInt8.reduceOfNat, UInt8.reduceOfNatLT, and_self, Nat.reduceMul, decide_true, decide_false, Bool.not_true, Bool.not_false, implies_true]
  refine Run.loop [8] [0, 1, 6, 7] [] rfl (fun n vs bs => ∃ k : Nat, vs = [.int .i64 k] ∧ bs = [] ∧ k ≤ l.length ∧ (∀ j < k, decide (l.getD j [] = x) = false) ∧ n = l.length - k) l.length ?_ ?_
  · simp only [push_cast, reduceIte, Nat.reduceEqDiff, Nat.reduceAdd, Nat.reduceSub, Nat.reduceLT, Int.reduceNeg, Int.reduceLE, Int.reduceLT, Int.reduceToNat, Nat.reduceLeDiff, UInt8.reduceOfNat, UInt8.reduceOfNatLT, and_self, Nat.reduceMul, decide_true, decide_false, Bool.not_true, Bool.not_false, implies_true]
    exact ⟨0, rfl, by omega, by simp, by omega⟩
  rintro n vs bs ⟨k, rfl, rfl, hk, hb, rfl⟩
  simp only [push_cast, reduceIte, Nat.reduceEqDiff, Nat.reduceAdd, Nat.reduceSub, Nat.reduceLT, Int.reduceNeg, Int.reduceLE, Int.reduceLT, Int.reduceToNat, Nat.reduceLeDiff, UInt8.reduceOfNat, UInt8.reduceOfNatLT, and_self, Nat.reduceMul, decide_true, decide_false, Bool.not_true, Bool.not_false, implies_true]
  apply vc_run 1000 (stop := false) rfl; simp only [push_cast, reduceIte, Nat.reduceEqDiff, Nat.reduceAdd, Nat.reduceSub, Nat.reduceLT, Int.reduceNeg, Int.reduceLE, Int.reduceLT, Int.reduceToNat, Nat.reduceLeDiff, UInt8.reduceOfNat, UInt8.reduceOfNatLT, and_self, Nat.reduceMul, decide_true, decide_false, Bool.not_true, Bool.not_false, implies_true]
  refine ⟨fun hlt => ?_, fun hge => ?_⟩
  · have hlt : k < l.length := by simpa using hlt
    simp only [gd_nat]
    refine ⟨by omega, fun hy => ?_, fun hn => ⟨by constructor <;> omega, _, by omega, k + 1, rfl, by omega, below_step hb (by rw [← hn]; simp [eq_comm]), rfl⟩⟩
    rw [findIdx_at (p := fun y => decide (y = x)) hlt hb (by simp at hy; simp [hy])]; rfl
  · have hge : k = l.length := by simp at hge; omega
    subst hge
    rw [findIdx_none (p := fun y => decide (y = x)) hb]; rfl)
noncomputable def e_hasS : Env := mk [(114, sp_indexS)] [] [] [] none
@[push_cast] theorem e_hasS_in : e_hasS.inl = inlF [] := rfl
@[push_cast] theorem e_hasS_fn : e_hasS.fnd = fndF none := rfl
@[push_cast] theorem e_hasS_gh : e_hasS.gh = ghOf [] := rfl
@[push_cast] theorem e_hasS_dr : e_hasS.dr = drOf [] := rfl
@[push_cast] theorem e_hasS_td : e_hasS.td = td := rfl
@[push_cast] theorem e_hasS_eqt : e_hasS.eqt = eqt := rfl
@[push_cast] theorem e_hasS_cal : e_hasS.cal = calOf [(114, sp_indexS)] := rfl
theorem c_hasS : CRow P0 ety0 79 sp_hasS := CRow.of (E := e_hasS) (mkOk (.cons c_indexS (.nil))) func79 rfl rfl rfl (by
  intro args p r outs h hq
  simp only [sp_hasS] at h; split at h <;> cases h
  rename_i l x
  have hl := hq _ rfl
  refine Body.intro (rs := [.tmp 4]) rfl rfl rfl ?_
  apply vc_run 1000 (stop := false) rfl; simp only [push_cast, reduceIte, Nat.reduceEqDiff, Nat.reduceAdd, Nat.reduceSub, Nat.reduceLT, Int.reduceNeg, Int.reduceLE, Int.reduceLT, Int.reduceToNat, Nat.reduceLeDiff, UInt8.reduceOfNat, UInt8.reduceOfNatLT, and_self, Nat.reduceMul, decide_true, decide_false, Bool.not_true, Bool.not_false, implies_true]
  refine ⟨hl, ?_⟩
  rw [idx_any, hasS]
  congr 1
  rw [Bool.eq_iff_iff]
  simp)
def nameAt (l : List Str) (i : Nat) : Bool := tagOK (l.getD i []) && !hasS (l.take i) (l.getD i [])
def namesOK (l : List Str) : Bool := decide (l.length ≤ 10) && (List.range l.length).all (nameAt l)
theorem cut_take {α : Type} (l : List α) (k : Nat) : cut l 0 (k : Int) = l.take k := by simp [cut]
noncomputable def sp_namesOK : Spec := ⟨[.sl .str], [.rd], true, fun
  | [.dat ⟨.str, l⟩] => some (some (szL List.length l ≤ 1048576), .bool (namesOK l), [])
  | _ => none⟩
@[push_cast] theorem sp_namesOK_ps : sp_namesOK.ps = [.sl .str] := rfl
@[push_cast] theorem sp_namesOK_md : sp_namesOK.modes = [.rd] := rfl
@[push_cast] theorem sp_namesOK_pure : sp_namesOK.pure = true := rfl
@[push_cast] theorem sp_namesOK_run (l : List Str) : sp_namesOK.run [.dat ⟨.str, l⟩] = some (some (szL List.length l ≤ 1048576), .bool (namesOK l), []) := rfl
noncomputable def e_namesOK : Env := mk [(127, sp_tagOK), (79, sp_hasS)] [] [] [] none
@[push_cast] theorem e_namesOK_in : e_namesOK.inl = inlF [] := rfl
@[push_cast] theorem e_namesOK_fn : e_namesOK.fnd = fndF none := rfl
@[push_cast] theorem e_namesOK_gh : e_namesOK.gh = ghOf [] := rfl
@[push_cast] theorem e_namesOK_dr : e_namesOK.dr = drOf [] := rfl
@[push_cast] theorem e_namesOK_td : e_namesOK.td = td := rfl
@[push_cast] theorem e_namesOK_eqt : e_namesOK.eqt = eqt := rfl
@[push_cast] theorem e_namesOK_cal : e_namesOK.cal = calOf [(127, sp_tagOK), (79, sp_hasS)] := rfl
theorem c_namesOK : CRow P0 ety0 94 sp_namesOK := CRow.of (E := e_namesOK) (mkOk (.cons c_tagOK (.cons c_hasS (.nil)))) func94 rfl rfl rfl (by
  intro args p r outs h hq
  simp only [sp_namesOK] at h; split at h <;> cases h
  rename_i l
  have hz := hq _ rfl
  have hl : l.length ≤ 1048576 := Nat.le_trans (szL_len _ _) hz
  refine Body.intro (rs := [.tmp 2]) rfl rfl rfl ?_
  apply vc_run 1000 (stop := false) rfl; simp only [push_cast, reduceIte, Nat.reduceEqDiff, Nat.reduceAdd, Nat.reduceSub, Nat.reduceLT, Int.reduceNeg, Int.reduceLE, Int.reduceLT, Int.reduceToNat, Nat.reduceLeDiff, UInt8.reduceOfNat, UInt8.reduceOfNatLT, and_self, Nat.reduceMul, decide_true, decide_false, Bool.not_true, Bool.not_false, implies_true]
  refine Run.loop [7] [0, 5, 6] [] rfl (fun n vs bs => ∃ k : Nat, vs = [.int .i64 k] ∧ bs = [] ∧ k ≤ l.length ∧ (∀ j < k, nameAt l j = true) ∧ n = l.length - k) l.length ?_ ?_
  · simp only [push_cast, reduceIte, Nat.reduceEqDiff, Nat.reduceAdd, Nat.reduceSub, Nat.reduceLT, Int.reduceNeg, Int.reduceLE, Int.reduceLT, Int.reduceToNat, Nat.reduceLeDiff, UInt8.reduceOfNat, UInt8.reduceOfNatLT, and_self, Nat.reduceMul, decide_true, decide_false, Bool.not_true, Bool.not_false, implies_true]
    exact ⟨0, rfl, by omega, by simp, by omega⟩
  rintro n vs bs ⟨k, rfl, rfl, hk, hb, rfl⟩
  simp only [push_cast, reduceIte, Nat.reduceEqDiff, Nat.reduceAdd, Nat.reduceSub, Nat.reduceLT, Int.reduceNeg, Int.reduceLE, Int.reduceLT, Int.reduceToNat, Nat.reduceLeDiff, UInt8.reduceOfNat, UInt8.reduceOfNatLT, and_self, Nat.reduceMul, decide_true, decide_false, Bool.not_true, Bool.not_false, implies_true]
  apply vc_run 1000 (stop := false) rfl; simp only [push_cast, reduceIte, Nat.reduceEqDiff, Nat.reduceAdd, Nat.reduceSub, Nat.reduceLT, Int.reduceNeg, Int.reduceLE, Int.reduceLT, Int.reduceToNat, Nat.reduceLeDiff, UInt8.reduceOfNat, UInt8.reduceOfNatLT, and_self, Nat.reduceMul, decide_true, decide_false, Bool.not_true, Bool.not_false, implies_true]
  refine ⟨fun hlt => ?_, fun hge => ?_⟩
  · have hlt : k < l.length := by simpa using hlt
    have hel : (l.getD k []).length ≤ 1048576 := Nat.le_trans (szL_at List.length [] hlt) hz
    simp only [gd_nat, cut_take]
    have htk : (l.take k).length ≤ 1073741824 := by rw [List.length_take]; omega
    refine ⟨by omega, by omega, fun _ => by omega, fun _ => htk, fun hy => ?_, fun hn => ⟨by constructor <;> omega, _, by omega, k + 1, rfl, by omega, below_step hb ?_, rfl⟩⟩
    · have hy : nameAt l k = false := by
        unfold nameAt; cases h1 : tagOK (l.getD k []) <;> simp_all
      rw [namesOK, all_no hlt hy, Bool.and_false]
    · unfold nameAt; cases h1 : tagOK (l.getD k []) <;> simp_all
  · have hge : k = l.length := by simp at hge; omega
    subst hge
    rw [namesOK, all_yes hb, Bool.and_true]
    congr 1
    simp; omega)
noncomputable def e_namesOK2 : Env := mk [(117, sp_tagOK), (77, sp_hasS)] [(6, [], [])] [] [] none
@[push_cast] theorem e_namesOK2_in : e_namesOK2.inl = inlF [] := rfl
@[push_cast] theorem e_namesOK2_fn : e_namesOK2.fnd = fndF none := rfl
@[push_cast] theorem e_namesOK2_gh : e_namesOK2.gh = ghOf [] := rfl
@[push_cast] theorem e_namesOK2_dr : e_namesOK2.dr = drOf [(6, [], [])] := rfl
@[push_cast] theorem e_namesOK2_td : e_namesOK2.td = td := rfl
@[push_cast] theorem e_namesOK2_eqt : e_namesOK2.eqt = eqt := rfl
@[push_cast] theorem e_namesOK2_cal : e_namesOK2.cal = calOf [(117, sp_tagOK), (77, sp_hasS)] := rfl
theorem c_namesOK2 : CRow P0 ety0 83 sp_namesOK := CRow.of (E := e_namesOK2) (mkOk (.cons c_tagOK2 (.cons c_hasS2 (.nil)))) func83 rfl rfl rfl (by
  intro args p r outs h hq
  simp only [sp_namesOK] at h; split at h <;> cases h
  rename_i l
  have hz := hq _ rfl
  have hl : l.length ≤ 1048576 := Nat.le_trans (szL_len _ _) hz
  refine Body.intro (rs := [.tmp 2]) rfl rfl rfl ?_
  apply vc_run 1000 (stop := false) rfl; simp only [push_cast, reduceIte, Nat.reduceEqDiff, Nat.reduceAdd, Nat.reduceSub, Nat.reduceLT, Int.reduceNeg, Int.reduceLE, Int.reduceLT, Int.reduceToNat, Nat.reduceLeDiff, UInt8.reduceOfNat, UInt8.reduceOfNatLT, and_self, Nat.reduceMul, decide_true, decide_false, Bool.not_true, Bool.not_false, implies_true]
  refine ⟨fun h => ?_, fun h => ?_⟩
  · rw [namesOK, show decide (l.length ≤ 10) = false by simp at h ⊢; omega]; rfl
  refine Run.loop [3] [0] [] rfl (fun n vs bs => ∃ k : Nat, vs = [.int .i64 k] ∧ bs = [] ∧ k ≤ l.length ∧ (∀ j < k, nameAt l j = true) ∧ n = l.length - k) l.length ?_ ?_
  · simp only [push_cast, reduceIte, Nat.reduceEqDiff, Nat.reduceAdd, Nat.reduceSub, Nat.reduceLT, Int.reduceNeg, Int.reduceLE, Int.reduceLT, Int.reduceToNat, Nat.reduceLeDiff, UInt8.reduceOfNat, UInt8.reduceOfNatLT, and_self, Nat.reduceMul, decide_true, decide_false, Bool.not_true, Bool.not_false, implies_true]
    exact ⟨0, rfl, by omega, by simp, by omega⟩
  rintro n vs bs ⟨k, rfl, rfl, hk, hb, rfl⟩
  simp only [push_cast, reduceIte, Nat.reduceEqDiff, Nat.reduceAdd, Nat.reduceSub, Nat.reduceLT, Int.reduceNeg, Int.reduceLE, Int.reduceLT, Int.reduceToNat, Nat.reduceLeDiff, UInt8.reduceOfNat, UInt8.reduceOfNatLT, and_self, Nat.reduceMul, decide_true, decide_false, Bool.not_true, Bool.not_false, implies_true]
  apply vc_run 1000 (stop := false) rfl; simp only [push_cast, reduceIte, Nat.reduceEqDiff, Nat.reduceAdd, Nat.reduceSub, Nat.reduceLT, Int.reduceNeg, Int.reduceLE, Int.reduceLT, Int.reduceToNat, Nat.reduceLeDiff, UInt8.reduceOfNat, UInt8.reduceOfNatLT, and_self, Nat.reduceMul, decide_true, decide_false, Bool.not_true, Bool.not_false, implies_true]
  refine ⟨fun hlt => ?_, fun hge => ?_⟩
  · have hlt : k < l.length := by simpa using hlt
    have hel : (l.getD k []).length ≤ 1048576 := Nat.le_trans (szL_at List.length [] hlt) hz
    simp only [gd_nat, cut_take]
    have htk : (l.take k).length ≤ 1073741824 := by rw [List.length_take]; omega
    refine ⟨by omega, by omega, fun _ => by omega, fun _ => by omega, fun _ => htk, fun hy => ?_, fun hn => ⟨by constructor <;> omega, _, by omega, k + 1, rfl, by omega, below_step hb ?_, rfl⟩⟩
    · have hy : nameAt l k = false := by
        unfold nameAt; cases h1 : tagOK (l.getD k []) <;> simp_all
      rw [namesOK, all_no hlt hy, Bool.and_false]
    · unfold nameAt; cases h1 : tagOK (l.getD k []) <;> simp_all
  · have hge : k = l.length := by simp at hge; omega
    subst hge
    rw [namesOK, all_yes hb, Bool.and_true]
    congr 1
    simp at h ⊢; omega)
def ruleOK (r : Rule) : Bool := within r.space 0 2 && tagOK r.name && namesOK r.attrs
noncomputable def sp_ruleOK : Spec := ⟨[.st .rule], [.rd], true, fun
  | [.agg [.int .i64 s, .str m, .dat ⟨.str, a⟩]] => some (some (szRule ⟨s, m, a⟩ ≤ 1048576), .bool (ruleOK ⟨s, m, a⟩), [])
  | _ => none⟩
@[push_cast] theorem sp_ruleOK_ps : sp_ruleOK.ps = [.st .rule] := rfl
@[push_cast] theorem sp_ruleOK_md : sp_ruleOK.modes = [.rd] := rfl
@[push_cast] theorem sp_ruleOK_pure : sp_ruleOK.pure = true := rfl
@[push_cast] theorem sp_ruleOK_run (s : Int) (m : Str) (a : List Str) : sp_ruleOK.run [.agg [.int .i64 s, .str m, .dat ⟨.str, a⟩]] = some (some (szRule ⟨s, m, a⟩ ≤ 1048576), .bool (ruleOK ⟨s, m, a⟩), []) := rfl
noncomputable def e_ruleOK : Env := mk [(153, sp_within), (127, sp_tagOK), (94, sp_namesOK)] [] [] [] none
@[push_cast] theorem e_ruleOK_in : e_ruleOK.inl = inlF [] := rfl
@[push_cast] theorem e_ruleOK_fn : e_ruleOK.fnd = fndF none := rfl
@[push_cast] theorem e_ruleOK_gh : e_ruleOK.gh = ghOf [] := rfl
@[push_cast] theorem e_ruleOK_dr : e_ruleOK.dr = drOf [] := rfl
@[push_cast] theorem e_ruleOK_td : e_ruleOK.td = td := rfl
@[push_cast] theorem e_ruleOK_eqt : e_ruleOK.eqt = eqt := rfl
@[push_cast] theorem e_ruleOK_cal : e_ruleOK.cal = calOf [(153, sp_within), (127, sp_tagOK), (94, sp_namesOK)] := rfl
theorem c_ruleOK : CRow P0 ety0 124 sp_ruleOK := CRow.of (E := e_ruleOK) (mkOk (.cons c_within (.cons c_tagOK (.cons c_namesOK (.nil))))) func124 rfl rfl rfl (by
  intro args p r outs h hq
  simp only [sp_ruleOK] at h; split at h <;> cases h
  rename_i s m a
  have hz := hq _ rfl
  refine Body.intro (rs := [.tmp 2]) rfl rfl rfl ?_
  apply vc_run 1000 (stop := false) rfl; simp only [push_cast, reduceIte, Nat.reduceEqDiff, Nat.reduceAdd, Nat.reduceSub, Nat.reduceLT, Int.reduceNeg, Int.reduceLE, Int.reduceLT, Int.reduceToNat, Nat.reduceLeDiff, UInt8.reduceOfNat, UInt8.reduceOfNatLT, and_self, Nat.reduceMul, decide_true, decide_false, Bool.not_true, Bool.not_false, implies_true]
  simp only [szRule] at hz
  refine ⟨fun _ => by omega, fun _ => by omega, ?_⟩
  simp only [ruleOK]
  cases within s 0 2 <;> cases tagOK m <;> rfl)
noncomputable def e_ruleOK2 : Env := mk [(145, sp_within), (117, sp_tagOK), (83, sp_namesOK)] [] [] [] none
@[push_cast] theorem e_ruleOK2_in : e_ruleOK2.inl = inlF [] := rfl
@[push_cast] theorem e_ruleOK2_fn : e_ruleOK2.fnd = fndF none := rfl
@[push_cast] theorem e_ruleOK2_gh : e_ruleOK2.gh = ghOf [] := rfl
@[push_cast] theorem e_ruleOK2_dr : e_ruleOK2.dr = drOf [] := rfl
@[push_cast] theorem e_ruleOK2_td : e_ruleOK2.td = td := rfl
@[push_cast] theorem e_ruleOK2_eqt : e_ruleOK2.eqt = eqt := rfl
@[push_cast] theorem e_ruleOK2_cal : e_ruleOK2.cal = calOf [(145, sp_within), (117, sp_tagOK), (83, sp_namesOK)] := rfl
theorem c_ruleOK2 : CRow P0 ety0 116 sp_ruleOK := CRow.of (E := e_ruleOK2) (mkOk (.cons c_within2 (.cons c_tagOK2 (.cons c_namesOK2 (.nil))))) func116 rfl rfl rfl (by
  intro args p r outs h hq
  simp only [sp_ruleOK] at h; split at h <;> cases h
  rename_i s m a
  have hz := hq _ rfl
  refine Body.intro (rs := [.tmp 2]) rfl rfl rfl ?_
  apply vc_run 1000 (stop := false) rfl; simp only [push_cast, reduceIte, Nat.reduceEqDiff, Nat.reduceAdd, Nat.reduceSub, Nat.reduceLT, Int.reduceNeg, Int.reduceLE, Int.reduceLT, Int.reduceToNat, Nat.reduceLeDiff, UInt8.reduceOfNat, UInt8.reduceOfNatLT, and_self, Nat.reduceMul, decide_true, decide_false, Bool.not_true, Bool.not_false, implies_true]
  simp only [szRule] at hz
  refine ⟨fun _ => by omega, fun _ => by omega, ?_⟩
  simp only [ruleOK]
  cases within s 0 2 <;> cases tagOK m <;> rfl)
/-- A rule of a space and a name. -/
def isRule (s : Int) (m : Str) (r : Rule) : Bool := decide (r.space = s) && decide (r.name = m)
theorem isRule_bif (s : Int) (m : Str) (r : Rule) : (bif decide (r.space = s) then decide (r.name = m) else false) = isRule s m r := by unfold isRule; cases decide (r.space = s) <;> rfl
def ruleAt (l : List Rule) (s : Int) (m : Str) : Int := idx (l.findIdx? (isRule s m))
noncomputable def sp_ruleAt : Spec := ⟨[.sl .rule, .sc, .sc], [.rd, .rd, .rd], true, fun
  | [.dat ⟨.rule, l⟩, .int .i64 s, .str m] => some (some (l.length ≤ 1073741824), .int .i64 (ruleAt l s m), [])
  | _ => none⟩
@[push_cast] theorem sp_ruleAt_ps : sp_ruleAt.ps = [.sl .rule, .sc, .sc] := rfl
@[push_cast] theorem sp_ruleAt_md : sp_ruleAt.modes = [.rd, .rd, .rd] := rfl
@[push_cast] theorem sp_ruleAt_pure : sp_ruleAt.pure = true := rfl
@[push_cast] theorem sp_ruleAt_run (l : List Rule) (s : Int) (m : Str) : sp_ruleAt.run [.dat ⟨.rule, l⟩, .int .i64 s, .str m] = some (some (l.length ≤ 1073741824), .int .i64 (ruleAt l s m), []) := rfl
noncomputable def e_l07At : Env := mk [] [] [] [] none
@[push_cast] theorem e_l07At_in : e_l07At.inl = inlF [] := rfl
@[push_cast] theorem e_l07At_fn : e_l07At.fnd = fndF none := rfl
@[push_cast] theorem e_l07At_gh : e_l07At.gh = ghOf [] := rfl
@[push_cast] theorem e_l07At_dr : e_l07At.dr = drOf [] := rfl
@[push_cast] theorem e_l07At_td : e_l07At.td = td := rfl
@[push_cast] theorem e_l07At_eqt : e_l07At.eqt = eqt := rfl
@[push_cast] theorem e_l07At_cal : e_l07At.cal = calOf [] := rfl
theorem c_l07At : CRow P0 ety0 84 sp_ruleAt := CRow.of (E := e_l07At) (mkOk (.nil)) func84 rfl rfl rfl (by
  intro args p r outs h hq
  simp only [sp_ruleAt] at h; split at h <;> cases h
  rename_i l s m
  have hl := hq _ rfl
  refine Body.intro (rs := [.tmp 6]) rfl rfl rfl ?_
  apply vc_run 1000 (stop := false) rfl; simp only [push_cast, reduceIte, Nat.reduceEqDiff, Nat.reduceAdd, Nat.reduceSub, Nat.reduceLT, Int.reduceNeg, Int.reduceLE, Int.reduceLT, Int.reduceToNat, Nat.reduceLeDiff, UInt8.reduceOfNat, UInt8.reduceOfNatLT, and_self, Nat.reduceMul, decide_true, decide_false, Bool.not_true, Bool.not_false, implies_true]
  refine Run.loop [7] [0, 1, 2] [] rfl (fun n vs bs => ∃ k : Nat, vs = [.int .i64 k] ∧ bs = [] ∧ k ≤ l.length ∧ (∀ j < k, isRule s m (l.getD j ruleD) = false) ∧ n = l.length - k) l.length ?_ ?_
  · simp only [push_cast, reduceIte, Nat.reduceEqDiff, Nat.reduceAdd, Nat.reduceSub, Nat.reduceLT, Int.reduceNeg, Int.reduceLE, Int.reduceLT, Int.reduceToNat, Nat.reduceLeDiff, UInt8.reduceOfNat, UInt8.reduceOfNatLT, and_self, Nat.reduceMul, decide_true, decide_false, Bool.not_true, Bool.not_false, implies_true]
    exact ⟨0, rfl, by omega, by simp, by omega⟩
  rintro n vs bs ⟨k, rfl, rfl, hk, hb, rfl⟩
  simp only [push_cast, reduceIte, Nat.reduceEqDiff, Nat.reduceAdd, Nat.reduceSub, Nat.reduceLT, Int.reduceNeg, Int.reduceLE, Int.reduceLT, Int.reduceToNat, Nat.reduceLeDiff, UInt8.reduceOfNat, UInt8.reduceOfNatLT, and_self, Nat.reduceMul, decide_true, decide_false, Bool.not_true, Bool.not_false, implies_true]
  apply vc_run 1000 (stop := false) rfl; simp only [push_cast, reduceIte, Nat.reduceEqDiff, Nat.reduceAdd, Nat.reduceSub, Nat.reduceLT, Int.reduceNeg, Int.reduceLE, Int.reduceLT, Int.reduceToNat, Nat.reduceLeDiff, UInt8.reduceOfNat, UInt8.reduceOfNatLT, and_self, Nat.reduceMul, decide_true, decide_false, Bool.not_true, Bool.not_false, implies_true]
  refine ⟨fun hlt => ?_, fun hge => ?_⟩
  · have hlt : k < l.length := by simpa using hlt
    simp only [gd_nat]
    refine ⟨by omega, fun _ => by omega, fun hy => ?_, fun hn => ⟨by constructor <;> omega, _, by omega, k + 1, rfl, by omega, below_step hb ?_, rfl⟩⟩
    · rw [ruleAt, findIdx_at hlt hb (by rw [isRule_bif] at hy; exact hy)]; rfl
    · rw [isRule_bif] at hn; exact hn
  · have hge : k = l.length := by simp at hge; omega
    subst hge
    rw [ruleAt, findIdx_none hb]; rfl)
noncomputable def sp_ruleAt1 : Spec := ⟨[.st .rule, .sc, .sc], [.rd, .rd, .rd], true, fun
  | [.agg [.int .i64 a, .str b, .dat ⟨.str, c⟩], .rbp [.int .i64 s] 0, .rbp [.str m] 0] => some (none, .bool (isRule s m ⟨a, b, c⟩), [])
  | _ => none⟩
@[push_cast] theorem sp_ruleAt1_ps : sp_ruleAt1.ps = [.st .rule, .sc, .sc] := rfl
@[push_cast] theorem sp_ruleAt1_md : sp_ruleAt1.modes = [.rd, .rd, .rd] := rfl
@[push_cast] theorem sp_ruleAt1_pure : sp_ruleAt1.pure = true := rfl
@[push_cast] theorem sp_ruleAt1_run (a s : Int) (b m : Str) (c : List Str) : sp_ruleAt1.run [.agg [.int .i64 a, .str b, .dat ⟨.str, c⟩], .rbp [.int .i64 s] 0, .rbp [.str m] 0] = some (none, .bool (isRule s m ⟨a, b, c⟩), []) := rfl
noncomputable def e_ruleAt1 : Env := mk [] [] [] [] none
@[push_cast] theorem e_ruleAt1_in : e_ruleAt1.inl = inlF [] := rfl
@[push_cast] theorem e_ruleAt1_fn : e_ruleAt1.fnd = fndF none := rfl
@[push_cast] theorem e_ruleAt1_gh : e_ruleAt1.gh = ghOf [] := rfl
@[push_cast] theorem e_ruleAt1_dr : e_ruleAt1.dr = drOf [] := rfl
@[push_cast] theorem e_ruleAt1_td : e_ruleAt1.td = td := rfl
@[push_cast] theorem e_ruleAt1_eqt : e_ruleAt1.eqt = eqt := rfl
@[push_cast] theorem e_ruleAt1_cal : e_ruleAt1.cal = calOf [] := rfl
theorem c_ruleAt1 : CRow P0 ety0 138 sp_ruleAt1 := CRow.of (E := e_ruleAt1) (mkOk (.nil)) func138 rfl rfl rfl (by
  intro args p r outs h hq
  simp only [sp_ruleAt1] at h; split at h <;> cases h
  rename_i a b c s m
  refine Body.intro (rs := [.tmp 4]) rfl rfl rfl ?_
  apply vc_run 1000 (stop := false) rfl; simp only [push_cast, reduceIte, Nat.reduceEqDiff, Nat.reduceAdd, Nat.reduceSub, Nat.reduceLT, Int.reduceNeg, Int.reduceLE, Int.reduceLT, Int.reduceToNat, Nat.reduceLeDiff, UInt8.reduceOfNat, UInt8.reduceOfNatLT, and_self, Nat.reduceMul, decide_true, decide_false, Bool.not_true, Bool.not_false, implies_true]
  exact congrArg AV.bool (isRule_bif s m ⟨a, b, c⟩))
noncomputable def sp_idxRuleA : Spec := ⟨[.sl .rule, .sc], [.rd, .rd], true, fun
  | [.dat ⟨.rule, l⟩, .fn 138 [] [.rbp [.int .i64 s] 0, .rbp [.str m] 0]] => some (some (l.length ≤ 1073741824), .int .i64 (idx (l.findIdx? (isRule s m))), [])
  | _ => none⟩
@[push_cast] theorem sp_idxRuleA_ps : sp_idxRuleA.ps = [.sl .rule, .sc] := rfl
@[push_cast] theorem sp_idxRuleA_md : sp_idxRuleA.modes = [.rd, .rd] := rfl
@[push_cast] theorem sp_idxRuleA_pure : sp_idxRuleA.pure = true := rfl
@[push_cast] theorem sp_idxRuleA_run (l : List Rule) (s : Int) (m : Str) : sp_idxRuleA.run [.dat ⟨.rule, l⟩, .fn 138 [] [.rbp [.int .i64 s] 0, .rbp [.str m] 0]] = some (some (l.length ≤ 1073741824), .int .i64 (idx (l.findIdx? (isRule s m))), []) := rfl
noncomputable def e_idxRuleA : Env := mk [(138, sp_ruleAt1)] [] [] [] none
@[push_cast] theorem e_idxRuleA_in : e_idxRuleA.inl = inlF [] := rfl
@[push_cast] theorem e_idxRuleA_fn : e_idxRuleA.fnd = fndF none := rfl
@[push_cast] theorem e_idxRuleA_gh : e_idxRuleA.gh = ghOf [] := rfl
@[push_cast] theorem e_idxRuleA_dr : e_idxRuleA.dr = drOf [] := rfl
@[push_cast] theorem e_idxRuleA_td : e_idxRuleA.td = td := rfl
@[push_cast] theorem e_idxRuleA_eqt : e_idxRuleA.eqt = eqt := rfl
@[push_cast] theorem e_idxRuleA_cal : e_idxRuleA.cal = calOf [(138, sp_ruleAt1)] := rfl
theorem c_idxRuleA : CRow P0 ety0 137 sp_idxRuleA := CRow.of (E := e_idxRuleA) (mkOk (.cons c_ruleAt1 (.nil))) func137 rfl rfl rfl (by
  intro args p r outs h hq
  simp only [sp_idxRuleA] at h; split at h <;> cases h
  rename_i l s m
  have hq0 := hq _ rfl
  have hl : l.length ≤ 1073741824 := by first | exact hq0 | exact hq0.1
  refine Body.intro (rs := [.tmp 4]) rfl rfl rfl ?_
  apply vc_run 1000 (stop := false) rfl; simp only [push_cast, reduceIte, Nat.reduceEqDiff, Nat.reduceAdd, Nat.reduceSub, Nat.reduceLT, Int.reduceNeg, Int.reduceLE, Int.reduceLT, Int.reduceToNat, Nat.reduceLeDiff, UInt8.reduceOfNat, UInt8.reduceOfNatLT, and_self, Nat.reduceMul, decide_true, decide_false, Bool.not_true, Bool.not_false, implies_true]
  refine Run.loop [8] [0, 1, 6, 7] [] rfl (fun n vs bs => ∃ k : Nat, vs = [.int .i64 k] ∧ bs = [] ∧ k ≤ l.length ∧ (∀ j < k, (isRule s m) (l.getD j ruleD) = false) ∧ n = l.length - k) l.length ?_ ?_
  · simp only [push_cast, reduceIte, Nat.reduceEqDiff, Nat.reduceAdd, Nat.reduceSub, Nat.reduceLT, Int.reduceNeg, Int.reduceLE, Int.reduceLT, Int.reduceToNat, Nat.reduceLeDiff, UInt8.reduceOfNat, UInt8.reduceOfNatLT, and_self, Nat.reduceMul, decide_true, decide_false, Bool.not_true, Bool.not_false, implies_true]
    exact ⟨0, rfl, by omega, by simp, by omega⟩
  rintro n vs bs ⟨k, rfl, rfl, hk, hb, rfl⟩
  simp only [push_cast, reduceIte, Nat.reduceEqDiff, Nat.reduceAdd, Nat.reduceSub, Nat.reduceLT, Int.reduceNeg, Int.reduceLE, Int.reduceLT, Int.reduceToNat, Nat.reduceLeDiff, UInt8.reduceOfNat, UInt8.reduceOfNatLT, and_self, Nat.reduceMul, decide_true, decide_false, Bool.not_true, Bool.not_false, implies_true]
  apply vc_run 1000 (stop := false) rfl; simp only [push_cast, reduceIte, Nat.reduceEqDiff, Nat.reduceAdd, Nat.reduceSub, Nat.reduceLT, Int.reduceNeg, Int.reduceLE, Int.reduceLT, Int.reduceToNat, Nat.reduceLeDiff, UInt8.reduceOfNat, UInt8.reduceOfNatLT, and_self, Nat.reduceMul, decide_true, decide_false, Bool.not_true, Bool.not_false, implies_true]
  refine ⟨fun hlt => ?_, fun hge => ?_⟩
  · have hlt : k < l.length := by simpa using hlt
    simp only [gd_nat]
    refine ⟨by omega, fun hy => ?_, fun hn => ⟨by constructor <;> omega, _, by omega, k + 1, rfl, by omega, below_step hb hn, rfl⟩⟩
    rw [findIdx_at (p := isRule s m) hlt hb hy]; rfl
  · have hge : k = l.length := by simp at hge; omega
    subst hge
    rw [findIdx_none (p := isRule s m) hb]; rfl)
noncomputable def e_ruleAt : Env := mk [(137, sp_idxRuleA)] [] [] [] none
@[push_cast] theorem e_ruleAt_in : e_ruleAt.inl = inlF [] := rfl
@[push_cast] theorem e_ruleAt_fn : e_ruleAt.fnd = fndF none := rfl
@[push_cast] theorem e_ruleAt_gh : e_ruleAt.gh = ghOf [] := rfl
@[push_cast] theorem e_ruleAt_dr : e_ruleAt.dr = drOf [] := rfl
@[push_cast] theorem e_ruleAt_td : e_ruleAt.td = td := rfl
@[push_cast] theorem e_ruleAt_eqt : e_ruleAt.eqt = eqt := rfl
@[push_cast] theorem e_ruleAt_cal : e_ruleAt.cal = calOf [(137, sp_idxRuleA)] := rfl
theorem c_ruleAt : CRow P0 ety0 104 sp_ruleAt := CRow.of (E := e_ruleAt) (mkOk (.cons c_idxRuleA (.nil))) func104 rfl rfl rfl (by
  intro args p r outs h hq
  simp only [sp_ruleAt] at h; split at h <;> cases h
  rename_i l s m
  have hl := hq _ rfl
  refine Body.intro (rs := [.tmp 6]) rfl rfl rfl ?_
  apply vc_run 1000 (stop := false) rfl; simp only [push_cast, reduceIte, Nat.reduceEqDiff, Nat.reduceAdd, Nat.reduceSub, Nat.reduceLT, Int.reduceNeg, Int.reduceLE, Int.reduceLT, Int.reduceToNat, Nat.reduceLeDiff, UInt8.reduceOfNat, UInt8.reduceOfNatLT, and_self, Nat.reduceMul, decide_true, decide_false, Bool.not_true, Bool.not_false, implies_true]
  exact ⟨hl, rfl⟩)
end Go.Ab
