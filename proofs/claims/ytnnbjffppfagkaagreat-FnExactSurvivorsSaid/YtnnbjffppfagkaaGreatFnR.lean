/- Attributes that do harm, what a comment may hold, whether there is markup. -/
import Derived.Test.YtnnbjffppfagkaaGreatFnS
set_option linter.all false
set_option linter.unusedSimpArgs false
set_option linter.unusedVariables false
set_option linter.unusedSectionVars false
set_option maxRecDepth 20000
set_option maxHeartbeats 1000000
namespace Go.Ab
open Go Go.Proofs.Tryz
def harmB (a : Attr) : Bool := isHdl a.name || (isLnk a.name && badS a.value)
noncomputable def sp_harmB : Spec := ⟨[.st .attr], [.rd], true, fun
  | [.agg [.str a, .str b]] => some (some (a.length ≤ 65536 ∧ b.length ≤ 65536), .bool (harmB ⟨a, b⟩), [])
  | _ => none⟩
@[push_cast] theorem sp_harmB_ps : sp_harmB.ps = [.st .attr] := rfl
@[push_cast] theorem sp_harmB_md : sp_harmB.modes = [.rd] := rfl
@[push_cast] theorem sp_harmB_pure : sp_harmB.pure = true := rfl
@[push_cast] theorem sp_harmB_run (a b : Str) : sp_harmB.run [.agg [.str a, .str b]] = some (some (a.length ≤ 65536 ∧ b.length ≤ 65536), .bool (harmB ⟨a, b⟩), []) := rfl
noncomputable def e_harmB : Env := mk [(140, sp_isHdl), (141, sp_isLnk), (142, sp_badS)] [] [] [] none
@[push_cast] theorem e_harmB_in : e_harmB.inl = inlF [] := rfl
@[push_cast] theorem e_harmB_fn : e_harmB.fnd = fndF none := rfl
@[push_cast] theorem e_harmB_gh : e_harmB.gh = ghOf [] := rfl
@[push_cast] theorem e_harmB_dr : e_harmB.dr = drOf [] := rfl
@[push_cast] theorem e_harmB_td : e_harmB.td = td := rfl
@[push_cast] theorem e_harmB_eqt : e_harmB.eqt = eqt := rfl
@[push_cast] theorem e_harmB_cal : e_harmB.cal = calOf [(140, sp_isHdl), (141, sp_isLnk), (142, sp_badS)] := rfl
theorem c_harmB : CRow P0 ety0 111 sp_harmB := CRow.of (E := e_harmB) (mkOk (.cons c_isHdl (.cons c_isLnk (.cons c_badLink (.nil))))) func111 rfl rfl rfl (by
  intro args p r outs h hq
  simp only [sp_harmB] at h; split at h <;> cases h
  rename_i a b
  obtain ⟨ha, hb⟩ := hq _ rfl
  refine Body.intro (rs := [.tmp 2]) rfl rfl rfl ?_
  apply vc_run 1000 (stop := false) rfl; simp only [push_cast, reduceIte, Nat.reduceEqDiff, Nat.reduceAdd, Nat.reduceSub, Nat.reduceLT, Int.reduceNeg, Int.reduceLE, Int.reduceLT, Int.reduceToNat, Nat.reduceLeDiff, UInt8.reduceOfNat, UInt8.reduceOfNatLT, and_self, Nat.reduceMul, decide_true, decide_false, Bool.not_true, Bool.not_false, implies_true]
  refine ⟨ha, fun _ => hb, ?_⟩
  simp only [Bool.cond_true_left, Bool.cond_false_right]
  rfl)
def hasC (t : Str) (c : UInt8) : Bool := t.contains c
theorem hasC_iff {t : Str} {c : UInt8} : hasC t c = true ↔ ∃ i, i < t.length ∧ t.getD i 0 = c := by
  unfold hasC
  rw [List.contains_iff_mem, List.mem_iff_getElem]
  constructor
  · rintro ⟨i, h, e⟩; exact ⟨i, h, by simp [List.getD, h, e]⟩
  · rintro ⟨i, h, e⟩; exact ⟨i, h, by rw [← e]; simp [List.getD, h]⟩
theorem contains_cons (b : UInt8) (l sub : Str) : Lib.contains (b :: l) sub = (sub.isPrefixOf (b :: l) || Lib.contains l sub) := by
  have h1 := Lib.index_ge l sub
  unfold Lib.contains
  rw [Lib.index]
  cases hp : sub.isPrefixOf (b :: l) with
  | true => simp
  | false =>
    simp only [Bool.false_eq_true, if_false, Bool.false_or]
    split
    · rename_i h
      have := beq_iff_eq.1 h
      rw [this]
    · rename_i h
      have : Lib.index l sub ≠ -1 := fun e => h (by rw [e]; rfl)
      exact decide_eq_decide.2 (by omega)
theorem contains_one (t : Str) (c : UInt8) : Lib.contains t [c] = hasC t c := by
  induction t with
  | nil => rfl
  | cons b l ih =>
    rw [contains_cons, ih]
    simp [hasC, List.isPrefixOf]
    rw [show (c == b) = decide (c = b) by by_cases h : c = b <;> simp [h]]
theorem contains_dd {t : Str} {c : UInt8} : Lib.contains t [c, c] = true ↔ ∃ i, i + 1 < t.length ∧ t.getD i 0 = c ∧ t.getD (i + 1) 0 = c := by
  induction t with
  | nil => simp [Lib.contains, Lib.index]
  | cons b l ih =>
    rw [contains_cons, Bool.or_eq_true, ih]
    constructor
    · rintro (h | ⟨i, h1, h2, h3⟩)
      · cases l with
        | nil => simp [List.isPrefixOf] at h
        | cons b2 l =>
          simp [List.isPrefixOf] at h
          exact ⟨0, by simp, by simp [h.1], by simp [h.2]⟩
      · exact ⟨i + 1, by simpa using h1, by simpa using h2, by simpa using h3⟩
    · rintro ⟨i, h1, h2, h3⟩
      cases i with
      | zero =>
        cases l with
        | nil => simp at h1
        | cons b2 l =>
          refine .inl ?_
          simp at h2 h3
          simp [List.isPrefixOf, h2, h3]
      | succ i => exact .inr ⟨i, by simpa using h1, by simpa using h2, by simpa using h3⟩
theorem pre_one {t : Str} {c : UInt8} : preS t [c] = true ↔ 0 < t.length ∧ t.getD 0 0 = c := by
  cases t <;> simp [preS]
theorem suf_one {t : Str} {c : UInt8} : sufS t [c] = true ↔ 0 < t.length ∧ t.getD (t.length - 1) 0 = c := by
  unfold sufS
  cases t with
  | nil => simp
  | cons b l =>
    have h : (b :: l).length - 1 < (b :: l).length := by simp
    have e : (b :: l).drop ((b :: l).length - [c].length) = [(b :: l).getD ((b :: l).length - 1) 0] := by
      show (b :: l).drop ((b :: l).length - 1) = _
      rw [drop_str h, List.drop_eq_nil_of_le (by simp)]
    rw [e]
    simp
theorem any_lg {t : Str} : hasAny [60, 62] t = true ↔ ∃ i, i < t.length ∧ (t.getD i 0 = 60 ∨ t.getD i 0 = 62) := by
  unfold hasAny
  rw [List.any_eq_true]
  constructor
  · rintro ⟨x, hx, h⟩
    obtain ⟨i, hi, e⟩ := List.mem_iff_getElem.1 hx
    refine ⟨i, hi, ?_⟩
    have : t.getD i 0 = x := by simp [List.getD, hi, e]
    rw [this]
    simpa using h
  · rintro ⟨i, hi, h⟩
    refine ⟨t.getD i 0, ?_, by simpa using h⟩
    have : t.getD i 0 = t[i] := by simp [List.getD, hi]
    rw [this]; exact List.getElem_mem hi
def comBad (t : Str) (i : Nat) : Bool := decide (t.getD i 0 = 60) || decide (t.getD i 0 = 62) || (decide (t.getD i 0 = 45) && (decide (i = 0) || decide (i + 1 = t.length) || decide (t.getD (i - 1) 0 = 45)))
def commentOK (t : Str) : Bool := (List.range t.length).all fun i => !comBad t i
theorem comment_eq (t : Str) : (!hasAny [60, 62] t && !Lib.contains t [45, 45] && !preS t [45] && !sufS t [45]) = commentOK t := by
  rw [Bool.eq_iff_iff, commentOK, List.all_eq_true]
  simp only [Bool.and_eq_true, Bool.not_eq_true', List.mem_range]
  constructor
  · rintro ⟨⟨⟨h1, h2⟩, h3⟩, h4⟩ i hi
    cases hc : comBad t i with
    | false => rfl
    | true =>
      exfalso
      simp only [comBad, Bool.or_eq_true, Bool.and_eq_true, decide_eq_true_eq] at hc
      rcases hc with (h | h) | ⟨h, (e | e) | e⟩
      · rw [any_lg.2 ⟨i, hi, .inl h⟩] at h1; cases h1
      · rw [any_lg.2 ⟨i, hi, .inr h⟩] at h1; cases h1
      · subst e; rw [pre_one.2 ⟨hi, h⟩] at h3; cases h3
      · rw [suf_one.2 ⟨by omega, by rw [← e, Nat.add_sub_cancel]; exact h⟩] at h4; cases h4
      · by_cases h0 : i = 0
        · subst h0; rw [pre_one.2 ⟨hi, h⟩] at h3; cases h3
        · have e2 : i - 1 + 1 = i := by omega
          rw [contains_dd.2 ⟨i - 1, by omega, e, by rw [e2]; exact h⟩] at h2; cases h2
  · intro h
    have hb : ∀ i, i < t.length → comBad t i = true → False := fun i hi hc => by
      have := h i hi; rw [hc] at this; cases this
    refine ⟨⟨⟨?_, ?_⟩, ?_⟩, ?_⟩
    · cases hc : hasAny [60, 62] t with
      | false => rfl
      | true =>
        obtain ⟨i, hi, h | h⟩ := any_lg.1 hc
        · exact (hb i hi (by unfold comBad; rw [h]; simp)).elim
        · exact (hb i hi (by unfold comBad; rw [h]; simp)).elim
    · cases hc : Lib.contains t [45, 45] with
      | false => rfl
      | true =>
        obtain ⟨i, hi, h1, h2⟩ := contains_dd.1 hc
        exact (hb (i + 1) hi (by simp only [comBad, Nat.add_sub_cancel, h1, h2]; simp)).elim
    · cases hc : preS t [45] with
      | false => rfl
      | true =>
        obtain ⟨hi, h1⟩ := pre_one.1 hc
        exact (hb 0 hi (by simp only [comBad, h1]; simp)).elim
    · cases hc : sufS t [45] with
      | false => rfl
      | true =>
        obtain ⟨hi, h1⟩ := suf_one.1 hc
        have e : t.length - 1 + 1 = t.length := by omega
        exact (hb (t.length - 1) (by omega) (by simp only [comBad, h1, e]; simp)).elim
noncomputable def sp_commentOK : Spec := ⟨[.sc], [.rd], true, fun
  | [.str t] => some (some (t.length ≤ 65536), .bool (commentOK t), [])
  | _ => none⟩
@[push_cast] theorem sp_commentOK_ps : sp_commentOK.ps = [.sc] := rfl
@[push_cast] theorem sp_commentOK_md : sp_commentOK.modes = [.rd] := rfl
@[push_cast] theorem sp_commentOK_pure : sp_commentOK.pure = true := rfl
@[push_cast] theorem sp_commentOK_run (t : Str) : sp_commentOK.run [.str t] = some (some (t.length ≤ 65536), .bool (commentOK t), []) := rfl
noncomputable def e_commentOK : Env := mk [(97, sp_isLong), (98, sp_containsAny), (99, sp_containsS), (100, sp_preS), (101, sp_sufS)] [] [] [] none
@[push_cast] theorem e_commentOK_in : e_commentOK.inl = inlF [] := rfl
@[push_cast] theorem e_commentOK_fn : e_commentOK.fnd = fndF none := rfl
@[push_cast] theorem e_commentOK_gh : e_commentOK.gh = ghOf [] := rfl
@[push_cast] theorem e_commentOK_dr : e_commentOK.dr = drOf [] := rfl
@[push_cast] theorem e_commentOK_td : e_commentOK.td = td := rfl
@[push_cast] theorem e_commentOK_eqt : e_commentOK.eqt = eqt := rfl
@[push_cast] theorem e_commentOK_cal : e_commentOK.cal = calOf [(97, sp_isLong), (98, sp_containsAny), (99, sp_containsS), (100, sp_preS), (101, sp_sufS)] := rfl
theorem c_commentOK : CRow P0 ety0 64 sp_commentOK := CRow.of (E := e_commentOK) (mkOk (.cons c_isLong (.cons c_containsAny (.cons c_containsS (.cons c_hasPre (.cons c_hasSuf (.nil))))))) func64 rfl rfl rfl (by
  intro args p r outs h hq
  simp only [sp_commentOK] at h; split at h <;> cases h
  rename_i t
  have hz := hq _ rfl
  refine Body.intro (rs := [.tmp 2]) rfl rfl rfl ?_
  apply vc_run 1000 (stop := false) rfl; simp only [push_cast, reduceIte, Nat.reduceEqDiff, Nat.reduceAdd, Nat.reduceSub, Nat.reduceLT, Int.reduceNeg, Int.reduceLE, Int.reduceLT, Int.reduceToNat, Nat.reduceLeDiff, UInt8.reduceOfNat, UInt8.reduceOfNatLT, and_self, Nat.reduceMul, decide_true, decide_false, Bool.not_true, Bool.not_false, implies_true]
  refine ⟨fun _ => ⟨by decide, by omega⟩, fun _ => by omega, fun _ => by omega, fun _ => by omega, ?_⟩
  rw [short_isLong hz, ← comment_eq]
  simp only [Bool.cond_false_right, Bool.not_false, Bool.true_and])
theorem com_eq (t : Str) (k : Nat) : (bif bif decide (t.getD k 0 = 60) then true else decide (t.getD k 0 = 62) then true else bif decide (t.getD k 0 = 45) then bif bif decide ((k : Int) = 0) then true else decide ((k : Int) = (t.length : Int) - 1) then true else decide (byteAt t ((k : Int) - 1) = 45) else false) = comBad t k := by
  have e1 : decide ((k : Int) = 0) = decide (k = 0) := decide_eq_decide.2 (by omega)
  have e2 : decide ((k : Int) = (t.length : Int) - 1) = decide (k + 1 = t.length) := decide_eq_decide.2 (by omega)
  unfold comBad
  rw [e1, e2]
  by_cases h0 : k = 0
  · subst h0
    cases decide (t.getD 0 0 = 60) <;> cases decide (t.getD 0 0 = 62) <;> cases decide (t.getD 0 0 = 45) <;> rfl
  · have e3 : byteAt t ((k : Int) - 1) = t.getD (k - 1) 0 := by
      have : (k : Int) - 1 = ((k - 1 : Nat) : Int) := by omega
      rw [this, byteAt_k]
    rw [e3, decide_eq_false h0]
    cases decide (t.getD k 0 = 60) <;> cases decide (t.getD k 0 = 62) <;> cases decide (t.getD k 0 = 45) <;> cases decide (k + 1 = t.length) <;> rfl
noncomputable def e_commentOK2 : Env := mk [] [] [] [] none
@[push_cast] theorem e_commentOK2_in : e_commentOK2.inl = inlF [] := rfl
@[push_cast] theorem e_commentOK2_fn : e_commentOK2.fnd = fndF none := rfl
@[push_cast] theorem e_commentOK2_gh : e_commentOK2.gh = ghOf [] := rfl
@[push_cast] theorem e_commentOK2_dr : e_commentOK2.dr = drOf [] := rfl
@[push_cast] theorem e_commentOK2_td : e_commentOK2.td = td := rfl
@[push_cast] theorem e_commentOK2_eqt : e_commentOK2.eqt = eqt := rfl
@[push_cast] theorem e_commentOK2_cal : e_commentOK2.cal = calOf [] := rfl
theorem c_commentOK2 : CRow P0 ety0 85 sp_commentOK := CRow.of (E := e_commentOK2) (mkOk (.nil)) func85 rfl rfl rfl (by
  intro args p r outs h hq
  simp only [sp_commentOK] at h; split at h <;> cases h
  rename_i t
  have hz := hq _ rfl
  refine Body.intro (rs := [.tmp 2]) rfl rfl rfl ?_
  apply vc_run 1000 (stop := false) rfl; simp only [push_cast, reduceIte, Nat.reduceEqDiff, Nat.reduceAdd, Nat.reduceSub, Nat.reduceLT, Int.reduceNeg, Int.reduceLE, Int.reduceLT, Int.reduceToNat, Nat.reduceLeDiff, UInt8.reduceOfNat, UInt8.reduceOfNatLT, and_self, Nat.reduceMul, decide_true, decide_false, Bool.not_true, Bool.not_false, implies_true]
  refine Run.loop [3] [0] [] rfl (fun n vs bs => ∃ k : Nat, vs = [.int .i64 k] ∧ bs = [] ∧ k ≤ t.length ∧ (∀ j < k, (!comBad t j) = true) ∧ n = t.length - k) t.length ?_ ?_
  · simp only [push_cast, reduceIte, Nat.reduceEqDiff, Nat.reduceAdd, Nat.reduceSub, Nat.reduceLT, Int.reduceNeg, Int.reduceLE, Int.reduceLT, Int.reduceToNat, Nat.reduceLeDiff, UInt8.reduceOfNat, UInt8.reduceOfNatLT, and_self, Nat.reduceMul, decide_true, decide_false, Bool.not_true, Bool.not_false, implies_true]
    exact ⟨0, rfl, by omega, by simp, by omega⟩
  rintro n vs bs ⟨k, rfl, rfl, hk, hb, rfl⟩
  simp only [push_cast, reduceIte, Nat.reduceEqDiff, Nat.reduceAdd, Nat.reduceSub, Nat.reduceLT, Int.reduceNeg, Int.reduceLE, Int.reduceLT, Int.reduceToNat, Nat.reduceLeDiff, UInt8.reduceOfNat, UInt8.reduceOfNatLT, and_self, Nat.reduceMul, decide_true, decide_false, Bool.not_true, Bool.not_false, implies_true]
  apply vc_run 1000 (stop := false) rfl; simp only [push_cast, reduceIte, Nat.reduceEqDiff, Nat.reduceAdd, Nat.reduceSub, Nat.reduceLT, Int.reduceNeg, Int.reduceLE, Int.reduceLT, Int.reduceToNat, Nat.reduceLeDiff, UInt8.reduceOfNat, UInt8.reduceOfNatLT, and_self, Nat.reduceMul, decide_true, decide_false, Bool.not_true, Bool.not_false, implies_true]
  refine ⟨fun hlt => ?_, fun hge => ?_⟩
  · have hlt : k < t.length := Int.ofNat_lt.1 (of_decide_eq_true hlt)
    simp only [byteAt_k, com_eq]
    refine ⟨by omega, fun _ => by omega, fun _ => by omega, fun _ => by constructor <;> omega, fun _ => by constructor <;> omega, fun h => ?_, fun hy => ?_, fun hn => ⟨by constructor <;> omega, _, by omega, k + 1, rfl, by omega, below_step hb (by rw [hn]; rfl), rfl⟩⟩
    · have : k ≠ 0 := by
        intro e; subst e; have := h.2; simp at this
      omega
    · rw [commentOK, all_no hlt (by rw [hy]; rfl)]
  · have hge : k = t.length := by have := of_decide_eq_false hge; omega
    subst hge
    rw [commentOK, all_yes hb])
noncomputable def sp_hasC : Spec := ⟨[.sc, .sc], [.rd, .rd], true, fun
  | [.str t, .u8 c] => some (some (t.length ≤ 1073741824), .bool (hasC t c), [])
  | _ => none⟩
@[push_cast] theorem sp_hasC_ps : sp_hasC.ps = [.sc, .sc] := rfl
@[push_cast] theorem sp_hasC_md : sp_hasC.modes = [.rd, .rd] := rfl
@[push_cast] theorem sp_hasC_pure : sp_hasC.pure = true := rfl
@[push_cast] theorem sp_hasC_run (t : Str) (c : UInt8) : sp_hasC.run [.str t, .u8 c] = some (some (t.length ≤ 1073741824), .bool (hasC t c), []) := rfl
noncomputable def e_hasC2 : Env := mk [] [] [] [] none
@[push_cast] theorem e_hasC2_in : e_hasC2.inl = inlF [] := rfl
@[push_cast] theorem e_hasC2_fn : e_hasC2.fnd = fndF none := rfl
@[push_cast] theorem e_hasC2_gh : e_hasC2.gh = ghOf [] := rfl
@[push_cast] theorem e_hasC2_dr : e_hasC2.dr = drOf [] := rfl
@[push_cast] theorem e_hasC2_td : e_hasC2.td = td := rfl
@[push_cast] theorem e_hasC2_eqt : e_hasC2.eqt = eqt := rfl
@[push_cast] theorem e_hasC2_cal : e_hasC2.cal = calOf [] := rfl
theorem c_hasC2 : CRow P0 ety0 120 sp_hasC := CRow.of (E := e_hasC2) (mkOk (.nil)) func120 rfl rfl rfl (by
  intro args p r outs h hq
  simp only [sp_hasC] at h; split at h <;> cases h
  rename_i t c
  have hz := hq _ rfl
  refine Body.intro (rs := [.tmp 4]) rfl rfl rfl ?_
  apply vc_run 1000 (stop := false) rfl; simp only [push_cast, reduceIte, Nat.reduceEqDiff, Nat.reduceAdd, Nat.reduceSub, Nat.reduceLT, Int.reduceNeg, Int.reduceLE, Int.reduceLT, Int.reduceToNat, Nat.reduceLeDiff, UInt8.reduceOfNat, UInt8.reduceOfNatLT, and_self, Nat.reduceMul, decide_true, decide_false, Bool.not_true, Bool.not_false, implies_true]
  refine Run.loop [5] [0, 1] [] rfl (fun n vs bs => ∃ k : Nat, vs = [.int .i64 k] ∧ bs = [] ∧ k ≤ t.length ∧ (∀ j < k, ¬ t.getD j 0 = c) ∧ n = t.length - k) t.length ?_ ?_
  · simp only [push_cast, reduceIte, Nat.reduceEqDiff, Nat.reduceAdd, Nat.reduceSub, Nat.reduceLT, Int.reduceNeg, Int.reduceLE, Int.reduceLT, Int.reduceToNat, Nat.reduceLeDiff, UInt8.reduceOfNat, UInt8.reduceOfNatLT, and_self, Nat.reduceMul, decide_true, decide_false, Bool.not_true, Bool.not_false, implies_true]
    exact ⟨0, rfl, by omega, by simp, by omega⟩
  rintro n vs bs ⟨k, rfl, rfl, hk, hb, rfl⟩
  simp only [push_cast, reduceIte, Nat.reduceEqDiff, Nat.reduceAdd, Nat.reduceSub, Nat.reduceLT, Int.reduceNeg, Int.reduceLE, Int.reduceLT, Int.reduceToNat, Nat.reduceLeDiff, UInt8.reduceOfNat, UInt8.reduceOfNatLT, and_self, Nat.reduceMul, decide_true, decide_false, Bool.not_true, Bool.not_false, implies_true]
  apply vc_run 1000 (stop := false) rfl; simp only [push_cast, reduceIte, Nat.reduceEqDiff, Nat.reduceAdd, Nat.reduceSub, Nat.reduceLT, Int.reduceNeg, Int.reduceLE, Int.reduceLT, Int.reduceToNat, Nat.reduceLeDiff, UInt8.reduceOfNat, UInt8.reduceOfNatLT, and_self, Nat.reduceMul, decide_true, decide_false, Bool.not_true, Bool.not_false, implies_true]
  refine ⟨fun hlt => ?_, fun hge => ?_⟩
  · have hlt : k < t.length := by simpa using hlt
    simp only [byteAt_k]
    refine ⟨by omega, fun hy => ?_, fun hn => ⟨by constructor <;> omega, _, by omega, k + 1, rfl, by omega, below_step hb (by simpa using hn), rfl⟩⟩
    rw [hasC_iff.2 ⟨k, hlt, by simpa using hy⟩]
  · have hge : k = t.length := by simp at hge; omega
    subst hge
    have : hasC t c = false := by
      cases h : hasC t c with
      | false => rfl
      | true =>
        obtain ⟨i, hi, e⟩ := hasC_iff.1 h
        exact (hb i hi e).elim
    rw [this])
def markB (t : Str) : Bool := hasC t 60
noncomputable def sp_markB : Spec := ⟨[.sc], [.rd], true, fun
  | [.str t] => some (some (t.length ≤ 65536), .bool (markB t), [])
  | _ => none⟩
@[push_cast] theorem sp_markB_ps : sp_markB.ps = [.sc] := rfl
@[push_cast] theorem sp_markB_md : sp_markB.modes = [.rd] := rfl
@[push_cast] theorem sp_markB_pure : sp_markB.pure = true := rfl
@[push_cast] theorem sp_markB_run (t : Str) : sp_markB.run [.str t] = some (some (t.length ≤ 65536), .bool (markB t), []) := rfl
noncomputable def e_markB : Env := mk [(97, sp_isLong), (99, sp_containsS)] [] [] [] none
@[push_cast] theorem e_markB_in : e_markB.inl = inlF [] := rfl
@[push_cast] theorem e_markB_fn : e_markB.fnd = fndF none := rfl
@[push_cast] theorem e_markB_gh : e_markB.gh = ghOf [] := rfl
@[push_cast] theorem e_markB_dr : e_markB.dr = drOf [] := rfl
@[push_cast] theorem e_markB_td : e_markB.td = td := rfl
@[push_cast] theorem e_markB_eqt : e_markB.eqt = eqt := rfl
@[push_cast] theorem e_markB_cal : e_markB.cal = calOf [(97, sp_isLong), (99, sp_containsS)] := rfl
theorem c_markB : CRow P0 ety0 109 sp_markB := CRow.of (E := e_markB) (mkOk (.cons c_isLong (.cons c_containsS (.nil)))) func109 rfl rfl rfl (by
  intro args p r outs h hq
  simp only [sp_markB] at h; split at h <;> cases h
  rename_i t
  have hz := hq _ rfl
  refine Body.intro (rs := [.tmp 2]) rfl rfl rfl ?_
  apply vc_run 1000 (stop := false) rfl; simp only [push_cast, reduceIte, Nat.reduceEqDiff, Nat.reduceAdd, Nat.reduceSub, Nat.reduceLT, Int.reduceNeg, Int.reduceLE, Int.reduceLT, Int.reduceToNat, Nat.reduceLeDiff, UInt8.reduceOfNat, UInt8.reduceOfNatLT, and_self, Nat.reduceMul, decide_true, decide_false, Bool.not_true, Bool.not_false, implies_true]
  rw [short_isLong hz]
  refine ⟨fun _ => by omega, ?_⟩
  rw [contains_one]; rfl)
def markN (x : Node) : Bool := markB x.text
noncomputable def sp_markN : Spec := ⟨[.st .node], [.rd], true, fun
  | [.agg [.int .i64 k, .int .i64 s, .str m, .str t, .dat ⟨.attr, a⟩, .dat ⟨.node, ks⟩]] => some (some (t.length ≤ 65536), .bool (markN (.mk k s m t a ks)), [])
  | _ => none⟩
@[push_cast] theorem sp_markN_ps : sp_markN.ps = [.st .node] := rfl
@[push_cast] theorem sp_markN_md : sp_markN.modes = [.rd] := rfl
@[push_cast] theorem sp_markN_pure : sp_markN.pure = true := rfl
@[push_cast] theorem sp_markN_run (k s : Int) (m t : Str) (a : List Attr) (ks : List Node) : sp_markN.run [.agg [.int .i64 k, .int .i64 s, .str m, .str t, .dat ⟨.attr, a⟩, .dat ⟨.node, ks⟩]] = some (some (t.length ≤ 65536), .bool (markN (.mk k s m t a ks)), []) := rfl
noncomputable def e_markN : Env := mk [(109, sp_markB)] [] [] [] none
@[push_cast] theorem e_markN_in : e_markN.inl = inlF [] := rfl
@[push_cast] theorem e_markN_fn : e_markN.fnd = fndF none := rfl
@[push_cast] theorem e_markN_gh : e_markN.gh = ghOf [] := rfl
@[push_cast] theorem e_markN_dr : e_markN.dr = drOf [] := rfl
@[push_cast] theorem e_markN_td : e_markN.td = td := rfl
@[push_cast] theorem e_markN_eqt : e_markN.eqt = eqt := rfl
@[push_cast] theorem e_markN_cal : e_markN.cal = calOf [(109, sp_markB)] := rfl
theorem c_markN : CRow P0 ety0 108 sp_markN := CRow.of (E := e_markN) (mkOk (.cons c_markB (.nil))) func108 rfl rfl rfl (by
  intro args p r outs h hq
  simp only [sp_markN] at h; split at h <;> cases h
  rename_i k s m t a ks
  have hz := hq _ rfl
  refine Body.intro (rs := [.tmp 2]) rfl rfl rfl ?_
  apply vc_run 1000 (stop := false) rfl; simp only [push_cast, reduceIte, Nat.reduceEqDiff, Nat.reduceAdd, Nat.reduceSub, Nat.reduceLT, Int.reduceNeg, Int.reduceLE, Int.reduceLT, Int.reduceToNat, Nat.reduceLeDiff, UInt8.reduceOfNat, UInt8.reduceOfNatLT, and_self, Nat.reduceMul, decide_true, decide_false, Bool.not_true, Bool.not_false, implies_true]
  exact ⟨hz, rfl⟩)
noncomputable def sp_idxNodeM : Spec := ⟨[.sl .node, .sc], [.rd, .rd], true, fun
  | [.dat ⟨.node, l⟩, .fn 108 [] []] => some (some (l.length ≤ 1073741824 ∧ ∀ x ∈ l, x.text.length ≤ 65536), .int .i64 (idx (l.findIdx? (markN))), [])
  | _ => none⟩
@[push_cast] theorem sp_idxNodeM_ps : sp_idxNodeM.ps = [.sl .node, .sc] := rfl
@[push_cast] theorem sp_idxNodeM_md : sp_idxNodeM.modes = [.rd, .rd] := rfl
@[push_cast] theorem sp_idxNodeM_pure : sp_idxNodeM.pure = true := rfl
@[push_cast] theorem sp_idxNodeM_run (l : List Node) : sp_idxNodeM.run [.dat ⟨.node, l⟩, .fn 108 [] []] = some (some (l.length ≤ 1073741824 ∧ ∀ x ∈ l, x.text.length ≤ 65536), .int .i64 (idx (l.findIdx? (markN))), []) := rfl
noncomputable def e_idxNodeM : Env := mk [(108, sp_markN)] [] [] [] none
@[push_cast] theorem e_idxNodeM_in : e_idxNodeM.inl = inlF [] := rfl
@[push_cast] theorem e_idxNodeM_fn : e_idxNodeM.fnd = fndF none := rfl
@[push_cast] theorem e_idxNodeM_gh : e_idxNodeM.gh = ghOf [] := rfl
@[push_cast] theorem e_idxNodeM_dr : e_idxNodeM.dr = drOf [] := rfl
@[push_cast] theorem e_idxNodeM_td : e_idxNodeM.td = td := rfl
@[push_cast] theorem e_idxNodeM_eqt : e_idxNodeM.eqt = eqt := rfl
@[push_cast] theorem e_idxNodeM_cal : e_idxNodeM.cal = calOf [(108, sp_markN)] := rfl
theorem c_idxNodeM : CRow P0 ety0 139 sp_idxNodeM := CRow.of (E := e_idxNodeM) (mkOk (.cons c_markN (.nil))) func139 rfl rfl rfl (by
  intro args p r outs h hq
  simp only [sp_idxNodeM] at h; split at h <;> cases h
  rename_i l 
  have hq0 := hq _ rfl
  have hl : l.length ≤ 1073741824 := by first | exact hq0 | exact hq0.1
  refine Body.intro (rs := [.tmp 4]) rfl rfl rfl ?_
  apply vc_run 1000 (stop := false) rfl; simp only [push_cast, reduceIte, Nat.reduceEqDiff, Nat.reduceAdd, Nat.reduceSub, Nat.reduceLT, Int.reduceNeg, Int.reduceLE, Int.reduceLT, Int.reduceToNat, Nat.reduceLeDiff, UInt8.reduceOfNat, UInt8.reduceOfNatLT, and_self, Nat.reduceMul, decide_true, decide_false, Bool.not_true, Bool.not_false, implies_true]
  refine Run.loop [8] [0, 1, 6, 7] [] rfl (fun n vs bs => ∃ k : Nat, vs = [.int .i64 k] ∧ bs = [] ∧ k ≤ l.length ∧ (∀ j < k, (markN) (l.getD j nodeD) = false) ∧ n = l.length - k) l.length ?_ ?_
  · simp only [push_cast, reduceIte, Nat.reduceEqDiff, Nat.reduceAdd, Nat.reduceSub, Nat.reduceLT, Int.reduceNeg, Int.reduceLE, Int.reduceLT, Int.reduceToNat, Nat.reduceLeDiff, UInt8.reduceOfNat, UInt8.reduceOfNatLT, and_self, Nat.reduceMul, decide_true, decide_false, Bool.not_true, Bool.not_false, implies_true]
    exact ⟨0, rfl, by omega, by simp, by omega⟩
  rintro n vs bs ⟨k, rfl, rfl, hk, hb, rfl⟩
  simp only [push_cast, reduceIte, Nat.reduceEqDiff, Nat.reduceAdd, Nat.reduceSub, Nat.reduceLT, Int.reduceNeg, Int.reduceLE, Int.reduceLT, Int.reduceToNat, Nat.reduceLeDiff, UInt8.reduceOfNat, UInt8.reduceOfNatLT, and_self, Nat.reduceMul, decide_true, decide_false, Bool.not_true, Bool.not_false, implies_true]
  apply vc_run 1000 (stop := false) rfl; simp only [push_cast, reduceIte, Nat.reduceEqDiff, Nat.reduceAdd, Nat.reduceSub, Nat.reduceLT, Int.reduceNeg, Int.reduceLE, Int.reduceLT, Int.reduceToNat, Nat.reduceLeDiff, UInt8.reduceOfNat, UInt8.reduceOfNatLT, and_self, Nat.reduceMul, decide_true, decide_false, Bool.not_true, Bool.not_false, implies_true]
  refine ⟨fun hlt => ?_, fun hge => ?_⟩
  · have hlt : k < l.length := by simpa using hlt
    simp only [gd_nat]
    refine ⟨by omega, fit_at hq0.2 hlt, fun hy => ?_, fun hn => ⟨by constructor <;> omega, _, by omega, k + 1, rfl, by omega, below_step hb hn, rfl⟩⟩
    rw [findIdx_at (p := markN) hlt hb hy]; rfl
  · have hge : k = l.length := by simp at hge; omega
    subst hge
    rw [findIdx_none (p := markN) hb]; rfl)
noncomputable def sp_conNodeM : Spec := ⟨[.sl .node, .sc], [.rd, .rd], true, fun
  | [.dat ⟨.node, l⟩, .fn 108 [] []] => some (some (l.length ≤ 1073741824 ∧ ∀ x ∈ l, x.text.length ≤ 65536), .bool (l.any (markN)), [])
  | _ => none⟩
@[push_cast] theorem sp_conNodeM_ps : sp_conNodeM.ps = [.sl .node, .sc] := rfl
@[push_cast] theorem sp_conNodeM_md : sp_conNodeM.modes = [.rd, .rd] := rfl
@[push_cast] theorem sp_conNodeM_pure : sp_conNodeM.pure = true := rfl
@[push_cast] theorem sp_conNodeM_run (l : List Node) : sp_conNodeM.run [.dat ⟨.node, l⟩, .fn 108 [] []] = some (some (l.length ≤ 1073741824 ∧ ∀ x ∈ l, x.text.length ≤ 65536), .bool (l.any (markN)), []) := rfl
noncomputable def e_conNodeM : Env := mk [(139, sp_idxNodeM)] [] [] [] none
@[push_cast] theorem e_conNodeM_in : e_conNodeM.inl = inlF [] := rfl
@[push_cast] theorem e_conNodeM_fn : e_conNodeM.fnd = fndF none := rfl
@[push_cast] theorem e_conNodeM_gh : e_conNodeM.gh = ghOf [] := rfl
@[push_cast] theorem e_conNodeM_dr : e_conNodeM.dr = drOf [] := rfl
@[push_cast] theorem e_conNodeM_td : e_conNodeM.td = td := rfl
@[push_cast] theorem e_conNodeM_eqt : e_conNodeM.eqt = eqt := rfl
@[push_cast] theorem e_conNodeM_cal : e_conNodeM.cal = calOf [(139, sp_idxNodeM)] := rfl
theorem c_conNodeM : CRow P0 ety0 107 sp_conNodeM := CRow.of (E := e_conNodeM) (mkOk (.cons c_idxNodeM (.nil))) func107 rfl rfl rfl (by
  intro args p r outs h hq
  simp only [sp_conNodeM] at h; split at h <;> cases h
  rename_i l 
  have hq0 := hq _ rfl
  refine Body.intro (rs := [.tmp 4]) rfl rfl rfl ?_
  apply vc_run 1000 (stop := false) rfl; simp only [push_cast, reduceIte, Nat.reduceEqDiff, Nat.reduceAdd, Nat.reduceSub, Nat.reduceLT, Int.reduceNeg, Int.reduceLE, Int.reduceLT, Int.reduceToNat, Nat.reduceLeDiff, UInt8.reduceOfNat, UInt8.reduceOfNatLT, and_self, Nat.reduceMul, decide_true, decide_false, Bool.not_true, Bool.not_false, implies_true]
  exact ⟨hq0, by rw [idx_any]⟩)
noncomputable def sp_marks : Spec := ⟨[.sl .node], [.rd], true, fun
  | [.dat ⟨.node, l⟩] => some (some (l.length ≤ 1073741824 ∧ ∀ x ∈ l, x.text.length ≤ 65536), .bool (l.any markN), [])
  | _ => none⟩
@[push_cast] theorem sp_marks_ps : sp_marks.ps = [.sl .node] := rfl
@[push_cast] theorem sp_marks_md : sp_marks.modes = [.rd] := rfl
@[push_cast] theorem sp_marks_pure : sp_marks.pure = true := rfl
@[push_cast] theorem sp_marks_run (l : List Node) : sp_marks.run [.dat ⟨.node, l⟩] = some (some (l.length ≤ 1073741824 ∧ ∀ x ∈ l, x.text.length ≤ 65536), .bool (l.any markN), []) := rfl
noncomputable def e_marks : Env := mk [(107, sp_conNodeM)] [] [] [] none
@[push_cast] theorem e_marks_in : e_marks.inl = inlF [] := rfl
@[push_cast] theorem e_marks_fn : e_marks.fnd = fndF none := rfl
@[push_cast] theorem e_marks_gh : e_marks.gh = ghOf [] := rfl
@[push_cast] theorem e_marks_dr : e_marks.dr = drOf [] := rfl
@[push_cast] theorem e_marks_td : e_marks.td = td := rfl
@[push_cast] theorem e_marks_eqt : e_marks.eqt = eqt := rfl
@[push_cast] theorem e_marks_cal : e_marks.cal = calOf [(107, sp_conNodeM)] := rfl
theorem c_marks : CRow P0 ety0 69 sp_marks := CRow.of (E := e_marks) (mkOk (.cons c_conNodeM (.nil))) func69 rfl rfl rfl (by
  intro args p r outs h hq
  simp only [sp_marks] at h; split at h <;> cases h
  rename_i l
  have hz := hq _ rfl
  refine Body.intro (rs := [.tmp 2]) rfl rfl rfl ?_
  apply vc_run 1000 (stop := false) rfl; simp only [push_cast, reduceIte, Nat.reduceEqDiff, Nat.reduceAdd, Nat.reduceSub, Nat.reduceLT, Int.reduceNeg, Int.reduceLE, Int.reduceLT, Int.reduceToNat, Nat.reduceLeDiff, UInt8.reduceOfNat, UInt8.reduceOfNatLT, and_self, Nat.reduceMul, decide_true, decide_false, Bool.not_true, Bool.not_false, implies_true]
  exact hz)
end Go.Ab
