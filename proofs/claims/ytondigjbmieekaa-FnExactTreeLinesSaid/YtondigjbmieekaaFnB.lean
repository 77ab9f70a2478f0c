/- Answers: quoted texts, the words of codes, an answer's text. -/
import Derived.Test.YtondigjbmieekaaFnA
set_option linter.all false
set_option linter.unusedSimpArgs false
set_option linter.unusedVariables false
set_option linter.unusedSectionVars false
set_option maxRecDepth 20000
set_option maxHeartbeats 1000000
namespace Go.Ab
open Go Go.Proofs.Try
def hexD : Str := [48, 49, 50, 51, 52, 53, 54, 55, 56, 57, 97, 98, 99, 100, 101, 102]
def hardB (c : UInt8) : Bool := bif bif bif decide (c < 32) then true else decide (126 < c) then true else decide (c = 34) then true else decide (c = 37)
def quoteB (c : UInt8) : Str := bif hardB c then [37, hexD.getD (c.toNat / 16) 0, hexD.getD (c.toNat % 16) 0] else [c]
def quoteF (t : Str) : Str := t.flatMap quoteB
def quote (t : Str) : Str := 34 :: quoteF t ++ [34]
theorem quoteF_take {t : Str} {k : Nat} (h : k < t.length) : quoteF (t.take (k + 1)) = quoteF (t.take k) ++ quoteB (t.getD k 0) := by
  unfold quoteF
  rw [List.take_succ_eq_append_getElem h, List.flatMap_append]
  simp [List.getD, h]
theorem quoteB_le (c : UInt8) : (quoteB c).length ≤ 3 := by unfold quoteB; cases hardB c <;> simp
theorem quoteF_le (t : Str) : (quoteF t).length ≤ 3 * t.length := by
  induction t with
  | nil => simp [quoteF]
  | cons c t ih =>
    have := quoteB_le c
    have h : quoteF (c :: t) = quoteB c ++ quoteF t := by simp [quoteF]
    rw [h]; simp only [List.length_append, List.length_cons]; omega
theorem quoteFt_le (t : Str) (k : Nat) (h : k ≤ t.length) : (quoteF (t.take k)).length ≤ 3 * k := by
  have := quoteF_le (t.take k); rw [List.length_take] at this; omega
theorem hi4 (c : UInt8) : (UInt8.ofNat (c.toNat / 2 ^ 4)).toNat = c.toNat / 16 := by
  have := c.toNat_lt
  rw [UInt8.toNat_ofNat', Nat.mod_eq_of_lt (by omega)]
theorem lo4 (c : UInt8) : (c &&& 15).toNat = c.toNat % 16 := by
  rw [UInt8.toNat_and]
  exact Nat.and_two_pow_sub_one_eq_mod c.toNat 4
theorem byteAt_nat (l : Str) (n : Nat) : byteAt l (n : Int) = l.getD n 0 := by simp [byteAt]
theorem hexD_at (n : Nat) : byteAt [48, 49, 50, 51, 52, 53, 54, 55, 56, 57, 97, 98, 99, 100, 101, 102] (n : Int) = hexD.getD n 0 := byteAt_nat _ _
theorem cut_one {α : Type} {t : List α} {d : α} {k : Nat} (h : k < t.length) : cut t (k : Int) ((k : Int) + 1) = [t.getD k d] := by
  have e : ((k : Int) + 1).toNat = k + 1 := by omega
  unfold cut
  rw [e, Int.toNat_natCast, List.take_succ_eq_append_getElem h, List.drop_append_of_le_length (by simp; omega)]
  simp [List.getD, h]
noncomputable def sp_quoted : Spec := ⟨[.sc], [.rd], true, fun
  | [.str t] => some (some (t.length ≤ 1048576), .str (quote t), [])
  | _ => none⟩
@[push_cast] theorem sp_quoted_ps : sp_quoted.ps = [.sc] := rfl
@[push_cast] theorem sp_quoted_md : sp_quoted.modes = [.rd] := rfl
@[push_cast] theorem sp_quoted_pure : sp_quoted.pure = true := rfl
@[push_cast] theorem sp_quoted_run (t : Str) : sp_quoted.run [.str t] = some (some (t.length ≤ 1048576), .str (quote t), []) := rfl
noncomputable def e_quoted : Env := mk [] [(7, [7, 8], [[1]])] [] [] none
@[push_cast] theorem e_quoted_in : e_quoted.inl = inlF [] := rfl
@[push_cast] theorem e_quoted_fn : e_quoted.fnd = fndF none := rfl
@[push_cast] theorem e_quoted_gh : e_quoted.gh = ghOf [] := rfl
@[push_cast] theorem e_quoted_dr : e_quoted.dr = drOf [(7, [7, 8], [[1]])] := rfl
@[push_cast] theorem e_quoted_td : e_quoted.td = td := rfl
@[push_cast] theorem e_quoted_eqt : e_quoted.eqt = eqt := rfl
@[push_cast] theorem e_quoted_cal : e_quoted.cal = calOf [] := rfl
theorem c_quoted : CRow P0 ety0 104 sp_quoted := CRow.of (E := e_quoted) (mkOk (.nil)) func104 rfl rfl rfl (by
  intro args p r outs h hq
  simp only [sp_quoted] at h; split at h <;> cases h
  rename_i t
  have hl := hq _ rfl
  refine Body.intro (rs := [.tmp 2]) rfl rfl rfl ?_
  apply vc_run 1000 (stop := false) rfl; simp only [push_cast, reduceIte, Nat.reduceEqDiff, Nat.reduceAdd, Nat.reduceSub, Nat.reduceLT, Int.reduceNeg, Int.reduceLE, Int.reduceLT, Int.reduceToNat, Nat.reduceLeDiff, UInt8.reduceOfNat, UInt8.reduceOfNatLT, and_self, Nat.reduceMul, decide_true, decide_false, Bool.not_true, Bool.not_false, implies_true]
  refine Run.loop [3, 9] [0, 8] [] rfl (fun n vs bs => ∃ k : Nat, vs = [.own true ⟨.u8, 34 :: quoteF (t.take k)⟩, .int .i64 k] ∧ bs = [] ∧ k ≤ t.length ∧ n = t.length - k) t.length ?_ ?_
  · simp only [push_cast, reduceIte, Nat.reduceEqDiff, Nat.reduceAdd, Nat.reduceSub, Nat.reduceLT, Int.reduceNeg, Int.reduceLE, Int.reduceLT, Int.reduceToNat, Nat.reduceLeDiff, UInt8.reduceOfNat, UInt8.reduceOfNatLT, and_self, Nat.reduceMul, decide_true, decide_false, Bool.not_true, Bool.not_false, implies_true]
    exact ⟨0, rfl, by omega, by omega⟩
  rintro n vs bs ⟨k, rfl, rfl, hk, rfl⟩
  simp only [push_cast, reduceIte, Nat.reduceEqDiff, Nat.reduceAdd, Nat.reduceSub, Nat.reduceLT, Int.reduceNeg, Int.reduceLE, Int.reduceLT, Int.reduceToNat, Nat.reduceLeDiff, UInt8.reduceOfNat, UInt8.reduceOfNatLT, and_self, Nat.reduceMul, decide_true, decide_false, Bool.not_true, Bool.not_false, implies_true]
  apply vc_run 1000 (stop := false) rfl; simp only [push_cast, reduceIte, Nat.reduceEqDiff, Nat.reduceAdd, Nat.reduceSub, Nat.reduceLT, Int.reduceNeg, Int.reduceLE, Int.reduceLT, Int.reduceToNat, Nat.reduceLeDiff, UInt8.reduceOfNat, UInt8.reduceOfNatLT, and_self, Nat.reduceMul, decide_true, decide_false, Bool.not_true, Bool.not_false, implies_true]
  have ht := quoteFt_le t k hk
  refine ⟨fun hlt => ?_, fun hge => ?_⟩
  · have hlt : k < t.length := by simpa using hlt
    have hs := quoteF_take hlt
    have h8 := (t.getD k 0).toNat_lt
    rw [byteAt_nat]
    refine ⟨by omega, fun hy => ?_, fun hn => ?_⟩
    · rw [hi4, lo4]
      refine ⟨by omega, by omega, by omega, by constructor <;> omega, _, by omega, k + 1, ?_, by omega, rfl⟩
      rw [hs, hexD_at, hexD_at, quoteB, show hardB (t.getD k 0) = true from hy]
      rfl
    · refine ⟨by omega, by constructor <;> omega, _, by omega, k + 1, ?_, by omega, rfl⟩
      rw [hs, quoteB, show hardB (t.getD k 0) = false from hn]
      rfl
  · have hge : k = t.length := by simp at hge; omega
    refine ⟨by omega, ?_⟩
    rw [hge, List.take_length]
    rfl)
noncomputable def e_l12Quote : Env := mk [] [(7, [7], [[1]])] [] [] none
@[push_cast] theorem e_l12Quote_in : e_l12Quote.inl = inlF [] := rfl
@[push_cast] theorem e_l12Quote_fn : e_l12Quote.fnd = fndF none := rfl
@[push_cast] theorem e_l12Quote_gh : e_l12Quote.gh = ghOf [] := rfl
@[push_cast] theorem e_l12Quote_dr : e_l12Quote.dr = drOf [(7, [7], [[1]])] := rfl
@[push_cast] theorem e_l12Quote_td : e_l12Quote.td = td := rfl
@[push_cast] theorem e_l12Quote_eqt : e_l12Quote.eqt = eqt := rfl
@[push_cast] theorem e_l12Quote_cal : e_l12Quote.cal = calOf [] := rfl
theorem c_l12Quote : CRow P0 ety0 99 sp_quoted := CRow.of (E := e_l12Quote) (mkOk (.nil)) func99 rfl rfl rfl (by
  intro args p r outs h hq
  simp only [sp_quoted] at h; split at h <;> cases h
  rename_i t
  have hl := hq _ rfl
  refine Body.intro (rs := [.tmp 2]) rfl rfl rfl ?_
  apply vc_run 1000 (stop := false) rfl; simp only [push_cast, reduceIte, Nat.reduceEqDiff, Nat.reduceAdd, Nat.reduceSub, Nat.reduceLT, Int.reduceNeg, Int.reduceLE, Int.reduceLT, Int.reduceToNat, Nat.reduceLeDiff, UInt8.reduceOfNat, UInt8.reduceOfNatLT, and_self, Nat.reduceMul, decide_true, decide_false, Bool.not_true, Bool.not_false, implies_true]
  refine Run.loop [3, 4] [0] [] rfl (fun n vs bs => ∃ k : Nat, vs = [.str (34 :: quoteF (t.take k)), .int .i64 k] ∧ bs = [] ∧ k ≤ t.length ∧ n = t.length - k) t.length ?_ ?_
  · simp only [push_cast, reduceIte, Nat.reduceEqDiff, Nat.reduceAdd, Nat.reduceSub, Nat.reduceLT, Int.reduceNeg, Int.reduceLE, Int.reduceLT, Int.reduceToNat, Nat.reduceLeDiff, UInt8.reduceOfNat, UInt8.reduceOfNatLT, and_self, Nat.reduceMul, decide_true, decide_false, Bool.not_true, Bool.not_false, implies_true]
    exact ⟨0, rfl, by omega, by omega⟩
  rintro n vs bs ⟨k, rfl, rfl, hk, rfl⟩
  simp only [push_cast, reduceIte, Nat.reduceEqDiff, Nat.reduceAdd, Nat.reduceSub, Nat.reduceLT, Int.reduceNeg, Int.reduceLE, Int.reduceLT, Int.reduceToNat, Nat.reduceLeDiff, UInt8.reduceOfNat, UInt8.reduceOfNatLT, and_self, Nat.reduceMul, decide_true, decide_false, Bool.not_true, Bool.not_false, implies_true]
  apply vc_run 1000 (stop := false) rfl; simp only [push_cast, reduceIte, Nat.reduceEqDiff, Nat.reduceAdd, Nat.reduceSub, Nat.reduceLT, Int.reduceNeg, Int.reduceLE, Int.reduceLT, Int.reduceToNat, Nat.reduceLeDiff, UInt8.reduceOfNat, UInt8.reduceOfNatLT, and_self, Nat.reduceMul, decide_true, decide_false, Bool.not_true, Bool.not_false, implies_true]
  have ht := quoteFt_le t k hk
  refine ⟨fun hlt => ?_, fun hge => ?_⟩
  · have hlt : k < t.length := by simpa using hlt
    have hs := quoteF_take hlt
    have h8 := (t.getD k 0).toNat_lt
    rw [byteAt_nat]
    refine ⟨by omega, fun hy => ?_, fun hn => ?_⟩
    · refine ⟨by decide, ?_⟩
      rw [show (t.getD k 0 / 16).toNat = (t.getD k 0).toNat / 16 from UInt8.toNat_div _ _, show (t.getD k 0 % 16).toNat = (t.getD k 0).toNat % 16 from UInt8.toNat_mod _ _]
      refine ⟨by omega, by decide, by omega, by omega, by constructor <;> omega, _, by omega, k + 1, ?_, by omega, rfl⟩
      rw [hs, hexD_at, hexD_at, quoteB, show hardB (t.getD k 0) = true from hy]
      rfl
    · refine ⟨by constructor <;> omega, by omega, ?_, by constructor <;> omega, _, by omega, k + 1, ?_, by omega, rfl⟩
      · have := cut_one (d := 0) hlt; rw [this]; simp; omega
      · rw [hs, quoteB, show hardB (t.getD k 0) = false from hn, cut_one (d := 0) hlt]
        rfl
  · have hge : k = t.length := by simp at hge; omega
    refine ⟨by omega, ?_⟩
    rw [hge, List.take_length]
    rfl)
def codeWords : List Str := [[111, 107], [98, 97, 100], [108, 111, 110, 103], [102, 111, 114, 109], [114, 97, 110, 103, 101], [110, 111, 110, 101], [109, 97, 110, 121], [102, 117, 108, 108], [115, 105, 122, 101], [107, 105, 110, 100], [110, 97, 109, 101], [100, 101, 101, 112], [104, 97, 110, 100, 108, 101], [99, 111, 110, 102, 105, 103], [97, 103, 97, 105, 110], [117, 110, 115, 97, 102, 101], [112, 108, 97, 99, 101], [115, 116, 97, 116, 101], [115, 97, 109, 101]]
def codeWord (c : Int) : Str := if 0 ≤ c ∧ c ≤ 18 then codeWords.getD c.toNat [] else []
theorem codeWord_le (c : Int) : (codeWord c).length ≤ 6 := by
  unfold codeWord
  split
  · have h : ∀ x ∈ codeWords, x.length ≤ 6 := by decide
    rw [List.getD]
    cases hx : codeWords[c.toNat]? with
    | none => simp
    | some x => exact h x (List.mem_of_getElem? hx)
  · simp
theorem quote_le (t : Str) : (quote t).length ≤ 3 * t.length + 2 := by
  have := quoteF_le t
  simp [quote]; omega
noncomputable def sp_codeWords : Spec := ⟨[], [], false, fun
  | [] => some (none, .own true ⟨.str, codeWords⟩, [])
  | _ => none⟩
@[push_cast] theorem sp_codeWords_ps : sp_codeWords.ps = [] := rfl
@[push_cast] theorem sp_codeWords_md : sp_codeWords.modes = [] := rfl
@[push_cast] theorem sp_codeWords_pure : sp_codeWords.pure = false := rfl
@[push_cast] theorem sp_codeWords_run : sp_codeWords.run [] = some (none, .own true ⟨.str, codeWords⟩, []) := rfl
noncomputable def sp_codeWord : Spec := ⟨[.sc], [.rd], true, fun
  | [.int .i64 c] => some (none, .str (codeWord c), [])
  | _ => none⟩
@[push_cast] theorem sp_codeWord_ps : sp_codeWord.ps = [.sc] := rfl
@[push_cast] theorem sp_codeWord_md : sp_codeWord.modes = [.rd] := rfl
@[push_cast] theorem sp_codeWord_pure : sp_codeWord.pure = true := rfl
@[push_cast] theorem sp_codeWord_run (c : Int) : sp_codeWord.run [.int .i64 c] = some (none, .str (codeWord c), []) := rfl
def failS : Str := [101, 114, 114, 111, 114, 32]
noncomputable def sp_failure : Spec := ⟨[.sc], [.rd], true, fun
  | [.int .i64 c] => some (none, .str (failS ++ codeWord c), [])
  | _ => none⟩
@[push_cast] theorem sp_failure_ps : sp_failure.ps = [.sc] := rfl
@[push_cast] theorem sp_failure_md : sp_failure.modes = [.rd] := rfl
@[push_cast] theorem sp_failure_pure : sp_failure.pure = true := rfl
@[push_cast] theorem sp_failure_run (c : Int) : sp_failure.run [.int .i64 c] = some (none, .str (failS ++ codeWord c), []) := rfl
def answerText (c : Int) (t : Str) : Str := bif !decide (c = 0) then failS ++ codeWord c else bif decide (t = []) then [111, 107] else [111, 107, 32] ++ quote t
noncomputable def sp_answerText : Spec := ⟨[.st .answ], [.rd], true, fun
  | [.agg [.int .i64 c, .str t]] => some (some (t.length ≤ 1048576), .str (answerText c t), [])
  | _ => none⟩
@[push_cast] theorem sp_answerText_ps : sp_answerText.ps = [.st .answ] := rfl
@[push_cast] theorem sp_answerText_md : sp_answerText.modes = [.rd] := rfl
@[push_cast] theorem sp_answerText_pure : sp_answerText.pure = true := rfl
@[push_cast] theorem sp_answerText_run (c : Int) (t : Str) : sp_answerText.run [.agg [.int .i64 c, .str t]] = some (some (t.length ≤ 1048576), .str (answerText c t), []) := rfl
def okAnswer (c : Int) (t : Str) : Bool := within c 0 18 && !(!decide (c = 0) && !decide (t = [])) && !big t
def AnswerText (c : Int) (t : Str) : Str × Int := if okAnswer c t then (answerText c t, 0) else ([], 1)
noncomputable def sp_AnswerText : Spec := ⟨[.st .answ], [.rd], true, fun
  | [.agg [.int .i64 c, .str t]] => some (some (t.length ≤ 1048576), .tup [.str (AnswerText c t).1, .int .i64 (AnswerText c t).2], [])
  | _ => none⟩
@[push_cast] theorem sp_AnswerText_ps : sp_AnswerText.ps = [.st .answ] := rfl
@[push_cast] theorem sp_AnswerText_md : sp_AnswerText.modes = [.rd] := rfl
@[push_cast] theorem sp_AnswerText_pure : sp_AnswerText.pure = true := rfl
@[push_cast] theorem sp_AnswerText_run (c : Int) (t : Str) : sp_AnswerText.run [.agg [.int .i64 c, .str t]] = some (some (t.length ≤ 1048576), .tup [.str (AnswerText c t).1, .int .i64 (AnswerText c t).2], []) := rfl
def szAnswer (t : Str) (n : Int) : Int := if n - t.length < 0 then -1 else n - t.length
noncomputable def sp_szAnswer : Spec := ⟨[.st .answ, .sc], [.rd, .rd], true, fun
  | [.agg [.int .i64 c, .str t], .int .i64 n] => some (some (0 ≤ n ∧ n ≤ 1048576 ∧ t.length ≤ 9223372036854775807), .int .i64 (szAnswer t n), [])
  | _ => none⟩
@[push_cast] theorem sp_szAnswer_ps : sp_szAnswer.ps = [.st .answ, .sc] := rfl
@[push_cast] theorem sp_szAnswer_md : sp_szAnswer.modes = [.rd, .rd] := rfl
@[push_cast] theorem sp_szAnswer_pure : sp_szAnswer.pure = true := rfl
@[push_cast] theorem sp_szAnswer_run (c : Int) (t : Str) (n : Int) : sp_szAnswer.run [.agg [.int .i64 c, .str t], .int .i64 n] = some (some (0 ≤ n ∧ n ≤ 1048576 ∧ t.length ≤ 9223372036854775807), .int .i64 (szAnswer t n), []) := rfl
noncomputable def sp_toAnswer : Spec := ⟨[.st .answ], [.rd], true, fun
  | [.agg [.int .i64 c, .str t]] => some (none, .agg [.int .i64 c, .str t], [])
  | _ => none⟩
@[push_cast] theorem sp_toAnswer_ps : sp_toAnswer.ps = [.st .answ] := rfl
@[push_cast] theorem sp_toAnswer_md : sp_toAnswer.modes = [.rd] := rfl
@[push_cast] theorem sp_toAnswer_pure : sp_toAnswer.pure = true := rfl
@[push_cast] theorem sp_toAnswer_run (c : Int) (t : Str) : sp_toAnswer.run [.agg [.int .i64 c, .str t]] = some (none, .agg [.int .i64 c, .str t], []) := rfl
noncomputable def sp_lawAnswerText : Spec := ⟨[.st .answ], [.rd], true, fun
  | [.agg [.int .i64 c, .str t]] => some (some (t.length ≤ 9223372036854775807), .bool true, [])
  | _ => none⟩
@[push_cast] theorem sp_lawAnswerText_ps : sp_lawAnswerText.ps = [.st .answ] := rfl
@[push_cast] theorem sp_lawAnswerText_md : sp_lawAnswerText.modes = [.rd] := rfl
@[push_cast] theorem sp_lawAnswerText_pure : sp_lawAnswerText.pure = true := rfl
@[push_cast] theorem sp_lawAnswerText_run (c : Int) (t : Str) : sp_lawAnswerText.run [.agg [.int .i64 c, .str t]] = some (some (t.length ≤ 9223372036854775807), .bool true, []) := rfl
end Go.Ab
