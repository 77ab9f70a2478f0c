/- Names and texts that do harm: banned names, handlers, links, what a comment may hold. -/
import Derived.Test.YtnnbjffppfagkaaGreatFnU
import Derived.Test.YtnnbjffppfagkaaGreatLibAny
import Derived.Test.YtnnbjffppfagkaaGreatFnSa
import Derived.Test.YtnnbjffppfagkaaGreatFnLo
set_option linter.all false
set_option linter.unusedSimpArgs false
set_option linter.unusedVariables false
set_option linter.unusedSectionVars false
set_option maxRecDepth 20000
set_option maxHeartbeats 1000000
namespace Go.Ab
open Go Go.Proofs.Tryz
def brB (c : UInt8) : Bool := decide (c = 9) || decide (c = 10) || decide (c = 13)
def noBr (c : UInt8) : Bool := !brB c
def lowC (c : UInt8) : Bool := decide (c ≤ 32)
def jsL : Str := [106, 97, 118, 97, 115, 99, 114, 105, 112, 116, 58]
/-- A link that must not be: its beginning, without what is not seen. -/
def badS (v : Str) : Bool := preS (lowS ((v.dropWhile lowC).filter noBr)) jsL
/-- What is left to ask when k bytes are there. -/
def badK : Str → Nat → Bool
  | [], k => decide (k = 11)
  | c :: r, k => bif decide (k = 11) then true else bif brB c || (decide (k = 0) && lowC c) then badK r k else bif decide (lowB c = jsL.getD k 0) then badK r (k + 1) else false
theorem preS_cons (a b : UInt8) (s p : Str) : preS (a :: s) (b :: p) = (decide (a = b) && preS s p) := by
  simp [preS]
theorem preS_nil (s : Str) : preS s [] = true := by simp [preS]
theorem preS_no (b : UInt8) (p : Str) : preS [] (b :: p) = false := by simp [preS]
theorem jsL_drop {k : Nat} (h : k < 11) : jsL.drop k = jsL.getD k 0 :: jsL.drop (k + 1) := by
  have hk : k < jsL.length := h
  rw [List.drop_eq_getElem_cons hk]
  simp [List.getD, hk]
theorem br_low {c : UInt8} (h : brB c = true) : lowC c = true := by
  simp only [brB, Bool.or_eq_true, decide_eq_true_eq] at h
  rcases h with (h | h) | h <;> subst h <;> rfl
theorem badK_pos : ∀ (v : Str) (k : Nat), 0 < k → k ≤ 11 → badK v k = preS (lowS (v.filter noBr)) (jsL.drop k)
  | [], k, h0, h1 => by
    rw [badK]
    by_cases h : k = 11
    · subst h; rfl
    · rw [decide_eq_false h, jsL_drop (by omega)]
      exact (preS_no _ _).symm
  | c :: r, k, h0, h1 => by
    rw [badK]
    by_cases h : k = 11
    · subst h; rw [show jsL.drop 11 = [] from rfl, preS_nil]; rfl
    rw [decide_eq_false h, decide_eq_false (show ¬ k = 0 by omega), Bool.false_and, Bool.or_false, cond_false]
    cases hb : brB c with
    | true =>
      rw [cond_true, badK_pos r k h0 h1, List.filter_cons, show noBr c = false by rw [noBr, hb]; rfl]
      rfl
    | false =>
      rw [cond_false, List.filter_cons, show noBr c = true by rw [noBr, hb]; rfl, if_pos rfl, jsL_drop (by omega)]
      show _ = preS (lowB c :: lowS (r.filter noBr)) _
      rw [preS_cons, badK_pos r (k + 1) (by omega) (by omega)]
      cases decide (lowB c = jsL.getD k 0) <;> rfl
theorem badK_0 : ∀ v : Str, badK v 0 = badS v
  | [] => rfl
  | c :: r => by
    rw [badK, badS, List.dropWhile_cons]
    cases hl : lowC c with
    | true =>
      have := badK_0 r
      rw [badS] at this
      rw [if_pos rfl, ← this]
      simp
    | false =>
      have hb : brB c = false := by
        cases h : brB c with
        | false => rfl
        | true => rw [br_low h] at hl; cases hl
      rw [if_neg (by simp), hb, List.filter_cons, show noBr c = true by rw [noBr, hb]; rfl, if_pos rfl]
      show _ = preS (lowB c :: lowS (r.filter noBr)) (106 :: jsL.drop 1)
      rw [preS_cons, badK_pos r 1 (by omega) (by omega)]
      simp only [Bool.and_false, Bool.or_false, cond_false, show decide (0 = 11) = false from rfl, show jsL.getD 0 0 = 106 from rfl]
      cases decide (lowB c = 106) <;> rfl
theorem bad_skip (c : UInt8) (k : Nat) : (bif bif bif decide (c = 9) then true else decide (c = 10) then true else decide (c = 13) then true else bif decide ((k : Int) = 0) then decide (c ≤ 32) else false) = (brB c || (decide (k = 0) && lowC c)) := by
  have e : decide ((k : Int) = 0) = decide (k = 0) := decide_eq_decide.2 (by omega)
  unfold brB lowC
  rw [e]
  cases decide (c = 9) <;> cases decide (c = 10) <;> cases decide (c = 13) <;> cases decide (k = 0) <;> rfl
noncomputable def sp_badS : Spec := ⟨[.sc], [.rd], true, fun
  | [.str v] => some (some (v.length ≤ 65536), .bool (badS v), [])
  | _ => none⟩
@[push_cast] theorem sp_badS_ps : sp_badS.ps = [.sc] := rfl
@[push_cast] theorem sp_badS_md : sp_badS.modes = [.rd] := rfl
@[push_cast] theorem sp_badS_pure : sp_badS.pure = true := rfl
@[push_cast] theorem sp_badS_run (v : Str) : sp_badS.run [.str v] = some (some (v.length ≤ 65536), .bool (badS v), []) := rfl
theorem drop_str {t : Str} {k : Nat} (h : k < t.length) : t.drop k = t.getD k 0 :: t.drop (k + 1) := by
  rw [List.drop_eq_getElem_cons h]
  simp [List.getD, h]
noncomputable def e_l01Bad : Env := mk [] [] [] [] none
@[push_cast] theorem e_l01Bad_in : e_l01Bad.inl = inlF [] := rfl
@[push_cast] theorem e_l01Bad_fn : e_l01Bad.fnd = fndF none := rfl
@[push_cast] theorem e_l01Bad_gh : e_l01Bad.gh = ghOf [] := rfl
@[push_cast] theorem e_l01Bad_dr : e_l01Bad.dr = drOf [] := rfl
@[push_cast] theorem e_l01Bad_td : e_l01Bad.td = td := rfl
@[push_cast] theorem e_l01Bad_eqt : e_l01Bad.eqt = eqt := rfl
@[push_cast] theorem e_l01Bad_cal : e_l01Bad.cal = calOf [] := rfl
theorem c_l01Bad : CRow P0 ety0 149 sp_badS := CRow.of (E := e_l01Bad) (mkOk (.nil)) func149 rfl rfl rfl (by
  intro args p r outs h hq
  simp only [sp_badS] at h; split at h <;> cases h
  rename_i v
  have hz := hq _ rfl
  refine Body.intro (rs := [.tmp 2]) rfl rfl rfl ?_
  apply vc_run 1000 (stop := false) rfl; simp only [push_cast, reduceIte, Nat.reduceEqDiff, Nat.reduceAdd, Nat.reduceSub, Nat.reduceLT, Int.reduceNeg, Int.reduceLE, Int.reduceLT, Int.reduceToNat, Nat.reduceLeDiff, UInt8.reduceOfNat, UInt8.reduceOfNatLT, and_self, Nat.reduceMul, decide_true, decide_false, Bool.not_true, Bool.not_false, implies_true]
  refine Run.loop [4, 5] [0, 3] [] rfl (fun n vs bs => ∃ k i : Nat, vs = [.int .i64 k, .int .i64 i] ∧ bs = [] ∧ i ≤ v.length ∧ k ≤ 11 ∧ badS v = badK (v.drop i) k ∧ n = v.length - i) v.length ?_ ?_
  · simp only [push_cast, reduceIte, Nat.reduceEqDiff, Nat.reduceAdd, Nat.reduceSub, Nat.reduceLT, Int.reduceNeg, Int.reduceLE, Int.reduceLT, Int.reduceToNat, Nat.reduceLeDiff, UInt8.reduceOfNat, UInt8.reduceOfNatLT, and_self, Nat.reduceMul, decide_true, decide_false, Bool.not_true, Bool.not_false, implies_true]
    exact ⟨0, 0, rfl, by omega, by omega, by rw [List.drop_zero, badK_0], by omega⟩
  rintro n vs bs ⟨k, i, rfl, rfl, hi, hk, hb, rfl⟩
  simp only [push_cast, reduceIte, Nat.reduceEqDiff, Nat.reduceAdd, Nat.reduceSub, Nat.reduceLT, Int.reduceNeg, Int.reduceLE, Int.reduceLT, Int.reduceToNat, Nat.reduceLeDiff, UInt8.reduceOfNat, UInt8.reduceOfNatLT, and_self, Nat.reduceMul, decide_true, decide_false, Bool.not_true, Bool.not_false, implies_true]
  apply vc_run 1000 (stop := false) rfl; simp only [push_cast, reduceIte, Nat.reduceEqDiff, Nat.reduceAdd, Nat.reduceSub, Nat.reduceLT, Int.reduceNeg, Int.reduceLE, Int.reduceLT, Int.reduceToNat, Nat.reduceLeDiff, UInt8.reduceOfNat, UInt8.reduceOfNatLT, and_self, Nat.reduceMul, decide_true, decide_false, Bool.not_true, Bool.not_false, implies_true]
  have ej : ([106, 97, 118, 97, 115, 99, 114, 105, 112, 116, 58] : Str) = jsL := rfl
  simp only [Int.reduceAdd, byteAt_k, bad_skip, ej]
  refine ⟨fun h => ?_, fun h => ?_⟩
  · have hlt : i < v.length ∧ k < 11 := by
      revert h
      by_cases h1 : i < v.length
      · by_cases h2 : k < 11
        · exact fun _ => ⟨h1, h2⟩
        · rw [decide_eq_false (show ¬ (k : Int) < 11 by omega)]; intro h; simp at h
      · rw [decide_eq_false (show ¬ (i : Int) < v.length by omega)]; intro h; cases h
    obtain ⟨hlt, hk1⟩ := hlt
    rw [hb, drop_str hlt, badK, decide_eq_false (show ¬ k = 11 by omega), cond_false]
    generalize v.getD i 0 = c
    generalize hsk : (brB c || (decide (k = 0) && lowC c)) = sk
    refine ⟨by omega, fun hy => ⟨by constructor <;> omega, _, by omega, k, i + 1, rfl, by omega, by omega, by rw [hy]; rfl, rfl⟩, fun hn => ?_⟩
    rw [hn, cond_false]
    have key : ∀ c', lowB c = c' → (0 ≤ (k : Int) ∧ (k : Int) < 11) ∧ ((!decide (c' = jsL.getD k 0)) = true → AV.bool false = AV.bool (bif decide (lowB c = jsL.getD k 0) then badK (v.drop (i + 1)) (k + 1) else false)) ∧
        ((!decide (c' = jsL.getD k 0)) = false → i64ok ((k : Int) + 1) ∧ i64ok ((i : Int) + 1) ∧ ∃ j, j < v.length - i ∧ ∃ k_1 i_1 : Nat, [AV.int .i64 ((k : Int) + 1), .int .i64 ((i : Int) + 1)] = [AV.int .i64 (k_1 : Nat), .int .i64 (i_1 : Nat)] ∧ i_1 ≤ v.length ∧ k_1 ≤ 11 ∧
          (bif decide (lowB c = jsL.getD k 0) then badK (v.drop (i + 1)) (k + 1) else false) = badK (v.drop i_1) k_1 ∧ j = v.length - i_1) := fun c' e => by
      subst e
      refine ⟨by omega, fun h => ?_, fun h => ⟨by constructor <;> omega, by constructor <;> omega, _, by omega, k + 1, i + 1, rfl, by omega, by omega, ?_, rfl⟩⟩
      · rw [show decide (lowB c = jsL.getD k 0) = false by simpa using h]; rfl
      · rw [show decide (lowB c = jsL.getD k 0) = true by simpa using h]; rfl
    exact ⟨fun hu => key _ (by rw [lowB, rngB, hu]; rfl), fun hu => key _ (by rw [lowB, rngB, hu]; rfl)⟩
  · rw [hb]
    by_cases h1 : i < v.length
    · have h2 : k = 11 := by
        revert h
        rw [decide_eq_true (show (i : Int) < v.length by omega)]
        intro h
        have := of_decide_eq_false h
        omega
      subst h2
      rw [drop_str h1, badK]; rfl
    · rw [List.drop_eq_nil_of_le (by omega), badK]
      congr 1
      exact decide_eq_decide.2 (by omega))
theorem dropW_id {u : Str} (h : ∀ c r, u = c :: r → lowC c = false) : u.dropWhile lowC = u := by
  cases u with
  | nil => rfl
  | cons c r => rw [List.dropWhile_cons, h c r rfl]; rfl
theorem filter_take {p : UInt8 → Bool} {t : Str} {k : Nat} (h : k < t.length) : (t.take (k + 1)).filter p = (t.take k).filter p ++ (bif p (t.getD k 0) then [t.getD k 0] else []) := by
  rw [List.take_succ_eq_append_getElem h, List.filter_append]
  have e : t.getD k 0 = t[k] := by simp [List.getD, h]
  rw [e]
  cases hp : p t[k] <;> simp [hp]
noncomputable def e_badLink : Env := mk [(97, sp_isLong), (163, sp_lowS), (100, sp_preS)] [] [] [] none
@[push_cast] theorem e_badLink_in : e_badLink.inl = inlF [] := rfl
@[push_cast] theorem e_badLink_fn : e_badLink.fnd = fndF none := rfl
@[push_cast] theorem e_badLink_gh : e_badLink.gh = ghOf [] := rfl
@[push_cast] theorem e_badLink_dr : e_badLink.dr = drOf [] := rfl
@[push_cast] theorem e_badLink_td : e_badLink.td = td := rfl
@[push_cast] theorem e_badLink_eqt : e_badLink.eqt = eqt := rfl
@[push_cast] theorem e_badLink_cal : e_badLink.cal = calOf [(97, sp_isLong), (163, sp_lowS), (100, sp_preS)] := rfl
theorem c_badLink : CRow P0 ety0 142 sp_badS := CRow.of (E := e_badLink) (mkOk (.cons c_isLong (.cons c_lowS (.cons c_hasPre (.nil))))) func142 rfl rfl rfl (by
  intro args p r outs h hq
  simp only [sp_badS] at h; split at h <;> cases h
  rename_i v
  have hz := hq _ rfl
  refine Body.intro (rs := [.tmp 2]) rfl rfl rfl ?_
  apply vc_run 1000 (stop := false) rfl; simp only [push_cast, reduceIte, Nat.reduceEqDiff, Nat.reduceAdd, Nat.reduceSub, Nat.reduceLT, Int.reduceNeg, Int.reduceLE, Int.reduceLT, Int.reduceToNat, Nat.reduceLeDiff, UInt8.reduceOfNat, UInt8.reduceOfNatLT, and_self, Nat.reduceMul, decide_true, decide_false, Bool.not_true, Bool.not_false, implies_true]
  rw [short_isLong hz]
  refine ⟨fun h => (by cases h), fun _ => ?_⟩
  refine Run.loop [0] [] [] rfl (fun n vs bs => ∃ u : Str, vs = [.str u] ∧ bs = [] ∧ u.length ≤ 65536 ∧ u.dropWhile lowC = v.dropWhile lowC ∧ n = u.length) v.length ?_ ?_
  · simp only [push_cast, reduceIte, Nat.reduceEqDiff, Nat.reduceAdd, Nat.reduceSub, Nat.reduceLT, Int.reduceNeg, Int.reduceLE, Int.reduceLT, Int.reduceToNat, Nat.reduceLeDiff, UInt8.reduceOfNat, UInt8.reduceOfNatLT, and_self, Nat.reduceMul, decide_true, decide_false, Bool.not_true, Bool.not_false, implies_true]
    exact ⟨v, rfl, hz, rfl, rfl⟩
  rintro n vs bs ⟨u, rfl, rfl, hu, hd, rfl⟩
  simp only [push_cast, reduceIte, Nat.reduceEqDiff, Nat.reduceAdd, Nat.reduceSub, Nat.reduceLT, Int.reduceNeg, Int.reduceLE, Int.reduceLT, Int.reduceToNat, Nat.reduceLeDiff, UInt8.reduceOfNat, UInt8.reduceOfNatLT, and_self, Nat.reduceMul, decide_true, decide_false, Bool.not_true, Bool.not_false, implies_true]
  apply vc_run 1000 (stop := false) rfl; simp only [push_cast, reduceIte, Nat.reduceEqDiff, Nat.reduceAdd, Nat.reduceSub, Nat.reduceLT, Int.reduceNeg, Int.reduceLE, Int.reduceLT, Int.reduceToNat, Nat.reduceLeDiff, UInt8.reduceOfNat, UInt8.reduceOfNatLT, and_self, Nat.reduceMul, decide_true, decide_false, Bool.not_true, Bool.not_false, implies_true]
  refine ⟨fun h => ?_, fun h => ?_, fun h => ?_⟩
  · cases u with
    | nil => simp at h
    | cons c r => simp
  · cases u with
    | nil => simp at h
    | cons c r =>
      have hc : lowC c = true := by simpa [byteAt, lowC] using h
      have e : cut (c :: r) 1 ((c :: r).length : Int) = r := by simp [cut]
      rw [e]
      refine ⟨by simp only [List.length_cons]; omega, _, ?_, r, rfl, by simp only [List.length_cons] at hu; omega, ?_, rfl⟩
      · simp
      · rw [← hd, List.dropWhile_cons, hc]; rfl
  have hu2 : u.dropWhile lowC = u := by
    refine dropW_id ?_
    intro c r e
    subst e
    simpa [byteAt, lowC] using h
  have hbad : badS v = preS (lowS (u.filter noBr)) jsL := by rw [badS, ← hd, hu2]
  rw [hbad]
  clear h hd hbad hu2
  refine Run.loop [3, 21] [0, 20] [] rfl (fun n vs bs => ∃ i : Nat, vs = [.own true ⟨.u8, (u.take i).filter noBr⟩, .int .i64 i] ∧ bs = [] ∧ i ≤ u.length ∧ n = u.length - i) u.length ?_ ?_
  · simp only [push_cast, reduceIte, Nat.reduceEqDiff, Nat.reduceAdd, Nat.reduceSub, Nat.reduceLT, Int.reduceNeg, Int.reduceLE, Int.reduceLT, Int.reduceToNat, Nat.reduceLeDiff, UInt8.reduceOfNat, UInt8.reduceOfNatLT, and_self, Nat.reduceMul, decide_true, decide_false, Bool.not_true, Bool.not_false, implies_true]
    exact ⟨0, rfl, by omega, by omega⟩
  rintro n vs bs ⟨i, rfl, rfl, hi, rfl⟩
  simp only [push_cast, reduceIte, Nat.reduceEqDiff, Nat.reduceAdd, Nat.reduceSub, Nat.reduceLT, Int.reduceNeg, Int.reduceLE, Int.reduceLT, Int.reduceToNat, Nat.reduceLeDiff, UInt8.reduceOfNat, UInt8.reduceOfNatLT, and_self, Nat.reduceMul, decide_true, decide_false, Bool.not_true, Bool.not_false, implies_true]
  apply vc_run 1000 (stop := false) rfl; simp only [push_cast, reduceIte, Nat.reduceEqDiff, Nat.reduceAdd, Nat.reduceSub, Nat.reduceLT, Int.reduceNeg, Int.reduceLE, Int.reduceLT, Int.reduceToNat, Nat.reduceLeDiff, UInt8.reduceOfNat, UInt8.reduceOfNatLT, and_self, Nat.reduceMul, decide_true, decide_false, Bool.not_true, Bool.not_false, implies_true]
  have hfl : ((u.take i).filter noBr).length ≤ 65536 := Nat.le_trans (List.length_filter_le _ _) (by rw [List.length_take]; omega)
  refine ⟨fun hlt => ?_, fun hge => ?_⟩
  · have hlt : i < u.length := Int.ofNat_lt.1 (of_decide_eq_true hlt)
    have hs := filter_take (p := noBr) hlt
    simp only [byteAt_k]
    have en : (bif bif !decide (u.getD i 0 = 9) then !decide (u.getD i 0 = 10) else false then !decide (u.getD i 0 = 13) else false) = noBr (u.getD i 0) := by
      unfold noBr brB
      cases decide (u.getD i 0 = 9) <;> cases decide (u.getD i 0 = 10) <;> cases decide (u.getD i 0 = 13) <;> rfl
    rw [en]
    refine ⟨by omega, fun hy => ⟨by unfold sizeOk; omega, by constructor <;> omega, _, by omega, i + 1, ?_, by omega, rfl⟩, fun hn => ⟨by constructor <;> omega, _, by omega, i + 1, ?_, by omega, rfl⟩⟩
    · rw [hs, hy]; rfl
    · rw [hs, hn, cond_false, List.append_nil]; rfl
  · have hge : i = u.length := by have := of_decide_eq_false hge; omega
    subst hge
    rw [List.take_length] at hfl ⊢
    refine ⟨by omega, ?_, rfl⟩
    rw [lowS, List.length_map]; omega)
end Go.Ab
