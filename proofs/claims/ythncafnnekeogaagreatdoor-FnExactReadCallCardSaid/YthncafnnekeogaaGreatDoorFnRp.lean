/- Paths are read: both sides. -/
import Derived.Test.YthncafnnekeogaaGreatDoorFnPp
import Derived.Test.YthncafnnekeogaaGreatDoorLibNum
import Derived.Test.YthncafnnekeogaaGreatDoorFnMi
set_option linter.all false
set_option linter.unusedSimpArgs false
set_option linter.unusedVariables false
set_option linter.unusedSectionVars false
set_option maxRecDepth 20000
set_option maxHeartbeats 1000000
namespace Go.Ab
open Go Go.Proofs.Tryz
noncomputable def sp_l00Cut : Spec := ⟨[.sc, .sc], [.rd, .rd], false, fun
  | [.str s, .u8 c] => some (some (s.length ≤ 1073741823), .own true ⟨.str, splitS c s⟩, [])
  | _ => none⟩
@[push_cast] theorem sp_l00Cut_ps : sp_l00Cut.ps = [.sc, .sc] := rfl
@[push_cast] theorem sp_l00Cut_md : sp_l00Cut.modes = [.rd, .rd] := rfl
@[push_cast] theorem sp_l00Cut_pure : sp_l00Cut.pure = false := rfl
@[push_cast] theorem sp_l00Cut_run (s : Str) (c : UInt8) : sp_l00Cut.run [.str s, .u8 c] = some (some (s.length ≤ 1073741823), .own true ⟨.str, splitS c s⟩, []) := rfl
theorem cut_end {α : Type} (l : List α) (a : Nat) : cut l (a : Int) (l.length : Nat) = l.drop a := by simp [cut]
theorem split_step {c : UInt8} {s : Str} {o : List Str} {f k : Nat} (hf : f ≤ k) (hk : k < s.length) (h : splitS c (s.take k) = o ++ [(s.take k).drop f]) :
    splitS c (s.take (k + 1)) = if s.getD k 0 = c then o ++ [(s.take k).drop f] ++ [(s.take (k + 1)).drop (k + 1)] else o ++ [(s.take (k + 1)).drop f] := by
  have e : s.getD k 0 = s[k] := by simp [List.getD, hk]
  rw [List.take_succ_eq_append_getElem hk, splitS_snoc c _ o _ _ h, ← e]
  by_cases hc : s.getD k 0 = c
  · rw [if_pos hc, if_pos hc]
    have : (s.take k ++ [s.getD k 0]).drop (k + 1) = [] := List.drop_eq_nil_of_le (by rw [List.length_append, List.length_take]; simp; omega)
    rw [this, List.append_assoc]; rfl
  · rw [if_neg hc, if_neg hc, List.drop_append_of_le_length (by rw [List.length_take]; omega)]
noncomputable def e_l00Cut : Env := mk [] [] [] [] none
@[push_cast] theorem e_l00Cut_in : e_l00Cut.inl = inlF [] := rfl
@[push_cast] theorem e_l00Cut_fn : e_l00Cut.fnd = fndF none := rfl
@[push_cast] theorem e_l00Cut_gh : e_l00Cut.gh = ghOf [] := rfl
@[push_cast] theorem e_l00Cut_dr : e_l00Cut.dr = drOf [] := rfl
@[push_cast] theorem e_l00Cut_td : e_l00Cut.td = td := rfl
@[push_cast] theorem e_l00Cut_eqt : e_l00Cut.eqt = eqt := rfl
@[push_cast] theorem e_l00Cut_cal : e_l00Cut.cal = calOf [] := rfl
theorem c_l00Cut : CRow P0 ety0 118 sp_l00Cut := CRow.of (E := e_l00Cut) (mkOk (.nil)) func118 rfl rfl rfl (by
  intro args p r outs h hq
  simp only [sp_l00Cut] at h; split at h <;> cases h
  rename_i s c
  have hs := hq _ rfl
  refine Body.intro (rs := [.tmp 4]) rfl rfl rfl ?_
  apply vc_run 1000 (stop := false) rfl; simp only [push_cast, reduceIte, Nat.reduceEqDiff, Nat.reduceAdd, Nat.reduceSub, Nat.reduceLT, Int.reduceNeg, Int.reduceLE, Int.reduceLT, Int.reduceToNat, Nat.reduceLeDiff, UInt8.reduceOfNat, UInt8.reduceOfNatLT, and_self, Nat.reduceMul, decide_true, decide_false, Bool.not_true, Bool.not_false, implies_true]
  refine Run.loop [5, 6, 7] [0, 1] [] rfl (fun n vs bs => ∃ (k f : Nat) (o : List Str), vs = [.own true ⟨.str, o⟩, .int .i64 f, .int .i64 k] ∧ bs = [] ∧ k ≤ s.length ∧ f ≤ k ∧ splitS c (s.take k) = o ++ [(s.take k).drop f] ∧ n = s.length - k) s.length ?_ ?_
  · simp only [push_cast, reduceIte, Nat.reduceEqDiff, Nat.reduceAdd, Nat.reduceSub, Nat.reduceLT, Int.reduceNeg, Int.reduceLE, Int.reduceLT, Int.reduceToNat, Nat.reduceLeDiff, UInt8.reduceOfNat, UInt8.reduceOfNatLT, and_self, Nat.reduceMul, decide_true, decide_false, Bool.not_true, Bool.not_false, implies_true]
    exact ⟨0, 0, [], rfl, by omega, by omega, by simp [splitS], by omega⟩
  rintro n vs bs ⟨k, f, o, rfl, rfl, hk, hf, hsp, rfl⟩
  simp only [push_cast, reduceIte, Nat.reduceEqDiff, Nat.reduceAdd, Nat.reduceSub, Nat.reduceLT, Int.reduceNeg, Int.reduceLE, Int.reduceLT, Int.reduceToNat, Nat.reduceLeDiff, UInt8.reduceOfNat, UInt8.reduceOfNatLT, and_self, Nat.reduceMul, decide_true, decide_false, Bool.not_true, Bool.not_false, implies_true]
  apply vc_run 1000 (stop := false) rfl; simp only [push_cast, reduceIte, Nat.reduceEqDiff, Nat.reduceAdd, Nat.reduceSub, Nat.reduceLT, Int.reduceNeg, Int.reduceLE, Int.reduceLT, Int.reduceToNat, Nat.reduceLeDiff, UInt8.reduceOfNat, UInt8.reduceOfNatLT, and_self, Nat.reduceMul, decide_true, decide_false, Bool.not_true, Bool.not_false, implies_true]
  have ecut : ∀ j : Nat, cut s (f : Int) (j : Int) = (s.take j).drop f := fun j => by simp [cut]
  simp only [byteAt_k, ecut]
  have hol : o.length ≤ k := by
    have h1 := splitS_len c (s.take k)
    rw [hsp, List.length_append, List.length_take] at h1
    simp only [List.length_cons, List.length_nil] at h1
    omega
  refine ⟨fun hlt => ?_, fun hge => ?_⟩
  · have hlt : k < s.length := Int.ofNat_lt.1 (of_decide_eq_true hlt)
    have hst := split_step hf hlt hsp
    refine ⟨by omega, fun hc => ?_, fun hc => ?_⟩
    · rw [if_pos (of_decide_eq_true hc)] at hst
      exact ⟨by omega, by unfold sizeOk; omega, by constructor <;> omega, by constructor <;> omega, _, by omega, k + 1, k + 1, _, rfl, by omega, by omega, hst, rfl⟩
    · rw [if_neg (of_decide_eq_false hc)] at hst
      exact ⟨by constructor <;> omega, _, by omega, k + 1, f, _, rfl, by omega, by omega, hst, rfl⟩
  · have hge : k = s.length := by have := of_decide_eq_false hge; omega
    subst hge
    rw [← hsp, List.take_length]
    exact ⟨by omega, by unfold sizeOk; omega, rfl⟩)
theorem dv_lt : ∀ r : Str, r.all digitB = true → dv r < 10 ^ r.length := rev_ind (fun _ => by simp [dv]) fun r c ih h => by
  rw [List.all_append, Bool.and_eq_true] at h
  have h1 := ih h.1
  have hc := (digitB_iff c).1 (by simpa using h.2)
  rw [dv_snoc, List.length_append, List.length_cons, List.length_nil, Nat.pow_succ]
  omega
theorem dv_take {r : Str} {k : Nat} (h : (r.take k).all digitB = true) (hl : r.length ≤ 18) : dv (r.take k) < 1000000000000000000 := by
  have h1 := dv_lt _ h
  have h2 : (10 : Nat) ^ (r.take k).length ≤ 10 ^ 18 := Nat.pow_le_pow_right (by omega) (by rw [List.length_take]; omega)
  omega
theorem dv_step {r : Str} {k : Nat} (h : k < r.length) : dv (r.take (k + 1)) = dv (r.take k) * 10 + ((r.getD k 0).toNat - 48) := by
  have e : r.getD k 0 = r[k] := by simp [List.getD, h]
  rw [List.take_succ_eq_append_getElem h, dv_snoc, e]
theorem all_step {r : Str} {k : Nat} (h : k < r.length) (hd : (r.take k).all digitB = true) (hc : digitB (r.getD k 0) = true) : (r.take (k + 1)).all digitB = true := by
  have e : r.getD k 0 = r[k] := by simp [List.getD, h]
  rw [List.take_succ_eq_append_getElem h, List.all_append, hd, ← e, List.all_cons, hc]; rfl
theorem all_at {r : Str} {k : Nat} (h : k < r.length) (hc : digitB (r.getD k 0) = false) : r.all digitB = false := by
  rw [List.all_eq_false]
  have e : r.getD k 0 = r[k] := by simp [List.getD, h]
  exact ⟨r[k], List.getElem_mem h, by rw [← e, hc]; simp⟩
theorem dv_take17 {r : Str} {k : Nat} (h : (r.take k).all digitB = true) (hk : k ≤ 17) : dv (r.take k) < 100000000000000000 := by
  have h1 := dv_lt _ h
  have h2 : (10 : Nat) ^ (r.take k).length ≤ 10 ^ 17 := Nat.pow_le_pow_right (by omega) (by rw [List.length_take]; omega)
  omega
theorem digit_bif (c : UInt8) : (bif decide (c < 48) then true else decide (57 < c)) = !digitB c := by
  have h1 : decide (c < 48) = !decide (48 ≤ c) := by
    by_cases h : (48 : UInt8) ≤ c
    · rw [decide_eq_true h, decide_eq_false (UInt8.not_lt.2 h)]; rfl
    · rw [decide_eq_false h, decide_eq_true (UInt8.not_le.1 h)]; rfl
  have h2 : decide (57 < c) = !decide (c ≤ 57) := by
    by_cases h : c ≤ (57 : UInt8)
    · rw [decide_eq_true h, decide_eq_false (UInt8.not_lt.2 h)]; rfl
    · rw [decide_eq_false h, decide_eq_true (UInt8.not_le.1 h)]; rfl
  rw [h1, h2]
  unfold digitB rngB
  cases decide (48 ≤ c) <;> cases decide (c ≤ 57) <;> rfl
noncomputable def sp_number2 : Spec := ⟨[.sc], [.rd], true, fun
  | [.str t] => some (some (t.length ≤ 281474976710656), .tup [.int .i64 (numV t), .bool (numOK t)], [])
  | _ => none⟩
@[push_cast] theorem sp_number2_ps : sp_number2.ps = [.sc] := rfl
@[push_cast] theorem sp_number2_md : sp_number2.modes = [.rd] := rfl
@[push_cast] theorem sp_number2_pure : sp_number2.pure = true := rfl
@[push_cast] theorem sp_number2_run (t : Str) : sp_number2.run [.str t] = some (some (t.length ≤ 281474976710656), .tup [.int .i64 (numV t), .bool (numOK t)], []) := rfl
noncomputable def e_l00Number : Env := mk [] [] [] [] none
@[push_cast] theorem e_l00Number_in : e_l00Number.inl = inlF [] := rfl
@[push_cast] theorem e_l00Number_fn : e_l00Number.fnd = fndF none := rfl
@[push_cast] theorem e_l00Number_gh : e_l00Number.gh = ghOf [] := rfl
@[push_cast] theorem e_l00Number_dr : e_l00Number.dr = drOf [] := rfl
@[push_cast] theorem e_l00Number_td : e_l00Number.td = td := rfl
@[push_cast] theorem e_l00Number_eqt : e_l00Number.eqt = eqt := rfl
@[push_cast] theorem e_l00Number_cal : e_l00Number.cal = calOf [] := rfl
theorem c_l00Number : CRow P0 ety0 68 sp_number2 := CRow.of (E := e_l00Number) (mkOk (.nil)) func68 rfl rfl rfl (by
  intro args p r outs h hq
  simp only [sp_number2] at h; split at h <;> cases h
  rename_i t
  have hs := hq _ rfl
  refine Body.intro (rs := [.tmp 2, .tmp 3]) rfl rfl rfl ?_
  apply vc_run 1000 (stop := false) rfl; simp only [push_cast, reduceIte, Nat.reduceEqDiff, Nat.reduceAdd, Nat.reduceSub, Nat.reduceLT, Int.reduceNeg, Int.reduceLE, Int.reduceLT, Int.reduceToNat, Nat.reduceLeDiff, UInt8.reduceOfNat, UInt8.reduceOfNatLT, and_self, Nat.reduceMul, decide_true, decide_false, Bool.not_true, Bool.not_false, implies_true]
  refine ⟨fun h => of_decide_eq_true h, fun hneg => ?_, fun hpos => ?_⟩
  · obtain ⟨r, rfl⟩ : ∃ r, t = 45 :: r := by
      cases t with
      | nil => simp at hneg
      | cons c r =>
        have : byteAt (c :: r) 0 = c := rfl
        rw [this] at hneg
        simp at hneg
        exact ⟨r, by rw [hneg]⟩
    have hc : cut (45 :: r) 1 ((45 :: r).length : Nat) = r := by simp [cut]
    simp only [hc]
    have hh : decide (byteAt r 0 = 48) = decide (r.head? = some 48) ∨ r = [] := by
      cases r with
      | nil => exact .inr rfl
      | cons x r => left; congr 1; simp [byteAt]
    have hb : ∀ b, (bif bif decide ((r.length : Int) = 0) then true else decide ((18 : Int) < r.length) then true else bif decide (byteAt r 0 = 48) then bif decide ((1 : Int) < r.length) then true else true else false) = b → (b = true ↔ (r.length = 0 ∨ 18 < r.length ∨ r.head? = some 48)) := by
      intro b e
      subst e
      rcases hh with hh | rfl
      · rw [hh]
        by_cases h0 : r.length = 0
        · simp [h0]
        · by_cases h18 : 18 < r.length
          · have : (18 : Int) < r.length := by omega
            simp [h18, this]
          · have h18' : ¬ (18 : Int) < r.length := by omega
            have h0' : ¬ (r.length : Int) = 0 := by omega
            by_cases h48 : r.head? = some 48
            · simp [h0', h18', h48]
            · simp only [decide_eq_false h48, decide_eq_false h0', decide_eq_false h18', cond_false]
              simp only [Bool.false_eq_true, false_iff]
              rintro (h | h | h)
              · exact h0 h
              · exact h18 h
              · exact h48 h
      · simp
    refine ⟨by simp only [List.length_cons]; omega, fun h => ?_, fun h => ?_, fun h => ?_⟩
    · by_cases h0 : r.length = 0
      · simp [h0] at h
      · omega
    · have hn := (hb _ h).1 rfl
      rw [numV, numOK, numS_neg, if_pos hn]; rfl
    have hn : ¬ (r.length = 0 ∨ 18 < r.length ∨ r.head? = some 48) := fun e => by have := (hb _ h).2 e; cases this
    refine Run.loop [2, 3, 5, 6] [0, 4] [] rfl (fun n vs bs => ∃ k : Nat, vs = [.int .i64 0, .bool false, .int .i64 (dv (r.take k)), .int .i64 k] ∧ bs = [] ∧ k ≤ r.length ∧ (r.take k).all digitB = true ∧ n = r.length - k) r.length ?_ ?_
    · simp only [push_cast, reduceIte, Nat.reduceEqDiff, Nat.reduceAdd, Nat.reduceSub, Nat.reduceLT, Int.reduceNeg, Int.reduceLE, Int.reduceLT, Int.reduceToNat, Nat.reduceLeDiff, UInt8.reduceOfNat, UInt8.reduceOfNatLT, and_self, Nat.reduceMul, decide_true, decide_false, Bool.not_true, Bool.not_false, implies_true]
      exact ⟨0, by simp [dv], by omega, by simp, by omega⟩
    rintro n vs bs ⟨k, rfl, rfl, hk, hd, rfl⟩
    simp only [push_cast, reduceIte, Nat.reduceEqDiff, Nat.reduceAdd, Nat.reduceSub, Nat.reduceLT, Int.reduceNeg, Int.reduceLE, Int.reduceLT, Int.reduceToNat, Nat.reduceLeDiff, UInt8.reduceOfNat, UInt8.reduceOfNatLT, and_self, Nat.reduceMul, decide_true, decide_false, Bool.not_true, Bool.not_false, implies_true]
    apply vc_run 1000 (stop := false) rfl; simp only [push_cast, reduceIte, Nat.reduceEqDiff, Nat.reduceAdd, Nat.reduceSub, Nat.reduceLT, Int.reduceNeg, Int.reduceLE, Int.reduceLT, Int.reduceToNat, Nat.reduceLeDiff, UInt8.reduceOfNat, UInt8.reduceOfNatLT, and_self, Nat.reduceMul, decide_true, decide_false, Bool.not_true, Bool.not_false, implies_true]
    have hlt18 := dv_take hd (show r.length ≤ 18 by omega)
    refine ⟨fun hlt => ?_, fun hge => ?_⟩
    · have hlt : k < r.length := Int.ofNat_lt.1 (of_decide_eq_true hlt)
      simp only [byteAt_k]
      rw [digit_bif]
      have hst := dv_step hlt
      refine ⟨by omega, fun _ => by omega, fun hc => ?_, fun hc => ?_⟩
      · have hc : digitB (r.getD k 0) = false := by simpa using hc
        have hal : r.all digitB = false := all_at hlt hc
        rw [numV, numOK, numS_neg, if_neg hn, if_neg (by rw [hal]; simp)]; rfl
      · have hc : digitB (r.getD k 0) = true := by simpa using hc
        have hlt17 := dv_take17 hd (show k ≤ 17 by omega)
        have hcd := (digitB_iff _).1 hc
        refine ⟨by constructor <;> omega, by omega, by constructor <;> omega, by constructor <;> omega, by constructor <;> omega, _, by omega, k + 1, ?_, by omega, all_step hlt hd hc, rfl⟩
        rw [hst]
        congr 4
        omega
    · have hge : k = r.length := by have := of_decide_eq_false hge; omega
      subst hge
      rw [List.take_length] at hd hlt18 ⊢
      rw [numV, numOK, numS_neg, if_neg hn, if_pos hd]
      exact ⟨by constructor <;> omega, by simp⟩
  · have hne : t.head? ≠ some 45 := by
      cases t with
      | nil => simp
      | cons c r =>
        have : byteAt (c :: r) 0 = c := rfl
        rw [this] at hpos
        simp at hpos
        simpa using hpos
    have hnum : numS t = if t.length = 0 ∨ 18 < t.length ∨ (t.head? = some 48 ∧ 1 < t.length) then none else if t.all digitB then some (dv t : Int) else none := by
      unfold numS
      simp only [decide_eq_false hne, cond_false]
      simp
    have hh : decide (byteAt t 0 = 48) = decide (t.head? = some 48) ∨ t = [] := by
      cases t with
      | nil => exact .inr rfl
      | cons x r => left; congr 1; simp [byteAt]
    have hb : ∀ b, (bif bif decide ((t.length : Int) = 0) then true else decide ((18 : Int) < t.length) then true else bif decide (byteAt t 0 = 48) then bif decide ((1 : Int) < t.length) then true else false else false) = b → (b = true ↔ (t.length = 0 ∨ 18 < t.length ∨ (t.head? = some 48 ∧ 1 < t.length))) := by
      intro b e
      subst e
      rcases hh with hh | rfl
      · rw [hh]
        by_cases h0 : t.length = 0
        · simp [h0]
        · by_cases h18 : 18 < t.length
          · have : (18 : Int) < t.length := by omega
            simp [h18, this]
          · have h18' : ¬ (18 : Int) < t.length := by omega
            have h0' : ¬ (t.length : Int) = 0 := by omega
            by_cases h48 : t.head? = some 48
            · by_cases h1 : 1 < t.length
              · have h1' : (1 : Int) < t.length := by omega
                simp [h0', h18', h48, h1, h1']
              · have h1' : ¬ (1 : Int) < t.length := by omega
                simp only [decide_eq_true h48, decide_eq_false h0', decide_eq_false h18', decide_eq_false h1', cond_false, cond_true]
                simp only [Bool.false_eq_true, false_iff]
                rintro (h | h | ⟨_, h⟩) <;> omega
            · simp only [decide_eq_false h48, decide_eq_false h0', decide_eq_false h18', cond_false]
              simp only [Bool.false_eq_true, false_iff]
              rintro (h | h | ⟨h, _⟩)
              · exact h0 h
              · exact h18 h
              · exact h48 h
      · simp
    refine ⟨fun h => ?_, fun h => ?_, fun h => ?_⟩
    · by_cases h0 : t.length = 0
      · simp [h0] at h
      · omega
    · have hn := (hb _ h).1 rfl
      rw [numV, numOK, hnum, if_pos hn]; rfl
    have hn : ¬ (t.length = 0 ∨ 18 < t.length ∨ (t.head? = some 48 ∧ 1 < t.length)) := fun e => by have := (hb _ h).2 e; cases this
    refine Run.loop [2, 3, 5, 6] [0, 4] [] rfl (fun n vs bs => ∃ k : Nat, vs = [.int .i64 0, .bool false, .int .i64 (dv (t.take k)), .int .i64 k] ∧ bs = [] ∧ k ≤ t.length ∧ (t.take k).all digitB = true ∧ n = t.length - k) t.length ?_ ?_
    · simp only [push_cast, reduceIte, Nat.reduceEqDiff, Nat.reduceAdd, Nat.reduceSub, Nat.reduceLT, Int.reduceNeg, Int.reduceLE, Int.reduceLT, Int.reduceToNat, Nat.reduceLeDiff, UInt8.reduceOfNat, UInt8.reduceOfNatLT, and_self, Nat.reduceMul, decide_true, decide_false, Bool.not_true, Bool.not_false, implies_true]
      exact ⟨0, by simp [dv], by omega, by simp, by omega⟩
    rintro n vs bs ⟨k, rfl, rfl, hk, hd, rfl⟩
    simp only [push_cast, reduceIte, Nat.reduceEqDiff, Nat.reduceAdd, Nat.reduceSub, Nat.reduceLT, Int.reduceNeg, Int.reduceLE, Int.reduceLT, Int.reduceToNat, Nat.reduceLeDiff, UInt8.reduceOfNat, UInt8.reduceOfNatLT, and_self, Nat.reduceMul, decide_true, decide_false, Bool.not_true, Bool.not_false, implies_true]
    apply vc_run 1000 (stop := false) rfl; simp only [push_cast, reduceIte, Nat.reduceEqDiff, Nat.reduceAdd, Nat.reduceSub, Nat.reduceLT, Int.reduceNeg, Int.reduceLE, Int.reduceLT, Int.reduceToNat, Nat.reduceLeDiff, UInt8.reduceOfNat, UInt8.reduceOfNatLT, and_self, Nat.reduceMul, decide_true, decide_false, Bool.not_true, Bool.not_false, implies_true]
    have hlt18 := dv_take hd (show t.length ≤ 18 by omega)
    refine ⟨fun hlt => ?_, fun hge => ?_⟩
    · have hlt : k < t.length := Int.ofNat_lt.1 (of_decide_eq_true hlt)
      simp only [byteAt_k]
      rw [digit_bif]
      have hst := dv_step hlt
      refine ⟨by omega, fun _ => by omega, fun hc => ?_, fun hc => ?_⟩
      · have hc : digitB (t.getD k 0) = false := by simpa using hc
        have hal : t.all digitB = false := all_at hlt hc
        rw [numV, numOK, hnum, if_neg hn, if_neg (by rw [hal]; simp)]; rfl
      · have hc : digitB (t.getD k 0) = true := by simpa using hc
        have hlt17 := dv_take17 hd (show k ≤ 17 by omega)
        have hcd := (digitB_iff _).1 hc
        refine ⟨by constructor <;> omega, by omega, by constructor <;> omega, by constructor <;> omega, by constructor <;> omega, _, by omega, k + 1, ?_, by omega, all_step hlt hd hc, rfl⟩
        rw [hst]
        congr 4
        omega
    · have hge : k = t.length := by have := of_decide_eq_false hge; omega
      subst hge
      rw [List.take_length] at hd hlt18 ⊢
      rw [numV, numOK, hnum, if_neg hn, if_pos hd]
      exact ⟨by constructor <;> omega, by simp⟩)
/-- A path's text is read: the program's way, and the reference's. -/
def rpI (t : Str) : List Int × Bool := if t = [45] then ([], true) else if (splitS 46 t).all numOK then ((splitS 46 t).map atoiV, isPath ((splitS 46 t).map atoiV)) else ([], false)
def numP (w : Str) : Bool := numOK w && decide (0 ≤ numV w)
def rpS (t : Str) : List Int × Bool := if t = [45] then ([], true) else if (splitS 46 t).all numP then ((splitS 46 t).map numV, isPath ((splitS 46 t).map numV)) else ([], false)
theorem rp_eq (t : Str) : (rpI t).2 = (rpS t).2 ∧ ((rpI t).2 = true → (rpI t).1 = (rpS t).1) := by
  unfold rpI rpS
  by_cases h : t = [45]
  · rw [if_pos h, if_pos h]; exact ⟨rfl, fun _ => rfl⟩
  rw [if_neg h, if_neg h]
  generalize splitS 46 t = ws
  have hmap : ws.all numOK = true → ws.map atoiV = ws.map numV := fun ha => by
    apply List.map_congr_left
    intro w hw
    exact atoiV_num (List.all_eq_true.1 ha w hw)
  cases ha : ws.all numOK with
  | false =>
    have hb : ws.all numP = false := by
      rw [Bool.eq_false_iff]
      intro e
      rw [Bool.eq_false_iff] at ha
      exact ha (List.all_eq_true.2 fun w hw => by have := List.all_eq_true.1 e w hw; unfold numP at this; rw [Bool.and_eq_true] at this; exact this.1)
    rw [hb]; exact ⟨rfl, fun _ => rfl⟩
  | true =>
    have hm := hmap ha
    simp only [if_true]
    cases hb : ws.all numP with
    | true =>
      simp only [if_true]
      rw [hm]; exact ⟨rfl, fun _ => rfl⟩
    | false =>
      simp only [Bool.false_eq_true, if_false]
      have : isPath (ws.map atoiV) = false := by
        rw [Bool.eq_false_iff]
        intro e
        rw [Bool.eq_false_iff] at hb
        apply hb
        rw [List.all_eq_true]
        intro w hw
        have h1 := List.all_eq_true.1 ha w hw
        have h2 := ((isPath_in e).2 (atoiV w) (List.mem_map_of_mem hw)).1
        unfold numP
        rw [h1, ← atoiV_num h1, decide_eq_true h2]; rfl
      rw [this]; exact ⟨rfl, fun e => by cases e⟩
noncomputable def sp_readPath : Spec := ⟨[.sc], [.rd], false, fun
  | [.str t] => some (some (t.length ≤ 1073741823), .tup [.own true ⟨.int, (rpI t).1⟩, .bool (rpI t).2], [])
  | _ => none⟩
@[push_cast] theorem sp_readPath_ps : sp_readPath.ps = [.sc] := rfl
@[push_cast] theorem sp_readPath_md : sp_readPath.modes = [.rd] := rfl
@[push_cast] theorem sp_readPath_pure : sp_readPath.pure = false := rfl
@[push_cast] theorem sp_readPath_run (t : Str) : sp_readPath.run [.str t] = some (some (t.length ≤ 1073741823), .tup [.own true ⟨.int, (rpI t).1⟩, .bool (rpI t).2], []) := rfl
theorem take_all_step {α : Type} {l : List α} {p : α → Bool} {d : α} {k : Nat} (h : k < l.length) (hd : (l.take k).all p = true) (hc : p (l.getD k d) = true) : (l.take (k + 1)).all p = true := by
  have e : l.getD k d = l[k] := by simp [List.getD, h]
  rw [List.take_succ_eq_append_getElem h, List.all_append, hd, ← e, List.all_cons, hc]; rfl
theorem all_bad {α : Type} {l : List α} {p : α → Bool} {d : α} {k : Nat} (h : k < l.length) (hc : p (l.getD k d) = false) : l.all p = false := by
  rw [List.all_eq_false]
  have e : l.getD k d = l[k] := by simp [List.getD, h]
  exact ⟨l[k], List.getElem_mem h, by rw [← e, hc]; simp⟩
theorem map_step {α β : Type} {l : List α} {f : α → β} {d : α} {k : Nat} (h : k < l.length) : (l.take (k + 1)).map f = (l.take k).map f ++ [f (l.getD k d)] := by
  have e : l.getD k d = l[k] := by simp [List.getD, h]
  rw [List.take_succ_eq_append_getElem h, List.map_append, ← e]; rfl
noncomputable def e_readPath : Env := mk [(124, sp_split), (75, sp_number), (125, sp_isPath)] [] [(2000000, [.nil .int 2]), (15, [.frz 14])] [] none
@[push_cast] theorem e_readPath_in : e_readPath.inl = inlF [] := rfl
@[push_cast] theorem e_readPath_fn : e_readPath.fnd = fndF none := rfl
@[push_cast] theorem e_readPath_gh : e_readPath.gh = ghOf [(2000000, [.nil .int 2]), (15, [.frz 14])] := rfl
@[push_cast] theorem e_readPath_dr : e_readPath.dr = drOf [] := rfl
@[push_cast] theorem e_readPath_td : e_readPath.td = td := rfl
@[push_cast] theorem e_readPath_eqt : e_readPath.eqt = eqt := rfl
@[push_cast] theorem e_readPath_cal : e_readPath.cal = calOf [(124, sp_split), (75, sp_number), (125, sp_isPath)] := rfl
theorem c_readPath : CRow P0 ety0 77 sp_readPath := CRow.of (E := e_readPath) (mkOk (.cons c_split (.cons c_number (.cons c_isPath (.nil))))) func77 rfl rfl rfl (by
  intro args p r outs h hq
  simp only [sp_readPath] at h; split at h <;> cases h
  rename_i t
  have hs := hq _ rfl
  have hwl := splitS_len 46 t
  have hwm := splitS_mem 46 t
  refine Body.intro (rs := [.tmp 2, .tmp 3]) rfl rfl rfl ?_
  apply vc_run 1000 (stop := false) rfl; simp only [push_cast, reduceIte, Nat.reduceEqDiff, Nat.reduceAdd, Nat.reduceSub, Nat.reduceLT, Int.reduceNeg, Int.reduceLE, Int.reduceLT, Int.reduceToNat, Nat.reduceLeDiff, UInt8.reduceOfNat, UInt8.reduceOfNatLT, and_self, Nat.reduceMul, decide_true, decide_false, Bool.not_true, Bool.not_false, implies_true]
  refine ⟨fun h => ?_, fun h => ?_⟩
  · have h : t = [45] := of_decide_eq_true h
    rw [rpI, if_pos h]
  have hne : t ≠ [45] := of_decide_eq_false h
  refine ⟨hs, ?_⟩
  have e0 : rpI t = if (splitS 46 t).all numOK then ((splitS 46 t).map atoiV, isPath ((splitS 46 t).map atoiV)) else ([], false) := by rw [rpI, if_neg hne]
  rw [e0]
  generalize splitS 46 t = ws at *
  refine Run.loop [2, 3, 4, 16] [14, 15] [] rfl (fun n vs bs => ∃ k : Nat, vs = [.nilS, .bool false, .own true ⟨.int, (ws.take k).map atoiV⟩, .int .i64 k] ∧ bs = [] ∧ k ≤ ws.length ∧ (ws.take k).all numOK = true ∧ n = ws.length - k) ws.length ?_ ?_
  · simp only [push_cast, reduceIte, Nat.reduceEqDiff, Nat.reduceAdd, Nat.reduceSub, Nat.reduceLT, Int.reduceNeg, Int.reduceLE, Int.reduceLT, Int.reduceToNat, Nat.reduceLeDiff, UInt8.reduceOfNat, UInt8.reduceOfNatLT, and_self, Nat.reduceMul, decide_true, decide_false, Bool.not_true, Bool.not_false, implies_true]
    exact ⟨0, rfl, by omega, by simp, by omega⟩
  rintro n vs bs ⟨k, rfl, rfl, hk, ha, rfl⟩
  simp only [push_cast, reduceIte, Nat.reduceEqDiff, Nat.reduceAdd, Nat.reduceSub, Nat.reduceLT, Int.reduceNeg, Int.reduceLE, Int.reduceLT, Int.reduceToNat, Nat.reduceLeDiff, UInt8.reduceOfNat, UInt8.reduceOfNatLT, and_self, Nat.reduceMul, decide_true, decide_false, Bool.not_true, Bool.not_false, implies_true]
  apply vc_run 1000 (stop := false) rfl; simp only [push_cast, reduceIte, Nat.reduceEqDiff, Nat.reduceAdd, Nat.reduceSub, Nat.reduceLT, Int.reduceNeg, Int.reduceLE, Int.reduceLT, Int.reduceToNat, Nat.reduceLeDiff, UInt8.reduceOfNat, UInt8.reduceOfNatLT, and_self, Nat.reduceMul, decide_true, decide_false, Bool.not_true, Bool.not_false, implies_true]
  have hwl2 : (List.map atoiV (ws.take k)).length ≤ k := by rw [List.length_map, List.length_take]; omega
  refine ⟨fun hlt => ?_, fun hge => ?_⟩
  · have hlt : k < ws.length := Int.ofNat_lt.1 (of_decide_eq_true hlt)
    simp only [gd_nat]
    have hm : (ws.getD k []).length ≤ t.length := hwm _ (by
      have e : ws.getD k [] = ws[k] := by simp [List.getD, hlt]
      rw [e]; exact List.getElem_mem hlt)
    refine ⟨by omega, by omega, fun hb => ?_, fun hb => ?_⟩
    · have hb : numOK (ws.getD k []) = false := by simpa using hb
      rw [all_bad hlt hb]; rfl
    · have hb : numOK (ws.getD k []) = true := by simpa using hb
      refine ⟨by unfold sizeOk; omega, by constructor <;> omega, _, by omega, k + 1, ?_, by omega, take_all_step hlt ha hb, rfl⟩
      rw [map_step (d := []) hlt]; rfl
  · have hge : k = ws.length := by have := of_decide_eq_false hge; omega
    subst hge
    rw [List.take_length] at ha ⊢
    rw [ha]
    exact ⟨by rw [List.length_map]; omega, rfl⟩)
noncomputable def sp_l12ReadPath : Spec := ⟨[.sc], [.rd], false, fun
  | [.str t] => some (some (t.length ≤ 1073741823), .tup [.own true ⟨.int, (rpS t).1⟩, .bool (rpS t).2], [])
  | _ => none⟩
@[push_cast] theorem sp_l12ReadPath_ps : sp_l12ReadPath.ps = [.sc] := rfl
@[push_cast] theorem sp_l12ReadPath_md : sp_l12ReadPath.modes = [.rd] := rfl
@[push_cast] theorem sp_l12ReadPath_pure : sp_l12ReadPath.pure = false := rfl
@[push_cast] theorem sp_l12ReadPath_run (t : Str) : sp_l12ReadPath.run [.str t] = some (some (t.length ≤ 1073741823), .tup [.own true ⟨.int, (rpS t).1⟩, .bool (rpS t).2], []) := rfl
noncomputable def e_l12ReadPath : Env := mk [(118, sp_l00Cut), (68, sp_number2), (119, sp_isPath)] [] [(14, [.frz 4])] [] none
@[push_cast] theorem e_l12ReadPath_in : e_l12ReadPath.inl = inlF [] := rfl
@[push_cast] theorem e_l12ReadPath_fn : e_l12ReadPath.fnd = fndF none := rfl
@[push_cast] theorem e_l12ReadPath_gh : e_l12ReadPath.gh = ghOf [(14, [.frz 4])] := rfl
@[push_cast] theorem e_l12ReadPath_dr : e_l12ReadPath.dr = drOf [] := rfl
@[push_cast] theorem e_l12ReadPath_td : e_l12ReadPath.td = td := rfl
@[push_cast] theorem e_l12ReadPath_eqt : e_l12ReadPath.eqt = eqt := rfl
@[push_cast] theorem e_l12ReadPath_cal : e_l12ReadPath.cal = calOf [(118, sp_l00Cut), (68, sp_number2), (119, sp_isPath)] := rfl
theorem c_l12ReadPath : CRow P0 ety0 69 sp_l12ReadPath := CRow.of (E := e_l12ReadPath) (mkOk (.cons c_l00Cut (.cons c_l00Number (.cons c_isPath2 (.nil))))) func69 rfl rfl rfl (by
  intro args p r outs h hq
  simp only [sp_l12ReadPath] at h; split at h <;> cases h
  rename_i t
  have hs := hq _ rfl
  have hwl := splitS_len 46 t
  have hwm := splitS_mem 46 t
  refine Body.intro (rs := [.tmp 2, .tmp 3]) rfl rfl rfl ?_
  apply vc_run 1000 (stop := false) rfl; simp only [push_cast, reduceIte, Nat.reduceEqDiff, Nat.reduceAdd, Nat.reduceSub, Nat.reduceLT, Int.reduceNeg, Int.reduceLE, Int.reduceLT, Int.reduceToNat, Nat.reduceLeDiff, UInt8.reduceOfNat, UInt8.reduceOfNatLT, and_self, Nat.reduceMul, decide_true, decide_false, Bool.not_true, Bool.not_false, implies_true]
  refine ⟨fun h => ?_, fun h => ?_⟩
  · have h : t = [45] := of_decide_eq_true h
    rw [rpS, if_pos h]
  have hne : t ≠ [45] := of_decide_eq_false h
  refine ⟨hs, ?_⟩
  have e0 : rpS t = if (splitS 46 t).all numP then ((splitS 46 t).map numV, isPath ((splitS 46 t).map numV)) else ([], false) := by rw [rpS, if_neg hne]
  rw [e0]
  generalize splitS 46 t = ws at *
  refine Run.loop [2, 3, 5, 6] [4] [] rfl (fun n vs bs => ∃ k : Nat, vs = [.nilS, .bool false, .own true ⟨.int, (ws.take k).map numV⟩, .int .i64 k] ∧ bs = [] ∧ k ≤ ws.length ∧ (ws.take k).all numP = true ∧ n = ws.length - k) ws.length ?_ ?_
  · simp only [push_cast, reduceIte, Nat.reduceEqDiff, Nat.reduceAdd, Nat.reduceSub, Nat.reduceLT, Int.reduceNeg, Int.reduceLE, Int.reduceLT, Int.reduceToNat, Nat.reduceLeDiff, UInt8.reduceOfNat, UInt8.reduceOfNatLT, and_self, Nat.reduceMul, decide_true, decide_false, Bool.not_true, Bool.not_false, implies_true]
    exact ⟨0, rfl, by omega, by simp, by omega⟩
  rintro n vs bs ⟨k, rfl, rfl, hk, ha, rfl⟩
  simp only [push_cast, reduceIte, Nat.reduceEqDiff, Nat.reduceAdd, Nat.reduceSub, Nat.reduceLT, Int.reduceNeg, Int.reduceLE, Int.reduceLT, Int.reduceToNat, Nat.reduceLeDiff, UInt8.reduceOfNat, UInt8.reduceOfNatLT, and_self, Nat.reduceMul, decide_true, decide_false, Bool.not_true, Bool.not_false, implies_true]
  apply vc_run 1000 (stop := false) rfl; simp only [push_cast, reduceIte, Nat.reduceEqDiff, Nat.reduceAdd, Nat.reduceSub, Nat.reduceLT, Int.reduceNeg, Int.reduceLE, Int.reduceLT, Int.reduceToNat, Nat.reduceLeDiff, UInt8.reduceOfNat, UInt8.reduceOfNatLT, and_self, Nat.reduceMul, decide_true, decide_false, Bool.not_true, Bool.not_false, implies_true]
  have hwl2 : (List.map numV (ws.take k)).length ≤ k := by rw [List.length_map, List.length_take]; omega
  refine ⟨fun hlt => ?_, fun hge => ?_⟩
  · have hlt : k < ws.length := Int.ofNat_lt.1 (of_decide_eq_true hlt)
    simp only [gd_nat]
    have hm : (ws.getD k []).length ≤ t.length := hwm _ (by
      have e : ws.getD k [] = ws[k] := by simp [List.getD, hlt]
      rw [e]; exact List.getElem_mem hlt)
    refine ⟨by omega, by omega, fun hb => ?_, fun hb => ?_⟩
    · have hb : numP (ws.getD k []) = false := by unfold numP; cases h1 : numOK (ws.getD k []) <;> simp_all
      rw [all_bad hlt hb]; rfl
    · have hb : numP (ws.getD k []) = true := by unfold numP; cases h1 : numOK (ws.getD k []) <;> simp_all
      refine ⟨by unfold sizeOk; omega, by constructor <;> omega, _, by omega, k + 1, ?_, by omega, take_all_step hlt ha hb, rfl⟩
      rw [map_step (d := []) hlt]; rfl
  · have hge : k = ws.length := by have := of_decide_eq_false hge; omega
    subst hge
    rw [List.take_length] at ha ⊢
    rw [ha]
    exact ⟨by rw [List.length_map]; omega, rfl⟩)
def ReadPath (t : Str) : List Int × Int := if 65536 < t.length then ([], 2) else if (rpI t).2 then ((rpI t).1, 0) else ([], 3)
noncomputable def sp_ReadPath : Spec := ⟨[.sc], [.rd], false, fun
  | [.str t] => some (some (t.length ≤ 1048576), .tup [.own true ⟨.int, (ReadPath t).1⟩, .int .i64 (ReadPath t).2], [])
  | _ => none⟩
@[push_cast] theorem sp_ReadPath_ps : sp_ReadPath.ps = [.sc] := rfl
@[push_cast] theorem sp_ReadPath_md : sp_ReadPath.modes = [.rd] := rfl
@[push_cast] theorem sp_ReadPath_pure : sp_ReadPath.pure = false := rfl
@[push_cast] theorem sp_ReadPath_run (t : Str) : sp_ReadPath.run [.str t] = some (some (t.length ≤ 1048576), .tup [.own true ⟨.int, (ReadPath t).1⟩, .int .i64 (ReadPath t).2], []) := rfl
theorem rpI_ok {t : Str} (hs : ¬ 65536 < t.length) (h : (rpI t).2 = true) : ReadPath t = ((rpI t).1, 0) := by rw [ReadPath, if_neg hs, if_pos h]
theorem rpI_bad {t : Str} (hs : ¬ 65536 < t.length) (h : (rpI t).2 = false) : ReadPath t = ([], 3) := by rw [ReadPath, if_neg hs, if_neg (by rw [h]; simp)]
theorem isPath_len (l : List Int) (h : isPath l = true) : l.length ≤ 10 := (isPath_in h).1
theorem ReadPath_len (t : Str) : (ReadPath t).1.length ≤ 10 := by
  unfold ReadPath
  by_cases h : 65536 < t.length
  · rw [if_pos h]; simp
  rw [if_neg h]
  cases h2 : (rpI t).2 with
  | false => simp
  | true =>
    simp only [if_true]
    unfold rpI at h2 ⊢
    by_cases h3 : t = [45]
    · rw [if_pos h3]; simp
    rw [if_neg h3] at h2 ⊢
    by_cases h4 : (splitS 46 t).all numOK = true
    · rw [if_pos h4] at h2 ⊢; exact isPath_len _ h2
    · rw [if_neg h4] at h2; cases h2
noncomputable def sp_lawReadPath : Spec := ⟨[.sc], [.rd], true, fun
  | [.str t] => some (some (t.length ≤ 9223372036854775807), .bool true, [])
  | _ => none⟩
@[push_cast] theorem sp_lawReadPath_ps : sp_lawReadPath.ps = [.sc] := rfl
@[push_cast] theorem sp_lawReadPath_md : sp_lawReadPath.modes = [.rd] := rfl
@[push_cast] theorem sp_lawReadPath_pure : sp_lawReadPath.pure = true := rfl
@[push_cast] theorem sp_lawReadPath_run (t : Str) : sp_lawReadPath.run [.str t] = some (some (t.length ≤ 9223372036854775807), .bool true, []) := rfl
end Go.Ab
